/- Terms that are read: their bulk, and that they are a program's. -/
import Derived.Test.YtmoijodjgkfhgaaGreatTy
import Derived.Test.YtmoijodjgkfhgaaGreatAwR
namespace Go.Proofs.YtmoijodjgkfhgaaGreat
open Go Aw Go.ChangeShapes Go.RowKit
set_option linter.unusedVariables false
set_option linter.unusedSimpArgs false
set_option maxRecDepth 8000
mutual
def bkT : Term → Nat
 | .mk _ _ _ _ t y _ l d c _ => t.length + y.length + c.length + zva l + zvb d + 12
def zva : List Term → Nat
 | [] => 0
 | x :: r => bkT x + zva r
def zvb : List (Str × Term) → Nat
 | [] => 0
 | (s, x) :: r => s.length + bkT x + 2 + zvb r
end
def bkE (p : Str × Term) : Nat := p.1.length + bkT p.2 + 2
theorem zuz : ∀ l, zva l = (l.map bkT).sum
 | [] => by rw [zva]; rfl
 | x :: r => by rw [zva, zuz r]; rfl
theorem zv0 : ∀ l, zvb l = (l.map bkE).sum
 | [] => by rw [zvb]; rfl
 | (s, x) :: r => by rw [zvb, zv0 r]; simp [bkE]
mutual
def okT : Term → Prop
 | .mk k _ i f _ _ r l d _ v => inI .i64 k ∧ inI .i64 i ∧ f < 18446744073709551616 ∧ inI .u64 r ∧ Z4o l ∧ Z4p d ∧ inI .i64 v
def Z4o : List Term → Prop
 | [] => True
 | x :: r => okT x ∧ Z4o r
def Z4p : List (Str × Term) → Prop
 | [] => True
 | (s, x) :: r => okT x ∧ Z4p r
end
theorem zta : ∀ {l : List Term}, (∀ a, a ∈ l → okT a) → Z4o l
 | [], _ => by rw [Z4o]; trivial
 | x :: r, h => by rw [Z4o]; exact ⟨h x (by simp), zta (fun a ha => h a (by simp [ha]))⟩
theorem ztb : ∀ {l : List (Str × Term)}, (∀ a, a ∈ l → okT a.2) → Z4p l
 | [], _ => by rw [Z4p]; trivial
 | (s, x) :: r, h => by rw [Z4p]; exact ⟨h (s, x) (by simp), ztb (fun a ha => h a (by simp [ha]))⟩
theorem zqr {α : Type} : ∀ (l : List α), (l.map fun _ => 1).sum = l.length
 | [] => rfl
 | x :: r => by have := zqr r; rw [List.map_cons, List.sum_cons, List.length_cons]; omega
section
variable {H : Type} {enc : TypeId × Value → H} {w : World} {base : Nat} {spare : Nat → Bool} {held : Bool} {n : Nat}
theorem RD.congr {α : Type} {f g : α → PV} {bk : α → Nat} {ok : α → Prop} {t : TypeId} (hfg : ∀ a, f a = g a) (h : RD enc Tryz.prog w base spare held n t f bk ok) : RD enc Tryz.prog w base spare held n t g bk ok := by
 have : f = g := funext hfg
 subst this; exact h
theorem zvt (ih : ∀ m, m < n → RD enc Tryz.prog w base spare held m 29 z2w bkT okT) : RD enc Tryz.prog w base spare held n 100 zgz bkE (fun p => okT p.2) := by
 intro cs x h
 obtain ⟨xs, m, rfl, rfl, hl, hlen, hf⟩ := DataW.trod_struct Tryz.underlying100 h
 match xs, hlen with
 | [x0, x1], _ =>
 obtain ⟨a0, t0, b0, o0⟩ := zrc Tryz.underlying9 _ _ (hf 0 _ rfl)
 obtain ⟨a1, t1, b1, o1⟩ := ih m (by omega) _ _ (hf 1 _ rfl)
 refine ⟨(a0, a1), zmh (z3k (z4b t0) (k := 1) rfl (z3k (z4b t1) (k := 11) rfl zmg)) (by rw [hl, Inf.cells zei]; rfl), ?_, o1⟩
 (try dsimp only at b0); (try dsimp only at b1)
 simp only [Rows.uptoBulk, Rows.uptoBulkAll, List.map_cons, List.map_nil, bkE]; omega
theorem zkt : ∀ (n : Nat), RD enc Tryz.prog w base spare held n 29 z2w bkT okT := by
 intro n
 induction n using Nat.strongRecOn with
 | _ n ih =>
 intro cs x h
 obtain ⟨xs, m, rfl, rfl, hl, hlen, hf⟩ := DataW.trod_struct Tryz.underlying29 h
 match xs, hlen with
 | [x0, x1, x2, x3, x4, x5, x6, x7, x8, x9, x10], _ =>
 obtain ⟨a0, t0, b0, o0⟩ := (zmx Tryz.underlying3) _ _ (hf 0 _ rfl)
 obtain ⟨a1, t1, b1, o1⟩ := (Z13 Tryz.underlying4) _ _ (hf 1 _ rfl)
 obtain ⟨a2, t2, b2, o2⟩ := (zmx Tryz.underlying2) _ _ (hf 2 _ rfl)
 obtain ⟨a3, t3, b3, o3⟩ := (zvs Tryz.underlying22) _ _ (hf 3 _ rfl)
 obtain ⟨a4, t4, b4, o4⟩ := (zrc Tryz.underlying9) _ _ (hf 4 _ rfl)
 obtain ⟨a5, t5, b5, o5⟩ := (zgo Tryz.underlying23 (Inf.cells inf_5) rfl (fun _ _ => rd_u8 Tryz.underlying5)) _ _ (hf 5 _ rfl)
 obtain ⟨a6, t6, b6, o6⟩ := (zmx Tryz.underlying25) _ _ (hf 6 _ rfl)
 obtain ⟨a7, t7, b7, o7⟩ := (zgo Tryz.underlying26 (Inf.cells zjq) rfl (fun k hk => RD.congr (fun a => (zat a).symm) (ih k (by omega)))) _ _ (hf 7 _ rfl)
 obtain ⟨a8, t8, b8, o8⟩ := (zgo Tryz.underlying27 (Inf.cells zei) rfl (fun k hk => RD.congr (fun a => (zbw a).symm) (zvt (fun j hj => ih j (by omega))))) _ _ (hf 8 _ rfl)
 obtain ⟨a9, t9, b9, o9⟩ := (zrc Tryz.underlying9) _ _ (hf 9 _ rfl)
 obtain ⟨a10, t10, b10, o10⟩ := (zmx Tryz.underlying3) _ _ (hf 10 _ rfl)
 refine ⟨.mk a0 a1 a2 a3 a4 a5 a6 a7 a8 a9 a10, zmh (z3k (z4b t0) (k := 1) rfl (z3k (z4b t1) (k := 1) rfl (z3k (z4b t2) (k := 1) rfl (z3k (z4b t3) (k := 1) rfl (z3k (z4b t4) (k := 1) rfl (z3k (z4b t5) (k := 1) rfl (z3k (z4b t6) (k := 1) rfl (z3k (z4b t7) (k := 1) rfl (z3k (z4b t8) (k := 1) rfl (z3k (z4b t9) (k := 1) rfl (z3k (z4b t10) (k := 1) rfl zmg))))))))))) (by rw [hl, Inf.cells zjq]; rfl), ?_, ?_⟩
 ·(try dsimp only at b0); (try dsimp only at b1); (try dsimp only at b2); (try dsimp only at b3); (try dsimp only at b4); (try dsimp only at b5); (try dsimp only at b6); (try dsimp only at b7); (try dsimp only at b8); (try dsimp only at b9); (try dsimp only at b10)
  simp only [zqr] at b5
  simp only [Rows.uptoBulk, Rows.uptoBulkAll, List.map_cons, List.map_nil, bkT, zuz, zv0]; omega
 ·rw [okT]; exact ⟨o0, o2, o3, o6, zta o7, ztb o8, o10⟩
end
theorem own : ownKnob Tryz.prog.godebug = none := by kernel_rfl
theorem laidOut : laidOutB Tryz.prog = true := by kernel_rfl
end Go.Proofs.YtmoijodjgkfhgaaGreat
