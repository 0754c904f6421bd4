/- Terms that are read: their bulk, and that they are a program's. -/
import Derived.Test.YthidgpcbnieleaaGreatDoorTy
import Derived.Test.YthidgpcbnieleaaGreatDoorAwR
namespace Go.Proofs.YthidgpcbnieleaaGreatDoor
open Go Aw Go.ChangeShapes Go.RowKit
set_option linter.unusedVariables false
set_option linter.unusedSimpArgs false
set_option maxRecDepth 8000
mutual
def bkT : Term → Nat
 | .mk _ _ _ _ t y _ l d c _ => t.length + y.length + c.length + zt6 l + zt7 d + 12
def zt6 : List Term → Nat
 | [] => 0
 | x :: r => bkT x + zt6 r
def zt7 : List (Str × Term) → Nat
 | [] => 0
 | (s, x) :: r => s.length + bkT x + 2 + zt7 r
end
def bkE (p : Str × Term) : Nat := p.1.length + bkT p.2 + 2
theorem zsz : ∀ l, zt6 l = (l.map bkT).sum
 | [] => by rw [zt6]; rfl
 | x :: r => by rw [zt6, zsz r]; rfl
theorem zt0 : ∀ l, zt7 l = (l.map bkE).sum
 | [] => by rw [zt7]; rfl
 | (s, x) :: r => by rw [zt7, zt0 r]; simp [bkE]
mutual
def okT : Term → Prop
 | .mk k _ i f _ _ r l d _ v => inI .i64 k ∧ inI .i64 i ∧ f < 18446744073709551616 ∧ inI .u64 r ∧ Z2f l ∧ Z2g d ∧ inI .i64 v
def Z2f : List Term → Prop
 | [] => True
 | x :: r => okT x ∧ Z2f r
def Z2g : List (Str × Term) → Prop
 | [] => True
 | (s, x) :: r => okT x ∧ Z2g r
end
theorem zrh : ∀ {l : List Term}, (∀ a, a ∈ l → okT a) → Z2f l
 | [], _ => by rw [Z2f]; trivial
 | x :: r, h => by rw [Z2f]; exact ⟨h x (by simp), zrh (fun a ha => h a (by simp [ha]))⟩
theorem zri : ∀ {l : List (Str × Term)}, (∀ a, a ∈ l → okT a.2) → Z2g l
 | [], _ => by rw [Z2g]; trivial
 | (s, x) :: r, h => by rw [Z2g]; exact ⟨h (s, x) (by simp), zri (fun a ha => h a (by simp [ha]))⟩
theorem zp6 {α : Type} : ∀ (l : List α), (l.map fun _ => 1).sum = l.length
 | [] => rfl
 | x :: r => by have := zp6 r; rw [List.map_cons, List.sum_cons, List.length_cons]; omega
section
variable {H : Type} {enc : TypeId × Value → H} {w : World} {base : Nat} {spare : Nat → Bool} {held : Bool} {n : Nat}
theorem RD.congr {α : Type} {f g : α → PV} {bk : α → Nat} {ok : α → Prop} {t : TypeId} (hfg : ∀ a, f a = g a) (h : RD enc Tryz.prog w base spare held n t f bk ok) : RD enc Tryz.prog w base spare held n t g bk ok := by
 have : f = g := funext hfg
 subst this; exact h
theorem ztr (ih : ∀ m, m < n → RD enc Tryz.prog w base spare held m 29 z3w bkT okT) : RD enc Tryz.prog w base spare held n 113 zg1 bkE (fun p => okT p.2) := by
 intro cs x h
 obtain ⟨xs, m, rfl, rfl, hl, hlen, hf⟩ := DataW.trod_struct Tryz.underlying113 h
 match xs, hlen with
 | [x0, x1], _ =>
 obtain ⟨a0, t0, b0, o0⟩ := zpf Tryz.underlying9 _ _ (hf 0 _ rfl)
 obtain ⟨a1, t1, b1, o1⟩ := ih m (by omega) _ _ (hf 1 _ rfl)
 refine ⟨(a0, a1), zlg (z38 (z42 t0) (k := 1) rfl (z38 (z42 t1) (k := 11) rfl zlf)) (by rw [hl, Inf.cells zdg]; rfl), ?_, o1⟩
 (try dsimp only at b0); (try dsimp only at b1)
 simp only [Rows.uptoBulk, Rows.uptoBulkAll, List.map_cons, List.map_nil, bkE]; omega
theorem zyu : ∀ (n : Nat), RD enc Tryz.prog w base spare held n 29 z3w bkT okT := by
 intro n
 induction n using Nat.strongRecOn with
 | _ n ih =>
 intro cs x h
 obtain ⟨xs, m, rfl, rfl, hl, hlen, hf⟩ := DataW.trod_struct Tryz.underlying29 h
 match xs, hlen with
 | [x0, x1, x2, x3, x4, x5, x6, x7, x8, x9, x10], _ =>
 obtain ⟨a0, t0, b0, o0⟩ := (zlr Tryz.underlying3) _ _ (hf 0 _ rfl)
 obtain ⟨a1, t1, b1, o1⟩ := (zyt Tryz.underlying4) _ _ (hf 1 _ rfl)
 obtain ⟨a2, t2, b2, o2⟩ := (zlr Tryz.underlying2) _ _ (hf 2 _ rfl)
 obtain ⟨a3, t3, b3, o3⟩ := (ztq Tryz.underlying22) _ _ (hf 3 _ rfl)
 obtain ⟨a4, t4, b4, o4⟩ := (zpf Tryz.underlying9) _ _ (hf 4 _ rfl)
 obtain ⟨a5, t5, b5, o5⟩ := (zfn Tryz.underlying23 (Inf.cells inf_5) rfl (fun _ _ => rd_u8 Tryz.underlying5)) _ _ (hf 5 _ rfl)
 obtain ⟨a6, t6, b6, o6⟩ := (zlr Tryz.underlying25) _ _ (hf 6 _ rfl)
 obtain ⟨a7, t7, b7, o7⟩ := (zfn Tryz.underlying26 (Inf.cells ziq) rfl (fun k hk => RD.congr (fun a => (z9x a).symm) (ih k (by omega)))) _ _ (hf 7 _ rfl)
 obtain ⟨a8, t8, b8, o8⟩ := (zfn Tryz.underlying27 (Inf.cells zdg) rfl (fun k hk => RD.congr (fun a => (zb6 a).symm) (ztr (fun j hj => ih j (by omega))))) _ _ (hf 8 _ rfl)
 obtain ⟨a9, t9, b9, o9⟩ := (zpf Tryz.underlying9) _ _ (hf 9 _ rfl)
 obtain ⟨a10, t10, b10, o10⟩ := (zlr Tryz.underlying3) _ _ (hf 10 _ rfl)
 refine ⟨.mk a0 a1 a2 a3 a4 a5 a6 a7 a8 a9 a10, zlg (z38 (z42 t0) (k := 1) rfl (z38 (z42 t1) (k := 1) rfl (z38 (z42 t2) (k := 1) rfl (z38 (z42 t3) (k := 1) rfl (z38 (z42 t4) (k := 1) rfl (z38 (z42 t5) (k := 1) rfl (z38 (z42 t6) (k := 1) rfl (z38 (z42 t7) (k := 1) rfl (z38 (z42 t8) (k := 1) rfl (z38 (z42 t9) (k := 1) rfl (z38 (z42 t10) (k := 1) rfl zlf))))))))))) (by rw [hl, Inf.cells ziq]; rfl), ?_, ?_⟩
 ·(try dsimp only at b0); (try dsimp only at b1); (try dsimp only at b2); (try dsimp only at b3); (try dsimp only at b4); (try dsimp only at b5); (try dsimp only at b6); (try dsimp only at b7); (try dsimp only at b8); (try dsimp only at b9); (try dsimp only at b10)
  simp only [zp6] at b5
  simp only [Rows.uptoBulk, Rows.uptoBulkAll, List.map_cons, List.map_nil, bkT, zsz, zt0]; omega
 ·rw [okT]; exact ⟨o0, o2, o3, o6, zrh o7, zri o8, o10⟩
end
theorem own : ownKnob Tryz.prog.godebug = none := by kernel_rfl
theorem laidOut : laidOutB Tryz.prog = true := by kernel_rfl
end Go.Proofs.YthidgpcbnieleaaGreatDoor
