/- Terms that are read: their bulk, and that they are a program's. -/
import Derived.Test.YthidgpcbnieleaaTy
import Derived.Test.YthidgpcbnieleaaAwR
namespace Go.Proofs.Ythidgpcbnieleaa
open Go Aw Go.ChangeShapes Go.RowKit
set_option linter.unusedVariables false
set_option linter.unusedSimpArgs false
set_option maxRecDepth 8000
mutual
def bkT : Term → Nat
 | .mk _ _ _ _ t y _ l d c _ => t.length + y.length + c.length + zdv l + bkEs d + 12
def zdv : List Term → Nat
 | [] => 0
 | x :: r => bkT x + zdv r
def bkEs : List (Str × Term) → Nat
 | [] => 0
 | (s, x) :: r => s.length + bkT x + 2 + bkEs r
end
def bkE (p : Str × Term) : Nat := p.1.length + bkT p.2 + 2
theorem zds : ∀ l, zdv l = (l.map bkT).sum
 | [] => by rw [zdv]; rfl
 | x :: r => by rw [zdv, zds r]; rfl
theorem zdt : ∀ l, bkEs l = (l.map bkE).sum
 | [] => by rw [bkEs]; rfl
 | (s, x) :: r => by rw [bkEs, zdt r]; simp [bkE]
mutual
def okT : Term → Prop
 | .mk k _ i f _ _ r l d _ v => inI .i64 k ∧ inI .i64 i ∧ f < 18446744073709551616 ∧ inI .u64 r ∧ Z0r l ∧ Z0s d ∧ inI .i64 v
def Z0r : List Term → Prop
 | [] => True
 | x :: r => okT x ∧ Z0r r
def Z0s : List (Str × Term) → Prop
 | [] => True
 | (s, x) :: r => okT x ∧ Z0s r
end
theorem zr6 : ∀ {l : List Term}, (∀ a, a ∈ l → okT a) → Z0r l
 | [], _ => by rw [Z0r]; trivial
 | x :: r, h => by rw [Z0r]; exact ⟨h x (by simp), zr6 (fun a ha => h a (by simp [ha]))⟩
theorem zr7 : ∀ {l : List (Str × Term)}, (∀ a, a ∈ l → okT a.2) → Z0s l
 | [], _ => by rw [Z0s]; trivial
 | (s, x) :: r, h => by rw [Z0s]; exact ⟨h (s, x) (by simp), zr7 (fun a ha => h a (by simp [ha]))⟩
theorem zoo {α : Type} : ∀ (l : List α), (l.map fun _ => 1).sum = l.length
 | [] => rfl
 | x :: r => by have := zoo r; rw [List.map_cons, List.sum_cons, List.length_cons]; omega
section
variable {H : Type} {enc : TypeId × Value → H} {w : World} {base : Nat} {spare : Nat → Bool} {held : Bool} {n : Nat}
theorem RD.congr {α : Type} {f g : α → PV} {bk : α → Nat} {ok : α → Prop} {t : TypeId} (hfg : ∀ a, f a = g a) (h : RD enc Try.prog w base spare held n t f bk ok) : RD enc Try.prog w base spare held n t g bk ok := by
 have : f = g := funext hfg
 subst this; exact h
theorem ztj (ih : ∀ m, m < n → RD enc Try.prog w base spare held m 29 z0b bkT okT) : RD enc Try.prog w base spare held n 94 zg0 bkE (fun p => okT p.2) := by
 intro cs x h
 obtain ⟨xs, m, rfl, rfl, hl, hlen, hf⟩ := DataW.trod_struct Try.underlying94 h
 match xs, hlen with
 | [x0, x1], _ =>
 obtain ⟨a0, t0, b0, o0⟩ := zl8 Try.underlying9 _ _ (hf 0 _ rfl)
 obtain ⟨a1, t1, b1, o1⟩ := ih m (by omega) _ _ (hf 1 _ rfl)
 refine ⟨(a0, a1), zfk (z2n (z39 t0) (k := 1) rfl (z2n (z39 t1) (k := 11) rfl zfj)) (by rw [hl, Inf.cells z22]; rfl), ?_, o1⟩
 (try dsimp only at b0); (try dsimp only at b1)
 simp only [Rows.uptoBulk, Rows.uptoBulkAll, List.map_cons, List.map_nil, bkE]; omega
theorem zp1 : ∀ (n : Nat), RD enc Try.prog w base spare held n 29 z0b bkT okT := by
 intro n
 induction n using Nat.strongRecOn with
 | _ n ih =>
 intro cs x h
 obtain ⟨xs, m, rfl, rfl, hl, hlen, hf⟩ := DataW.trod_struct Try.underlying29 h
 match xs, hlen with
 | [x0, x1, x2, x3, x4, x5, x6, x7, x8, x9, x10], _ =>
 obtain ⟨a0, t0, b0, o0⟩ := (zh6 Try.underlying3) _ _ (hf 0 _ rfl)
 obtain ⟨a1, t1, b1, o1⟩ := (zp0 Try.underlying4) _ _ (hf 1 _ rfl)
 obtain ⟨a2, t2, b2, o2⟩ := (zh6 Try.underlying2) _ _ (hf 2 _ rfl)
 obtain ⟨a3, t3, b3, o3⟩ := (zti Try.underlying22) _ _ (hf 3 _ rfl)
 obtain ⟨a4, t4, b4, o4⟩ := (zl8 Try.underlying9) _ _ (hf 4 _ rfl)
 obtain ⟨a5, t5, b5, o5⟩ := (zbo Try.underlying23 (Inf.cells inf_5) rfl (fun _ _ => rd_u8 Try.underlying5)) _ _ (hf 5 _ rfl)
 obtain ⟨a6, t6, b6, o6⟩ := (zh6 Try.underlying25) _ _ (hf 6 _ rfl)
 obtain ⟨a7, t7, b7, o7⟩ := (zbo Try.underlying26 (Inf.cells z0v) rfl (fun k hk => RD.congr (fun a => (z2b a).symm) (ih k (by omega)))) _ _ (hf 7 _ rfl)
 obtain ⟨a8, t8, b8, o8⟩ := (zbo Try.underlying27 (Inf.cells z22) rfl (fun k hk => RD.congr (fun a => (z1o a).symm) (ztj (fun j hj => ih j (by omega))))) _ _ (hf 8 _ rfl)
 obtain ⟨a9, t9, b9, o9⟩ := (zl8 Try.underlying9) _ _ (hf 9 _ rfl)
 obtain ⟨a10, t10, b10, o10⟩ := (zh6 Try.underlying3) _ _ (hf 10 _ rfl)
 refine ⟨.mk a0 a1 a2 a3 a4 a5 a6 a7 a8 a9 a10, zfk (z2n (z39 t0) (k := 1) rfl (z2n (z39 t1) (k := 1) rfl (z2n (z39 t2) (k := 1) rfl (z2n (z39 t3) (k := 1) rfl (z2n (z39 t4) (k := 1) rfl (z2n (z39 t5) (k := 1) rfl (z2n (z39 t6) (k := 1) rfl (z2n (z39 t7) (k := 1) rfl (z2n (z39 t8) (k := 1) rfl (z2n (z39 t9) (k := 1) rfl (z2n (z39 t10) (k := 1) rfl zfj))))))))))) (by rw [hl, Inf.cells z0v]; rfl), ?_, ?_⟩
 ·(try dsimp only at b0); (try dsimp only at b1); (try dsimp only at b2); (try dsimp only at b3); (try dsimp only at b4); (try dsimp only at b5); (try dsimp only at b6); (try dsimp only at b7); (try dsimp only at b8); (try dsimp only at b9); (try dsimp only at b10)
  simp only [zoo] at b5
  simp only [Rows.uptoBulk, Rows.uptoBulkAll, List.map_cons, List.map_nil, bkT, zds, zdt]; omega
 ·rw [okT]; exact ⟨o0, o2, o3, o6, zr6 o7, zr7 o8, o10⟩
end
theorem own : ownKnob Try.prog.godebug = none := by kernel_rfl
theorem laidOut : laidOutB Try.prog = true := by kernel_rfl
end Go.Proofs.Ythidgpcbnieleaa
