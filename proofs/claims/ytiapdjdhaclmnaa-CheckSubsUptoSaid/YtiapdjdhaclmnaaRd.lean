/- Terms that are read: their bulk, and that they are a program's. -/
import Derived.Test.YtiapdjdhaclmnaaTy
import Derived.Test.YtiapdjdhaclmnaaAwR
namespace Go.Proofs.Ytiapdjdhaclmnaa
open Go Aw Go.ChangeShapes Go.RowKit
set_option linter.unusedVariables false
set_option linter.unusedSimpArgs false
set_option maxRecDepth 8000
mutual
def bkT : Term → Nat
 | .mk _ _ _ _ t y _ l d c _ => t.length + y.length + c.length + zge l + bkEs d + 12
def zge : List Term → Nat
 | [] => 0
 | x :: r => bkT x + zge r
def bkEs : List (Str × Term) → Nat
 | [] => 0
 | (s, x) :: r => s.length + bkT x + 2 + bkEs r
end
def bkE (p : Str × Term) : Nat := p.1.length + bkT p.2 + 2
theorem zya : ∀ l, zge l = (l.map bkT).sum
 | [] => by rw [zge]; rfl
 | x :: r => by rw [zge, zya r]; rfl
theorem zyb : ∀ l, bkEs l = (l.map bkE).sum
 | [] => by rw [bkEs]; rfl
 | (s, x) :: r => by rw [bkEs, zyb r]; simp [bkE]
mutual
def okT : Term → Prop
 | .mk k _ i f _ _ r l d _ v => inI .i64 k ∧ inI .i64 i ∧ f < 18446744073709551616 ∧ inI .u64 r ∧ Z32 l ∧ Z34 d ∧ inI .i64 v
def Z32 : List Term → Prop
 | [] => True
 | x :: r => okT x ∧ Z32 r
def Z34 : List (Str × Term) → Prop
 | [] => True
 | (s, x) :: r => okT x ∧ Z34 r
end
theorem znj : ∀ {l : List Term}, (∀ a, a ∈ l → okT a) → Z32 l
 | [], _ => by rw [Z32]; trivial
 | x :: r, h => by rw [Z32]; exact ⟨h x (by simp), znj (fun a ha => h a (by simp [ha]))⟩
theorem zjg : ∀ {l : List (Str × Term)}, (∀ a, a ∈ l → okT a.2) → Z34 l
 | [], _ => by rw [Z34]; trivial
 | (s, x) :: r, h => by rw [Z34]; exact ⟨h (s, x) (by simp), zjg (fun a ha => h a (by simp [ha]))⟩
theorem zmx {α : Type} : ∀ (l : List α), (l.map fun _ => 1).sum = l.length
 | [] => rfl
 | x :: r => by have := zmx r; rw [List.map_cons, List.sum_cons, List.length_cons]; omega
section
variable {H : Type} {enc : TypeId × Value → H} {w : World} {base : Nat} {spare : Nat → Bool} {held : Bool} {n : Nat}
theorem RD.congr {α : Type} {f g : α → PV} {bk : α → Nat} {ok : α → Prop} {t : TypeId} (hfg : ∀ a, f a = g a) (h : RD enc Try.prog w base spare held n t f bk ok) : RD enc Try.prog w base spare held n t g bk ok := by
 have : f = g := funext hfg
 subst this; exact h
theorem zyz (ih : ∀ m, m < n → RD enc Try.prog w base spare held m 29 z0v bkT okT) : RD enc Try.prog w base spare held n 101 zdz bkE (fun p => okT p.2) := by
 intro cs x h
 obtain ⟨xs, m, rfl, rfl, hl, hlen, hf⟩ := DataW.trod_struct Try.underlying101 h
 match xs, hlen with
 | [x0, x1], _ =>
 obtain ⟨a0, t0, b0, o0⟩ := zk4 Try.underlying9 _ _ (hf 0 _ rfl)
 obtain ⟨a1, t1, b1, o1⟩ := ih m (by omega) _ _ (hf 1 _ rfl)
 refine ⟨(a0, a1), zil (z2a (z2w t0) (k := 1) rfl (z2a (z2w t1) (k := 11) rfl zik)) (by rw [hl, Inf.cells z24]; rfl), ?_, o1⟩
 (try dsimp only at b0); (try dsimp only at b1)
 simp only [Rows.uptoBulk, Rows.uptoBulkAll, List.map_cons, List.map_nil, bkE]; omega
theorem Z4u : ∀ (n : Nat), RD enc Try.prog w base spare held n 29 z0v bkT okT := by
 intro n
 induction n using Nat.strongRecOn with
 | _ n ih =>
 intro cs x h
 obtain ⟨xs, m, rfl, rfl, hl, hlen, hf⟩ := DataW.trod_struct Try.underlying29 h
 match xs, hlen with
 | [x0, x1, x2, x3, x4, x5, x6, x7, x8, x9, x10], _ =>
 obtain ⟨a0, t0, b0, o0⟩ := (zgw Try.underlying3) _ _ (hf 0 _ rfl)
 obtain ⟨a1, t1, b1, o1⟩ := (zn5 Try.underlying4) _ _ (hf 1 _ rfl)
 obtain ⟨a2, t2, b2, o2⟩ := (zgw Try.underlying2) _ _ (hf 2 _ rfl)
 obtain ⟨a3, t3, b3, o3⟩ := (zyy Try.underlying22) _ _ (hf 3 _ rfl)
 obtain ⟨a4, t4, b4, o4⟩ := (zk4 Try.underlying9) _ _ (hf 4 _ rfl)
 obtain ⟨a5, t5, b5, o5⟩ := (z90 Try.underlying23 (Inf.cells inf_5) rfl (fun _ _ => rd_u8 Try.underlying5)) _ _ (hf 5 _ rfl)
 obtain ⟨a6, t6, b6, o6⟩ := (zgw Try.underlying25) _ _ (hf 6 _ rfl)
 obtain ⟨a7, t7, b7, o7⟩ := (z90 Try.underlying26 (Inf.cells z20) rfl (fun k hk => RD.congr (fun a => (z26 a).symm) (ih k (by omega)))) _ _ (hf 7 _ rfl)
 obtain ⟨a8, t8, b8, o8⟩ := (z90 Try.underlying27 (Inf.cells z24) rfl (fun k hk => RD.congr (fun a => (z1r a).symm) (zyz (fun j hj => ih j (by omega))))) _ _ (hf 8 _ rfl)
 obtain ⟨a9, t9, b9, o9⟩ := (zk4 Try.underlying9) _ _ (hf 9 _ rfl)
 obtain ⟨a10, t10, b10, o10⟩ := (zgw Try.underlying3) _ _ (hf 10 _ rfl)
 refine ⟨.mk a0 a1 a2 a3 a4 a5 a6 a7 a8 a9 a10, zil (z2a (z2w t0) (k := 1) rfl (z2a (z2w t1) (k := 1) rfl (z2a (z2w t2) (k := 1) rfl (z2a (z2w t3) (k := 1) rfl (z2a (z2w t4) (k := 1) rfl (z2a (z2w t5) (k := 1) rfl (z2a (z2w t6) (k := 1) rfl (z2a (z2w t7) (k := 1) rfl (z2a (z2w t8) (k := 1) rfl (z2a (z2w t9) (k := 1) rfl (z2a (z2w t10) (k := 1) rfl zik))))))))))) (by rw [hl, Inf.cells z20]; rfl), ?_, ?_⟩
 ·(try dsimp only at b0); (try dsimp only at b1); (try dsimp only at b2); (try dsimp only at b3); (try dsimp only at b4); (try dsimp only at b5); (try dsimp only at b6); (try dsimp only at b7); (try dsimp only at b8); (try dsimp only at b9); (try dsimp only at b10)
  simp only [zmx] at b5
  simp only [Rows.uptoBulk, Rows.uptoBulkAll, List.map_cons, List.map_nil, bkT, zya, zyb]; omega
 ·rw [okT]; exact ⟨o0, o2, o3, o6, znj o7, zjg o8, o10⟩
end
mutual
def z3x : Typ → Nat
 | .mk _ _ y p n l _ c => bkT y + z5c p + (n.map (fun s => s.length + 1)).sum + l.length + c.length + 8
def z5c : List Typ → Nat
 | [] => 0
 | x :: r => z3x x + z5c r
end
theorem zqt : ∀ l, z5c l = (l.map z3x).sum
 | [] => by rw [z5c]; rfl
 | x :: r => by rw [z5c, zqt r]; rfl
mutual
def z6u : Typ → Prop
 | .mk k o y p _ _ _ _ => inI .i64 k ∧ inI .i64 o ∧ okT y ∧ zfo p
def zfo : List Typ → Prop
 | [] => True
 | x :: r => z6u x ∧ zfo r
end
theorem zdy : ∀ {l : List Typ}, (∀ a, a ∈ l → z6u a) → zfo l
 | [], _ => by rw [zfo]; trivial
 | x :: r, h => by rw [zfo]; exact ⟨h x (by simp), zdy (fun a ha => h a (by simp [ha]))⟩
section
variable {H : Type} {enc : TypeId × Value → H} {w : World} {base : Nat} {spare : Nat → Bool} {held : Bool} {n : Nat}
theorem Z2q : ∀ (n : Nat), RD enc Try.prog w base spare held n 34 z02 z3x z6u := by
 intro n
 induction n using Nat.strongRecOn with
 | _ n ih =>
 intro cs x h
 obtain ⟨xs, m, rfl, rfl, hl, hlen, hf⟩ := DataW.trod_struct Try.underlying34 h
 match xs, hlen with
 | [x0, x1, x2, x3, x4, x5, x6, x7], _ =>
 obtain ⟨a0, t0, b0, o0⟩ := (zgw Try.underlying3) _ _ (hf 0 _ rfl)
 obtain ⟨a1, t1, b1, o1⟩ := (zgw Try.underlying3) _ _ (hf 1 _ rfl)
 obtain ⟨a2, t2, b2, o2⟩ := (Z4u _) _ _ (hf 2 _ rfl)
 obtain ⟨a3, t3, b3, o3⟩ := (z90 Try.underlying30 (Inf.cells z0u) rfl (fun k hk => RD.congr (fun a => (z1c a).symm) (ih k (by omega)))) _ _ (hf 3 _ rfl)
 obtain ⟨a4, t4, b4, o4⟩ := (z90 Try.underlying31 (Inf.cells inf_9) rfl (fun _ _ => zk4 Try.underlying9)) _ _ (hf 4 _ rfl)
 obtain ⟨a5, t5, b5, o5⟩ := (z90 Try.underlying32 (Inf.cells inf_4) rfl (fun _ _ => zn5 Try.underlying4)) _ _ (hf 5 _ rfl)
 obtain ⟨a6, t6, b6, o6⟩ := (zn5 Try.underlying4) _ _ (hf 6 _ rfl)
 obtain ⟨a7, t7, b7, o7⟩ := (zk4 Try.underlying9) _ _ (hf 7 _ rfl)
 refine ⟨.mk a0 a1 a2 a3 a4 a5 a6 a7, zil (z2a (z2w t0) (k := 1) rfl (z2a (z2w t1) (k := 1) rfl (z2a (z2w t2) (k := 11) rfl (z2a (z2w t3) (k := 1) rfl (z2a (z2w t4) (k := 1) rfl (z2a (z2w t5) (k := 1) rfl (z2a (z2w t6) (k := 1) rfl (z2a (z2w t7) (k := 1) rfl zik)))))))) (by rw [hl, Inf.cells z0u]; rfl), ?_, ?_⟩
 ·(try dsimp only at b0); (try dsimp only at b1); (try dsimp only at b2); (try dsimp only at b3); (try dsimp only at b4); (try dsimp only at b5); (try dsimp only at b6); (try dsimp only at b7)
  simp only [zmx] at b5
  simp only [Rows.uptoBulk, Rows.uptoBulkAll, List.map_cons, List.map_nil, z3x, zqt]; omega
 ·rw [z6u]; exact ⟨o0, o1, o2, zdy o3⟩
end
theorem own : ownKnob Try.prog.godebug = none := by kernel_rfl
theorem laidOut : laidOutB Try.prog = true := by kernel_rfl
end Go.Proofs.Ytiapdjdhaclmnaa
