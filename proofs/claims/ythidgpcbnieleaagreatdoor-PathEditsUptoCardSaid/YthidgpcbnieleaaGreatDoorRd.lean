/- Terms that are read: their bulk, and that they are a program's. -/
import Derived.Test.YthidgpcbnieleaaGreatDoorTy
import Derived.Test.YthidgpcbnieleaaGreatDoorAwR
namespace Go.Proofs.YthidgpcbnieleaaGreatDoor
open Go Aw Go.ChangeShapes Go.RowKit
set_option linter.unusedVariables false
set_option linter.unusedSimpArgs false
set_option maxRecDepth 8000
mutual
def bkT : Term → Nat
 | .mk _ _ _ _ t y _ l d c _ => t.length + y.length + c.length + zrh l + zri d + 12
def zrh : List Term → Nat
 | [] => 0
 | x :: r => bkT x + zrh r
def zri : List (Str × Term) → Nat
 | [] => 0
 | (s, x) :: r => s.length + bkT x + 2 + zri r
end
def bkE (p : Str × Term) : Nat := p.1.length + bkT p.2 + 2
theorem zr6 : ∀ l, zrh l = (l.map bkT).sum
 | [] => by rw [zrh]; rfl
 | x :: r => by rw [zrh, zr6 r]; rfl
theorem zr7 : ∀ l, zri l = (l.map bkE).sum
 | [] => by rw [zri]; rfl
 | (s, x) :: r => by rw [zri, zr7 r]; simp [bkE]
mutual
def okT : Term → Prop
 | .mk k _ i f _ _ r l d _ v => inI .i64 k ∧ inI .i64 i ∧ f < 18446744073709551616 ∧ inI .u64 r ∧ zzr l ∧ zzs d ∧ inI .i64 v
def zzr : List Term → Prop
 | [] => True
 | x :: r => okT x ∧ zzr r
def zzs : List (Str × Term) → Prop
 | [] => True
 | (s, x) :: r => okT x ∧ zzs r
end
theorem zps : ∀ {l : List Term}, (∀ a, a ∈ l → okT a) → zzr l
 | [], _ => by rw [zzr]; trivial
 | x :: r, h => by rw [zzr]; exact ⟨h x (by simp), zps (fun a ha => h a (by simp [ha]))⟩
theorem zpt : ∀ {l : List (Str × Term)}, (∀ a, a ∈ l → okT a.2) → zzs l
 | [], _ => by rw [zzs]; trivial
 | (s, x) :: r, h => by rw [zzs]; exact ⟨h (s, x) (by simp), zpt (fun a ha => h a (by simp [ha]))⟩
theorem znt {α : Type} : ∀ (l : List α), (l.map fun _ => 1).sum = l.length
 | [] => rfl
 | x :: r => by have := znt r; rw [List.map_cons, List.sum_cons, List.length_cons]; omega
section
variable {H : Type} {enc : TypeId × Value → H} {w : World} {base : Nat} {spare : Nat → Bool} {held : Bool} {n : Nat}
theorem RD.congr {α : Type} {f g : α → PV} {bk : α → Nat} {ok : α → Prop} {t : TypeId} (hfg : ∀ a, f a = g a) (h : RD enc Tryz.prog w base spare held n t f bk ok) : RD enc Tryz.prog w base spare held n t g bk ok := by
 have : f = g := funext hfg
 subst this; exact h
theorem zrz (ih : ∀ m, m < n → RD enc Tryz.prog w base spare held m 29 z3l bkT okT) : RD enc Tryz.prog w base spare held n 113 zf0 bkE (fun p => okT p.2) := by
 intro cs x h
 obtain ⟨xs, m, rfl, rfl, hl, hlen, hf⟩ := DataW.trod_struct Tryz.underlying113 h
 match xs, hlen with
 | [x0, x1], _ =>
 obtain ⟨a0, t0, b0, o0⟩ := zk5 Tryz.underlying9 _ _ (hf 0 _ rfl)
 obtain ⟨a1, t1, b1, o1⟩ := ih m (by omega) _ _ (hf 1 _ rfl)
 refine ⟨(a0, a1), zb1 (z25 (z2o t0) (k := 1) rfl (z25 (z2o t1) (k := 11) rfl zb0)) (by rw [hl, Inf.cells zcs]; rfl), ?_, o1⟩
 (try dsimp only at b0); (try dsimp only at b1)
 simp only [Rows.uptoBulk, Rows.uptoBulkAll, List.map_cons, List.map_nil, bkE]; omega
theorem zo2 : ∀ (n : Nat), RD enc Tryz.prog w base spare held n 29 z3l bkT okT := by
 intro n
 induction n using Nat.strongRecOn with
 | _ n ih =>
 intro cs x h
 obtain ⟨xs, m, rfl, rfl, hl, hlen, hf⟩ := DataW.trod_struct Tryz.underlying29 h
 match xs, hlen with
 | [x0, x1, x2, x3, x4, x5, x6, x7, x8, x9, x10], _ =>
 obtain ⟨a0, t0, b0, o0⟩ := (zbq Tryz.underlying3) _ _ (hf 0 _ rfl)
 obtain ⟨a1, t1, b1, o1⟩ := (zo1 Tryz.underlying4) _ _ (hf 1 _ rfl)
 obtain ⟨a2, t2, b2, o2⟩ := (zbq Tryz.underlying2) _ _ (hf 2 _ rfl)
 obtain ⟨a3, t3, b3, o3⟩ := (zry Tryz.underlying22) _ _ (hf 3 _ rfl)
 obtain ⟨a4, t4, b4, o4⟩ := (zk5 Tryz.underlying9) _ _ (hf 4 _ rfl)
 obtain ⟨a5, t5, b5, o5⟩ := (z8w Tryz.underlying23 (Inf.cells inf_5) rfl (fun _ _ => rd_u8 Tryz.underlying5)) _ _ (hf 5 _ rfl)
 obtain ⟨a6, t6, b6, o6⟩ := (zbq Tryz.underlying25) _ _ (hf 6 _ rfl)
 obtain ⟨a7, t7, b7, o7⟩ := (z8w Tryz.underlying26 (Inf.cells zhm) rfl (fun k hk => RD.congr (fun a => (z9d a).symm) (ih k (by omega)))) _ _ (hf 7 _ rfl)
 obtain ⟨a8, t8, b8, o8⟩ := (z8w Tryz.underlying27 (Inf.cells zcs) rfl (fun k hk => RD.congr (fun a => (zab a).symm) (zrz (fun j hj => ih j (by omega))))) _ _ (hf 8 _ rfl)
 obtain ⟨a9, t9, b9, o9⟩ := (zk5 Tryz.underlying9) _ _ (hf 9 _ rfl)
 obtain ⟨a10, t10, b10, o10⟩ := (zbq Tryz.underlying3) _ _ (hf 10 _ rfl)
 refine ⟨.mk a0 a1 a2 a3 a4 a5 a6 a7 a8 a9 a10, zb1 (z25 (z2o t0) (k := 1) rfl (z25 (z2o t1) (k := 1) rfl (z25 (z2o t2) (k := 1) rfl (z25 (z2o t3) (k := 1) rfl (z25 (z2o t4) (k := 1) rfl (z25 (z2o t5) (k := 1) rfl (z25 (z2o t6) (k := 1) rfl (z25 (z2o t7) (k := 1) rfl (z25 (z2o t8) (k := 1) rfl (z25 (z2o t9) (k := 1) rfl (z25 (z2o t10) (k := 1) rfl zb0))))))))))) (by rw [hl, Inf.cells zhm]; rfl), ?_, ?_⟩
 ·(try dsimp only at b0); (try dsimp only at b1); (try dsimp only at b2); (try dsimp only at b3); (try dsimp only at b4); (try dsimp only at b5); (try dsimp only at b6); (try dsimp only at b7); (try dsimp only at b8); (try dsimp only at b9); (try dsimp only at b10)
  simp only [znt] at b5
  simp only [Rows.uptoBulk, Rows.uptoBulkAll, List.map_cons, List.map_nil, bkT, zr6, zr7]; omega
 ·rw [okT]; exact ⟨o0, o2, o3, o6, zps o7, zpt o8, o10⟩
end
theorem own : ownKnob Tryz.prog.godebug = none := by kernel_rfl
theorem laidOut : laidOutB Tryz.prog = true := by kernel_rfl
end Go.Proofs.YthidgpcbnieleaaGreatDoor
