/- Pure functions, and that calls answer as they say. Written by gen.py. -/
import Derived.Test.YtiapdjdhaclmnaaG4
namespace Go.Proofs.Ytiapdjdhaclmnaa
open Go Aw
set_option linter.unusedVariables false
set_option linter.unusedSimpArgs false
set_option maxRecDepth 20000
set_option maxHeartbeats 2000000
variable {ι : Type} {ρ : ι → Type}
noncomputable def zbq (g1 : Nat → Option Bool) (s1 : Nat) : Option Bool :=
 g1 (s1 + 1)
theorem zha (g1 : OF ρ → Nat → Option Bool) (h_g1 : ∀ y0, CM (fun G => g1 G y0)) (s1 : Nat) : CM (fun G : OF ρ => zbq (g1 G) s1) := by
 simp only [zbq]
 repeat (first | exact z0c | exact h_g1 _ | refine z14 ?_ ?_ | refine z15 ?_ (fun _ => ?_))
noncomputable def zbp (g1 : Nat → Option Bool) (s1 : Nat) (s7 : Bool) : Option Bool :=
 bif s7 then (
  some false
 ) else (
  zbq g1 s1
 )
theorem zpi (g1 : OF ρ → Nat → Option Bool) (h_g1 : ∀ y0, CM (fun G => g1 G y0)) (s1 : Nat) (s7 : Bool) : CM (fun G : OF ρ => zbp (g1 G) s1 s7) := by
 simp only [zbp]
 repeat (first | exact z0c | exact h_g1 _ | apply zha | refine z14 ?_ ?_ | refine z15 ?_ (fun _ => ?_) | intro _ | assumption)
noncomputable def z9c (g1 : Nat → Option Bool) (s1 : Nat) (s11 : Bool) : Option Bool :=
 bif s11 then (
  some false
 ) else (
  zbq g1 s1
 )
theorem zph (g1 : OF ρ → Nat → Option Bool) (h_g1 : ∀ y0, CM (fun G => g1 G y0)) (s1 : Nat) (s11 : Bool) : CM (fun G : OF ρ => z9c (g1 G) s1 s11) := by
 simp only [z9c]
 repeat (first | exact z0c | exact h_g1 _ | apply zha | refine z14 ?_ ?_ | refine z15 ?_ (fun _ => ?_) | intro _ | assumption)
noncomputable def z5u (r_q1x : Typ → Typ → Option Bool) (a0 : Typ) (a1 : Typ) (g1 : Nat → Option Bool) (s1 : Nat) : Option Bool :=
 bif (decide (((s1 : Nat) : Int) < (((a1.names).length : Nat) : Int))) then (
  Option.bind ((a1.names)[s1]?) fun x4 =>
  Option.bind (zr2 a0.names x4) fun x5 =>
  bif (decide (x5 < 0)) then (
   Option.bind ((a1.lacks)[s1]?) fun x9 =>
   bif (!x9) then (
    zbp g1 s1 true
   ) else (
    zbp g1 s1 a0.opn
   )
  ) else (
   Option.bind (zc1 a0.parts x5) fun x13 =>
   Option.bind ((a1.parts)[s1]?) fun x14 =>
   Option.bind (r_q1x x13 x14) fun x15 =>
   bif (!x15) then (
    z9c g1 s1 true
   ) else (
    Option.bind (zc1 a0.lacks x5) fun x17 =>
    bif x17 then (
     Option.bind ((a1.lacks)[s1]?) fun x19 =>
     z9c g1 s1 (!x19)
    ) else (
     z9c g1 s1 false
    )
   )
  )
 ) else (
  some true
 )
theorem zaq (r_q1x : OF ρ → Typ → Typ → Option Bool) (h_r_q1x : ∀ y0 y1, CM (fun G => r_q1x G y0 y1)) (g1 : OF ρ → Nat → Option Bool) (h_g1 : ∀ y0, CM (fun G => g1 G y0)) (a0 : Typ) (a1 : Typ) (s1 : Nat) : CM (fun G : OF ρ => z5u (r_q1x G) a0 a1 (g1 G) s1) := by
 simp only [z5u]
 repeat (first | exact z0c | exact h_r_q1x _ _ | exact h_g1 _ | apply zpi | apply zph | refine z14 ?_ ?_ | refine z15 ?_ (fun _ => ?_) | intro _ | assumption)
noncomputable def zer (r_q1x : Typ → Typ → Option Bool) (a0 : Typ) (a1 : Typ) (s1 : Nat) : Option Bool :=
 z38 (ι := Nat) (ρ := fun _ => Bool) (fun g i => z5u r_q1x a0 a1 (fun s1 => g s1) i) s1
theorem zh9 (r_q1x : Typ → Typ → Option Bool) (a0 : Typ) (a1 : Typ) (s1 : Nat) : zer r_q1x a0 a1 s1 = z5u r_q1x a0 a1 (zer r_q1x a0 a1) s1 :=
 z1d (ι := Nat) (ρ := fun _ => Bool) (Φ := fun g i => z5u r_q1x a0 a1 (fun s1 => g s1) i) (fun i => zaq (ι := Nat) (ρ := fun _ => Bool) (fun _ => r_q1x) (fun _ _ => z0c) (fun g => (fun s1 => g s1)) (fun _ => z1c) a0 a1 i) s1
theorem zpf (r_q1x : OF ρ → Typ → Typ → Option Bool) (h_r_q1x : ∀ y0 y1, CM (fun G => r_q1x G y0 y1)) (a0 : Typ) (a1 : Typ) (s1 : Nat) : CM (fun G : OF ρ => zer (r_q1x G) a0 a1 s1) :=
 z3o (κ := Nat) (τ := fun _ => Bool) (Φ := fun G g i => z5u (r_q1x G) a0 a1 (fun s1 => g s1) i) (fun g i => zaq r_q1x h_r_q1x (fun _ => (fun s1 => g s1)) (fun _ => z0c) a0 a1 i) (fun G i => zaq (ι := Nat) (ρ := fun _ => Bool) (fun _ => r_q1x G) (fun _ _ => z0c) (fun g => (fun s1 => g s1)) (fun _ => z1c) a0 a1 i) s1
noncomputable def zbr (r_q1x : Typ → Typ → Option Bool) (a0 : Typ) (a1 : Typ) : Option Bool :=
 zer r_q1x a0 a1 0
theorem zhb (r_q1x : OF ρ → Typ → Typ → Option Bool) (h_r_q1x : ∀ y0 y1, CM (fun G => r_q1x G y0 y1)) (a0 : Typ) (a1 : Typ) : CM (fun G : OF ρ => zbr (r_q1x G) a0 a1) := by
 simp only [zbr]
 repeat (first | exact z0c | exact h_r_q1x _ _ | apply zpf | refine z14 ?_ ?_ | refine z15 ?_ (fun _ => ?_) | intro _ | assumption)
noncomputable def zbo (r_q1x : Typ → Typ → Option Bool) (a0 : Typ) (a1 : Typ) (s21 : Bool) : Option Bool :=
 bif s21 then (
  some false
 ) else (
  zbr r_q1x a0 a1
 )
theorem zpg (r_q1x : OF ρ → Typ → Typ → Option Bool) (h_r_q1x : ∀ y0 y1, CM (fun G => r_q1x G y0 y1)) (a0 : Typ) (a1 : Typ) (s21 : Bool) : CM (fun G : OF ρ => zbo (r_q1x G) a0 a1 s21) := by
 simp only [zbo]
 repeat (first | exact z0c | exact h_r_q1x _ _ | apply zhb | refine z14 ?_ ?_ | refine z15 ?_ (fun _ => ?_) | intro _ | assumption)
noncomputable def zkq (r_q16 : Typ → Typ → Option Bool) (r_q0v : Typ → Typ → Option Bool) (r_q1a : Typ → Typ → Option Bool) (r_q05 : (List Typ) → Typ → Option Int) (r_q03 : (List Typ) → Typ → Option Bool) (r_q1k : Typ → Typ → Option Bool) (r_q06 : (List Typ) → Typ → Option Int) (r_q02 : (List Typ) → Typ → Option Bool) (r_q1x : Typ → Typ → Option Bool) (a0 : Typ) (a1 : Typ) : Option Bool :=
 bif (!a1.opn) then (
  bif a0.opn then (
   zbo r_q1x a0 a1 true
  ) else (
   Option.bind (zr6 a0.names a1) fun x24 =>
   zbo r_q1x a0 a1 x24
  )
 ) else (
  zbr r_q1x a0 a1
 )
theorem zw8 (r_q16 : OF ρ → Typ → Typ → Option Bool) (h_r_q16 : ∀ y0 y1, CM (fun G => r_q16 G y0 y1)) (r_q0v : OF ρ → Typ → Typ → Option Bool) (h_r_q0v : ∀ y0 y1, CM (fun G => r_q0v G y0 y1)) (r_q1a : OF ρ → Typ → Typ → Option Bool) (h_r_q1a : ∀ y0 y1, CM (fun G => r_q1a G y0 y1)) (r_q05 : OF ρ → (List Typ) → Typ → Option Int) (h_r_q05 : ∀ y0 y1, CM (fun G => r_q05 G y0 y1)) (r_q03 : OF ρ → (List Typ) → Typ → Option Bool) (h_r_q03 : ∀ y0 y1, CM (fun G => r_q03 G y0 y1)) (r_q1k : OF ρ → Typ → Typ → Option Bool) (h_r_q1k : ∀ y0 y1, CM (fun G => r_q1k G y0 y1)) (r_q06 : OF ρ → (List Typ) → Typ → Option Int) (h_r_q06 : ∀ y0 y1, CM (fun G => r_q06 G y0 y1)) (r_q02 : OF ρ → (List Typ) → Typ → Option Bool) (h_r_q02 : ∀ y0 y1, CM (fun G => r_q02 G y0 y1)) (r_q1x : OF ρ → Typ → Typ → Option Bool) (h_r_q1x : ∀ y0 y1, CM (fun G => r_q1x G y0 y1)) (a0 : Typ) (a1 : Typ) : CM (fun G : OF ρ => zkq (r_q16 G) (r_q0v G) (r_q1a G) (r_q05 G) (r_q03 G) (r_q1k G) (r_q06 G) (r_q02 G) (r_q1x G) a0 a1) := by
 simp only [zkq]
 repeat (first | exact z0c | exact h_r_q16 _ _ | exact h_r_q0v _ _ | exact h_r_q1a _ _ | exact h_r_q05 _ _ | exact h_r_q03 _ _ | exact h_r_q1k _ _ | exact h_r_q06 _ _ | exact h_r_q02 _ _ | exact h_r_q1x _ _ | apply zhb | apply zpg | refine z14 ?_ ?_ | refine z15 ?_ (fun _ => ?_) | intro _ | assumption)
noncomputable def zkv (r_q16 : Typ → Typ → Option Bool) (r_q0v : Typ → Typ → Option Bool) (r_q1a : Typ → Typ → Option Bool) (r_q05 : (List Typ) → Typ → Option Int) (r_q03 : (List Typ) → Typ → Option Bool) (r_q1k : Typ → Typ → Option Bool) (r_q06 : (List Typ) → Typ → Option Int) (r_q02 : (List Typ) → Typ → Option Bool) (r_q1x : Typ → Typ → Option Bool) (a0 : Typ) (a1 : Typ) : Option Bool :=
 Option.bind (r_q1x a0 a1) fun x1 =>
 some x1
theorem zwe (r_q16 : OF ρ → Typ → Typ → Option Bool) (h_r_q16 : ∀ y0 y1, CM (fun G => r_q16 G y0 y1)) (r_q0v : OF ρ → Typ → Typ → Option Bool) (h_r_q0v : ∀ y0 y1, CM (fun G => r_q0v G y0 y1)) (r_q1a : OF ρ → Typ → Typ → Option Bool) (h_r_q1a : ∀ y0 y1, CM (fun G => r_q1a G y0 y1)) (r_q05 : OF ρ → (List Typ) → Typ → Option Int) (h_r_q05 : ∀ y0 y1, CM (fun G => r_q05 G y0 y1)) (r_q03 : OF ρ → (List Typ) → Typ → Option Bool) (h_r_q03 : ∀ y0 y1, CM (fun G => r_q03 G y0 y1)) (r_q1k : OF ρ → Typ → Typ → Option Bool) (h_r_q1k : ∀ y0 y1, CM (fun G => r_q1k G y0 y1)) (r_q06 : OF ρ → (List Typ) → Typ → Option Int) (h_r_q06 : ∀ y0 y1, CM (fun G => r_q06 G y0 y1)) (r_q02 : OF ρ → (List Typ) → Typ → Option Bool) (h_r_q02 : ∀ y0 y1, CM (fun G => r_q02 G y0 y1)) (r_q1x : OF ρ → Typ → Typ → Option Bool) (h_r_q1x : ∀ y0 y1, CM (fun G => r_q1x G y0 y1)) (a0 : Typ) (a1 : Typ) : CM (fun G : OF ρ => zkv (r_q16 G) (r_q0v G) (r_q1a G) (r_q05 G) (r_q03 G) (r_q1k G) (r_q06 G) (r_q02 G) (r_q1x G) a0 a1) := by
 simp only [zkv]
 repeat (first | exact z0c | exact h_r_q16 _ _ | exact h_r_q0v _ _ | exact h_r_q1a _ _ | exact h_r_q05 _ _ | exact h_r_q03 _ _ | exact h_r_q1k _ _ | exact h_r_q06 _ _ | exact h_r_q02 _ _ | exact h_r_q1x _ _ | refine z14 ?_ ?_ | refine z15 ?_ (fun _ => ?_))
noncomputable def zko (r_q16 : Typ → Typ → Option Bool) (r_q0v : Typ → Typ → Option Bool) (r_q1a : Typ → Typ → Option Bool) (r_q05 : (List Typ) → Typ → Option Int) (r_q03 : (List Typ) → Typ → Option Bool) (r_q1k : Typ → Typ → Option Bool) (r_q06 : (List Typ) → Typ → Option Int) (r_q02 : (List Typ) → Typ → Option Bool) (r_q1x : Typ → Typ → Option Bool) (a0 : Typ) (a1 : Typ) : Option Bool :=
 Option.bind (r_q1x a1 a0) fun x1 =>
 some x1
theorem zw6 (r_q16 : OF ρ → Typ → Typ → Option Bool) (h_r_q16 : ∀ y0 y1, CM (fun G => r_q16 G y0 y1)) (r_q0v : OF ρ → Typ → Typ → Option Bool) (h_r_q0v : ∀ y0 y1, CM (fun G => r_q0v G y0 y1)) (r_q1a : OF ρ → Typ → Typ → Option Bool) (h_r_q1a : ∀ y0 y1, CM (fun G => r_q1a G y0 y1)) (r_q05 : OF ρ → (List Typ) → Typ → Option Int) (h_r_q05 : ∀ y0 y1, CM (fun G => r_q05 G y0 y1)) (r_q03 : OF ρ → (List Typ) → Typ → Option Bool) (h_r_q03 : ∀ y0 y1, CM (fun G => r_q03 G y0 y1)) (r_q1k : OF ρ → Typ → Typ → Option Bool) (h_r_q1k : ∀ y0 y1, CM (fun G => r_q1k G y0 y1)) (r_q06 : OF ρ → (List Typ) → Typ → Option Int) (h_r_q06 : ∀ y0 y1, CM (fun G => r_q06 G y0 y1)) (r_q02 : OF ρ → (List Typ) → Typ → Option Bool) (h_r_q02 : ∀ y0 y1, CM (fun G => r_q02 G y0 y1)) (r_q1x : OF ρ → Typ → Typ → Option Bool) (h_r_q1x : ∀ y0 y1, CM (fun G => r_q1x G y0 y1)) (a0 : Typ) (a1 : Typ) : CM (fun G : OF ρ => zko (r_q16 G) (r_q0v G) (r_q1a G) (r_q05 G) (r_q03 G) (r_q1k G) (r_q06 G) (r_q02 G) (r_q1x G) a0 a1) := by
 simp only [zko]
 repeat (first | exact z0c | exact h_r_q16 _ _ | exact h_r_q0v _ _ | exact h_r_q1a _ _ | exact h_r_q05 _ _ | exact h_r_q03 _ _ | exact h_r_q1k _ _ | exact h_r_q06 _ _ | exact h_r_q02 _ _ | exact h_r_q1x _ _ | refine z14 ?_ ?_ | refine z15 ?_ (fun _ => ?_))
noncomputable def z68 (r_q1a : Typ → Typ → Option Bool) (a0 : (List Typ)) (a1c0 : Typ) (g1 : Nat → Option Int) (s1 : Nat) : Option Int :=
 bif (decide (((s1 : Nat) : Int) < (((a0).length : Nat) : Int))) then (
  Option.bind ((a0)[s1]?) fun x4 =>
  Option.bind (r_q1a x4 a1c0) fun x5 =>
  bif x5 then (
   some ((s1 : Nat) : Int)
  ) else (
   g1 (s1 + 1)
  )
 ) else (
  some (-1)
 )
theorem zb5 (r_q1a : OF ρ → Typ → Typ → Option Bool) (h_r_q1a : ∀ y0 y1, CM (fun G => r_q1a G y0 y1)) (g1 : OF ρ → Nat → Option Int) (h_g1 : ∀ y0, CM (fun G => g1 G y0)) (a0 : (List Typ)) (a1c0 : Typ) (s1 : Nat) : CM (fun G : OF ρ => z68 (r_q1a G) a0 a1c0 (g1 G) s1) := by
 simp only [z68]
 repeat (first | exact z0c | exact h_r_q1a _ _ | exact h_g1 _ | refine z14 ?_ ?_ | refine z15 ?_ (fun _ => ?_))
noncomputable def zf5 (r_q1a : Typ → Typ → Option Bool) (a0 : (List Typ)) (a1c0 : Typ) (s1 : Nat) : Option Int :=
 z38 (ι := Nat) (ρ := fun _ => Int) (fun g i => z68 r_q1a a0 a1c0 (fun s1 => g s1) i) s1
theorem zi1 (r_q1a : Typ → Typ → Option Bool) (a0 : (List Typ)) (a1c0 : Typ) (s1 : Nat) : zf5 r_q1a a0 a1c0 s1 = z68 r_q1a a0 a1c0 (zf5 r_q1a a0 a1c0) s1 :=
 z1d (ι := Nat) (ρ := fun _ => Int) (Φ := fun g i => z68 r_q1a a0 a1c0 (fun s1 => g s1) i) (fun i => zb5 (ι := Nat) (ρ := fun _ => Int) (fun _ => r_q1a) (fun _ _ => z0c) (fun g => (fun s1 => g s1)) (fun _ => z1c) a0 a1c0 i) s1
theorem zqd (r_q1a : OF ρ → Typ → Typ → Option Bool) (h_r_q1a : ∀ y0 y1, CM (fun G => r_q1a G y0 y1)) (a0 : (List Typ)) (a1c0 : Typ) (s1 : Nat) : CM (fun G : OF ρ => zf5 (r_q1a G) a0 a1c0 s1) :=
 z3o (κ := Nat) (τ := fun _ => Int) (Φ := fun G g i => z68 (r_q1a G) a0 a1c0 (fun s1 => g s1) i) (fun g i => zb5 r_q1a h_r_q1a (fun _ => (fun s1 => g s1)) (fun _ => z0c) a0 a1c0 i) (fun G i => zb5 (ι := Nat) (ρ := fun _ => Int) (fun _ => r_q1a G) (fun _ _ => z0c) (fun g => (fun s1 => g s1)) (fun _ => z1c) a0 a1c0 i) s1
noncomputable def zl3 (r_q16 : Typ → Typ → Option Bool) (r_q0v : Typ → Typ → Option Bool) (r_q1a : Typ → Typ → Option Bool) (r_q05 : (List Typ) → Typ → Option Int) (r_q03 : (List Typ) → Typ → Option Bool) (r_q1k : Typ → Typ → Option Bool) (r_q06 : (List Typ) → Typ → Option Int) (r_q02 : (List Typ) → Typ → Option Bool) (r_q1x : Typ → Typ → Option Bool) (a0 : (List Typ)) (a1c0 : Typ) : Option Int :=
 zf5 r_q1a a0 a1c0 0
theorem zwn (r_q16 : OF ρ → Typ → Typ → Option Bool) (h_r_q16 : ∀ y0 y1, CM (fun G => r_q16 G y0 y1)) (r_q0v : OF ρ → Typ → Typ → Option Bool) (h_r_q0v : ∀ y0 y1, CM (fun G => r_q0v G y0 y1)) (r_q1a : OF ρ → Typ → Typ → Option Bool) (h_r_q1a : ∀ y0 y1, CM (fun G => r_q1a G y0 y1)) (r_q05 : OF ρ → (List Typ) → Typ → Option Int) (h_r_q05 : ∀ y0 y1, CM (fun G => r_q05 G y0 y1)) (r_q03 : OF ρ → (List Typ) → Typ → Option Bool) (h_r_q03 : ∀ y0 y1, CM (fun G => r_q03 G y0 y1)) (r_q1k : OF ρ → Typ → Typ → Option Bool) (h_r_q1k : ∀ y0 y1, CM (fun G => r_q1k G y0 y1)) (r_q06 : OF ρ → (List Typ) → Typ → Option Int) (h_r_q06 : ∀ y0 y1, CM (fun G => r_q06 G y0 y1)) (r_q02 : OF ρ → (List Typ) → Typ → Option Bool) (h_r_q02 : ∀ y0 y1, CM (fun G => r_q02 G y0 y1)) (r_q1x : OF ρ → Typ → Typ → Option Bool) (h_r_q1x : ∀ y0 y1, CM (fun G => r_q1x G y0 y1)) (a0 : (List Typ)) (a1c0 : Typ) : CM (fun G : OF ρ => zl3 (r_q16 G) (r_q0v G) (r_q1a G) (r_q05 G) (r_q03 G) (r_q1k G) (r_q06 G) (r_q02 G) (r_q1x G) a0 a1c0) := by
 simp only [zl3]
 repeat (first | exact z0c | exact h_r_q16 _ _ | exact h_r_q0v _ _ | exact h_r_q1a _ _ | exact h_r_q05 _ _ | exact h_r_q03 _ _ | exact h_r_q1k _ _ | exact h_r_q06 _ _ | exact h_r_q02 _ _ | exact h_r_q1x _ _ | apply zqd | refine z14 ?_ ?_ | refine z15 ?_ (fun _ => ?_) | intro _ | assumption)
noncomputable def zl4 (r_q16 : Typ → Typ → Option Bool) (r_q0v : Typ → Typ → Option Bool) (r_q1a : Typ → Typ → Option Bool) (r_q05 : (List Typ) → Typ → Option Int) (r_q03 : (List Typ) → Typ → Option Bool) (r_q1k : Typ → Typ → Option Bool) (r_q06 : (List Typ) → Typ → Option Int) (r_q02 : (List Typ) → Typ → Option Bool) (r_q1x : Typ → Typ → Option Bool) (a0 : (List Typ)) (a1c0 : Typ) : Option Bool :=
 Option.bind (r_q05 a0 a1c0) fun x1 =>
 some (decide (x1 ≥ 0))
theorem zwo (r_q16 : OF ρ → Typ → Typ → Option Bool) (h_r_q16 : ∀ y0 y1, CM (fun G => r_q16 G y0 y1)) (r_q0v : OF ρ → Typ → Typ → Option Bool) (h_r_q0v : ∀ y0 y1, CM (fun G => r_q0v G y0 y1)) (r_q1a : OF ρ → Typ → Typ → Option Bool) (h_r_q1a : ∀ y0 y1, CM (fun G => r_q1a G y0 y1)) (r_q05 : OF ρ → (List Typ) → Typ → Option Int) (h_r_q05 : ∀ y0 y1, CM (fun G => r_q05 G y0 y1)) (r_q03 : OF ρ → (List Typ) → Typ → Option Bool) (h_r_q03 : ∀ y0 y1, CM (fun G => r_q03 G y0 y1)) (r_q1k : OF ρ → Typ → Typ → Option Bool) (h_r_q1k : ∀ y0 y1, CM (fun G => r_q1k G y0 y1)) (r_q06 : OF ρ → (List Typ) → Typ → Option Int) (h_r_q06 : ∀ y0 y1, CM (fun G => r_q06 G y0 y1)) (r_q02 : OF ρ → (List Typ) → Typ → Option Bool) (h_r_q02 : ∀ y0 y1, CM (fun G => r_q02 G y0 y1)) (r_q1x : OF ρ → Typ → Typ → Option Bool) (h_r_q1x : ∀ y0 y1, CM (fun G => r_q1x G y0 y1)) (a0 : (List Typ)) (a1c0 : Typ) : CM (fun G : OF ρ => zl4 (r_q16 G) (r_q0v G) (r_q1a G) (r_q05 G) (r_q03 G) (r_q1k G) (r_q06 G) (r_q02 G) (r_q1x G) a0 a1c0) := by
 simp only [zl4]
 repeat (first | exact z0c | exact h_r_q16 _ _ | exact h_r_q0v _ _ | exact h_r_q1a _ _ | exact h_r_q05 _ _ | exact h_r_q03 _ _ | exact h_r_q1k _ _ | exact h_r_q06 _ _ | exact h_r_q02 _ _ | exact h_r_q1x _ _ | refine z14 ?_ ?_ | refine z15 ?_ (fun _ => ?_))
noncomputable def zkm (r_q16 : Typ → Typ → Option Bool) (r_q0v : Typ → Typ → Option Bool) (r_q1a : Typ → Typ → Option Bool) (r_q05 : (List Typ) → Typ → Option Int) (r_q03 : (List Typ) → Typ → Option Bool) (r_q1k : Typ → Typ → Option Bool) (r_q06 : (List Typ) → Typ → Option Int) (r_q02 : (List Typ) → Typ → Option Bool) (r_q1x : Typ → Typ → Option Bool) (a0 : Typ) (a1 : Typ) : Option Bool :=
 Option.bind (r_q1x a0 a1) fun x1 =>
 some (!x1)
theorem zw4 (r_q16 : OF ρ → Typ → Typ → Option Bool) (h_r_q16 : ∀ y0 y1, CM (fun G => r_q16 G y0 y1)) (r_q0v : OF ρ → Typ → Typ → Option Bool) (h_r_q0v : ∀ y0 y1, CM (fun G => r_q0v G y0 y1)) (r_q1a : OF ρ → Typ → Typ → Option Bool) (h_r_q1a : ∀ y0 y1, CM (fun G => r_q1a G y0 y1)) (r_q05 : OF ρ → (List Typ) → Typ → Option Int) (h_r_q05 : ∀ y0 y1, CM (fun G => r_q05 G y0 y1)) (r_q03 : OF ρ → (List Typ) → Typ → Option Bool) (h_r_q03 : ∀ y0 y1, CM (fun G => r_q03 G y0 y1)) (r_q1k : OF ρ → Typ → Typ → Option Bool) (h_r_q1k : ∀ y0 y1, CM (fun G => r_q1k G y0 y1)) (r_q06 : OF ρ → (List Typ) → Typ → Option Int) (h_r_q06 : ∀ y0 y1, CM (fun G => r_q06 G y0 y1)) (r_q02 : OF ρ → (List Typ) → Typ → Option Bool) (h_r_q02 : ∀ y0 y1, CM (fun G => r_q02 G y0 y1)) (r_q1x : OF ρ → Typ → Typ → Option Bool) (h_r_q1x : ∀ y0 y1, CM (fun G => r_q1x G y0 y1)) (a0 : Typ) (a1 : Typ) : CM (fun G : OF ρ => zkm (r_q16 G) (r_q0v G) (r_q1a G) (r_q05 G) (r_q03 G) (r_q1k G) (r_q06 G) (r_q02 G) (r_q1x G) a0 a1) := by
 simp only [zkm]
 repeat (first | exact z0c | exact h_r_q16 _ _ | exact h_r_q0v _ _ | exact h_r_q1a _ _ | exact h_r_q05 _ _ | exact h_r_q03 _ _ | exact h_r_q1k _ _ | exact h_r_q06 _ _ | exact h_r_q02 _ _ | exact h_r_q1x _ _ | refine z14 ?_ ?_ | refine z15 ?_ (fun _ => ?_))
noncomputable def z67 (r_q1k : Typ → Typ → Option Bool) (a0 : (List Typ)) (a1c0 : Typ) (g1 : Nat → Option Int) (s1 : Nat) : Option Int :=
 bif (decide (((s1 : Nat) : Int) < (((a0).length : Nat) : Int))) then (
  Option.bind ((a0)[s1]?) fun x4 =>
  Option.bind (r_q1k x4 a1c0) fun x5 =>
  bif x5 then (
   some ((s1 : Nat) : Int)
  ) else (
   g1 (s1 + 1)
  )
 ) else (
  some (-1)
 )
theorem zb4 (r_q1k : OF ρ → Typ → Typ → Option Bool) (h_r_q1k : ∀ y0 y1, CM (fun G => r_q1k G y0 y1)) (g1 : OF ρ → Nat → Option Int) (h_g1 : ∀ y0, CM (fun G => g1 G y0)) (a0 : (List Typ)) (a1c0 : Typ) (s1 : Nat) : CM (fun G : OF ρ => z67 (r_q1k G) a0 a1c0 (g1 G) s1) := by
 simp only [z67]
 repeat (first | exact z0c | exact h_r_q1k _ _ | exact h_g1 _ | refine z14 ?_ ?_ | refine z15 ?_ (fun _ => ?_))
noncomputable def zf4 (r_q1k : Typ → Typ → Option Bool) (a0 : (List Typ)) (a1c0 : Typ) (s1 : Nat) : Option Int :=
 z38 (ι := Nat) (ρ := fun _ => Int) (fun g i => z67 r_q1k a0 a1c0 (fun s1 => g s1) i) s1
theorem zi0 (r_q1k : Typ → Typ → Option Bool) (a0 : (List Typ)) (a1c0 : Typ) (s1 : Nat) : zf4 r_q1k a0 a1c0 s1 = z67 r_q1k a0 a1c0 (zf4 r_q1k a0 a1c0) s1 :=
 z1d (ι := Nat) (ρ := fun _ => Int) (Φ := fun g i => z67 r_q1k a0 a1c0 (fun s1 => g s1) i) (fun i => zb4 (ι := Nat) (ρ := fun _ => Int) (fun _ => r_q1k) (fun _ _ => z0c) (fun g => (fun s1 => g s1)) (fun _ => z1c) a0 a1c0 i) s1
theorem zqc (r_q1k : OF ρ → Typ → Typ → Option Bool) (h_r_q1k : ∀ y0 y1, CM (fun G => r_q1k G y0 y1)) (a0 : (List Typ)) (a1c0 : Typ) (s1 : Nat) : CM (fun G : OF ρ => zf4 (r_q1k G) a0 a1c0 s1) :=
 z3o (κ := Nat) (τ := fun _ => Int) (Φ := fun G g i => z67 (r_q1k G) a0 a1c0 (fun s1 => g s1) i) (fun g i => zb4 r_q1k h_r_q1k (fun _ => (fun s1 => g s1)) (fun _ => z0c) a0 a1c0 i) (fun G i => zb4 (ι := Nat) (ρ := fun _ => Int) (fun _ => r_q1k G) (fun _ _ => z0c) (fun g => (fun s1 => g s1)) (fun _ => z1c) a0 a1c0 i) s1
noncomputable def zl2 (r_q16 : Typ → Typ → Option Bool) (r_q0v : Typ → Typ → Option Bool) (r_q1a : Typ → Typ → Option Bool) (r_q05 : (List Typ) → Typ → Option Int) (r_q03 : (List Typ) → Typ → Option Bool) (r_q1k : Typ → Typ → Option Bool) (r_q06 : (List Typ) → Typ → Option Int) (r_q02 : (List Typ) → Typ → Option Bool) (r_q1x : Typ → Typ → Option Bool) (a0 : (List Typ)) (a1c0 : Typ) : Option Int :=
 zf4 r_q1k a0 a1c0 0
theorem zwm (r_q16 : OF ρ → Typ → Typ → Option Bool) (h_r_q16 : ∀ y0 y1, CM (fun G => r_q16 G y0 y1)) (r_q0v : OF ρ → Typ → Typ → Option Bool) (h_r_q0v : ∀ y0 y1, CM (fun G => r_q0v G y0 y1)) (r_q1a : OF ρ → Typ → Typ → Option Bool) (h_r_q1a : ∀ y0 y1, CM (fun G => r_q1a G y0 y1)) (r_q05 : OF ρ → (List Typ) → Typ → Option Int) (h_r_q05 : ∀ y0 y1, CM (fun G => r_q05 G y0 y1)) (r_q03 : OF ρ → (List Typ) → Typ → Option Bool) (h_r_q03 : ∀ y0 y1, CM (fun G => r_q03 G y0 y1)) (r_q1k : OF ρ → Typ → Typ → Option Bool) (h_r_q1k : ∀ y0 y1, CM (fun G => r_q1k G y0 y1)) (r_q06 : OF ρ → (List Typ) → Typ → Option Int) (h_r_q06 : ∀ y0 y1, CM (fun G => r_q06 G y0 y1)) (r_q02 : OF ρ → (List Typ) → Typ → Option Bool) (h_r_q02 : ∀ y0 y1, CM (fun G => r_q02 G y0 y1)) (r_q1x : OF ρ → Typ → Typ → Option Bool) (h_r_q1x : ∀ y0 y1, CM (fun G => r_q1x G y0 y1)) (a0 : (List Typ)) (a1c0 : Typ) : CM (fun G : OF ρ => zl2 (r_q16 G) (r_q0v G) (r_q1a G) (r_q05 G) (r_q03 G) (r_q1k G) (r_q06 G) (r_q02 G) (r_q1x G) a0 a1c0) := by
 simp only [zl2]
 repeat (first | exact z0c | exact h_r_q16 _ _ | exact h_r_q0v _ _ | exact h_r_q1a _ _ | exact h_r_q05 _ _ | exact h_r_q03 _ _ | exact h_r_q1k _ _ | exact h_r_q06 _ _ | exact h_r_q02 _ _ | exact h_r_q1x _ _ | apply zqc | refine z14 ?_ ?_ | refine z15 ?_ (fun _ => ?_) | intro _ | assumption)
noncomputable def zl5 (r_q16 : Typ → Typ → Option Bool) (r_q0v : Typ → Typ → Option Bool) (r_q1a : Typ → Typ → Option Bool) (r_q05 : (List Typ) → Typ → Option Int) (r_q03 : (List Typ) → Typ → Option Bool) (r_q1k : Typ → Typ → Option Bool) (r_q06 : (List Typ) → Typ → Option Int) (r_q02 : (List Typ) → Typ → Option Bool) (r_q1x : Typ → Typ → Option Bool) (a0 : (List Typ)) (a1c0 : Typ) : Option Bool :=
 Option.bind (r_q06 a0 a1c0) fun x1 =>
 some (decide (x1 ≥ 0))
theorem zwp (r_q16 : OF ρ → Typ → Typ → Option Bool) (h_r_q16 : ∀ y0 y1, CM (fun G => r_q16 G y0 y1)) (r_q0v : OF ρ → Typ → Typ → Option Bool) (h_r_q0v : ∀ y0 y1, CM (fun G => r_q0v G y0 y1)) (r_q1a : OF ρ → Typ → Typ → Option Bool) (h_r_q1a : ∀ y0 y1, CM (fun G => r_q1a G y0 y1)) (r_q05 : OF ρ → (List Typ) → Typ → Option Int) (h_r_q05 : ∀ y0 y1, CM (fun G => r_q05 G y0 y1)) (r_q03 : OF ρ → (List Typ) → Typ → Option Bool) (h_r_q03 : ∀ y0 y1, CM (fun G => r_q03 G y0 y1)) (r_q1k : OF ρ → Typ → Typ → Option Bool) (h_r_q1k : ∀ y0 y1, CM (fun G => r_q1k G y0 y1)) (r_q06 : OF ρ → (List Typ) → Typ → Option Int) (h_r_q06 : ∀ y0 y1, CM (fun G => r_q06 G y0 y1)) (r_q02 : OF ρ → (List Typ) → Typ → Option Bool) (h_r_q02 : ∀ y0 y1, CM (fun G => r_q02 G y0 y1)) (r_q1x : OF ρ → Typ → Typ → Option Bool) (h_r_q1x : ∀ y0 y1, CM (fun G => r_q1x G y0 y1)) (a0 : (List Typ)) (a1c0 : Typ) : CM (fun G : OF ρ => zl5 (r_q16 G) (r_q0v G) (r_q1a G) (r_q05 G) (r_q03 G) (r_q1k G) (r_q06 G) (r_q02 G) (r_q1x G) a0 a1c0) := by
 simp only [zl5]
 repeat (first | exact z0c | exact h_r_q16 _ _ | exact h_r_q0v _ _ | exact h_r_q1a _ _ | exact h_r_q05 _ _ | exact h_r_q03 _ _ | exact h_r_q1k _ _ | exact h_r_q06 _ _ | exact h_r_q02 _ _ | exact h_r_q1x _ _ | refine z14 ?_ ?_ | refine z15 ?_ (fun _ => ?_))
noncomputable def zbh (r_q16 : Typ → Typ → Option Bool) (r_q0v : Typ → Typ → Option Bool) (r_q03 : (List Typ) → Typ → Option Bool) (r_q02 : (List Typ) → Typ → Option Bool) (a0 : Typ) (a1 : Typ) (s1 : Bool) : Option Bool :=
 bif s1 then (
  some true
 ) else (
  bif (a0.kind == 7) then (
   Option.bind (r_q02 a0.parts a1) fun x4 =>
   some (!x4)
  ) else (
   bif (a1.kind == 7) then (
    Option.bind (r_q03 a1.parts a0) fun x6 =>
    some x6
   ) else (
    bif (a1.kind == 2) then (
     some false
    ) else (
     bif (a0.kind == 4) then (
      Option.bind (ze3 (a0.only)) fun x9 =>
      Option.bind (z8j x9.1 a1 0) fun x10 =>
      some x10.1
     ) else (
      bif (a0.kind == 1) then (
       some false
      ) else (
       bif (a0.kind == 3) then (
        bif (a1.kind == 3) then (
         some (a0.of == a1.of)
        ) else (
         some false
        )
       ) else (
        bif (a0.kind == 5) then (
         bif (a1.kind == 3) then (
          bif (a1.of == 8) then (
           some true
          ) else (
           bif (a1.kind == 5) then (
            Option.bind ((a1.parts)[0]?) fun x18 =>
            Option.bind (zno x18) fun x19 =>
            Option.bind ((a0.parts)[0]?) fun x20 =>
            Option.bind (r_q0v x20 x19) fun x21 =>
            some x21
           ) else (
            some false
           )
          )
         ) else (
          bif (a1.kind == 5) then (
           Option.bind ((a1.parts)[0]?) fun x23 =>
           Option.bind (zno x23) fun x24 =>
           Option.bind ((a0.parts)[0]?) fun x25 =>
           Option.bind (r_q0v x25 x24) fun x26 =>
           some x26
          ) else (
           some false
          )
         )
        ) else (
         bif (a0.kind == 8) then (
          bif (a1.kind == 3) then (
           bif (a1.of == 10) then (
            some true
           ) else (
            bif (a1.kind == 8) then (
             some (a0.cls == a1.cls)
            ) else (
             some false
            )
           )
          ) else (
           bif (a1.kind == 8) then (
            some (a0.cls == a1.cls)
           ) else (
            some false
           )
          )
         ) else (
          bif (a0.kind == 6) then (
           bif (a1.kind == 3) then (
            bif (a1.of == 9) then (
             some true
            ) else (
             bif (a1.kind == 6) then (
              Option.bind (r_q16 a0 a1) fun x36 =>
              some x36
             ) else (
              some false
             )
            )
           ) else (
            bif (a1.kind == 6) then (
             Option.bind (r_q16 a0 a1) fun x38 =>
             some x38
            ) else (
             some false
            )
           )
          ) else (
           some false
          )
         )
        )
       )
      )
     )
    )
   )
  )
 )
theorem zp7 (r_q16 : OF ρ → Typ → Typ → Option Bool) (h_r_q16 : ∀ y0 y1, CM (fun G => r_q16 G y0 y1)) (r_q0v : OF ρ → Typ → Typ → Option Bool) (h_r_q0v : ∀ y0 y1, CM (fun G => r_q0v G y0 y1)) (r_q03 : OF ρ → (List Typ) → Typ → Option Bool) (h_r_q03 : ∀ y0 y1, CM (fun G => r_q03 G y0 y1)) (r_q02 : OF ρ → (List Typ) → Typ → Option Bool) (h_r_q02 : ∀ y0 y1, CM (fun G => r_q02 G y0 y1)) (a0 : Typ) (a1 : Typ) (s1 : Bool) : CM (fun G : OF ρ => zbh (r_q16 G) (r_q0v G) (r_q03 G) (r_q02 G) a0 a1 s1) := by
 simp only [zbh]
 repeat (first | exact z0c | exact h_r_q16 _ _ | exact h_r_q0v _ _ | exact h_r_q03 _ _ | exact h_r_q02 _ _ | refine z14 ?_ ?_ | refine z15 ?_ (fun _ => ?_))
noncomputable def zkk (r_q16 : Typ → Typ → Option Bool) (r_q0v : Typ → Typ → Option Bool) (r_q1a : Typ → Typ → Option Bool) (r_q05 : (List Typ) → Typ → Option Int) (r_q03 : (List Typ) → Typ → Option Bool) (r_q1k : Typ → Typ → Option Bool) (r_q06 : (List Typ) → Typ → Option Int) (r_q02 : (List Typ) → Typ → Option Bool) (r_q1x : Typ → Typ → Option Bool) (a0 : Typ) (a1 : Typ) : Option Bool :=
 bif (a1.kind == 1) then (
  zbh r_q16 r_q0v r_q03 r_q02 a0 a1 true
 ) else (
  zbh r_q16 r_q0v r_q03 r_q02 a0 a1 (a0.kind == 2)
 )
theorem zw2 (r_q16 : OF ρ → Typ → Typ → Option Bool) (h_r_q16 : ∀ y0 y1, CM (fun G => r_q16 G y0 y1)) (r_q0v : OF ρ → Typ → Typ → Option Bool) (h_r_q0v : ∀ y0 y1, CM (fun G => r_q0v G y0 y1)) (r_q1a : OF ρ → Typ → Typ → Option Bool) (h_r_q1a : ∀ y0 y1, CM (fun G => r_q1a G y0 y1)) (r_q05 : OF ρ → (List Typ) → Typ → Option Int) (h_r_q05 : ∀ y0 y1, CM (fun G => r_q05 G y0 y1)) (r_q03 : OF ρ → (List Typ) → Typ → Option Bool) (h_r_q03 : ∀ y0 y1, CM (fun G => r_q03 G y0 y1)) (r_q1k : OF ρ → Typ → Typ → Option Bool) (h_r_q1k : ∀ y0 y1, CM (fun G => r_q1k G y0 y1)) (r_q06 : OF ρ → (List Typ) → Typ → Option Int) (h_r_q06 : ∀ y0 y1, CM (fun G => r_q06 G y0 y1)) (r_q02 : OF ρ → (List Typ) → Typ → Option Bool) (h_r_q02 : ∀ y0 y1, CM (fun G => r_q02 G y0 y1)) (r_q1x : OF ρ → Typ → Typ → Option Bool) (h_r_q1x : ∀ y0 y1, CM (fun G => r_q1x G y0 y1)) (a0 : Typ) (a1 : Typ) : CM (fun G : OF ρ => zkk (r_q16 G) (r_q0v G) (r_q1a G) (r_q05 G) (r_q03 G) (r_q1k G) (r_q06 G) (r_q02 G) (r_q1x G) a0 a1) := by
 simp only [zkk]
 repeat (first | exact z0c | exact h_r_q16 _ _ | exact h_r_q0v _ _ | exact h_r_q1a _ _ | exact h_r_q05 _ _ | exact h_r_q03 _ _ | exact h_r_q1k _ _ | exact h_r_q06 _ _ | exact h_r_q02 _ _ | exact h_r_q1x _ _ | apply zp7 | refine z14 ?_ ?_ | refine z15 ?_ (fun _ => ?_) | intro _ | assumption)
inductive C_q16 where
 | k_q16 (a0 : Typ) (a1 : Typ)
 | k_q0v (a0 : Typ) (a1 : Typ)
 | k_q1a (a0 : Typ) (a1 : Typ)
 | k_q05 (a0 : (List Typ)) (a1c0 : Typ)
 | k_q03 (a0 : (List Typ)) (a1c0 : Typ)
 | k_q1k (a0 : Typ) (a1 : Typ)
 | k_q06 (a0 : (List Typ)) (a1c0 : Typ)
 | k_q02 (a0 : (List Typ)) (a1c0 : Typ)
 | k_q1x (a0 : Typ) (a1 : Typ)
def C_q16.R : C_q16 → Type
 | .k_q16 _ _ => Bool
 | .k_q0v _ _ => Bool
 | .k_q1a _ _ => Bool
 | .k_q05 _ _ => Int
 | .k_q03 _ _ => Bool
 | .k_q1k _ _ => Bool
 | .k_q06 _ _ => Int
 | .k_q02 _ _ => Bool
 | .k_q1x _ _ => Bool
noncomputable def C_q16.F (g : ∀ i : C_q16, Option i.R) : ∀ i : C_q16, Option i.R
 | .k_q16 a0 a1 => zkq (fun a0 a1 => g (.k_q16 a0 a1)) (fun a0 a1 => g (.k_q0v a0 a1)) (fun a0 a1 => g (.k_q1a a0 a1)) (fun a0 a1c0 => g (.k_q05 a0 a1c0)) (fun a0 a1c0 => g (.k_q03 a0 a1c0)) (fun a0 a1 => g (.k_q1k a0 a1)) (fun a0 a1c0 => g (.k_q06 a0 a1c0)) (fun a0 a1c0 => g (.k_q02 a0 a1c0)) (fun a0 a1 => g (.k_q1x a0 a1)) a0 a1
 | .k_q0v a0 a1 => zkv (fun a0 a1 => g (.k_q16 a0 a1)) (fun a0 a1 => g (.k_q0v a0 a1)) (fun a0 a1 => g (.k_q1a a0 a1)) (fun a0 a1c0 => g (.k_q05 a0 a1c0)) (fun a0 a1c0 => g (.k_q03 a0 a1c0)) (fun a0 a1 => g (.k_q1k a0 a1)) (fun a0 a1c0 => g (.k_q06 a0 a1c0)) (fun a0 a1c0 => g (.k_q02 a0 a1c0)) (fun a0 a1 => g (.k_q1x a0 a1)) a0 a1
 | .k_q1a a0 a1 => zko (fun a0 a1 => g (.k_q16 a0 a1)) (fun a0 a1 => g (.k_q0v a0 a1)) (fun a0 a1 => g (.k_q1a a0 a1)) (fun a0 a1c0 => g (.k_q05 a0 a1c0)) (fun a0 a1c0 => g (.k_q03 a0 a1c0)) (fun a0 a1 => g (.k_q1k a0 a1)) (fun a0 a1c0 => g (.k_q06 a0 a1c0)) (fun a0 a1c0 => g (.k_q02 a0 a1c0)) (fun a0 a1 => g (.k_q1x a0 a1)) a0 a1
 | .k_q05 a0 a1c0 => zl3 (fun a0 a1 => g (.k_q16 a0 a1)) (fun a0 a1 => g (.k_q0v a0 a1)) (fun a0 a1 => g (.k_q1a a0 a1)) (fun a0 a1c0 => g (.k_q05 a0 a1c0)) (fun a0 a1c0 => g (.k_q03 a0 a1c0)) (fun a0 a1 => g (.k_q1k a0 a1)) (fun a0 a1c0 => g (.k_q06 a0 a1c0)) (fun a0 a1c0 => g (.k_q02 a0 a1c0)) (fun a0 a1 => g (.k_q1x a0 a1)) a0 a1c0
 | .k_q03 a0 a1c0 => zl4 (fun a0 a1 => g (.k_q16 a0 a1)) (fun a0 a1 => g (.k_q0v a0 a1)) (fun a0 a1 => g (.k_q1a a0 a1)) (fun a0 a1c0 => g (.k_q05 a0 a1c0)) (fun a0 a1c0 => g (.k_q03 a0 a1c0)) (fun a0 a1 => g (.k_q1k a0 a1)) (fun a0 a1c0 => g (.k_q06 a0 a1c0)) (fun a0 a1c0 => g (.k_q02 a0 a1c0)) (fun a0 a1 => g (.k_q1x a0 a1)) a0 a1c0
 | .k_q1k a0 a1 => zkm (fun a0 a1 => g (.k_q16 a0 a1)) (fun a0 a1 => g (.k_q0v a0 a1)) (fun a0 a1 => g (.k_q1a a0 a1)) (fun a0 a1c0 => g (.k_q05 a0 a1c0)) (fun a0 a1c0 => g (.k_q03 a0 a1c0)) (fun a0 a1 => g (.k_q1k a0 a1)) (fun a0 a1c0 => g (.k_q06 a0 a1c0)) (fun a0 a1c0 => g (.k_q02 a0 a1c0)) (fun a0 a1 => g (.k_q1x a0 a1)) a0 a1
 | .k_q06 a0 a1c0 => zl2 (fun a0 a1 => g (.k_q16 a0 a1)) (fun a0 a1 => g (.k_q0v a0 a1)) (fun a0 a1 => g (.k_q1a a0 a1)) (fun a0 a1c0 => g (.k_q05 a0 a1c0)) (fun a0 a1c0 => g (.k_q03 a0 a1c0)) (fun a0 a1 => g (.k_q1k a0 a1)) (fun a0 a1c0 => g (.k_q06 a0 a1c0)) (fun a0 a1c0 => g (.k_q02 a0 a1c0)) (fun a0 a1 => g (.k_q1x a0 a1)) a0 a1c0
 | .k_q02 a0 a1c0 => zl5 (fun a0 a1 => g (.k_q16 a0 a1)) (fun a0 a1 => g (.k_q0v a0 a1)) (fun a0 a1 => g (.k_q1a a0 a1)) (fun a0 a1c0 => g (.k_q05 a0 a1c0)) (fun a0 a1c0 => g (.k_q03 a0 a1c0)) (fun a0 a1 => g (.k_q1k a0 a1)) (fun a0 a1c0 => g (.k_q06 a0 a1c0)) (fun a0 a1c0 => g (.k_q02 a0 a1c0)) (fun a0 a1 => g (.k_q1x a0 a1)) a0 a1c0
 | .k_q1x a0 a1 => zkk (fun a0 a1 => g (.k_q16 a0 a1)) (fun a0 a1 => g (.k_q0v a0 a1)) (fun a0 a1 => g (.k_q1a a0 a1)) (fun a0 a1c0 => g (.k_q05 a0 a1c0)) (fun a0 a1c0 => g (.k_q03 a0 a1c0)) (fun a0 a1 => g (.k_q1k a0 a1)) (fun a0 a1c0 => g (.k_q06 a0 a1c0)) (fun a0 a1c0 => g (.k_q02 a0 a1c0)) (fun a0 a1 => g (.k_q1x a0 a1)) a0 a1
noncomputable def zdf (a0 : Typ) (a1 : Typ) : Option Bool := z38 C_q16.F (.k_q16 a0 a1)
noncomputable def zdg (a0 : Typ) (a1 : Typ) : Option Bool := z38 C_q16.F (.k_q0v a0 a1)
noncomputable def zc0 (a0 : Typ) (a1 : Typ) : Option Bool := z38 C_q16.F (.k_q1a a0 a1)
noncomputable def ze8 (a0 : (List Typ)) (a1c0 : Typ) : Option Int := z38 C_q16.F (.k_q05 a0 a1c0)
noncomputable def zdh (a0 : (List Typ)) (a1c0 : Typ) : Option Bool := z38 C_q16.F (.k_q03 a0 a1c0)
noncomputable def zbz (a0 : Typ) (a1 : Typ) : Option Bool := z38 C_q16.F (.k_q1k a0 a1)
noncomputable def ze7 (a0 : (List Typ)) (a1c0 : Typ) : Option Int := z38 C_q16.F (.k_q06 a0 a1c0)
noncomputable def zdi (a0 : (List Typ)) (a1c0 : Typ) : Option Bool := z38 C_q16.F (.k_q02 a0 a1c0)
noncomputable def z43 (a0 : Typ) (a1 : Typ) : Option Bool := z38 C_q16.F (.k_q1x a0 a1)
abbrev zvg := fun (g : ∀ i : C_q16, Option i.R) a0 a1 => g (.k_q16 a0 a1)
theorem zv6 (a0 : _) (a1 : _) : CM (ρ := C_q16.R) (fun g => g (C_q16.k_q16 a0 a1)) := z1c
abbrev zvf := fun (g : ∀ i : C_q16, Option i.R) a0 a1 => g (.k_q0v a0 a1)
theorem zv5 (a0 : _) (a1 : _) : CM (ρ := C_q16.R) (fun g => g (C_q16.k_q0v a0 a1)) := z1c
abbrev zve := fun (g : ∀ i : C_q16, Option i.R) a0 a1 => g (.k_q1a a0 a1)
theorem zv4 (a0 : _) (a1 : _) : CM (ρ := C_q16.R) (fun g => g (C_q16.k_q1a a0 a1)) := z1c
abbrev zvd := fun (g : ∀ i : C_q16, Option i.R) a0 a1c0 => g (.k_q05 a0 a1c0)
theorem zv3 (a0 : _) (a1c0 : _) : CM (ρ := C_q16.R) (fun g => g (C_q16.k_q05 a0 a1c0)) := z1c
abbrev zvc := fun (g : ∀ i : C_q16, Option i.R) a0 a1c0 => g (.k_q03 a0 a1c0)
theorem zv2 (a0 : _) (a1c0 : _) : CM (ρ := C_q16.R) (fun g => g (C_q16.k_q03 a0 a1c0)) := z1c
abbrev zvb := fun (g : ∀ i : C_q16, Option i.R) a0 a1 => g (.k_q1k a0 a1)
theorem zv1 (a0 : _) (a1 : _) : CM (ρ := C_q16.R) (fun g => g (C_q16.k_q1k a0 a1)) := z1c
abbrev zva := fun (g : ∀ i : C_q16, Option i.R) a0 a1c0 => g (.k_q06 a0 a1c0)
theorem zv0 (a0 : _) (a1c0 : _) : CM (ρ := C_q16.R) (fun g => g (C_q16.k_q06 a0 a1c0)) := z1c
abbrev zv9 := fun (g : ∀ i : C_q16, Option i.R) a0 a1c0 => g (.k_q02 a0 a1c0)
theorem zuz (a0 : _) (a1c0 : _) : CM (ρ := C_q16.R) (fun g => g (C_q16.k_q02 a0 a1c0)) := z1c
abbrev zv8 := fun (g : ∀ i : C_q16, Option i.R) a0 a1 => g (.k_q1x a0 a1)
theorem zuy (a0 : _) (a1 : _) : CM (ρ := C_q16.R) (fun g => g (C_q16.k_q1x a0 a1)) := z1c
theorem C_q16.cm (i : C_q16) : CM (fun g : (∀ i : C_q16, Option i.R) => C_q16.F g i) := by
 cases i with
 | k_q16 a0 a1 => exact zw8 zvg zv6 zvf zv5 zve zv4 zvd zv3 zvc zv2 zvb zv1 zva zv0 zv9 zuz zv8 zuy a0 a1
 | k_q0v a0 a1 => exact zwe zvg zv6 zvf zv5 zve zv4 zvd zv3 zvc zv2 zvb zv1 zva zv0 zv9 zuz zv8 zuy a0 a1
 | k_q1a a0 a1 => exact zw6 zvg zv6 zvf zv5 zve zv4 zvd zv3 zvc zv2 zvb zv1 zva zv0 zv9 zuz zv8 zuy a0 a1
 | k_q05 a0 a1c0 => exact zwn zvg zv6 zvf zv5 zve zv4 zvd zv3 zvc zv2 zvb zv1 zva zv0 zv9 zuz zv8 zuy a0 a1c0
 | k_q03 a0 a1c0 => exact zwo zvg zv6 zvf zv5 zve zv4 zvd zv3 zvc zv2 zvb zv1 zva zv0 zv9 zuz zv8 zuy a0 a1c0
 | k_q1k a0 a1 => exact zw4 zvg zv6 zvf zv5 zve zv4 zvd zv3 zvc zv2 zvb zv1 zva zv0 zv9 zuz zv8 zuy a0 a1
 | k_q06 a0 a1c0 => exact zwm zvg zv6 zvf zv5 zve zv4 zvd zv3 zvc zv2 zvb zv1 zva zv0 zv9 zuz zv8 zuy a0 a1c0
 | k_q02 a0 a1c0 => exact zwp zvg zv6 zvf zv5 zve zv4 zvd zv3 zvc zv2 zvb zv1 zva zv0 zv9 zuz zv8 zuy a0 a1c0
 | k_q1x a0 a1 => exact zw2 zvg zv6 zvf zv5 zve zv4 zvd zv3 zvc zv2 zvb zv1 zva zv0 zv9 zuz zv8 zuy a0 a1
theorem Z5g (a0 : Typ) (a1 : Typ) : zdf a0 a1 = zkq zdf zdg zc0 ze8 zdh zbz ze7 zdi z43 a0 a1 := z1d C_q16.cm (.k_q16 a0 a1)
theorem Z5k (a0 : Typ) (a1 : Typ) : zdg a0 a1 = zkv zdf zdg zc0 ze8 zdh zbz ze7 zdi z43 a0 a1 := z1d C_q16.cm (.k_q0v a0 a1)
theorem Z5e (a0 : Typ) (a1 : Typ) : zc0 a0 a1 = zko zdf zdg zc0 ze8 zdh zbz ze7 zdi z43 a0 a1 := z1d C_q16.cm (.k_q1a a0 a1)
theorem Z5s (a0 : (List Typ)) (a1c0 : Typ) : ze8 a0 a1c0 = zl3 zdf zdg zc0 ze8 zdh zbz ze7 zdi z43 a0 a1c0 := z1d C_q16.cm (.k_q05 a0 a1c0)
theorem Z5t (a0 : (List Typ)) (a1c0 : Typ) : zdh a0 a1c0 = zl4 zdf zdg zc0 ze8 zdh zbz ze7 zdi z43 a0 a1c0 := z1d C_q16.cm (.k_q03 a0 a1c0)
theorem Z5d (a0 : Typ) (a1 : Typ) : zbz a0 a1 = zkm zdf zdg zc0 ze8 zdh zbz ze7 zdi z43 a0 a1 := z1d C_q16.cm (.k_q1k a0 a1)
theorem Z5r (a0 : (List Typ)) (a1c0 : Typ) : ze7 a0 a1c0 = zl2 zdf zdg zc0 ze8 zdh zbz ze7 zdi z43 a0 a1c0 := z1d C_q16.cm (.k_q06 a0 a1c0)
theorem Z5u (a0 : (List Typ)) (a1c0 : Typ) : zdi a0 a1c0 = zl5 zdf zdg zc0 ze8 zdh zbz ze7 zdi z43 a0 a1c0 := z1d C_q16.cm (.k_q02 a0 a1c0)
theorem Z5b (a0 : Typ) (a1 : Typ) : z43 a0 a1 = zkk zdf zdg zc0 ze8 zdh zbz ze7 zdi z43 a0 a1 := z1d C_q16.cm (.k_q1x a0 a1)
def C_q16.Q : ∀ i : C_q16, i.R → Prop
 | .k_q16 a0 a1 => fun (r : Bool) => z0g Try.prog 66 [(z07 a0), (z07 a1)] (BO r)
 | .k_q0v a0 a1 => fun (r : Bool) => z0g Try.prog 62 [(z07 a0), (PV.pt 34 (z07 a1) 0)] (BO r)
 | .k_q1a a0 a1 => fun (r : Bool) => z0g Try.prog 65 [(z07 a0), (PV.pt 34 (z07 a1) 0)] (BO r)
 | .k_q05 a0 a1c0 => fun (r : Int) => z0g Try.prog 93 [(PV.sl none 34 18 (List.map z19 a0)), (PV.fn (.func 65) [] [(PV.pt 34 (z07 a1c0) 0)])] (I64 r)
 | .k_q03 a0 a1c0 => fun (r : Bool) => z0g Try.prog 63 [(PV.sl none 34 18 (List.map z19 a0)), (PV.fn (.func 65) [] [(PV.pt 34 (z07 a1c0) 0)])] (BO r)
 | .k_q1k a0 a1 => fun (r : Bool) => z0g Try.prog 64 [(z07 a0), (PV.pt 34 (z07 a1) 0)] (BO r)
 | .k_q06 a0 a1c0 => fun (r : Int) => z0g Try.prog 93 [(PV.sl none 34 18 (List.map z19 a0)), (PV.fn (.func 64) [] [(PV.pt 34 (z07 a1c0) 0)])] (I64 r)
 | .k_q02 a0 a1c0 => fun (r : Bool) => z0g Try.prog 63 [(PV.sl none 34 18 (List.map z19 a0)), (PV.fn (.func 64) [] [(PV.pt 34 (z07 a1c0) 0)])] (BO r)
 | .k_q1x a0 a1 => fun (r : Bool) => z0g Try.prog 35 [(z07 a0), (z07 a1)] (BO r)
theorem zfv (r_q16 : Typ → Typ → Option Bool) (c_q16 : ∀ (a0 : Typ) (a1 : Typ) r, r_q16 a0 a1 = some r → z0g Try.prog 66 [(z07 a0), (z07 a1)] (BO r)) (r_q0v : Typ → Typ → Option Bool) (c_q0v : ∀ (a0 : Typ) (a1 : Typ) r, r_q0v a0 a1 = some r → z0g Try.prog 62 [(z07 a0), (PV.pt 34 (z07 a1) 0)] (BO r)) (r_q1a : Typ → Typ → Option Bool) (c_q1a : ∀ (a0 : Typ) (a1 : Typ) r, r_q1a a0 a1 = some r → z0g Try.prog 65 [(z07 a0), (PV.pt 34 (z07 a1) 0)] (BO r)) (r_q05 : (List Typ) → Typ → Option Int) (c_q05 : ∀ (a0 : (List Typ)) (a1c0 : Typ) r, r_q05 a0 a1c0 = some r → z0g Try.prog 93 [(PV.sl none 34 18 (List.map z19 a0)), (PV.fn (.func 65) [] [(PV.pt 34 (z07 a1c0) 0)])] (I64 r)) (r_q03 : (List Typ) → Typ → Option Bool) (c_q03 : ∀ (a0 : (List Typ)) (a1c0 : Typ) r, r_q03 a0 a1c0 = some r → z0g Try.prog 63 [(PV.sl none 34 18 (List.map z19 a0)), (PV.fn (.func 65) [] [(PV.pt 34 (z07 a1c0) 0)])] (BO r)) (r_q1k : Typ → Typ → Option Bool) (c_q1k : ∀ (a0 : Typ) (a1 : Typ) r, r_q1k a0 a1 = some r → z0g Try.prog 64 [(z07 a0), (PV.pt 34 (z07 a1) 0)] (BO r)) (r_q06 : (List Typ) → Typ → Option Int) (c_q06 : ∀ (a0 : (List Typ)) (a1c0 : Typ) r, r_q06 a0 a1c0 = some r → z0g Try.prog 93 [(PV.sl none 34 18 (List.map z19 a0)), (PV.fn (.func 64) [] [(PV.pt 34 (z07 a1c0) 0)])] (I64 r)) (r_q02 : (List Typ) → Typ → Option Bool) (c_q02 : ∀ (a0 : (List Typ)) (a1c0 : Typ) r, r_q02 a0 a1c0 = some r → z0g Try.prog 63 [(PV.sl none 34 18 (List.map z19 a0)), (PV.fn (.func 64) [] [(PV.pt 34 (z07 a1c0) 0)])] (BO r)) (r_q1x : Typ → Typ → Option Bool) (c_q1x : ∀ (a0 : Typ) (a1 : Typ) r, r_q1x a0 a1 = some r → z0g Try.prog 35 [(z07 a0), (z07 a1)] (BO r)) (a0 : Typ) (a1 : Typ) (r : Bool) (h : zkq r_q16 r_q0v r_q1a r_q05 r_q03 r_q1k r_q06 r_q02 r_q1x a0 a1 = some r) : z0g Try.prog 66 [(z07 a0), (z07 a1)] (BO r) := by
 unfold zkq at h
 refine z0w Try.func66 rfl Try.ntmps66 Try.results66 rfl (z10 ?_)
 change BW _ _ _ ⟨[(0, (z07 a0)), (1, (z07 a1))], [], _⟩ _
 refine bR ?_
 refine sS rfl rfl rfl (z1x rfl rfl rfl) ?_
 refine sS rfl rfl rfl (z1x rfl rfl rfl) ?_
 refine sAx (z00 ?_)
 refine cBx ?_
 refine z1n (ι := Unit) (fun i => zbr r_q1x a0 a1 = some r) (fun i => [(2, (PV.rf 0 0)), (3, (PV.pt 34 (z07 a1) 0))]) (fun i => [.box 34 (z1r a0)]) ?_ ?_ ?_
 ·intro i; exact ⟨lbE rfl, ⟨(il_rf rfl), ⟨(z01 (z0m _)), trivial⟩⟩, ⟨wfC34, trivial⟩⟩
 ·rintro ⟨⟩ h; replace h : zbr r_q1x a0 a1 = some r := h; unfold zbr at h
  change BW _ _ _ ⟨[(2, (PV.rf 0 0)), (3, (PV.pt 34 (z07 a1) 0))], [.box 34 (z1r a0)], _⟩ _
  refine z0o ?_
  refine bR ?_
  refine sS rfl rfl rfl (z1a z1f (i := 4) rfl rfl rfl) ?_
  refine sS rfl rfl rfl (z13 (y := (PV.sl none 9 1 (List.map z0f a1.names))) Try.underlying31 rfl rfl rfl rfl) ?_
  refine sS rfl rfl rfl (z17 Try.underlying31 rfl rfl) ?_
  refine sMx (z00 ?_)
  refine cBx ?_
  refine z0x ?_
  refine cBx ?_
  unfold zer at h
  refine z26 (σ := Nat) (fun i => [(2, (PV.rf 0 0)), (3, (PV.pt 34 (z07 a1) 0)), (20, (PV.sl none 9 1 (List.map z0f a1.names))), (21, (I64 ((((a1.names).length : Nat) : Int)))), (22, (I64 (((i : Nat) : Int))))]) (fun i => [.box 34 (z1r a0)]) 0 h ?_ ?_ ?_
  ·intro i; exact ⟨lbE rfl, ⟨(il_rf rfl), ⟨(z01 (z0m _)), ⟨(z01 (z0q (fun _ => rfl) _)), ⟨(z01 rfl), ⟨(z01 rfl), trivial⟩⟩⟩⟩⟩, ⟨wfC34, trivial⟩⟩
  ·exact ⟨(.cons .same .nil), (sC rfl (sC rfl (sC rfl (sC rfl (sC rfl z09)))))⟩
  ·rintro g1_f s1 h; replace h : z5u r_q1x a0 a1 (fun y0 => g1_f y0) s1 = some r := h; unfold z5u at h
   change BW _ _ _ ⟨[(2, (PV.rf 0 0)), (3, (PV.pt 34 (z07 a1) 0)), (20, (PV.sl none 9 1 (List.map z0f a1.names))), (21, (I64 ((((a1.names).length : Nat) : Int)))), (22, (I64 (((s1 : Nat) : Int))))], [.box 34 (z1r a0)], _⟩ _
   refine bR ?_
   refine sS rfl rfl rfl ((z06 rfl rfl rfl rfl).cast (y := (BO ((decide (((s1 : Nat) : Int) < (((a1.names).length : Nat) : Int)))))) rfl rfl) (z00 ?_)
   refine cBx ?_
   refine z0o ?_
   refine z2z (t := 20) rfl fun hb3 => ?_
   try rw [List.length_map] at hb3
   refine z05 rfl ?_ ?_
   ·intro hc2; replace h := z02 hc2 h
    have hc2_ := of_decide_eq_true hc2
    refine z0l ?_
    refine cBx ?_
    refine z1n (ι := Unit) (fun i => zbq (fun y0 => g1_f y0) s1 = some r) (fun i => [(2, (PV.rf 0 0)), (3, (PV.pt 34 (z07 a1) 0)), (20, (PV.sl none 9 1 (List.map z0f a1.names))), (21, (I64 ((((a1.names).length : Nat) : Int)))), (22, (I64 (((s1 : Nat) : Int))))]) (fun i => [.box 34 (z1r a0)]) ?_ ?_ ?_
    ·intro i; exact ⟨lbE rfl, ⟨(il_rf rfl), ⟨(z01 (z0m _)), ⟨(z01 (z0q (fun _ => rfl) _)), ⟨(z01 rfl), ⟨(z01 rfl), trivial⟩⟩⟩⟩⟩, ⟨wfC34, trivial⟩⟩
    ·rintro ⟨⟩ h; replace h : zbq (fun y0 => g1_f y0) s1 = some r := h; unfold zbq at h
     change BW _ _ _ ⟨[(2, (PV.rf 0 0)), (3, (PV.pt 34 (z07 a1) 0)), (20, (PV.sl none 9 1 (List.map z0f a1.names))), (21, (I64 ((((a1.names).length : Nat) : Int)))), (22, (I64 (((s1 : Nat) : Int))))], [.box 34 (z1r a0)], _⟩ _
     refine z0s ?_
     refine sS rfl rfl rfl (z1y (k := s1) (c := 1) rfl rfl rfl (by omega)) ?_
     refine sMx (z00 ?_)
     exact ⟨rfl, (s1 + 1), h, ⟨(.cons .same .nil), (sC rfl (sC rfl (sC rfl (sC rfl (sC rfl z09)))))⟩⟩
    ·refine z0x ?_
     refine cBx ?_
     refine bR ?_
     refine sMx ?_
     obtain ⟨x4, hx4, h⟩ := obind h
     refine sS rfl rfl rfl (z1i (i := s1) Try.underlying31 inf_9 rfl rfl rfl hx4 rfl) ?_
     refine sS rfl rfl rfl (z13 (y := (z0f x4)) Try.underlying9 rfl rfl rfl rfl) ?_
     refine sAx ?_
     refine sAx (z00 ?_)
     refine cBx ?_
     refine bR ?_
     refine sS rfl rfl rfl (z0e z1f (i := 4) rfl rfl rfl) ?_
     refine sS rfl rfl rfl ((z0n Try.underlying31 rfl rfl rfl rfl rfl)) ?_
     refine sMx ?_
     obtain ⟨x5, hx5, h⟩ := obind h
     refine sS rfl rfl rfl (z0b rfl Z1v rfl (.cons (Wk.refl _) (.cons (Wk.refl _) .nil)) ⟨(z0q (fun _ => rfl) a0.names), ⟨rfl, trivial⟩⟩ (Z0u a0.names x4 x5 hx5) rfl) ?_
     refine sAx (z00 ?_)
     refine cBx ?_
     refine z0o ?_
     refine bR ?_
     refine sMx ?_
     refine sS rfl rfl rfl ((z06 rfl rfl rfl rfl).cast (y := (BO ((decide (x5 < 0))))) rfl rfl) (z00 ?_)
     refine cBx ?_
     refine z05 rfl ?_ ?_
     ·intro hc6; replace h := z02 hc6 h
      refine z0o ?_
      refine z1n (ι := Bool) (fun i => zbp (fun y0 => g1_f y0) s1 i = some r) (fun i => [(2, (PV.rf 0 0)), (3, (PV.pt 34 (z07 a1) 0)), (20, (PV.sl none 9 1 (List.map z0f a1.names))), (21, (I64 ((((a1.names).length : Nat) : Int)))), (22, (I64 (((s1 : Nat) : Int)))), (42, (BO i))]) (fun i => [.box 34 (z1r a0)]) ?_ ?_ ?_
      ·intro i; exact ⟨lbE rfl, ⟨(il_rf rfl), ⟨(z01 (z0m _)), ⟨(z01 (z0q (fun _ => rfl) _)), ⟨(z01 rfl), ⟨(z01 rfl), ⟨(z01 rfl), trivial⟩⟩⟩⟩⟩⟩, ⟨wfC34, trivial⟩⟩
      ·rintro s7 h; replace h : zbp (fun y0 => g1_f y0) s1 s7 = some r := h; unfold zbp at h
       change BW _ _ _ ⟨[(2, (PV.rf 0 0)), (3, (PV.pt 34 (z07 a1) 0)), (20, (PV.sl none 9 1 (List.map z0f a1.names))), (21, (I64 ((((a1.names).length : Nat) : Int)))), (22, (I64 (((s1 : Nat) : Int)))), (42, (BO s7))], [.box 34 (z1r a0)], _⟩ _
       refine z05 rfl ?_ ?_
       ·intro hc8; replace h := z02 hc8 h
        refine bR ?_
        refine sAx (z00 ?_)
        refine cBx ?_
        refine z0a ?_
        change ∃ xs, _ = some xs ∧ EndOk _ _ _ _
        obtain rfl := Option.some.inj h
        exact ⟨_, rfl, z0d (y := (BO false)) (Wk.refl _) rfl ⟨rfl, rfl⟩⟩
       ·intro hc8; replace h := z03 hc8 h
        refine z0l ?_
        refine cBx ?_
        refine z22 ?_
        exact ⟨rfl, (), h, ⟨(.cons .same .nil), (sC rfl (sC rfl (sC rfl (sC rfl (sC rfl z09)))))⟩⟩
      ·refine z0s ?_
       refine sS rfl rfl rfl (z1a z1f (i := 5) rfl rfl rfl) ?_
       refine sS rfl rfl rfl (z13 (y := (PV.sl none 4 1 (List.map z28 a1.lacks))) Try.underlying32 rfl rfl rfl rfl) ?_
       refine sMx ?_
       obtain ⟨x9, hx9, h⟩ := obind h
       refine sS rfl rfl rfl (z1i (i := s1) Try.underlying32 inf_4 rfl rfl rfl hx9 rfl) ?_
       refine sS rfl rfl rfl (z13 (y := (BO x9)) Try.underlying4 rfl rfl rfl rfl) ?_
       refine sS rfl rfl rfl (z2a rfl rfl) ?_
       refine sMx ?_
       refine z16 (t := 39) rfl ?_ ?_
       ·intro hb10; replace h := z02 hb10 h
        refine z0h rfl rfl rfl rfl rfl rfl ?_
        refine z0h rfl rfl rfl rfl rfl rfl ?_
        refine sS rfl rfl rfl (z0p rfl rfl rfl) (z00 ?_)
        exact ⟨rfl, true, h, ⟨(.cons .same .nil), (sC rfl (sC rfl (sC rfl (sC rfl (sC rfl (sC rfl z09))))))⟩⟩
       ·intro hb10; replace h := z03 hb10 h
        refine z08 rfl rfl rfl rfl rfl rfl (z0e z1f (i := 6) rfl rfl rfl) ?_
        refine z08 rfl rfl rfl rfl rfl rfl ((z0n Try.underlying4 rfl rfl rfl rfl rfl)) ?_
        refine sS rfl rfl rfl (z0i rfl rfl rfl) (z00 ?_)
        exact ⟨rfl, a0.opn, h, ⟨(.cons .same .nil), (sC rfl (sC rfl (sC rfl (sC rfl (sC rfl (sC rfl z09))))))⟩⟩
     ·intro hc6; replace h := z03 hc6 h
      refine z0l ?_
      refine cBx ?_
      refine z1n (ι := Bool) (fun i => z9c (fun y0 => g1_f y0) s1 i = some r) (fun i => [(2, (PV.rf 0 0)), (3, (PV.pt 34 (z07 a1) 0)), (20, (PV.sl none 9 1 (List.map z0f a1.names))), (21, (I64 ((((a1.names).length : Nat) : Int)))), (22, (I64 (((s1 : Nat) : Int)))), (69, (BO i))]) (fun i => [.box 34 (z1r a0)]) ?_ ?_ ?_
      ·intro i; exact ⟨lbE rfl, ⟨(il_rf rfl), ⟨(z01 (z0m _)), ⟨(z01 (z0q (fun _ => rfl) _)), ⟨(z01 rfl), ⟨(z01 rfl), ⟨(z01 rfl), trivial⟩⟩⟩⟩⟩⟩, ⟨wfC34, trivial⟩⟩
      ·rintro s11 h; replace h : z9c (fun y0 => g1_f y0) s1 s11 = some r := h; unfold z9c at h
       change BW _ _ _ ⟨[(2, (PV.rf 0 0)), (3, (PV.pt 34 (z07 a1) 0)), (20, (PV.sl none 9 1 (List.map z0f a1.names))), (21, (I64 ((((a1.names).length : Nat) : Int)))), (22, (I64 (((s1 : Nat) : Int)))), (69, (BO s11))], [.box 34 (z1r a0)], _⟩ _
       refine z05 rfl ?_ ?_
       ·intro hc12; replace h := z02 hc12 h
        refine bR ?_
        refine sAx (z00 ?_)
        refine cBx ?_
        refine z0a ?_
        change ∃ xs, _ = some xs ∧ EndOk _ _ _ _
        obtain rfl := Option.some.inj h
        exact ⟨_, rfl, z0d (y := (BO false)) (Wk.refl _) rfl ⟨rfl, rfl⟩⟩
       ·intro hc12; replace h := z03 hc12 h
        refine z0l ?_
        exact ⟨rfl, (), h, ⟨(.cons .same .nil), (sC rfl (sC rfl (sC rfl (sC rfl (sC rfl z09)))))⟩⟩
      ·refine z2e 22 [] [0] mo (by kernel_rfl) ?_
       refine z0y rfl rfl rfl rfl (fun H hp => z0e z1f (i := 3) rfl rfl rfl) ?_
       refine z0y rfl rfl rfl rfl (fun H hp => (z0n Try.underlying30 rfl rfl rfl (hp.at rfl rfl) rfl)) ?_
       refine z0y rfl rfl rfl rfl (fun H hp => z0k rfl rfl) ?_
       obtain ⟨x13, hx13, h⟩ := obind h
       refine z0y rfl rfl rfl rfl (fun H hp => z47 Try.underlying30 z0t rfl rfl rfl hx13 (z2m _)) ?_
       refine z0y rfl rfl rfl rfl (fun H hp => z1s z0t Try.underlying34 rfl rfl rfl rfl rfl) ?_
       refine z0y rfl rfl rfl rfl (fun H hp => z1a z1f (i := 3) rfl rfl rfl) ?_
       refine z0y rfl rfl rfl rfl (fun H hp => z13 (y := (PV.sl none 34 18 (List.map z19 a1.parts))) Try.underlying30 rfl rfl rfl rfl) ?_
       refine z0y rfl rfl rfl rfl (fun H hp => z0k rfl rfl) ?_
       obtain ⟨x14, hx14, h⟩ := obind h
       refine z0y rfl rfl rfl rfl (fun H hp => z1i (i := s1) Try.underlying30 z0t rfl rfl rfl hx14 (z2m _)) ?_
       refine z0y rfl rfl rfl rfl (fun H hp => z1s z0t Try.underlying34 rfl rfl rfl rfl rfl) ?_
       obtain ⟨x15, hx15, h⟩ := obind h
       refine z0y rfl rfl rfl rfl (fun H hp => z0b rfl zka rfl (.cons (Wk.refl _) (.cons (Wk.refl _) .nil)) ⟨(z0m x13), ⟨(z0m x14), trivial⟩⟩ (c_q1x x13 x14 x15 hx15) rfl) ?_
       refine z0y rfl rfl rfl rfl (fun H hp => z2a rfl rfl) ?_
       refine z0y rfl rfl rfl rfl (fun H hp => z0k rfl rfl) ?_
       refine z3s 55 rfl ?_ ?_
       ·intro hb16; replace h := z02 hb16 h
        refine z1g rfl rfl rfl rfl rfl rfl rfl ?_
        refine z1g rfl rfl rfl rfl rfl rfl rfl ?_
        refine z1g rfl rfl rfl rfl rfl rfl rfl ?_
        refine z1g rfl rfl rfl rfl rfl rfl rfl ?_
        refine z1g rfl rfl rfl rfl rfl rfl rfl ?_
        refine z1g rfl rfl rfl rfl rfl rfl rfl ?_
        refine z1g rfl rfl rfl rfl rfl rfl rfl ?_
        refine z1g rfl rfl rfl rfl rfl rfl rfl ?_
        refine z1g rfl rfl rfl rfl rfl rfl rfl ?_
        refine z2b ?_
        change AO _ _ _ _ _
        refine z0h rfl rfl rfl rfl rfl rfl ?_
        refine z0h rfl rfl rfl rfl rfl rfl ?_
        refine z0h rfl rfl rfl rfl rfl rfl ?_
        refine z0h rfl rfl rfl rfl rfl rfl ?_
        refine sS rfl rfl rfl (z0p rfl rfl rfl) (z00 ?_)
        exact ⟨rfl, true, h, ⟨(.cons .same .nil), (sC rfl (sC rfl (sC rfl (sC rfl (sC rfl (sC rfl z09))))))⟩⟩
       ·intro hb16; replace h := z03 hb16 h
        refine z1b rfl rfl rfl rfl rfl rfl rfl (fun H hp => z0e z1f (i := 5) rfl rfl rfl) ?_
        refine z1b rfl rfl rfl rfl rfl rfl rfl (fun H hp => (z0n Try.underlying32 rfl rfl rfl (hp.at rfl rfl) rfl)) ?_
        refine z1b rfl rfl rfl rfl rfl rfl rfl (fun H hp => z0k rfl rfl) ?_
        obtain ⟨x17, hx17, h⟩ := obind h
        refine z1b rfl rfl rfl rfl rfl rfl rfl (fun H hp => z47 Try.underlying32 inf_4 rfl rfl rfl hx17 rfl) ?_
        refine z1b rfl rfl rfl rfl rfl rfl rfl (fun H hp => z13 (y := (BO x17)) Try.underlying4 rfl rfl rfl rfl) ?_
        refine z1b rfl rfl rfl rfl rfl rfl rfl (fun H hp => z0k rfl rfl) ?_
        refine z3s 61 rfl ?_ ?_
        ·intro hb18; replace h := z02 hb18 h
         refine z1b rfl rfl rfl rfl rfl rfl rfl (fun H hp => z1a z1f (i := 5) rfl rfl rfl) ?_
         refine z1b rfl rfl rfl rfl rfl rfl rfl (fun H hp => z13 (y := (PV.sl none 4 1 (List.map z28 a1.lacks))) Try.underlying32 rfl rfl rfl rfl) ?_
         refine z1b rfl rfl rfl rfl rfl rfl rfl (fun H hp => z0k rfl rfl) ?_
         refine z2b ?_
         change AO _ _ _ _ _
         obtain ⟨x19, hx19, h⟩ := obind h
         refine z08 rfl rfl rfl rfl rfl rfl (z1i (i := s1) Try.underlying32 inf_4 rfl rfl rfl hx19 rfl) ?_
         refine z08 rfl rfl rfl rfl rfl rfl (z13 (y := (BO x19)) Try.underlying4 rfl rfl rfl rfl) ?_
         refine z08 rfl rfl rfl rfl rfl rfl (z2a rfl rfl) ?_
         refine z08 rfl rfl rfl rfl rfl rfl (z0p rfl rfl rfl) ?_
         refine sS rfl rfl rfl (z0i rfl rfl rfl) (z00 ?_)
         exact ⟨rfl, (!x19), h, ⟨(.cons .same .nil), (sC rfl (sC rfl (sC rfl (sC rfl (sC rfl (sC rfl z09))))))⟩⟩
        ·intro hb18; replace h := z03 hb18 h
         refine z1g rfl rfl rfl rfl rfl rfl rfl ?_
         refine z1g rfl rfl rfl rfl rfl rfl rfl ?_
         refine z1g rfl rfl rfl rfl rfl rfl rfl ?_
         refine z2b ?_
         change AO _ _ _ _ _
         refine z0h rfl rfl rfl rfl rfl rfl ?_
         refine z0h rfl rfl rfl rfl rfl rfl ?_
         refine z0h rfl rfl rfl rfl rfl rfl ?_
         refine z08 rfl rfl rfl rfl rfl rfl (z0i rfl rfl rfl) ?_
         refine sS rfl rfl rfl (z0i rfl rfl rfl) (z00 ?_)
         exact ⟨rfl, false, h, ⟨(.cons .same .nil), (sC rfl (sC rfl (sC rfl (sC rfl (sC rfl (sC rfl z09))))))⟩⟩
   ·intro hc2; replace h := z03 hc2 h
    refine z22 ?_
    refine cBx ?_
    refine bR ?_
    refine sAx (z00 ?_)
    refine cBx ?_
    refine z0a ?_
    change ∃ xs, _ = some xs ∧ EndOk _ _ _ _
    obtain rfl := Option.some.inj h
    exact ⟨_, rfl, z0d (y := (BO true)) (Wk.refl _) rfl ⟨rfl, rfl⟩⟩
 ·refine z0o ?_
  refine zbe 1 3 (y := (PV.pt 34 (z07 a1) 0)) rfl rfl (Wk.pt (x := .agg [(I64 a1.kind), (I64 a1.of), (I64 ((a1.only).kind)), (BO ((a1.only).bool)), (I64 ((a1.only).int)), (PV.v (.float .f64 (a1.only).float)), (z0f (a1.only).text), (PV.sl none 5 1 (List.map ofB (a1.only).bytes)), (PV.v (.int .u64 (a1.only).ref)), (PV.sl none 29 11 (List.map z1k (a1.only).list)), (PV.sl none 101 12 (List.map z18 (a1.only).fields)), (z0f (a1.only).cls), (I64 ((a1.only).ver)), (PV.sl none 34 18 (List.map z19 a1.parts)), (PV.sl none 9 1 (List.map z0f a1.names)), (PV.sl none 4 1 (List.map z28 a1.lacks)), (BO a1.opn), (z0f a1.cls)]) (y := (z07 a1)) (.cons (Wk.refl _) (.cons (Wk.refl _) (.cons (Wk.refl _) (.cons (Wk.refl _) (.cons (Wk.refl _) (.cons (Wk.refl _) (.cons (Wk.refl _) (.cons (Wk.refl _) (.cons (Wk.refl _) (.cons (Wk.refl _) (.cons (Wk.refl _) (.cons (Wk.refl _) (.cons (Wk.refl _) (.cons (Wk.refl _) (.cons (Wk.refl _) (.cons (Wk.refl _) (.cons (Wk.refl _) (.cons (Wk.refl _) .nil))))))))))))))))))) ?_
  refine z0s ?_
  refine sS rfl rfl rfl (z1a z1f (i := 6) rfl rfl rfl) ?_
  refine sS rfl rfl rfl (z13 (y := (BO a1.opn)) Try.underlying4 rfl rfl rfl rfl) ?_
  refine sS rfl rfl rfl (z2a rfl rfl) (z00 ?_)
  refine cBx ?_
  refine z05 rfl ?_ ?_
  ·intro hc20; replace h := z02 hc20 h
   refine z1n (ι := Bool) (fun i => zbo r_q1x a0 a1 i = some r) (fun i => [(2, (PV.rf 0 0)), (3, (PV.pt 34 (z07 a1) 0)), (18, (BO i))]) (fun i => [.box 34 (z1r a0)]) ?_ ?_ ?_
   ·intro i; exact ⟨lbE rfl, ⟨(il_rf rfl), ⟨(z01 (z0m _)), ⟨(z01 rfl), trivial⟩⟩⟩, ⟨wfC34, trivial⟩⟩
   ·rintro s21 h; replace h : zbo r_q1x a0 a1 s21 = some r := h; unfold zbo at h
    change BW _ _ _ ⟨[(2, (PV.rf 0 0)), (3, (PV.pt 34 (z07 a1) 0)), (18, (BO s21))], [.box 34 (z1r a0)], _⟩ _
    refine z05 rfl ?_ ?_
    ·intro hc22; replace h := z02 hc22 h
     refine bR ?_
     refine sAx (z00 ?_)
     refine cBx ?_
     refine z0a ?_
     change ∃ xs, _ = some xs ∧ EndOk _ _ _ _
     obtain rfl := Option.some.inj h
     exact ⟨_, rfl, z0d (y := (BO false)) (Wk.refl _) rfl ⟨rfl, rfl⟩⟩
    ·intro hc22; replace h := z03 hc22 h
     refine z0l ?_
     exact ⟨rfl, (), h, ⟨(.cons .same .nil), (sC rfl (sC rfl z09))⟩⟩
   ·refine z0s ?_
    refine sS rfl rfl rfl (z0e z1f (i := 6) rfl rfl rfl) ?_
    refine sS rfl rfl rfl ((z0n Try.underlying4 rfl rfl rfl rfl rfl)) ?_
    refine sMx ?_
    refine z16 (t := 13) rfl ?_ ?_
    ·intro hb23; replace h := z02 hb23 h
     refine z0h rfl rfl rfl rfl rfl rfl ?_
     refine z0h rfl rfl rfl rfl rfl rfl ?_
     refine z0h rfl rfl rfl rfl rfl rfl ?_
     refine z0h rfl rfl rfl rfl rfl rfl ?_
     refine sS rfl rfl rfl (z0p rfl rfl rfl) (z00 ?_)
     exact ⟨rfl, true, h, ⟨(.cons .same .nil), (sC rfl (sC rfl (sC rfl z09)))⟩⟩
    ·intro hb23; replace h := z03 hb23 h
     refine z08 rfl rfl rfl rfl rfl rfl (z0e z1f (i := 4) rfl rfl rfl) ?_
     refine z08 rfl rfl rfl rfl rfl rfl ((z0n Try.underlying31 rfl rfl rfl rfl rfl)) ?_
     refine z08 rfl rfl rfl rfl rfl rfl (zlo rfl rfl rfl) ?_
     obtain ⟨x24, hx24, h⟩ := obind h
     refine z08 rfl rfl rfl rfl rfl rfl (z0b rfl Z4r rfl (.cons (Wk.refl _) (.cons (Wk.refl _) .nil)) ⟨(z0q (fun _ => rfl) a0.names), ⟨(z4t (z4s (z0m a1) rfl)), trivial⟩⟩ (Z48 a0.names a1 x24 hx24) rfl) ?_
     refine sS rfl rfl rfl (z0i rfl rfl rfl) (z00 ?_)
     exact ⟨rfl, x24, h, ⟨(.cons .same .nil), (sC rfl (sC rfl (sC rfl z09)))⟩⟩
  ·intro hc20; replace h := z03 hc20 h
   refine z0l ?_
   exact ⟨rfl, (), h, ⟨(.cons .same .nil), (sC rfl (sC rfl z09))⟩⟩
theorem zcp (r_q16 : Typ → Typ → Option Bool) (c_q16 : ∀ (a0 : Typ) (a1 : Typ) r, r_q16 a0 a1 = some r → z0g Try.prog 66 [(z07 a0), (z07 a1)] (BO r)) (r_q0v : Typ → Typ → Option Bool) (c_q0v : ∀ (a0 : Typ) (a1 : Typ) r, r_q0v a0 a1 = some r → z0g Try.prog 62 [(z07 a0), (PV.pt 34 (z07 a1) 0)] (BO r)) (r_q1a : Typ → Typ → Option Bool) (c_q1a : ∀ (a0 : Typ) (a1 : Typ) r, r_q1a a0 a1 = some r → z0g Try.prog 65 [(z07 a0), (PV.pt 34 (z07 a1) 0)] (BO r)) (r_q05 : (List Typ) → Typ → Option Int) (c_q05 : ∀ (a0 : (List Typ)) (a1c0 : Typ) r, r_q05 a0 a1c0 = some r → z0g Try.prog 93 [(PV.sl none 34 18 (List.map z19 a0)), (PV.fn (.func 65) [] [(PV.pt 34 (z07 a1c0) 0)])] (I64 r)) (r_q03 : (List Typ) → Typ → Option Bool) (c_q03 : ∀ (a0 : (List Typ)) (a1c0 : Typ) r, r_q03 a0 a1c0 = some r → z0g Try.prog 63 [(PV.sl none 34 18 (List.map z19 a0)), (PV.fn (.func 65) [] [(PV.pt 34 (z07 a1c0) 0)])] (BO r)) (r_q1k : Typ → Typ → Option Bool) (c_q1k : ∀ (a0 : Typ) (a1 : Typ) r, r_q1k a0 a1 = some r → z0g Try.prog 64 [(z07 a0), (PV.pt 34 (z07 a1) 0)] (BO r)) (r_q06 : (List Typ) → Typ → Option Int) (c_q06 : ∀ (a0 : (List Typ)) (a1c0 : Typ) r, r_q06 a0 a1c0 = some r → z0g Try.prog 93 [(PV.sl none 34 18 (List.map z19 a0)), (PV.fn (.func 64) [] [(PV.pt 34 (z07 a1c0) 0)])] (I64 r)) (r_q02 : (List Typ) → Typ → Option Bool) (c_q02 : ∀ (a0 : (List Typ)) (a1c0 : Typ) r, r_q02 a0 a1c0 = some r → z0g Try.prog 63 [(PV.sl none 34 18 (List.map z19 a0)), (PV.fn (.func 64) [] [(PV.pt 34 (z07 a1c0) 0)])] (BO r)) (r_q1x : Typ → Typ → Option Bool) (c_q1x : ∀ (a0 : Typ) (a1 : Typ) r, r_q1x a0 a1 = some r → z0g Try.prog 35 [(z07 a0), (z07 a1)] (BO r)) (a0 : Typ) (a1 : Typ) (r : Bool) (h : zkv r_q16 r_q0v r_q1a r_q05 r_q03 r_q1k r_q06 r_q02 r_q1x a0 a1 = some r) : z0g Try.prog 62 [(z07 a0), (PV.pt 34 (z07 a1) 0)] (BO r) := by
 unfold zkv at h
 refine z0w Try.func62 rfl Try.ntmps62 Try.results62 rfl (z10 ?_)
 change BW _ _ _ ⟨[(0, (z07 a0)), (1, (PV.pt 34 (z07 a1) 0))], [], _⟩ _
 refine bR ?_
 refine sS rfl rfl rfl (z1x rfl rfl rfl) ?_
 refine sAx (z00 ?_)
 refine cBx ?_
 refine bR ?_
 refine sS rfl rfl rfl ((z12 z0t Try.underlying34 rfl rfl rfl rfl rfl rfl)) ?_
 refine sS rfl rfl rfl (z1s z0t Try.underlying34 rfl rfl rfl rfl rfl) ?_
 obtain ⟨x1, hx1, h⟩ := obind h
 refine sS rfl rfl rfl (z0b rfl zka rfl (.cons (Wk.refl _) (.cons (Wk.refl _) .nil)) ⟨(z0m a0), ⟨(z0m a1), trivial⟩⟩ (c_q1x a0 a1 x1 hx1) rfl) ?_
 refine sAx (z00 ?_)
 refine cBx ?_
 refine z0a ?_
 change ∃ xs, _ = some xs ∧ EndOk _ _ _ _
 obtain rfl := Option.some.inj h
 exact ⟨_, rfl, z0d (y := (BO x1)) (Wk.refl _) rfl ⟨rfl, rfl⟩⟩
theorem zft (r_q16 : Typ → Typ → Option Bool) (c_q16 : ∀ (a0 : Typ) (a1 : Typ) r, r_q16 a0 a1 = some r → z0g Try.prog 66 [(z07 a0), (z07 a1)] (BO r)) (r_q0v : Typ → Typ → Option Bool) (c_q0v : ∀ (a0 : Typ) (a1 : Typ) r, r_q0v a0 a1 = some r → z0g Try.prog 62 [(z07 a0), (PV.pt 34 (z07 a1) 0)] (BO r)) (r_q1a : Typ → Typ → Option Bool) (c_q1a : ∀ (a0 : Typ) (a1 : Typ) r, r_q1a a0 a1 = some r → z0g Try.prog 65 [(z07 a0), (PV.pt 34 (z07 a1) 0)] (BO r)) (r_q05 : (List Typ) → Typ → Option Int) (c_q05 : ∀ (a0 : (List Typ)) (a1c0 : Typ) r, r_q05 a0 a1c0 = some r → z0g Try.prog 93 [(PV.sl none 34 18 (List.map z19 a0)), (PV.fn (.func 65) [] [(PV.pt 34 (z07 a1c0) 0)])] (I64 r)) (r_q03 : (List Typ) → Typ → Option Bool) (c_q03 : ∀ (a0 : (List Typ)) (a1c0 : Typ) r, r_q03 a0 a1c0 = some r → z0g Try.prog 63 [(PV.sl none 34 18 (List.map z19 a0)), (PV.fn (.func 65) [] [(PV.pt 34 (z07 a1c0) 0)])] (BO r)) (r_q1k : Typ → Typ → Option Bool) (c_q1k : ∀ (a0 : Typ) (a1 : Typ) r, r_q1k a0 a1 = some r → z0g Try.prog 64 [(z07 a0), (PV.pt 34 (z07 a1) 0)] (BO r)) (r_q06 : (List Typ) → Typ → Option Int) (c_q06 : ∀ (a0 : (List Typ)) (a1c0 : Typ) r, r_q06 a0 a1c0 = some r → z0g Try.prog 93 [(PV.sl none 34 18 (List.map z19 a0)), (PV.fn (.func 64) [] [(PV.pt 34 (z07 a1c0) 0)])] (I64 r)) (r_q02 : (List Typ) → Typ → Option Bool) (c_q02 : ∀ (a0 : (List Typ)) (a1c0 : Typ) r, r_q02 a0 a1c0 = some r → z0g Try.prog 63 [(PV.sl none 34 18 (List.map z19 a0)), (PV.fn (.func 64) [] [(PV.pt 34 (z07 a1c0) 0)])] (BO r)) (r_q1x : Typ → Typ → Option Bool) (c_q1x : ∀ (a0 : Typ) (a1 : Typ) r, r_q1x a0 a1 = some r → z0g Try.prog 35 [(z07 a0), (z07 a1)] (BO r)) (a0 : Typ) (a1 : Typ) (r : Bool) (h : zko r_q16 r_q0v r_q1a r_q05 r_q03 r_q1k r_q06 r_q02 r_q1x a0 a1 = some r) : z0g Try.prog 65 [(z07 a0), (PV.pt 34 (z07 a1) 0)] (BO r) := by
 unfold zko at h
 refine z0w Try.func65 rfl Try.ntmps65 Try.results65 rfl (z10 ?_)
 change BW _ _ _ ⟨[(0, (z07 a0)), (1, (PV.pt 34 (z07 a1) 0))], [], _⟩ _
 refine bR ?_
 refine sS rfl rfl rfl (z1x rfl rfl rfl) ?_
 refine sAx (z00 ?_)
 refine cBx ?_
 refine bR ?_
 refine sS rfl rfl rfl (z1s z0t Try.underlying34 rfl rfl rfl rfl rfl) ?_
 refine sS rfl rfl rfl ((z12 z0t Try.underlying34 rfl rfl rfl rfl rfl rfl)) ?_
 obtain ⟨x1, hx1, h⟩ := obind h
 refine sS rfl rfl rfl (z0b rfl zka rfl (.cons (Wk.refl _) (.cons (Wk.refl _) .nil)) ⟨(z0m a1), ⟨(z0m a0), trivial⟩⟩ (c_q1x a1 a0 x1 hx1) rfl) ?_
 refine sAx (z00 ?_)
 refine cBx ?_
 refine z0a ?_
 change ∃ xs, _ = some xs ∧ EndOk _ _ _ _
 obtain rfl := Option.some.inj h
 exact ⟨_, rfl, z0d (y := (BO x1)) (Wk.refl _) rfl ⟨rfl, rfl⟩⟩
theorem z31 (r_q16 : Typ → Typ → Option Bool) (c_q16 : ∀ (a0 : Typ) (a1 : Typ) r, r_q16 a0 a1 = some r → z0g Try.prog 66 [(z07 a0), (z07 a1)] (BO r)) (r_q0v : Typ → Typ → Option Bool) (c_q0v : ∀ (a0 : Typ) (a1 : Typ) r, r_q0v a0 a1 = some r → z0g Try.prog 62 [(z07 a0), (PV.pt 34 (z07 a1) 0)] (BO r)) (r_q1a : Typ → Typ → Option Bool) (c_q1a : ∀ (a0 : Typ) (a1 : Typ) r, r_q1a a0 a1 = some r → z0g Try.prog 65 [(z07 a0), (PV.pt 34 (z07 a1) 0)] (BO r)) (r_q05 : (List Typ) → Typ → Option Int) (c_q05 : ∀ (a0 : (List Typ)) (a1c0 : Typ) r, r_q05 a0 a1c0 = some r → z0g Try.prog 93 [(PV.sl none 34 18 (List.map z19 a0)), (PV.fn (.func 65) [] [(PV.pt 34 (z07 a1c0) 0)])] (I64 r)) (r_q03 : (List Typ) → Typ → Option Bool) (c_q03 : ∀ (a0 : (List Typ)) (a1c0 : Typ) r, r_q03 a0 a1c0 = some r → z0g Try.prog 63 [(PV.sl none 34 18 (List.map z19 a0)), (PV.fn (.func 65) [] [(PV.pt 34 (z07 a1c0) 0)])] (BO r)) (r_q1k : Typ → Typ → Option Bool) (c_q1k : ∀ (a0 : Typ) (a1 : Typ) r, r_q1k a0 a1 = some r → z0g Try.prog 64 [(z07 a0), (PV.pt 34 (z07 a1) 0)] (BO r)) (r_q06 : (List Typ) → Typ → Option Int) (c_q06 : ∀ (a0 : (List Typ)) (a1c0 : Typ) r, r_q06 a0 a1c0 = some r → z0g Try.prog 93 [(PV.sl none 34 18 (List.map z19 a0)), (PV.fn (.func 64) [] [(PV.pt 34 (z07 a1c0) 0)])] (I64 r)) (r_q02 : (List Typ) → Typ → Option Bool) (c_q02 : ∀ (a0 : (List Typ)) (a1c0 : Typ) r, r_q02 a0 a1c0 = some r → z0g Try.prog 63 [(PV.sl none 34 18 (List.map z19 a0)), (PV.fn (.func 64) [] [(PV.pt 34 (z07 a1c0) 0)])] (BO r)) (r_q1x : Typ → Typ → Option Bool) (c_q1x : ∀ (a0 : Typ) (a1 : Typ) r, r_q1x a0 a1 = some r → z0g Try.prog 35 [(z07 a0), (z07 a1)] (BO r)) (a0 : (List Typ)) (a1c0 : Typ) (r : Int) (h : zl3 r_q16 r_q0v r_q1a r_q05 r_q03 r_q1k r_q06 r_q02 r_q1x a0 a1c0 = some r) : z0g Try.prog 93 [(PV.sl none 34 18 (List.map z19 a0)), (PV.fn (.func 65) [] [(PV.pt 34 (z07 a1c0) 0)])] (I64 r) := by
 unfold zl3 at h
 refine z0w Try.func93 rfl Try.ntmps93 Try.results93 rfl (z10 ?_)
 change BW _ _ _ ⟨[(0, (PV.sl none 34 18 (List.map z19 a0))), (1, (PV.fn (.func 65) [] [(PV.pt 34 (z07 a1c0) 0)]))], [], _⟩ _
 refine bR ?_
 refine sAx (z00 ?_)
 refine cBx ?_
 refine z0o ?_
 refine bR ?_
 refine sMx ?_
 refine sS rfl rfl rfl (z17 Try.underlying30 rfl rfl) ?_
 refine sMx (z00 ?_)
 refine cBx ?_
 refine z0x ?_
 refine cBx ?_
 unfold zf5 at h
 refine z26 (σ := Nat) (fun i => [(0, (PV.sl none 34 18 (List.map z19 a0))), (1, (PV.fn (.func 65) [] [(PV.pt 34 (z07 a1c0) 0)])), (7, (I64 ((((a0).length : Nat) : Int)))), (8, (I64 (((i : Nat) : Int))))]) (fun i => []) 0 h ?_ ?_ ?_
 ·intro i; exact ⟨lbE rfl, ⟨(z01 (z0q z2h _)), ⟨(z01 (z4t (z4s (z0m a1c0) rfl))), ⟨(z01 rfl), ⟨(z01 rfl), trivial⟩⟩⟩⟩, trivial⟩
 ·exact ⟨.nil, (sC rfl (sC rfl (sC rfl (sC rfl z09))))⟩
 ·rintro g1_f s1 h; replace h : z68 r_q1a a0 a1c0 (fun y0 => g1_f y0) s1 = some r := h; unfold z68 at h
  change BW _ _ _ ⟨[(0, (PV.sl none 34 18 (List.map z19 a0))), (1, (PV.fn (.func 65) [] [(PV.pt 34 (z07 a1c0) 0)])), (7, (I64 ((((a0).length : Nat) : Int)))), (8, (I64 (((s1 : Nat) : Int))))], [], _⟩ _
  refine bR ?_
  refine sS rfl rfl rfl ((z06 rfl rfl rfl rfl).cast (y := (BO ((decide (((s1 : Nat) : Int) < (((a0).length : Nat) : Int)))))) rfl rfl) (z00 ?_)
  refine cBx ?_
  refine z0o ?_
  refine z2z (t := 0) rfl fun hb3 => ?_
  try rw [List.length_map] at hb3
  refine z05 rfl ?_ ?_
  ·intro hc2; replace h := z02 hc2 h
   have hc2_ := of_decide_eq_true hc2
   refine z0l ?_
   refine cBx ?_
   refine z0o ?_
   refine z0x ?_
   refine cBx ?_
   refine bR ?_
   refine sMx ?_
   refine sAx (z00 ?_)
   refine cBx ?_
   refine bR ?_
   refine sMx ?_
   refine sMx ?_
   refine sMx ?_
   obtain ⟨x4, hx4, h⟩ := obind h
   refine sS rfl rfl rfl (z1i (i := s1) Try.underlying30 z0t rfl rfl rfl hx4 (z2m _)) ?_
   refine sS rfl rfl rfl (z1s z0t Try.underlying34 rfl rfl rfl rfl rfl) ?_
   obtain ⟨x5, hx5, h⟩ := obind h
   refine sS rfl rfl rfl (z6k rfl rfl Z4z rfl (.cons (Wk.refl _) (.cons (Wk.refl _) .nil)) ⟨(z0m x4), ⟨(z0m a1c0), trivial⟩⟩ (c_q1a x4 a1c0 x5 hx5) rfl) (z00 ?_)
   refine cBx ?_
   refine z05 rfl ?_ ?_
   ·intro hc6; replace h := z02 hc6 h
    refine bR ?_
    refine sMx ?_
    refine sAx (z00 ?_)
    refine cBx ?_
    refine z0a ?_
    change ∃ xs, _ = some xs ∧ EndOk _ _ _ _
    obtain rfl := Option.some.inj h
    exact ⟨_, rfl, z0d (y := (I64 (((s1 : Nat) : Int)))) (Wk.refl _) rfl ⟨rfl, rfl⟩⟩
   ·intro hc6; replace h := z03 hc6 h
    refine z0l ?_
    refine cBx ?_
    refine z0s ?_
    refine sS rfl rfl rfl (z1y (k := s1) (c := 1) rfl rfl rfl (by omega)) ?_
    refine sMx (z00 ?_)
    exact ⟨rfl, (s1 + 1), h, ⟨.nil, (sC rfl (sC rfl (sC rfl (sC rfl z09))))⟩⟩
  ·intro hc2; replace h := z03 hc2 h
   refine z22 ?_
   refine cBx ?_
   refine bR ?_
   refine sAx (z00 ?_)
   refine cBx ?_
   refine z0a ?_
   change ∃ xs, _ = some xs ∧ EndOk _ _ _ _
   obtain rfl := Option.some.inj h
   exact ⟨_, rfl, z0d (y := (I64 ((-1)))) (Wk.refl _) rfl ⟨rfl, rfl⟩⟩
theorem z2s (r_q16 : Typ → Typ → Option Bool) (c_q16 : ∀ (a0 : Typ) (a1 : Typ) r, r_q16 a0 a1 = some r → z0g Try.prog 66 [(z07 a0), (z07 a1)] (BO r)) (r_q0v : Typ → Typ → Option Bool) (c_q0v : ∀ (a0 : Typ) (a1 : Typ) r, r_q0v a0 a1 = some r → z0g Try.prog 62 [(z07 a0), (PV.pt 34 (z07 a1) 0)] (BO r)) (r_q1a : Typ → Typ → Option Bool) (c_q1a : ∀ (a0 : Typ) (a1 : Typ) r, r_q1a a0 a1 = some r → z0g Try.prog 65 [(z07 a0), (PV.pt 34 (z07 a1) 0)] (BO r)) (r_q05 : (List Typ) → Typ → Option Int) (c_q05 : ∀ (a0 : (List Typ)) (a1c0 : Typ) r, r_q05 a0 a1c0 = some r → z0g Try.prog 93 [(PV.sl none 34 18 (List.map z19 a0)), (PV.fn (.func 65) [] [(PV.pt 34 (z07 a1c0) 0)])] (I64 r)) (r_q03 : (List Typ) → Typ → Option Bool) (c_q03 : ∀ (a0 : (List Typ)) (a1c0 : Typ) r, r_q03 a0 a1c0 = some r → z0g Try.prog 63 [(PV.sl none 34 18 (List.map z19 a0)), (PV.fn (.func 65) [] [(PV.pt 34 (z07 a1c0) 0)])] (BO r)) (r_q1k : Typ → Typ → Option Bool) (c_q1k : ∀ (a0 : Typ) (a1 : Typ) r, r_q1k a0 a1 = some r → z0g Try.prog 64 [(z07 a0), (PV.pt 34 (z07 a1) 0)] (BO r)) (r_q06 : (List Typ) → Typ → Option Int) (c_q06 : ∀ (a0 : (List Typ)) (a1c0 : Typ) r, r_q06 a0 a1c0 = some r → z0g Try.prog 93 [(PV.sl none 34 18 (List.map z19 a0)), (PV.fn (.func 64) [] [(PV.pt 34 (z07 a1c0) 0)])] (I64 r)) (r_q02 : (List Typ) → Typ → Option Bool) (c_q02 : ∀ (a0 : (List Typ)) (a1c0 : Typ) r, r_q02 a0 a1c0 = some r → z0g Try.prog 63 [(PV.sl none 34 18 (List.map z19 a0)), (PV.fn (.func 64) [] [(PV.pt 34 (z07 a1c0) 0)])] (BO r)) (r_q1x : Typ → Typ → Option Bool) (c_q1x : ∀ (a0 : Typ) (a1 : Typ) r, r_q1x a0 a1 = some r → z0g Try.prog 35 [(z07 a0), (z07 a1)] (BO r)) (a0 : (List Typ)) (a1c0 : Typ) (r : Bool) (h : zl4 r_q16 r_q0v r_q1a r_q05 r_q03 r_q1k r_q06 r_q02 r_q1x a0 a1c0 = some r) : z0g Try.prog 63 [(PV.sl none 34 18 (List.map z19 a0)), (PV.fn (.func 65) [] [(PV.pt 34 (z07 a1c0) 0)])] (BO r) := by
 unfold zl4 at h
 refine z0w Try.func63 rfl Try.ntmps63 Try.results63 rfl (z10 ?_)
 change BW _ _ _ ⟨[(0, (PV.sl none 34 18 (List.map z19 a0))), (1, (PV.fn (.func 65) [] [(PV.pt 34 (z07 a1c0) 0)]))], [], _⟩ _
 refine bR ?_
 refine sAx (z00 ?_)
 refine cBx ?_
 refine bR ?_
 refine sMx ?_
 refine sMx ?_
 obtain ⟨x1, hx1, h⟩ := obind h
 refine sS rfl rfl rfl (z0b rfl Z1w rfl (.cons (Wk.refl _) (.cons (Wk.refl _) .nil)) ⟨(z0q z2h a0), ⟨(z4t (z4s (z0m a1c0) rfl)), trivial⟩⟩ (c_q05 a0 a1c0 x1 hx1) rfl) ?_
 refine sS rfl rfl rfl ((z06 rfl rfl rfl rfl).cast (y := (BO ((decide (x1 ≥ 0))))) rfl rfl) ?_
 refine sAx (z00 ?_)
 refine cBx ?_
 refine z0a ?_
 change ∃ xs, _ = some xs ∧ EndOk _ _ _ _
 obtain rfl := Option.some.inj h
 exact ⟨_, rfl, z0d (y := (BO ((decide (x1 ≥ 0))))) (Wk.refl _) rfl ⟨rfl, rfl⟩⟩
theorem zfu (r_q16 : Typ → Typ → Option Bool) (c_q16 : ∀ (a0 : Typ) (a1 : Typ) r, r_q16 a0 a1 = some r → z0g Try.prog 66 [(z07 a0), (z07 a1)] (BO r)) (r_q0v : Typ → Typ → Option Bool) (c_q0v : ∀ (a0 : Typ) (a1 : Typ) r, r_q0v a0 a1 = some r → z0g Try.prog 62 [(z07 a0), (PV.pt 34 (z07 a1) 0)] (BO r)) (r_q1a : Typ → Typ → Option Bool) (c_q1a : ∀ (a0 : Typ) (a1 : Typ) r, r_q1a a0 a1 = some r → z0g Try.prog 65 [(z07 a0), (PV.pt 34 (z07 a1) 0)] (BO r)) (r_q05 : (List Typ) → Typ → Option Int) (c_q05 : ∀ (a0 : (List Typ)) (a1c0 : Typ) r, r_q05 a0 a1c0 = some r → z0g Try.prog 93 [(PV.sl none 34 18 (List.map z19 a0)), (PV.fn (.func 65) [] [(PV.pt 34 (z07 a1c0) 0)])] (I64 r)) (r_q03 : (List Typ) → Typ → Option Bool) (c_q03 : ∀ (a0 : (List Typ)) (a1c0 : Typ) r, r_q03 a0 a1c0 = some r → z0g Try.prog 63 [(PV.sl none 34 18 (List.map z19 a0)), (PV.fn (.func 65) [] [(PV.pt 34 (z07 a1c0) 0)])] (BO r)) (r_q1k : Typ → Typ → Option Bool) (c_q1k : ∀ (a0 : Typ) (a1 : Typ) r, r_q1k a0 a1 = some r → z0g Try.prog 64 [(z07 a0), (PV.pt 34 (z07 a1) 0)] (BO r)) (r_q06 : (List Typ) → Typ → Option Int) (c_q06 : ∀ (a0 : (List Typ)) (a1c0 : Typ) r, r_q06 a0 a1c0 = some r → z0g Try.prog 93 [(PV.sl none 34 18 (List.map z19 a0)), (PV.fn (.func 64) [] [(PV.pt 34 (z07 a1c0) 0)])] (I64 r)) (r_q02 : (List Typ) → Typ → Option Bool) (c_q02 : ∀ (a0 : (List Typ)) (a1c0 : Typ) r, r_q02 a0 a1c0 = some r → z0g Try.prog 63 [(PV.sl none 34 18 (List.map z19 a0)), (PV.fn (.func 64) [] [(PV.pt 34 (z07 a1c0) 0)])] (BO r)) (r_q1x : Typ → Typ → Option Bool) (c_q1x : ∀ (a0 : Typ) (a1 : Typ) r, r_q1x a0 a1 = some r → z0g Try.prog 35 [(z07 a0), (z07 a1)] (BO r)) (a0 : Typ) (a1 : Typ) (r : Bool) (h : zkm r_q16 r_q0v r_q1a r_q05 r_q03 r_q1k r_q06 r_q02 r_q1x a0 a1 = some r) : z0g Try.prog 64 [(z07 a0), (PV.pt 34 (z07 a1) 0)] (BO r) := by
 unfold zkm at h
 refine z0w Try.func64 rfl Try.ntmps64 Try.results64 rfl (z10 ?_)
 change BW _ _ _ ⟨[(0, (z07 a0)), (1, (PV.pt 34 (z07 a1) 0))], [], _⟩ _
 refine bR ?_
 refine sS rfl rfl rfl (z1x rfl rfl rfl) ?_
 refine sAx (z00 ?_)
 refine cBx ?_
 refine bR ?_
 refine sS rfl rfl rfl ((z12 z0t Try.underlying34 rfl rfl rfl rfl rfl rfl)) ?_
 refine sS rfl rfl rfl (z1s z0t Try.underlying34 rfl rfl rfl rfl rfl) ?_
 obtain ⟨x1, hx1, h⟩ := obind h
 refine sS rfl rfl rfl (z0b rfl zka rfl (.cons (Wk.refl _) (.cons (Wk.refl _) .nil)) ⟨(z0m a0), ⟨(z0m a1), trivial⟩⟩ (c_q1x a0 a1 x1 hx1) rfl) ?_
 refine sS rfl rfl rfl (z2a rfl rfl) ?_
 refine sAx (z00 ?_)
 refine cBx ?_
 refine z0a ?_
 change ∃ xs, _ = some xs ∧ EndOk _ _ _ _
 obtain rfl := Option.some.inj h
 exact ⟨_, rfl, z0d (y := (BO ((!x1)))) (Wk.refl _) rfl ⟨rfl, rfl⟩⟩
theorem z32 (r_q16 : Typ → Typ → Option Bool) (c_q16 : ∀ (a0 : Typ) (a1 : Typ) r, r_q16 a0 a1 = some r → z0g Try.prog 66 [(z07 a0), (z07 a1)] (BO r)) (r_q0v : Typ → Typ → Option Bool) (c_q0v : ∀ (a0 : Typ) (a1 : Typ) r, r_q0v a0 a1 = some r → z0g Try.prog 62 [(z07 a0), (PV.pt 34 (z07 a1) 0)] (BO r)) (r_q1a : Typ → Typ → Option Bool) (c_q1a : ∀ (a0 : Typ) (a1 : Typ) r, r_q1a a0 a1 = some r → z0g Try.prog 65 [(z07 a0), (PV.pt 34 (z07 a1) 0)] (BO r)) (r_q05 : (List Typ) → Typ → Option Int) (c_q05 : ∀ (a0 : (List Typ)) (a1c0 : Typ) r, r_q05 a0 a1c0 = some r → z0g Try.prog 93 [(PV.sl none 34 18 (List.map z19 a0)), (PV.fn (.func 65) [] [(PV.pt 34 (z07 a1c0) 0)])] (I64 r)) (r_q03 : (List Typ) → Typ → Option Bool) (c_q03 : ∀ (a0 : (List Typ)) (a1c0 : Typ) r, r_q03 a0 a1c0 = some r → z0g Try.prog 63 [(PV.sl none 34 18 (List.map z19 a0)), (PV.fn (.func 65) [] [(PV.pt 34 (z07 a1c0) 0)])] (BO r)) (r_q1k : Typ → Typ → Option Bool) (c_q1k : ∀ (a0 : Typ) (a1 : Typ) r, r_q1k a0 a1 = some r → z0g Try.prog 64 [(z07 a0), (PV.pt 34 (z07 a1) 0)] (BO r)) (r_q06 : (List Typ) → Typ → Option Int) (c_q06 : ∀ (a0 : (List Typ)) (a1c0 : Typ) r, r_q06 a0 a1c0 = some r → z0g Try.prog 93 [(PV.sl none 34 18 (List.map z19 a0)), (PV.fn (.func 64) [] [(PV.pt 34 (z07 a1c0) 0)])] (I64 r)) (r_q02 : (List Typ) → Typ → Option Bool) (c_q02 : ∀ (a0 : (List Typ)) (a1c0 : Typ) r, r_q02 a0 a1c0 = some r → z0g Try.prog 63 [(PV.sl none 34 18 (List.map z19 a0)), (PV.fn (.func 64) [] [(PV.pt 34 (z07 a1c0) 0)])] (BO r)) (r_q1x : Typ → Typ → Option Bool) (c_q1x : ∀ (a0 : Typ) (a1 : Typ) r, r_q1x a0 a1 = some r → z0g Try.prog 35 [(z07 a0), (z07 a1)] (BO r)) (a0 : (List Typ)) (a1c0 : Typ) (r : Int) (h : zl2 r_q16 r_q0v r_q1a r_q05 r_q03 r_q1k r_q06 r_q02 r_q1x a0 a1c0 = some r) : z0g Try.prog 93 [(PV.sl none 34 18 (List.map z19 a0)), (PV.fn (.func 64) [] [(PV.pt 34 (z07 a1c0) 0)])] (I64 r) := by
 unfold zl2 at h
 refine z0w Try.func93 rfl Try.ntmps93 Try.results93 rfl (z10 ?_)
 change BW _ _ _ ⟨[(0, (PV.sl none 34 18 (List.map z19 a0))), (1, (PV.fn (.func 64) [] [(PV.pt 34 (z07 a1c0) 0)]))], [], _⟩ _
 refine bR ?_
 refine sAx (z00 ?_)
 refine cBx ?_
 refine z0o ?_
 refine bR ?_
 refine sMx ?_
 refine sS rfl rfl rfl (z17 Try.underlying30 rfl rfl) ?_
 refine sMx (z00 ?_)
 refine cBx ?_
 refine z0x ?_
 refine cBx ?_
 unfold zf4 at h
 refine z26 (σ := Nat) (fun i => [(0, (PV.sl none 34 18 (List.map z19 a0))), (1, (PV.fn (.func 64) [] [(PV.pt 34 (z07 a1c0) 0)])), (7, (I64 ((((a0).length : Nat) : Int)))), (8, (I64 (((i : Nat) : Int))))]) (fun i => []) 0 h ?_ ?_ ?_
 ·intro i; exact ⟨lbE rfl, ⟨(z01 (z0q z2h _)), ⟨(z01 (z4t (z4s (z0m a1c0) rfl))), ⟨(z01 rfl), ⟨(z01 rfl), trivial⟩⟩⟩⟩, trivial⟩
 ·exact ⟨.nil, (sC rfl (sC rfl (sC rfl (sC rfl z09))))⟩
 ·rintro g1_f s1 h; replace h : z67 r_q1k a0 a1c0 (fun y0 => g1_f y0) s1 = some r := h; unfold z67 at h
  change BW _ _ _ ⟨[(0, (PV.sl none 34 18 (List.map z19 a0))), (1, (PV.fn (.func 64) [] [(PV.pt 34 (z07 a1c0) 0)])), (7, (I64 ((((a0).length : Nat) : Int)))), (8, (I64 (((s1 : Nat) : Int))))], [], _⟩ _
  refine bR ?_
  refine sS rfl rfl rfl ((z06 rfl rfl rfl rfl).cast (y := (BO ((decide (((s1 : Nat) : Int) < (((a0).length : Nat) : Int)))))) rfl rfl) (z00 ?_)
  refine cBx ?_
  refine z0o ?_
  refine z2z (t := 0) rfl fun hb3 => ?_
  try rw [List.length_map] at hb3
  refine z05 rfl ?_ ?_
  ·intro hc2; replace h := z02 hc2 h
   have hc2_ := of_decide_eq_true hc2
   refine z0l ?_
   refine cBx ?_
   refine z0o ?_
   refine z0x ?_
   refine cBx ?_
   refine bR ?_
   refine sMx ?_
   refine sAx (z00 ?_)
   refine cBx ?_
   refine bR ?_
   refine sMx ?_
   refine sMx ?_
   refine sMx ?_
   obtain ⟨x4, hx4, h⟩ := obind h
   refine sS rfl rfl rfl (z1i (i := s1) Try.underlying30 z0t rfl rfl rfl hx4 (z2m _)) ?_
   refine sS rfl rfl rfl (z1s z0t Try.underlying34 rfl rfl rfl rfl rfl) ?_
   obtain ⟨x5, hx5, h⟩ := obind h
   refine sS rfl rfl rfl (z6k rfl rfl Z50 rfl (.cons (Wk.refl _) (.cons (Wk.refl _) .nil)) ⟨(z0m x4), ⟨(z0m a1c0), trivial⟩⟩ (c_q1k x4 a1c0 x5 hx5) rfl) (z00 ?_)
   refine cBx ?_
   refine z05 rfl ?_ ?_
   ·intro hc6; replace h := z02 hc6 h
    refine bR ?_
    refine sMx ?_
    refine sAx (z00 ?_)
    refine cBx ?_
    refine z0a ?_
    change ∃ xs, _ = some xs ∧ EndOk _ _ _ _
    obtain rfl := Option.some.inj h
    exact ⟨_, rfl, z0d (y := (I64 (((s1 : Nat) : Int)))) (Wk.refl _) rfl ⟨rfl, rfl⟩⟩
   ·intro hc6; replace h := z03 hc6 h
    refine z0l ?_
    refine cBx ?_
    refine z0s ?_
    refine sS rfl rfl rfl (z1y (k := s1) (c := 1) rfl rfl rfl (by omega)) ?_
    refine sMx (z00 ?_)
    exact ⟨rfl, (s1 + 1), h, ⟨.nil, (sC rfl (sC rfl (sC rfl (sC rfl z09))))⟩⟩
  ·intro hc2; replace h := z03 hc2 h
   refine z22 ?_
   refine cBx ?_
   refine bR ?_
   refine sAx (z00 ?_)
   refine cBx ?_
   refine z0a ?_
   change ∃ xs, _ = some xs ∧ EndOk _ _ _ _
   obtain rfl := Option.some.inj h
   exact ⟨_, rfl, z0d (y := (I64 ((-1)))) (Wk.refl _) rfl ⟨rfl, rfl⟩⟩
theorem z2t (r_q16 : Typ → Typ → Option Bool) (c_q16 : ∀ (a0 : Typ) (a1 : Typ) r, r_q16 a0 a1 = some r → z0g Try.prog 66 [(z07 a0), (z07 a1)] (BO r)) (r_q0v : Typ → Typ → Option Bool) (c_q0v : ∀ (a0 : Typ) (a1 : Typ) r, r_q0v a0 a1 = some r → z0g Try.prog 62 [(z07 a0), (PV.pt 34 (z07 a1) 0)] (BO r)) (r_q1a : Typ → Typ → Option Bool) (c_q1a : ∀ (a0 : Typ) (a1 : Typ) r, r_q1a a0 a1 = some r → z0g Try.prog 65 [(z07 a0), (PV.pt 34 (z07 a1) 0)] (BO r)) (r_q05 : (List Typ) → Typ → Option Int) (c_q05 : ∀ (a0 : (List Typ)) (a1c0 : Typ) r, r_q05 a0 a1c0 = some r → z0g Try.prog 93 [(PV.sl none 34 18 (List.map z19 a0)), (PV.fn (.func 65) [] [(PV.pt 34 (z07 a1c0) 0)])] (I64 r)) (r_q03 : (List Typ) → Typ → Option Bool) (c_q03 : ∀ (a0 : (List Typ)) (a1c0 : Typ) r, r_q03 a0 a1c0 = some r → z0g Try.prog 63 [(PV.sl none 34 18 (List.map z19 a0)), (PV.fn (.func 65) [] [(PV.pt 34 (z07 a1c0) 0)])] (BO r)) (r_q1k : Typ → Typ → Option Bool) (c_q1k : ∀ (a0 : Typ) (a1 : Typ) r, r_q1k a0 a1 = some r → z0g Try.prog 64 [(z07 a0), (PV.pt 34 (z07 a1) 0)] (BO r)) (r_q06 : (List Typ) → Typ → Option Int) (c_q06 : ∀ (a0 : (List Typ)) (a1c0 : Typ) r, r_q06 a0 a1c0 = some r → z0g Try.prog 93 [(PV.sl none 34 18 (List.map z19 a0)), (PV.fn (.func 64) [] [(PV.pt 34 (z07 a1c0) 0)])] (I64 r)) (r_q02 : (List Typ) → Typ → Option Bool) (c_q02 : ∀ (a0 : (List Typ)) (a1c0 : Typ) r, r_q02 a0 a1c0 = some r → z0g Try.prog 63 [(PV.sl none 34 18 (List.map z19 a0)), (PV.fn (.func 64) [] [(PV.pt 34 (z07 a1c0) 0)])] (BO r)) (r_q1x : Typ → Typ → Option Bool) (c_q1x : ∀ (a0 : Typ) (a1 : Typ) r, r_q1x a0 a1 = some r → z0g Try.prog 35 [(z07 a0), (z07 a1)] (BO r)) (a0 : (List Typ)) (a1c0 : Typ) (r : Bool) (h : zl5 r_q16 r_q0v r_q1a r_q05 r_q03 r_q1k r_q06 r_q02 r_q1x a0 a1c0 = some r) : z0g Try.prog 63 [(PV.sl none 34 18 (List.map z19 a0)), (PV.fn (.func 64) [] [(PV.pt 34 (z07 a1c0) 0)])] (BO r) := by
 unfold zl5 at h
 refine z0w Try.func63 rfl Try.ntmps63 Try.results63 rfl (z10 ?_)
 change BW _ _ _ ⟨[(0, (PV.sl none 34 18 (List.map z19 a0))), (1, (PV.fn (.func 64) [] [(PV.pt 34 (z07 a1c0) 0)]))], [], _⟩ _
 refine bR ?_
 refine sAx (z00 ?_)
 refine cBx ?_
 refine bR ?_
 refine sMx ?_
 refine sMx ?_
 obtain ⟨x1, hx1, h⟩ := obind h
 refine sS rfl rfl rfl (z0b rfl Z1w rfl (.cons (Wk.refl _) (.cons (Wk.refl _) .nil)) ⟨(z0q z2h a0), ⟨(z4t (z4s (z0m a1c0) rfl)), trivial⟩⟩ (c_q06 a0 a1c0 x1 hx1) rfl) ?_
 refine sS rfl rfl rfl ((z06 rfl rfl rfl rfl).cast (y := (BO ((decide (x1 ≥ 0))))) rfl rfl) ?_
 refine sAx (z00 ?_)
 refine cBx ?_
 refine z0a ?_
 change ∃ xs, _ = some xs ∧ EndOk _ _ _ _
 obtain rfl := Option.some.inj h
 exact ⟨_, rfl, z0d (y := (BO ((decide (x1 ≥ 0))))) (Wk.refl _) rfl ⟨rfl, rfl⟩⟩
theorem zje (r_q16 : Typ → Typ → Option Bool) (c_q16 : ∀ (a0 : Typ) (a1 : Typ) r, r_q16 a0 a1 = some r → z0g Try.prog 66 [(z07 a0), (z07 a1)] (BO r)) (r_q0v : Typ → Typ → Option Bool) (c_q0v : ∀ (a0 : Typ) (a1 : Typ) r, r_q0v a0 a1 = some r → z0g Try.prog 62 [(z07 a0), (PV.pt 34 (z07 a1) 0)] (BO r)) (r_q1a : Typ → Typ → Option Bool) (c_q1a : ∀ (a0 : Typ) (a1 : Typ) r, r_q1a a0 a1 = some r → z0g Try.prog 65 [(z07 a0), (PV.pt 34 (z07 a1) 0)] (BO r)) (r_q05 : (List Typ) → Typ → Option Int) (c_q05 : ∀ (a0 : (List Typ)) (a1c0 : Typ) r, r_q05 a0 a1c0 = some r → z0g Try.prog 93 [(PV.sl none 34 18 (List.map z19 a0)), (PV.fn (.func 65) [] [(PV.pt 34 (z07 a1c0) 0)])] (I64 r)) (r_q03 : (List Typ) → Typ → Option Bool) (c_q03 : ∀ (a0 : (List Typ)) (a1c0 : Typ) r, r_q03 a0 a1c0 = some r → z0g Try.prog 63 [(PV.sl none 34 18 (List.map z19 a0)), (PV.fn (.func 65) [] [(PV.pt 34 (z07 a1c0) 0)])] (BO r)) (r_q1k : Typ → Typ → Option Bool) (c_q1k : ∀ (a0 : Typ) (a1 : Typ) r, r_q1k a0 a1 = some r → z0g Try.prog 64 [(z07 a0), (PV.pt 34 (z07 a1) 0)] (BO r)) (r_q06 : (List Typ) → Typ → Option Int) (c_q06 : ∀ (a0 : (List Typ)) (a1c0 : Typ) r, r_q06 a0 a1c0 = some r → z0g Try.prog 93 [(PV.sl none 34 18 (List.map z19 a0)), (PV.fn (.func 64) [] [(PV.pt 34 (z07 a1c0) 0)])] (I64 r)) (r_q02 : (List Typ) → Typ → Option Bool) (c_q02 : ∀ (a0 : (List Typ)) (a1c0 : Typ) r, r_q02 a0 a1c0 = some r → z0g Try.prog 63 [(PV.sl none 34 18 (List.map z19 a0)), (PV.fn (.func 64) [] [(PV.pt 34 (z07 a1c0) 0)])] (BO r)) (r_q1x : Typ → Typ → Option Bool) (c_q1x : ∀ (a0 : Typ) (a1 : Typ) r, r_q1x a0 a1 = some r → z0g Try.prog 35 [(z07 a0), (z07 a1)] (BO r)) (a0 : Typ) (a1 : Typ) (r : Bool) (h : zkk r_q16 r_q0v r_q1a r_q05 r_q03 r_q1k r_q06 r_q02 r_q1x a0 a1 = some r) : z0g Try.prog 35 [(z07 a0), (z07 a1)] (BO r) := by
 unfold zkk at h
 refine z0w Try.func35 rfl Try.ntmps35 Try.results35 rfl (z10 ?_)
 change BW _ _ _ ⟨[(0, (z07 a0)), (1, (z07 a1))], [], _⟩ _
 refine bR ?_
 refine sS rfl rfl rfl (z1x rfl rfl rfl) ?_
 refine sS rfl rfl rfl (z1x rfl rfl rfl) ?_
 refine sAx (z00 ?_)
 refine cBx ?_
 refine z0o ?_
 refine zbe 0 2 (y := (PV.pt 34 (z07 a0) 0)) rfl rfl (Wk.pt (x := .agg [(I64 a0.kind), (I64 a0.of), (I64 ((a0.only).kind)), (BO ((a0.only).bool)), (I64 ((a0.only).int)), (PV.v (.float .f64 (a0.only).float)), (z0f (a0.only).text), (PV.sl none 5 1 (List.map ofB (a0.only).bytes)), (PV.v (.int .u64 (a0.only).ref)), (PV.sl none 29 11 (List.map z1k (a0.only).list)), (PV.sl none 101 12 (List.map z18 (a0.only).fields)), (z0f (a0.only).cls), (I64 ((a0.only).ver)), (PV.sl none 34 18 (List.map z19 a0.parts)), (PV.sl none 9 1 (List.map z0f a0.names)), (PV.sl none 4 1 (List.map z28 a0.lacks)), (BO a0.opn), (z0f a0.cls)]) (y := (z07 a0)) (.cons (Wk.refl _) (.cons (Wk.refl _) (.cons (Wk.refl _) (.cons (Wk.refl _) (.cons (Wk.refl _) (.cons (Wk.refl _) (.cons (Wk.refl _) (.cons (Wk.refl _) (.cons (Wk.refl _) (.cons (Wk.refl _) (.cons (Wk.refl _) (.cons (Wk.refl _) (.cons (Wk.refl _) (.cons (Wk.refl _) (.cons (Wk.refl _) (.cons (Wk.refl _) (.cons (Wk.refl _) (.cons (Wk.refl _) .nil))))))))))))))))))) ?_
 refine zbe 1 3 (y := (PV.pt 34 (z07 a1) 0)) rfl rfl (Wk.pt (x := .agg [(I64 a1.kind), (I64 a1.of), (I64 ((a1.only).kind)), (BO ((a1.only).bool)), (I64 ((a1.only).int)), (PV.v (.float .f64 (a1.only).float)), (z0f (a1.only).text), (PV.sl none 5 1 (List.map ofB (a1.only).bytes)), (PV.v (.int .u64 (a1.only).ref)), (PV.sl none 29 11 (List.map z1k (a1.only).list)), (PV.sl none 101 12 (List.map z18 (a1.only).fields)), (z0f (a1.only).cls), (I64 ((a1.only).ver)), (PV.sl none 34 18 (List.map z19 a1.parts)), (PV.sl none 9 1 (List.map z0f a1.names)), (PV.sl none 4 1 (List.map z28 a1.lacks)), (BO a1.opn), (z0f a1.cls)]) (y := (z07 a1)) (.cons (Wk.refl _) (.cons (Wk.refl _) (.cons (Wk.refl _) (.cons (Wk.refl _) (.cons (Wk.refl _) (.cons (Wk.refl _) (.cons (Wk.refl _) (.cons (Wk.refl _) (.cons (Wk.refl _) (.cons (Wk.refl _) (.cons (Wk.refl _) (.cons (Wk.refl _) (.cons (Wk.refl _) (.cons (Wk.refl _) (.cons (Wk.refl _) (.cons (Wk.refl _) (.cons (Wk.refl _) (.cons (Wk.refl _) .nil))))))))))))))))))) ?_
 refine z0s ?_
 refine sAx (z00 ?_)
 refine cBx ?_
 refine z0o ?_
 refine z0x ?_
 refine cBx ?_
 refine z1n (ι := Bool) (fun i => zbh r_q16 r_q0v r_q03 r_q02 a0 a1 i = some r) (fun i => [(2, (PV.pt 34 (z07 a0) 0)), (3, (PV.pt 34 (z07 a1) 0)), (5, (PV.fn (.func 61) [] [])), (10, (BO i))]) (fun i => []) ?_ ?_ ?_
 ·intro i; exact ⟨lbE rfl, ⟨(z01 (z0m _)), ⟨(z01 (z0m _)), ⟨(z01 rfl), ⟨(z01 rfl), trivial⟩⟩⟩⟩, trivial⟩
 ·rintro s1 h; replace h : zbh r_q16 r_q0v r_q03 r_q02 a0 a1 s1 = some r := h; unfold zbh at h
  change BW _ _ _ ⟨[(2, (PV.pt 34 (z07 a0) 0)), (3, (PV.pt 34 (z07 a1) 0)), (5, (PV.fn (.func 61) [] [])), (10, (BO s1))], [], _⟩ _
  refine z05 rfl ?_ ?_
  ·intro hc2; replace h := z02 hc2 h
   refine bR ?_
   refine sAx (z00 ?_)
   refine cBx ?_
   refine z0a ?_
   change ∃ xs, _ = some xs ∧ EndOk _ _ _ _
   obtain rfl := Option.some.inj h
   exact ⟨_, rfl, z0d (y := (BO true)) (Wk.refl _) rfl ⟨rfl, rfl⟩⟩
  ·intro hc2; replace h := z03 hc2 h
   refine bR ?_
   refine sS rfl rfl rfl (z1a z1f (i := 0) rfl rfl rfl) ?_
   refine sS rfl rfl rfl (z13 (y := (I64 a0.kind)) Try.underlying3 rfl rfl rfl rfl) ?_
   refine sS rfl rfl rfl ((z06 rfl rfl rfl rfl).cast (y := (BO ((a0.kind == 7)))) rfl rfl) ?_
   refine sAx (z00 ?_)
   refine cBx ?_
   refine z05 rfl ?_ ?_
   ·intro hc3; replace h := z02 hc3 h
    refine bR ?_
    refine sS rfl rfl rfl (z1a z1f (i := 3) rfl rfl rfl) ?_
    refine sS rfl rfl rfl (z13 (y := (PV.sl none 34 18 (List.map z19 a0.parts))) Try.underlying30 rfl rfl rfl rfl) ?_
    refine sS rfl rfl rfl (zlo rfl rfl rfl) ?_
    obtain ⟨x4, hx4, h⟩ := obind h
    refine sS rfl rfl rfl (z0b rfl Z22 rfl (.cons (Wk.refl _) (.cons (Wk.refl _) .nil)) ⟨(z0q z2h a0.parts), ⟨(z4t (z4s (z0m a1) rfl)), trivial⟩⟩ (c_q02 a0.parts a1 x4 hx4) rfl) ?_
    refine sS rfl rfl rfl (z2a rfl rfl) ?_
    refine sAx (z00 ?_)
    refine cBx ?_
    refine z0a ?_
    change ∃ xs, _ = some xs ∧ EndOk _ _ _ _
    obtain rfl := Option.some.inj h
    exact ⟨_, rfl, z0d (y := (BO ((!x4)))) (Wk.refl _) rfl ⟨rfl, rfl⟩⟩
   ·intro hc3; replace h := z03 hc3 h
    refine bR ?_
    refine sS rfl rfl rfl (z1a z1f (i := 0) rfl rfl rfl) ?_
    refine sS rfl rfl rfl (z13 (y := (I64 a1.kind)) Try.underlying3 rfl rfl rfl rfl) ?_
    refine sS rfl rfl rfl ((z06 rfl rfl rfl rfl).cast (y := (BO ((a1.kind == 7)))) rfl rfl) ?_
    refine sAx (z00 ?_)
    refine cBx ?_
    refine z05 rfl ?_ ?_
    ·intro hc5; replace h := z02 hc5 h
     refine bR ?_
     refine sS rfl rfl rfl (z1a z1f (i := 3) rfl rfl rfl) ?_
     refine sS rfl rfl rfl (z13 (y := (PV.sl none 34 18 (List.map z19 a1.parts))) Try.underlying30 rfl rfl rfl rfl) ?_
     refine sS rfl rfl rfl (zlo rfl rfl rfl) ?_
     obtain ⟨x6, hx6, h⟩ := obind h
     refine sS rfl rfl rfl (z0b rfl Z22 rfl (.cons (Wk.refl _) (.cons (Wk.refl _) .nil)) ⟨(z0q z2h a1.parts), ⟨(z4t (z4s (z0m a0) rfl)), trivial⟩⟩ (c_q03 a1.parts a0 x6 hx6) rfl) ?_
     refine sAx (z00 ?_)
     refine cBx ?_
     refine z0a ?_
     change ∃ xs, _ = some xs ∧ EndOk _ _ _ _
     obtain rfl := Option.some.inj h
     exact ⟨_, rfl, z0d (y := (BO x6)) (Wk.refl _) rfl ⟨rfl, rfl⟩⟩
    ·intro hc5; replace h := z03 hc5 h
     refine bR ?_
     refine sS rfl rfl rfl (z1a z1f (i := 0) rfl rfl rfl) ?_
     refine sS rfl rfl rfl (z13 (y := (I64 a1.kind)) Try.underlying3 rfl rfl rfl rfl) ?_
     refine sS rfl rfl rfl ((z06 rfl rfl rfl rfl).cast (y := (BO ((a1.kind == 2)))) rfl rfl) ?_
     refine sAx (z00 ?_)
     refine cBx ?_
     refine z05 rfl ?_ ?_
     ·intro hc7; replace h := z02 hc7 h
      refine bR ?_
      refine sAx (z00 ?_)
      refine cBx ?_
      refine z0a ?_
      change ∃ xs, _ = some xs ∧ EndOk _ _ _ _
      obtain rfl := Option.some.inj h
      exact ⟨_, rfl, z0d (y := (BO false)) (Wk.refl _) rfl ⟨rfl, rfl⟩⟩
     ·intro hc7; replace h := z03 hc7 h
      refine bR ?_
      refine sS rfl rfl rfl (z1a z1f (i := 0) rfl rfl rfl) ?_
      refine sS rfl rfl rfl (z13 (y := (I64 a0.kind)) Try.underlying3 rfl rfl rfl rfl) ?_
      refine sS rfl rfl rfl ((z06 rfl rfl rfl rfl).cast (y := (BO ((a0.kind == 4)))) rfl rfl) ?_
      refine sAx (z00 ?_)
      refine cBx ?_
      refine z05 rfl ?_ ?_
      ·intro hc8; replace h := z02 hc8 h
       refine bR ?_
       refine sS rfl rfl rfl (z1a z1f (i := 2) rfl rfl rfl) ?_
       refine sS rfl rfl rfl ((zc9 z2g Try.underlying29 rfl rfl rfl rfl rfl)) ?_
       obtain ⟨x9, hx9, h⟩ := obind h
       refine sS rfl rfl rfl (z0b rfl zvp rfl (.cons (Wk.refl _) .nil) ⟨(z20 (a0.only)), trivial⟩ (ztu (a0.only) x9 hx9) (z04 (ids_V x9.1) (z04 rfl z0r))) ?_
       refine sMx ?_
       refine sS rfl rfl rfl (z0j rfl rfl rfl) ?_
       refine sS rfl rfl rfl (z0j rfl rfl rfl) ?_
       refine sAx ?_
       refine sAx (z00 ?_)
       refine cBx ?_
       refine bR ?_
       refine sMx ?_
       refine sS rfl rfl rfl (z1s z0t Try.underlying34 rfl rfl rfl rfl rfl) ?_
       obtain ⟨x10, hx10, h⟩ := obind h
       refine sS rfl rfl rfl (z0b rfl zsn rfl (.cons (Wk.refl _) (.cons (Wk.refl _) (.cons (Wk.refl _) .nil))) ⟨(ids_V x9.1), ⟨(z0m a1), ⟨rfl, trivial⟩⟩⟩ (Z0c x9.1 a1 0 x10 hx10) (z04 rfl (z04 rfl z0r))) ?_
       refine sMx ?_
       refine sS rfl rfl rfl (z0j rfl rfl rfl) ?_
       refine sS rfl rfl rfl (z0j rfl rfl rfl) ?_
       refine sAx ?_
       refine sAx (z00 ?_)
       refine cBx ?_
       refine bR ?_
       refine sMx ?_
       refine sAx (z00 ?_)
       refine cBx ?_
       refine z0a ?_
       change ∃ xs, _ = some xs ∧ EndOk _ _ _ _
       obtain rfl := Option.some.inj h
       exact ⟨_, rfl, z0d (y := (BO x10.1)) (Wk.refl _) rfl ⟨rfl, rfl⟩⟩
      ·intro hc8; replace h := z03 hc8 h
       refine bR ?_
       refine sS rfl rfl rfl (z1a z1f (i := 0) rfl rfl rfl) ?_
       refine sS rfl rfl rfl (z13 (y := (I64 a0.kind)) Try.underlying3 rfl rfl rfl rfl) ?_
       refine sS rfl rfl rfl ((z06 rfl rfl rfl rfl).cast (y := (BO ((a0.kind == 1)))) rfl rfl) ?_
       refine sAx (z00 ?_)
       refine cBx ?_
       refine z05 rfl ?_ ?_
       ·intro hc11; replace h := z02 hc11 h
        refine bR ?_
        refine sAx (z00 ?_)
        refine cBx ?_
        refine z0a ?_
        change ∃ xs, _ = some xs ∧ EndOk _ _ _ _
        obtain rfl := Option.some.inj h
        exact ⟨_, rfl, z0d (y := (BO false)) (Wk.refl _) rfl ⟨rfl, rfl⟩⟩
       ·intro hc11; replace h := z03 hc11 h
        refine bR ?_
        refine sS rfl rfl rfl (z1a z1f (i := 0) rfl rfl rfl) ?_
        refine sS rfl rfl rfl (z13 (y := (I64 a0.kind)) Try.underlying3 rfl rfl rfl rfl) ?_
        refine sS rfl rfl rfl ((z06 rfl rfl rfl rfl).cast (y := (BO ((a0.kind == 3)))) rfl rfl) ?_
        refine sAx (z00 ?_)
        refine cBx ?_
        refine z05 rfl ?_ ?_
        ·intro hc12; replace h := z02 hc12 h
         refine bR ?_
         refine sS rfl rfl rfl (z1a z1f (i := 0) rfl rfl rfl) ?_
         refine sS rfl rfl rfl (z13 (y := (I64 a1.kind)) Try.underlying3 rfl rfl rfl rfl) ?_
         refine sS rfl rfl rfl ((z06 rfl rfl rfl rfl).cast (y := (BO ((a1.kind == 3)))) rfl rfl) ?_
         refine sMx ?_
         refine z16 (t := 68) rfl ?_ ?_
         ·intro hb13; replace h := z02 hb13 h
          refine z08 rfl rfl rfl rfl rfl rfl (z1a z1f (i := 1) rfl rfl rfl) ?_
          refine z08 rfl rfl rfl rfl rfl rfl (z13 (y := (I64 a0.of)) Try.underlying3 rfl rfl rfl rfl) ?_
          refine z08 rfl rfl rfl rfl rfl rfl (z1a z1f (i := 1) rfl rfl rfl) ?_
          refine z08 rfl rfl rfl rfl rfl rfl (z13 (y := (I64 a1.of)) Try.underlying3 rfl rfl rfl rfl) ?_
          refine z08 rfl rfl rfl rfl rfl rfl ((z06 rfl rfl rfl rfl).cast (y := (BO ((a0.of == a1.of)))) rfl rfl) ?_
          refine sS rfl rfl rfl (z0p rfl rfl rfl) ?_
          refine sAx (z00 ?_)
          refine cBx ?_
          refine z0a ?_
          change ∃ xs, _ = some xs ∧ EndOk _ _ _ _
          obtain rfl := Option.some.inj h
          exact ⟨_, rfl, z0d (y := (BO ((a0.of == a1.of)))) (Wk.refl _) rfl ⟨rfl, rfl⟩⟩
         ·intro hb13; replace h := z03 hb13 h
          refine z0h rfl rfl rfl rfl rfl rfl ?_
          refine z0h rfl rfl rfl rfl rfl rfl ?_
          refine z0h rfl rfl rfl rfl rfl rfl ?_
          refine z0h rfl rfl rfl rfl rfl rfl ?_
          refine z0h rfl rfl rfl rfl rfl rfl ?_
          refine sS rfl rfl rfl (z0i rfl rfl rfl) ?_
          refine sAx (z00 ?_)
          refine cBx ?_
          refine z0a ?_
          change ∃ xs, _ = some xs ∧ EndOk _ _ _ _
          obtain rfl := Option.some.inj h
          exact ⟨_, rfl, z0d (y := (BO false)) (Wk.refl _) rfl ⟨rfl, rfl⟩⟩
        ·intro hc12; replace h := z03 hc12 h
         refine bR ?_
         refine sS rfl rfl rfl (z1a z1f (i := 0) rfl rfl rfl) ?_
         refine sS rfl rfl rfl (z13 (y := (I64 a0.kind)) Try.underlying3 rfl rfl rfl rfl) ?_
         refine sS rfl rfl rfl ((z06 rfl rfl rfl rfl).cast (y := (BO ((a0.kind == 5)))) rfl rfl) ?_
         refine sAx (z00 ?_)
         refine cBx ?_
         refine z05 rfl ?_ ?_
         ·intro hc14; replace h := z02 hc14 h
          refine z0o (z2e 23 [] [] mo (by kernel_rfl) ?_)
          refine z0y rfl rfl rfl rfl (fun H hp => z1a z1f (i := 0) rfl rfl rfl) ?_
          refine z0y rfl rfl rfl rfl (fun H hp => z13 (y := (I64 a1.kind)) Try.underlying3 rfl rfl rfl rfl) ?_
          refine z0y rfl rfl rfl rfl (fun H hp => (z06 rfl rfl rfl rfl).cast (y := (BO ((a1.kind == 3)))) rfl rfl) ?_
          refine z0y rfl rfl rfl rfl (fun H hp => z0k rfl rfl) ?_
          refine z3s 82 rfl ?_ ?_
          ·intro hb15; replace h := z02 hb15 h
           refine z1b rfl rfl rfl rfl rfl rfl rfl (fun H hp => z1a z1f (i := 1) rfl rfl rfl) ?_
           refine z1b rfl rfl rfl rfl rfl rfl rfl (fun H hp => z13 (y := (I64 a1.of)) Try.underlying3 rfl rfl rfl rfl) ?_
           refine z1b rfl rfl rfl rfl rfl rfl rfl (fun H hp => (z06 rfl rfl rfl rfl).cast (y := (BO ((a1.of == 8)))) rfl rfl) ?_
           refine z0y rfl rfl rfl rfl (fun H hp => z0p rfl rfl rfl) ?_
           refine z0y rfl rfl rfl rfl (fun H hp => z0k rfl rfl) ?_
           refine z3s 87 rfl ?_ ?_
           ·intro hb16; replace h := z02 hb16 h
            refine z1g rfl rfl rfl rfl rfl rfl rfl ?_
            refine z1g rfl rfl rfl rfl rfl rfl rfl ?_
            refine z1g rfl rfl rfl rfl rfl rfl rfl ?_
            refine z1g rfl rfl rfl rfl rfl rfl rfl ?_
            refine z1g rfl rfl rfl rfl rfl rfl rfl ?_
            refine z1g rfl rfl rfl rfl rfl rfl rfl ?_
            refine z1g rfl rfl rfl rfl rfl rfl rfl ?_
            refine z1g rfl rfl rfl rfl rfl rfl rfl ?_
            refine z1g rfl rfl rfl rfl rfl rfl rfl ?_
            refine z1g rfl rfl rfl rfl rfl rfl rfl ?_
            refine z1g rfl rfl rfl rfl rfl rfl rfl ?_
            refine z1g rfl rfl rfl rfl rfl rfl rfl ?_
            refine z1g rfl rfl rfl rfl rfl rfl rfl ?_
            refine z1g rfl rfl rfl rfl rfl rfl rfl ?_
            refine z2b ?_
            change AO _ _ _ _ _
            refine z0h rfl rfl rfl rfl rfl rfl ?_
            refine z0h rfl rfl rfl rfl rfl rfl ?_
            refine sS rfl rfl rfl (z0p rfl rfl rfl) ?_
            refine sAx (z00 ?_)
            refine cBx ?_
            refine z0a ?_
            change ∃ xs, _ = some xs ∧ EndOk _ _ _ _
            obtain rfl := Option.some.inj h
            exact ⟨_, rfl, z0d (y := (BO true)) (Wk.refl _) rfl ⟨rfl, rfl⟩⟩
           ·intro hb16; replace h := z03 hb16 h
            refine z1b rfl rfl rfl rfl rfl rfl rfl (fun H hp => z1a z1f (i := 0) rfl rfl rfl) ?_
            refine z1b rfl rfl rfl rfl rfl rfl rfl (fun H hp => z13 (y := (I64 a1.kind)) Try.underlying3 rfl rfl rfl rfl) ?_
            refine z1b rfl rfl rfl rfl rfl rfl rfl (fun H hp => (z06 rfl rfl rfl rfl).cast (y := (BO ((a1.kind == 5)))) rfl rfl) ?_
            refine z1b rfl rfl rfl rfl rfl rfl rfl (fun H hp => z0k rfl rfl) ?_
            refine z3s 91 rfl ?_ ?_
            ·intro hb17; replace h := z02 hb17 h
             refine z1b rfl rfl rfl rfl rfl rfl rfl (fun H hp => z0k rfl rfl) ?_
             refine z1b rfl rfl rfl rfl rfl rfl rfl (fun H hp => z1a z1f (i := 3) rfl rfl rfl) ?_
             refine z1b rfl rfl rfl rfl rfl rfl rfl (fun H hp => z13 (y := (PV.sl none 34 18 (List.map z19 a1.parts))) Try.underlying30 rfl rfl rfl rfl) ?_
             obtain ⟨x18, hx18, h⟩ := obind h
             refine z1b rfl rfl rfl rfl rfl rfl rfl (fun H hp => z1i (i := 0) Try.underlying30 z0t rfl rfl rfl hx18 (z2m _)) ?_
             refine z1b rfl rfl rfl rfl rfl rfl rfl (fun H hp => z1s z0t Try.underlying34 rfl rfl rfl rfl rfl) ?_
             obtain ⟨x19, hx19, h⟩ := obind h
             refine z1b rfl rfl rfl rfl rfl rfl rfl (fun H hp => z8b rfl rfl Z24 rfl (.cons (Wk.refl _) .nil) ⟨(z0m x18), trivial⟩ (Z0j x18 x19 hx19) (z4t (z4s (z0m x19) rfl))) ?_
             refine z1b rfl rfl rfl rfl rfl rfl rfl (fun H hp => z1a z1f (i := 3) rfl rfl rfl) ?_
             refine z1b rfl rfl rfl rfl rfl rfl rfl (fun H hp => z13 (y := (PV.sl none 34 18 (List.map z19 a0.parts))) Try.underlying30 rfl rfl rfl rfl) ?_
             obtain ⟨x20, hx20, h⟩ := obind h
             refine z1b rfl rfl rfl rfl rfl rfl rfl (fun H hp => z1i (i := 0) Try.underlying30 z0t rfl rfl rfl hx20 (z2m _)) ?_
             refine z1b rfl rfl rfl rfl rfl rfl rfl (fun H hp => z1s z0t Try.underlying34 rfl rfl rfl rfl rfl) ?_
             refine z2b ?_
             change AO _ _ _ _ _
             obtain ⟨x21, hx21, h⟩ := obind h
             refine z08 rfl rfl rfl rfl rfl rfl (z6k rfl rfl Z23 rfl (.cons (Wk.refl _) (.cons (Wk.refl _) .nil)) ⟨(z0m x20), ⟨(z0m x19), trivial⟩⟩ (c_q0v x20 x19 x21 hx21) rfl) ?_
             refine z08 rfl rfl rfl rfl rfl rfl (z0p rfl rfl rfl) ?_
             refine sS rfl rfl rfl (z0i rfl rfl rfl) ?_
             refine sAx (z00 ?_)
             refine cBx ?_
             refine z0a ?_
             change ∃ xs, _ = some xs ∧ EndOk _ _ _ _
             obtain rfl := Option.some.inj h
             exact ⟨_, rfl, z0d (y := (BO x21)) (Wk.refl _) rfl ⟨rfl, rfl⟩⟩
            ·intro hb17; replace h := z03 hb17 h
             refine z1g rfl rfl rfl rfl rfl rfl rfl ?_
             refine z1g rfl rfl rfl rfl rfl rfl rfl ?_
             refine z1g rfl rfl rfl rfl rfl rfl rfl ?_
             refine z1g rfl rfl rfl rfl rfl rfl rfl ?_
             refine z1g rfl rfl rfl rfl rfl rfl rfl ?_
             refine z1g rfl rfl rfl rfl rfl rfl rfl ?_
             refine z1g rfl rfl rfl rfl rfl rfl rfl ?_
             refine z1g rfl rfl rfl rfl rfl rfl rfl ?_
             refine z1g rfl rfl rfl rfl rfl rfl rfl ?_
             refine z1g rfl rfl rfl rfl rfl rfl rfl ?_
             refine z2b ?_
             change AO _ _ _ _ _
             refine z0h rfl rfl rfl rfl rfl rfl ?_
             refine z08 rfl rfl rfl rfl rfl rfl (z0i rfl rfl rfl) ?_
             refine sS rfl rfl rfl (z0i rfl rfl rfl) ?_
             refine sAx (z00 ?_)
             refine cBx ?_
             refine z0a ?_
             change ∃ xs, _ = some xs ∧ EndOk _ _ _ _
             obtain rfl := Option.some.inj h
             exact ⟨_, rfl, z0d (y := (BO false)) (Wk.refl _) rfl ⟨rfl, rfl⟩⟩
          ·intro hb15; replace h := z03 hb15 h
           refine z1g rfl rfl rfl rfl rfl rfl rfl ?_
           refine z1g rfl rfl rfl rfl rfl rfl rfl ?_
           refine z1g rfl rfl rfl rfl rfl rfl rfl ?_
           refine z0y rfl rfl rfl rfl (fun H hp => z0i rfl rfl rfl) ?_
           refine z0y rfl rfl rfl rfl (fun H hp => z0k rfl rfl) ?_
           refine z1b rfl rfl rfl rfl rfl rfl rfl (fun H hp => z1a z1f (i := 0) rfl rfl rfl) ?_
           refine z1b rfl rfl rfl rfl rfl rfl rfl (fun H hp => z13 (y := (I64 a1.kind)) Try.underlying3 rfl rfl rfl rfl) ?_
           refine z1b rfl rfl rfl rfl rfl rfl rfl (fun H hp => (z06 rfl rfl rfl rfl).cast (y := (BO ((a1.kind == 5)))) rfl rfl) ?_
           refine z1b rfl rfl rfl rfl rfl rfl rfl (fun H hp => z0k rfl rfl) ?_
           refine z3s 91 rfl ?_ ?_
           ·intro hb22; replace h := z02 hb22 h
            refine z1b rfl rfl rfl rfl rfl rfl rfl (fun H hp => z0k rfl rfl) ?_
            refine z1b rfl rfl rfl rfl rfl rfl rfl (fun H hp => z1a z1f (i := 3) rfl rfl rfl) ?_
            refine z1b rfl rfl rfl rfl rfl rfl rfl (fun H hp => z13 (y := (PV.sl none 34 18 (List.map z19 a1.parts))) Try.underlying30 rfl rfl rfl rfl) ?_
            obtain ⟨x23, hx23, h⟩ := obind h
            refine z1b rfl rfl rfl rfl rfl rfl rfl (fun H hp => z1i (i := 0) Try.underlying30 z0t rfl rfl rfl hx23 (z2m _)) ?_
            refine z1b rfl rfl rfl rfl rfl rfl rfl (fun H hp => z1s z0t Try.underlying34 rfl rfl rfl rfl rfl) ?_
            obtain ⟨x24, hx24, h⟩ := obind h
            refine z1b rfl rfl rfl rfl rfl rfl rfl (fun H hp => z8b rfl rfl Z24 rfl (.cons (Wk.refl _) .nil) ⟨(z0m x23), trivial⟩ (Z0j x23 x24 hx24) (z4t (z4s (z0m x24) rfl))) ?_
            refine z1b rfl rfl rfl rfl rfl rfl rfl (fun H hp => z1a z1f (i := 3) rfl rfl rfl) ?_
            refine z1b rfl rfl rfl rfl rfl rfl rfl (fun H hp => z13 (y := (PV.sl none 34 18 (List.map z19 a0.parts))) Try.underlying30 rfl rfl rfl rfl) ?_
            obtain ⟨x25, hx25, h⟩ := obind h
            refine z1b rfl rfl rfl rfl rfl rfl rfl (fun H hp => z1i (i := 0) Try.underlying30 z0t rfl rfl rfl hx25 (z2m _)) ?_
            refine z1b rfl rfl rfl rfl rfl rfl rfl (fun H hp => z1s z0t Try.underlying34 rfl rfl rfl rfl rfl) ?_
            refine z2b ?_
            change AO _ _ _ _ _
            obtain ⟨x26, hx26, h⟩ := obind h
            refine z08 rfl rfl rfl rfl rfl rfl (z6k rfl rfl Z23 rfl (.cons (Wk.refl _) (.cons (Wk.refl _) .nil)) ⟨(z0m x25), ⟨(z0m x24), trivial⟩⟩ (c_q0v x25 x24 x26 hx26) rfl) ?_
            refine z08 rfl rfl rfl rfl rfl rfl (z0p rfl rfl rfl) ?_
            refine sS rfl rfl rfl (z0i rfl rfl rfl) ?_
            refine sAx (z00 ?_)
            refine cBx ?_
            refine z0a ?_
            change ∃ xs, _ = some xs ∧ EndOk _ _ _ _
            obtain rfl := Option.some.inj h
            exact ⟨_, rfl, z0d (y := (BO x26)) (Wk.refl _) rfl ⟨rfl, rfl⟩⟩
           ·intro hb22; replace h := z03 hb22 h
            refine z1g rfl rfl rfl rfl rfl rfl rfl ?_
            refine z1g rfl rfl rfl rfl rfl rfl rfl ?_
            refine z1g rfl rfl rfl rfl rfl rfl rfl ?_
            refine z1g rfl rfl rfl rfl rfl rfl rfl ?_
            refine z1g rfl rfl rfl rfl rfl rfl rfl ?_
            refine z1g rfl rfl rfl rfl rfl rfl rfl ?_
            refine z1g rfl rfl rfl rfl rfl rfl rfl ?_
            refine z1g rfl rfl rfl rfl rfl rfl rfl ?_
            refine z1g rfl rfl rfl rfl rfl rfl rfl ?_
            refine z1g rfl rfl rfl rfl rfl rfl rfl ?_
            refine z2b ?_
            change AO _ _ _ _ _
            refine z0h rfl rfl rfl rfl rfl rfl ?_
            refine z08 rfl rfl rfl rfl rfl rfl (z0i rfl rfl rfl) ?_
            refine sS rfl rfl rfl (z0i rfl rfl rfl) ?_
            refine sAx (z00 ?_)
            refine cBx ?_
            refine z0a ?_
            change ∃ xs, _ = some xs ∧ EndOk _ _ _ _
            obtain rfl := Option.some.inj h
            exact ⟨_, rfl, z0d (y := (BO false)) (Wk.refl _) rfl ⟨rfl, rfl⟩⟩
         ·intro hc14; replace h := z03 hc14 h
          refine bR ?_
          refine sS rfl rfl rfl (z1a z1f (i := 0) rfl rfl rfl) ?_
          refine sS rfl rfl rfl (z13 (y := (I64 a0.kind)) Try.underlying3 rfl rfl rfl rfl) ?_
          refine sS rfl rfl rfl ((z06 rfl rfl rfl rfl).cast (y := (BO ((a0.kind == 8)))) rfl rfl) ?_
          refine sAx (z00 ?_)
          refine cBx ?_
          refine z05 rfl ?_ ?_
          ·intro hc27; replace h := z02 hc27 h
           refine bR ?_
           refine sS rfl rfl rfl (z1a z1f (i := 0) rfl rfl rfl) ?_
           refine sS rfl rfl rfl (z13 (y := (I64 a1.kind)) Try.underlying3 rfl rfl rfl rfl) ?_
           refine sS rfl rfl rfl ((z06 rfl rfl rfl rfl).cast (y := (BO ((a1.kind == 3)))) rfl rfl) ?_
           refine sMx ?_
           refine z16 (t := 112) rfl ?_ ?_
           ·intro hb28; replace h := z02 hb28 h
            refine z08 rfl rfl rfl rfl rfl rfl (z1a z1f (i := 1) rfl rfl rfl) ?_
            refine z08 rfl rfl rfl rfl rfl rfl (z13 (y := (I64 a1.of)) Try.underlying3 rfl rfl rfl rfl) ?_
            refine z08 rfl rfl rfl rfl rfl rfl ((z06 rfl rfl rfl rfl).cast (y := (BO ((a1.of == 10)))) rfl rfl) ?_
            refine sS rfl rfl rfl (z0p rfl rfl rfl) ?_
            refine sMx ?_
            refine z16 (t := 117) rfl ?_ ?_
            ·intro hb29; replace h := z02 hb29 h
             refine z0h rfl rfl rfl rfl rfl rfl ?_
             refine z0h rfl rfl rfl rfl rfl rfl ?_
             refine z0h rfl rfl rfl rfl rfl rfl ?_
             refine z0h rfl rfl rfl rfl rfl rfl ?_
             refine z0h rfl rfl rfl rfl rfl rfl ?_
             refine z0h rfl rfl rfl rfl rfl rfl ?_
             refine z0h rfl rfl rfl rfl rfl rfl ?_
             refine z0h rfl rfl rfl rfl rfl rfl ?_
             refine z0h rfl rfl rfl rfl rfl rfl ?_
             refine z0h rfl rfl rfl rfl rfl rfl ?_
             refine sS rfl rfl rfl (z0p rfl rfl rfl) ?_
             refine sAx (z00 ?_)
             refine cBx ?_
             refine z0a ?_
             change ∃ xs, _ = some xs ∧ EndOk _ _ _ _
             obtain rfl := Option.some.inj h
             exact ⟨_, rfl, z0d (y := (BO true)) (Wk.refl _) rfl ⟨rfl, rfl⟩⟩
            ·intro hb29; replace h := z03 hb29 h
             refine z08 rfl rfl rfl rfl rfl rfl (z1a z1f (i := 0) rfl rfl rfl) ?_
             refine z08 rfl rfl rfl rfl rfl rfl (z13 (y := (I64 a1.kind)) Try.underlying3 rfl rfl rfl rfl) ?_
             refine z08 rfl rfl rfl rfl rfl rfl ((z06 rfl rfl rfl rfl).cast (y := (BO ((a1.kind == 8)))) rfl rfl) ?_
             refine z08 rfl rfl rfl rfl rfl rfl (z0k rfl rfl) ?_
             refine z16 (t := 121) rfl ?_ ?_
             ·intro hb30; replace h := z02 hb30 h
              refine z08 rfl rfl rfl rfl rfl rfl (z1a z1f (i := 7) rfl rfl rfl) ?_
              refine z08 rfl rfl rfl rfl rfl rfl (z13 (y := (z0f a0.cls)) Try.underlying9 rfl rfl rfl rfl) ?_
              refine z08 rfl rfl rfl rfl rfl rfl (z1a z1f (i := 7) rfl rfl rfl) ?_
              refine z08 rfl rfl rfl rfl rfl rfl (z13 (y := (z0f a1.cls)) Try.underlying9 rfl rfl rfl rfl) ?_
              refine z08 rfl rfl rfl rfl rfl rfl ((z40 (a := a0.cls) (b := a1.cls) rfl rfl rfl rfl).cast (y := (BO ((a0.cls == a1.cls)))) rfl rfl) ?_
              refine z08 rfl rfl rfl rfl rfl rfl (z0p rfl rfl rfl) ?_
              refine sS rfl rfl rfl (z0i rfl rfl rfl) ?_
              refine sAx (z00 ?_)
              refine cBx ?_
              refine z0a ?_
              change ∃ xs, _ = some xs ∧ EndOk _ _ _ _
              obtain rfl := Option.some.inj h
              exact ⟨_, rfl, z0d (y := (BO ((a0.cls == a1.cls)))) (Wk.refl _) rfl ⟨rfl, rfl⟩⟩
             ·intro hb30; replace h := z03 hb30 h
              refine z0h rfl rfl rfl rfl rfl rfl ?_
              refine z0h rfl rfl rfl rfl rfl rfl ?_
              refine z0h rfl rfl rfl rfl rfl rfl ?_
              refine z0h rfl rfl rfl rfl rfl rfl ?_
              refine z0h rfl rfl rfl rfl rfl rfl ?_
              refine z08 rfl rfl rfl rfl rfl rfl (z0i rfl rfl rfl) ?_
              refine sS rfl rfl rfl (z0i rfl rfl rfl) ?_
              refine sAx (z00 ?_)
              refine cBx ?_
              refine z0a ?_
              change ∃ xs, _ = some xs ∧ EndOk _ _ _ _
              obtain rfl := Option.some.inj h
              exact ⟨_, rfl, z0d (y := (BO false)) (Wk.refl _) rfl ⟨rfl, rfl⟩⟩
           ·intro hb28; replace h := z03 hb28 h
            refine z0h rfl rfl rfl rfl rfl rfl ?_
            refine z0h rfl rfl rfl rfl rfl rfl ?_
            refine z0h rfl rfl rfl rfl rfl rfl ?_
            refine sS rfl rfl rfl (z0i rfl rfl rfl) ?_
            refine sMx ?_
            refine z08 rfl rfl rfl rfl rfl rfl (z1a z1f (i := 0) rfl rfl rfl) ?_
            refine z08 rfl rfl rfl rfl rfl rfl (z13 (y := (I64 a1.kind)) Try.underlying3 rfl rfl rfl rfl) ?_
            refine z08 rfl rfl rfl rfl rfl rfl ((z06 rfl rfl rfl rfl).cast (y := (BO ((a1.kind == 8)))) rfl rfl) ?_
            refine z08 rfl rfl rfl rfl rfl rfl (z0k rfl rfl) ?_
            refine z16 (t := 121) rfl ?_ ?_
            ·intro hb31; replace h := z02 hb31 h
             refine z08 rfl rfl rfl rfl rfl rfl (z1a z1f (i := 7) rfl rfl rfl) ?_
             refine z08 rfl rfl rfl rfl rfl rfl (z13 (y := (z0f a0.cls)) Try.underlying9 rfl rfl rfl rfl) ?_
             refine z08 rfl rfl rfl rfl rfl rfl (z1a z1f (i := 7) rfl rfl rfl) ?_
             refine z08 rfl rfl rfl rfl rfl rfl (z13 (y := (z0f a1.cls)) Try.underlying9 rfl rfl rfl rfl) ?_
             refine z08 rfl rfl rfl rfl rfl rfl ((z40 (a := a0.cls) (b := a1.cls) rfl rfl rfl rfl).cast (y := (BO ((a0.cls == a1.cls)))) rfl rfl) ?_
             refine z08 rfl rfl rfl rfl rfl rfl (z0p rfl rfl rfl) ?_
             refine sS rfl rfl rfl (z0i rfl rfl rfl) ?_
             refine sAx (z00 ?_)
             refine cBx ?_
             refine z0a ?_
             change ∃ xs, _ = some xs ∧ EndOk _ _ _ _
             obtain rfl := Option.some.inj h
             exact ⟨_, rfl, z0d (y := (BO ((a0.cls == a1.cls)))) (Wk.refl _) rfl ⟨rfl, rfl⟩⟩
            ·intro hb31; replace h := z03 hb31 h
             refine z0h rfl rfl rfl rfl rfl rfl ?_
             refine z0h rfl rfl rfl rfl rfl rfl ?_
             refine z0h rfl rfl rfl rfl rfl rfl ?_
             refine z0h rfl rfl rfl rfl rfl rfl ?_
             refine z0h rfl rfl rfl rfl rfl rfl ?_
             refine z08 rfl rfl rfl rfl rfl rfl (z0i rfl rfl rfl) ?_
             refine sS rfl rfl rfl (z0i rfl rfl rfl) ?_
             refine sAx (z00 ?_)
             refine cBx ?_
             refine z0a ?_
             change ∃ xs, _ = some xs ∧ EndOk _ _ _ _
             obtain rfl := Option.some.inj h
             exact ⟨_, rfl, z0d (y := (BO false)) (Wk.refl _) rfl ⟨rfl, rfl⟩⟩
          ·intro hc27; replace h := z03 hc27 h
           refine bR ?_
           refine sS rfl rfl rfl (z1a z1f (i := 0) rfl rfl rfl) ?_
           refine sS rfl rfl rfl (z13 (y := (I64 a0.kind)) Try.underlying3 rfl rfl rfl rfl) ?_
           refine sS rfl rfl rfl ((z06 rfl rfl rfl rfl).cast (y := (BO ((a0.kind == 6)))) rfl rfl) ?_
           refine sAx (z00 ?_)
           refine cBx ?_
           refine z05 rfl ?_ ?_
           ·intro hc32; replace h := z02 hc32 h
            refine bR ?_
            refine sS rfl rfl rfl (z1a z1f (i := 0) rfl rfl rfl) ?_
            refine sS rfl rfl rfl (z13 (y := (I64 a1.kind)) Try.underlying3 rfl rfl rfl rfl) ?_
            refine sS rfl rfl rfl ((z06 rfl rfl rfl rfl).cast (y := (BO ((a1.kind == 3)))) rfl rfl) ?_
            refine sMx ?_
            refine z16 (t := 136) rfl ?_ ?_
            ·intro hb33; replace h := z02 hb33 h
             refine z08 rfl rfl rfl rfl rfl rfl (z1a z1f (i := 1) rfl rfl rfl) ?_
             refine z08 rfl rfl rfl rfl rfl rfl (z13 (y := (I64 a1.of)) Try.underlying3 rfl rfl rfl rfl) ?_
             refine z08 rfl rfl rfl rfl rfl rfl ((z06 rfl rfl rfl rfl).cast (y := (BO ((a1.of == 9)))) rfl rfl) ?_
             refine sS rfl rfl rfl (z0p rfl rfl rfl) ?_
             refine sMx ?_
             refine z16 (t := 141) rfl ?_ ?_
             ·intro hb34; replace h := z02 hb34 h
              refine z0h rfl rfl rfl rfl rfl rfl ?_
              refine z0h rfl rfl rfl rfl rfl rfl ?_
              refine z0h rfl rfl rfl rfl rfl rfl ?_
              refine z0h rfl rfl rfl rfl rfl rfl ?_
              refine z0h rfl rfl rfl rfl rfl rfl ?_
              refine z0h rfl rfl rfl rfl rfl rfl ?_
              refine z0h rfl rfl rfl rfl rfl rfl ?_
              refine z0h rfl rfl rfl rfl rfl rfl ?_
              refine sS rfl rfl rfl (z0p rfl rfl rfl) ?_
              refine sAx (z00 ?_)
              refine cBx ?_
              refine z0a ?_
              change ∃ xs, _ = some xs ∧ EndOk _ _ _ _
              obtain rfl := Option.some.inj h
              exact ⟨_, rfl, z0d (y := (BO true)) (Wk.refl _) rfl ⟨rfl, rfl⟩⟩
             ·intro hb34; replace h := z03 hb34 h
              refine z08 rfl rfl rfl rfl rfl rfl (z1a z1f (i := 0) rfl rfl rfl) ?_
              refine z08 rfl rfl rfl rfl rfl rfl (z13 (y := (I64 a1.kind)) Try.underlying3 rfl rfl rfl rfl) ?_
              refine z08 rfl rfl rfl rfl rfl rfl ((z06 rfl rfl rfl rfl).cast (y := (BO ((a1.kind == 6)))) rfl rfl) ?_
              refine z08 rfl rfl rfl rfl rfl rfl (z0k rfl rfl) ?_
              refine z16 (t := 145) rfl ?_ ?_
              ·intro hb35; replace h := z02 hb35 h
               refine z08 rfl rfl rfl rfl rfl rfl (z1s z0t Try.underlying34 rfl rfl rfl rfl rfl) ?_
               refine z08 rfl rfl rfl rfl rfl rfl (z1s z0t Try.underlying34 rfl rfl rfl rfl rfl) ?_
               obtain ⟨x36, hx36, h⟩ := obind h
               refine z08 rfl rfl rfl rfl rfl rfl (z0b rfl Z21 rfl (.cons (Wk.refl _) (.cons (Wk.refl _) .nil)) ⟨(z0m a0), ⟨(z0m a1), trivial⟩⟩ (c_q16 a0 a1 x36 hx36) rfl) ?_
               refine z08 rfl rfl rfl rfl rfl rfl (z0p rfl rfl rfl) ?_
               refine sS rfl rfl rfl (z0i rfl rfl rfl) ?_
               refine sAx (z00 ?_)
               refine cBx ?_
               refine z0a ?_
               change ∃ xs, _ = some xs ∧ EndOk _ _ _ _
               obtain rfl := Option.some.inj h
               exact ⟨_, rfl, z0d (y := (BO x36)) (Wk.refl _) rfl ⟨rfl, rfl⟩⟩
              ·intro hb35; replace h := z03 hb35 h
               refine z0h rfl rfl rfl rfl rfl rfl ?_
               refine z0h rfl rfl rfl rfl rfl rfl ?_
               refine z0h rfl rfl rfl rfl rfl rfl ?_
               refine z08 rfl rfl rfl rfl rfl rfl (z0i rfl rfl rfl) ?_
               refine sS rfl rfl rfl (z0i rfl rfl rfl) ?_
               refine sAx (z00 ?_)
               refine cBx ?_
               refine z0a ?_
               change ∃ xs, _ = some xs ∧ EndOk _ _ _ _
               obtain rfl := Option.some.inj h
               exact ⟨_, rfl, z0d (y := (BO false)) (Wk.refl _) rfl ⟨rfl, rfl⟩⟩
            ·intro hb33; replace h := z03 hb33 h
             refine z0h rfl rfl rfl rfl rfl rfl ?_
             refine z0h rfl rfl rfl rfl rfl rfl ?_
             refine z0h rfl rfl rfl rfl rfl rfl ?_
             refine sS rfl rfl rfl (z0i rfl rfl rfl) ?_
             refine sMx ?_
             refine z08 rfl rfl rfl rfl rfl rfl (z1a z1f (i := 0) rfl rfl rfl) ?_
             refine z08 rfl rfl rfl rfl rfl rfl (z13 (y := (I64 a1.kind)) Try.underlying3 rfl rfl rfl rfl) ?_
             refine z08 rfl rfl rfl rfl rfl rfl ((z06 rfl rfl rfl rfl).cast (y := (BO ((a1.kind == 6)))) rfl rfl) ?_
             refine z08 rfl rfl rfl rfl rfl rfl (z0k rfl rfl) ?_
             refine z16 (t := 145) rfl ?_ ?_
             ·intro hb37; replace h := z02 hb37 h
              refine z08 rfl rfl rfl rfl rfl rfl (z1s z0t Try.underlying34 rfl rfl rfl rfl rfl) ?_
              refine z08 rfl rfl rfl rfl rfl rfl (z1s z0t Try.underlying34 rfl rfl rfl rfl rfl) ?_
              obtain ⟨x38, hx38, h⟩ := obind h
              refine z08 rfl rfl rfl rfl rfl rfl (z0b rfl Z21 rfl (.cons (Wk.refl _) (.cons (Wk.refl _) .nil)) ⟨(z0m a0), ⟨(z0m a1), trivial⟩⟩ (c_q16 a0 a1 x38 hx38) rfl) ?_
              refine z08 rfl rfl rfl rfl rfl rfl (z0p rfl rfl rfl) ?_
              refine sS rfl rfl rfl (z0i rfl rfl rfl) ?_
              refine sAx (z00 ?_)
              refine cBx ?_
              refine z0a ?_
              change ∃ xs, _ = some xs ∧ EndOk _ _ _ _
              obtain rfl := Option.some.inj h
              exact ⟨_, rfl, z0d (y := (BO x38)) (Wk.refl _) rfl ⟨rfl, rfl⟩⟩
             ·intro hb37; replace h := z03 hb37 h
              refine z0h rfl rfl rfl rfl rfl rfl ?_
              refine z0h rfl rfl rfl rfl rfl rfl ?_
              refine z0h rfl rfl rfl rfl rfl rfl ?_
              refine z08 rfl rfl rfl rfl rfl rfl (z0i rfl rfl rfl) ?_
              refine sS rfl rfl rfl (z0i rfl rfl rfl) ?_
              refine sAx (z00 ?_)
              refine cBx ?_
              refine z0a ?_
              change ∃ xs, _ = some xs ∧ EndOk _ _ _ _
              obtain rfl := Option.some.inj h
              exact ⟨_, rfl, z0d (y := (BO false)) (Wk.refl _) rfl ⟨rfl, rfl⟩⟩
           ·intro hc32; replace h := z03 hc32 h
            refine z0l ?_
            refine cBx ?_
            refine bR ?_
            refine sAx (z00 ?_)
            refine cBx ?_
            refine z0a ?_
            change ∃ xs, _ = some xs ∧ EndOk _ _ _ _
            obtain rfl := Option.some.inj h
            exact ⟨_, rfl, z0d (y := (BO false)) (Wk.refl _) rfl ⟨rfl, rfl⟩⟩
 ·refine z0s ?_
  refine sS rfl rfl rfl (z1a z1f (i := 0) rfl rfl rfl) ?_
  refine sS rfl rfl rfl (z13 (y := (I64 a1.kind)) Try.underlying3 rfl rfl rfl rfl) ?_
  refine sS rfl rfl rfl ((z06 rfl rfl rfl rfl).cast (y := (BO ((a1.kind == 1)))) rfl rfl) ?_
  refine sMx ?_
  refine z16 (t := 14) rfl ?_ ?_
  ·intro hb39; replace h := z02 hb39 h
   refine z0h rfl rfl rfl rfl rfl rfl ?_
   refine z0h rfl rfl rfl rfl rfl rfl ?_
   refine z0h rfl rfl rfl rfl rfl rfl ?_
   refine sS rfl rfl rfl (z0p rfl rfl rfl) ?_
   refine sAx (z00 ?_)
   exact ⟨rfl, true, h, ⟨.nil, (sC rfl (sC rfl (sC rfl (sC rfl z09))))⟩⟩
  ·intro hb39; replace h := z03 hb39 h
   refine z08 rfl rfl rfl rfl rfl rfl (z1a z1f (i := 0) rfl rfl rfl) ?_
   refine z08 rfl rfl rfl rfl rfl rfl (z13 (y := (I64 a0.kind)) Try.underlying3 rfl rfl rfl rfl) ?_
   refine z08 rfl rfl rfl rfl rfl rfl ((z06 rfl rfl rfl rfl).cast (y := (BO ((a0.kind == 2)))) rfl rfl) ?_
   refine sS rfl rfl rfl (z0i rfl rfl rfl) ?_
   refine sAx (z00 ?_)
   exact ⟨rfl, (a0.kind == 2), h, ⟨.nil, (sC rfl (sC rfl (sC rfl (sC rfl z09))))⟩⟩
theorem C_q16.sound : ∀ (i : C_q16) (r : i.R), z38 C_q16.F i = some r → C_q16.Q i r := by
 refine z4a (Φ := C_q16.F) (Q := C_q16.Q) ?_
 intro g hg i r h
 cases i with
 | k_q16 a0 a1 => exact zfv (fun a0 a1 => g (.k_q16 a0 a1)) (fun a0 a1 r hr => hg (.k_q16 a0 a1) r hr) (fun a0 a1 => g (.k_q0v a0 a1)) (fun a0 a1 r hr => hg (.k_q0v a0 a1) r hr) (fun a0 a1 => g (.k_q1a a0 a1)) (fun a0 a1 r hr => hg (.k_q1a a0 a1) r hr) (fun a0 a1c0 => g (.k_q05 a0 a1c0)) (fun a0 a1c0 r hr => hg (.k_q05 a0 a1c0) r hr) (fun a0 a1c0 => g (.k_q03 a0 a1c0)) (fun a0 a1c0 r hr => hg (.k_q03 a0 a1c0) r hr) (fun a0 a1 => g (.k_q1k a0 a1)) (fun a0 a1 r hr => hg (.k_q1k a0 a1) r hr) (fun a0 a1c0 => g (.k_q06 a0 a1c0)) (fun a0 a1c0 r hr => hg (.k_q06 a0 a1c0) r hr) (fun a0 a1c0 => g (.k_q02 a0 a1c0)) (fun a0 a1c0 r hr => hg (.k_q02 a0 a1c0) r hr) (fun a0 a1 => g (.k_q1x a0 a1)) (fun a0 a1 r hr => hg (.k_q1x a0 a1) r hr) a0 a1 r h
 | k_q0v a0 a1 => exact zcp (fun a0 a1 => g (.k_q16 a0 a1)) (fun a0 a1 r hr => hg (.k_q16 a0 a1) r hr) (fun a0 a1 => g (.k_q0v a0 a1)) (fun a0 a1 r hr => hg (.k_q0v a0 a1) r hr) (fun a0 a1 => g (.k_q1a a0 a1)) (fun a0 a1 r hr => hg (.k_q1a a0 a1) r hr) (fun a0 a1c0 => g (.k_q05 a0 a1c0)) (fun a0 a1c0 r hr => hg (.k_q05 a0 a1c0) r hr) (fun a0 a1c0 => g (.k_q03 a0 a1c0)) (fun a0 a1c0 r hr => hg (.k_q03 a0 a1c0) r hr) (fun a0 a1 => g (.k_q1k a0 a1)) (fun a0 a1 r hr => hg (.k_q1k a0 a1) r hr) (fun a0 a1c0 => g (.k_q06 a0 a1c0)) (fun a0 a1c0 r hr => hg (.k_q06 a0 a1c0) r hr) (fun a0 a1c0 => g (.k_q02 a0 a1c0)) (fun a0 a1c0 r hr => hg (.k_q02 a0 a1c0) r hr) (fun a0 a1 => g (.k_q1x a0 a1)) (fun a0 a1 r hr => hg (.k_q1x a0 a1) r hr) a0 a1 r h
 | k_q1a a0 a1 => exact zft (fun a0 a1 => g (.k_q16 a0 a1)) (fun a0 a1 r hr => hg (.k_q16 a0 a1) r hr) (fun a0 a1 => g (.k_q0v a0 a1)) (fun a0 a1 r hr => hg (.k_q0v a0 a1) r hr) (fun a0 a1 => g (.k_q1a a0 a1)) (fun a0 a1 r hr => hg (.k_q1a a0 a1) r hr) (fun a0 a1c0 => g (.k_q05 a0 a1c0)) (fun a0 a1c0 r hr => hg (.k_q05 a0 a1c0) r hr) (fun a0 a1c0 => g (.k_q03 a0 a1c0)) (fun a0 a1c0 r hr => hg (.k_q03 a0 a1c0) r hr) (fun a0 a1 => g (.k_q1k a0 a1)) (fun a0 a1 r hr => hg (.k_q1k a0 a1) r hr) (fun a0 a1c0 => g (.k_q06 a0 a1c0)) (fun a0 a1c0 r hr => hg (.k_q06 a0 a1c0) r hr) (fun a0 a1c0 => g (.k_q02 a0 a1c0)) (fun a0 a1c0 r hr => hg (.k_q02 a0 a1c0) r hr) (fun a0 a1 => g (.k_q1x a0 a1)) (fun a0 a1 r hr => hg (.k_q1x a0 a1) r hr) a0 a1 r h
 | k_q05 a0 a1c0 => exact z31 (fun a0 a1 => g (.k_q16 a0 a1)) (fun a0 a1 r hr => hg (.k_q16 a0 a1) r hr) (fun a0 a1 => g (.k_q0v a0 a1)) (fun a0 a1 r hr => hg (.k_q0v a0 a1) r hr) (fun a0 a1 => g (.k_q1a a0 a1)) (fun a0 a1 r hr => hg (.k_q1a a0 a1) r hr) (fun a0 a1c0 => g (.k_q05 a0 a1c0)) (fun a0 a1c0 r hr => hg (.k_q05 a0 a1c0) r hr) (fun a0 a1c0 => g (.k_q03 a0 a1c0)) (fun a0 a1c0 r hr => hg (.k_q03 a0 a1c0) r hr) (fun a0 a1 => g (.k_q1k a0 a1)) (fun a0 a1 r hr => hg (.k_q1k a0 a1) r hr) (fun a0 a1c0 => g (.k_q06 a0 a1c0)) (fun a0 a1c0 r hr => hg (.k_q06 a0 a1c0) r hr) (fun a0 a1c0 => g (.k_q02 a0 a1c0)) (fun a0 a1c0 r hr => hg (.k_q02 a0 a1c0) r hr) (fun a0 a1 => g (.k_q1x a0 a1)) (fun a0 a1 r hr => hg (.k_q1x a0 a1) r hr) a0 a1c0 r h
 | k_q03 a0 a1c0 => exact z2s (fun a0 a1 => g (.k_q16 a0 a1)) (fun a0 a1 r hr => hg (.k_q16 a0 a1) r hr) (fun a0 a1 => g (.k_q0v a0 a1)) (fun a0 a1 r hr => hg (.k_q0v a0 a1) r hr) (fun a0 a1 => g (.k_q1a a0 a1)) (fun a0 a1 r hr => hg (.k_q1a a0 a1) r hr) (fun a0 a1c0 => g (.k_q05 a0 a1c0)) (fun a0 a1c0 r hr => hg (.k_q05 a0 a1c0) r hr) (fun a0 a1c0 => g (.k_q03 a0 a1c0)) (fun a0 a1c0 r hr => hg (.k_q03 a0 a1c0) r hr) (fun a0 a1 => g (.k_q1k a0 a1)) (fun a0 a1 r hr => hg (.k_q1k a0 a1) r hr) (fun a0 a1c0 => g (.k_q06 a0 a1c0)) (fun a0 a1c0 r hr => hg (.k_q06 a0 a1c0) r hr) (fun a0 a1c0 => g (.k_q02 a0 a1c0)) (fun a0 a1c0 r hr => hg (.k_q02 a0 a1c0) r hr) (fun a0 a1 => g (.k_q1x a0 a1)) (fun a0 a1 r hr => hg (.k_q1x a0 a1) r hr) a0 a1c0 r h
 | k_q1k a0 a1 => exact zfu (fun a0 a1 => g (.k_q16 a0 a1)) (fun a0 a1 r hr => hg (.k_q16 a0 a1) r hr) (fun a0 a1 => g (.k_q0v a0 a1)) (fun a0 a1 r hr => hg (.k_q0v a0 a1) r hr) (fun a0 a1 => g (.k_q1a a0 a1)) (fun a0 a1 r hr => hg (.k_q1a a0 a1) r hr) (fun a0 a1c0 => g (.k_q05 a0 a1c0)) (fun a0 a1c0 r hr => hg (.k_q05 a0 a1c0) r hr) (fun a0 a1c0 => g (.k_q03 a0 a1c0)) (fun a0 a1c0 r hr => hg (.k_q03 a0 a1c0) r hr) (fun a0 a1 => g (.k_q1k a0 a1)) (fun a0 a1 r hr => hg (.k_q1k a0 a1) r hr) (fun a0 a1c0 => g (.k_q06 a0 a1c0)) (fun a0 a1c0 r hr => hg (.k_q06 a0 a1c0) r hr) (fun a0 a1c0 => g (.k_q02 a0 a1c0)) (fun a0 a1c0 r hr => hg (.k_q02 a0 a1c0) r hr) (fun a0 a1 => g (.k_q1x a0 a1)) (fun a0 a1 r hr => hg (.k_q1x a0 a1) r hr) a0 a1 r h
 | k_q06 a0 a1c0 => exact z32 (fun a0 a1 => g (.k_q16 a0 a1)) (fun a0 a1 r hr => hg (.k_q16 a0 a1) r hr) (fun a0 a1 => g (.k_q0v a0 a1)) (fun a0 a1 r hr => hg (.k_q0v a0 a1) r hr) (fun a0 a1 => g (.k_q1a a0 a1)) (fun a0 a1 r hr => hg (.k_q1a a0 a1) r hr) (fun a0 a1c0 => g (.k_q05 a0 a1c0)) (fun a0 a1c0 r hr => hg (.k_q05 a0 a1c0) r hr) (fun a0 a1c0 => g (.k_q03 a0 a1c0)) (fun a0 a1c0 r hr => hg (.k_q03 a0 a1c0) r hr) (fun a0 a1 => g (.k_q1k a0 a1)) (fun a0 a1 r hr => hg (.k_q1k a0 a1) r hr) (fun a0 a1c0 => g (.k_q06 a0 a1c0)) (fun a0 a1c0 r hr => hg (.k_q06 a0 a1c0) r hr) (fun a0 a1c0 => g (.k_q02 a0 a1c0)) (fun a0 a1c0 r hr => hg (.k_q02 a0 a1c0) r hr) (fun a0 a1 => g (.k_q1x a0 a1)) (fun a0 a1 r hr => hg (.k_q1x a0 a1) r hr) a0 a1c0 r h
 | k_q02 a0 a1c0 => exact z2t (fun a0 a1 => g (.k_q16 a0 a1)) (fun a0 a1 r hr => hg (.k_q16 a0 a1) r hr) (fun a0 a1 => g (.k_q0v a0 a1)) (fun a0 a1 r hr => hg (.k_q0v a0 a1) r hr) (fun a0 a1 => g (.k_q1a a0 a1)) (fun a0 a1 r hr => hg (.k_q1a a0 a1) r hr) (fun a0 a1c0 => g (.k_q05 a0 a1c0)) (fun a0 a1c0 r hr => hg (.k_q05 a0 a1c0) r hr) (fun a0 a1c0 => g (.k_q03 a0 a1c0)) (fun a0 a1c0 r hr => hg (.k_q03 a0 a1c0) r hr) (fun a0 a1 => g (.k_q1k a0 a1)) (fun a0 a1 r hr => hg (.k_q1k a0 a1) r hr) (fun a0 a1c0 => g (.k_q06 a0 a1c0)) (fun a0 a1c0 r hr => hg (.k_q06 a0 a1c0) r hr) (fun a0 a1c0 => g (.k_q02 a0 a1c0)) (fun a0 a1c0 r hr => hg (.k_q02 a0 a1c0) r hr) (fun a0 a1 => g (.k_q1x a0 a1)) (fun a0 a1 r hr => hg (.k_q1x a0 a1) r hr) a0 a1c0 r h
 | k_q1x a0 a1 => exact zje (fun a0 a1 => g (.k_q16 a0 a1)) (fun a0 a1 r hr => hg (.k_q16 a0 a1) r hr) (fun a0 a1 => g (.k_q0v a0 a1)) (fun a0 a1 r hr => hg (.k_q0v a0 a1) r hr) (fun a0 a1 => g (.k_q1a a0 a1)) (fun a0 a1 r hr => hg (.k_q1a a0 a1) r hr) (fun a0 a1c0 => g (.k_q05 a0 a1c0)) (fun a0 a1c0 r hr => hg (.k_q05 a0 a1c0) r hr) (fun a0 a1c0 => g (.k_q03 a0 a1c0)) (fun a0 a1c0 r hr => hg (.k_q03 a0 a1c0) r hr) (fun a0 a1 => g (.k_q1k a0 a1)) (fun a0 a1 r hr => hg (.k_q1k a0 a1) r hr) (fun a0 a1c0 => g (.k_q06 a0 a1c0)) (fun a0 a1c0 r hr => hg (.k_q06 a0 a1c0) r hr) (fun a0 a1c0 => g (.k_q02 a0 a1c0)) (fun a0 a1c0 r hr => hg (.k_q02 a0 a1c0) r hr) (fun a0 a1 => g (.k_q1x a0 a1)) (fun a0 a1 r hr => hg (.k_q1x a0 a1) r hr) a0 a1 r h
theorem zyd (a0 : Typ) (a1 : Typ) (r : Bool) (h : z43 a0 a1 = some r) : z0g Try.prog 35 [(z07 a0), (z07 a1)] (BO r) := C_q16.sound (.k_q1x a0 a1) r h
end Go.Proofs.Ytiapdjdhaclmnaa
