/- Pure functions, and that calls answer as they say. -/
import Derived.Test.YtiapdjdhaclmnaaG4
namespace Go.Proofs.Ytiapdjdhaclmnaa
open Go Aw
set_option linter.unusedVariables false
set_option maxRecDepth 20000
set_option maxHeartbeats 2000000
variable {ι : Type} {ρ : ι → Type}
noncomputable def zdh (g1 : Nat → Option Bool) (s1 : Nat) : Option Bool :=
 g1 (s1 + 1)
theorem zkv (g1 : OF ρ → Nat → Option Bool) (h_g1 : ∀ y0, CM (fun G => g1 G y0)) (s1 : Nat) : CM (fun G : OF ρ => zdh (g1 G) s1) := by
 simp only [zdh]
 repeat (first | exact z01 | exact h_g1 _ | refine z0h ?_ ?_ | refine z0i ?_ (fun _ => ?_))
noncomputable def zdg (g1 : Nat → Option Bool) (s1 : Nat) (s7 : Bool) : Option Bool :=
 bif s7 then (
 some false
 ) else (
 zdh g1 s1
 )
theorem zue (g1 : OF ρ → Nat → Option Bool) (h_g1 : ∀ y0, CM (fun G => g1 G y0)) (s1 : Nat) (s7 : Bool) : CM (fun G : OF ρ => zdg (g1 G) s1 s7) := by
 simp only [zdg]
 repeat (first | exact z01 | exact h_g1 _ | apply zkv | refine z0h ?_ ?_ | refine z0i ?_ (fun _ => ?_) | intro _ | assumption)
noncomputable def zai (g1 : Nat → Option Bool) (s1 : Nat) (s11 : Bool) : Option Bool :=
 bif s11 then (
 some false
 ) else (
 zdh g1 s1
 )
theorem zud (g1 : OF ρ → Nat → Option Bool) (h_g1 : ∀ y0, CM (fun G => g1 G y0)) (s1 : Nat) (s11 : Bool) : CM (fun G : OF ρ => zai (g1 G) s1 s11) := by
 simp only [zai]
 repeat (first | exact z01 | exact h_g1 _ | apply zkv | refine z0h ?_ ?_ | refine z0i ?_ (fun _ => ?_) | intro _ | assumption)
noncomputable def z68 (r_q2b : Typ → Typ → Option Bool) (a0 a1 : Typ) (g1 : Nat → Option Bool) (s1 : Nat) : Option Bool :=
 bif (decide (((s1 : Nat) : Int) < (((a1.names).length : Nat) : Int))) then (
 ((a1.names)[s1]?).bind fun x4 =>
 (zs1 a0.names x4).bind fun x5 =>
 bif (decide (x5 < 0)) then (
 ((a1.lacks)[s1]?).bind fun x9 =>
 bif (!x9) then (
 zdg g1 s1 true
 ) else (
 zdg g1 s1 a0.opn
 )
 ) else (
 (z5g a0.parts x5).bind fun x13 =>
 ((a1.parts)[s1]?).bind fun x14 =>
 (r_q2b x13 x14).bind fun x15 =>
 bif (!x15) then (
 zai g1 s1 true
 ) else (
 (z5g a0.lacks x5).bind fun x17 =>
 bif x17 then (
 ((a1.lacks)[s1]?).bind fun x19 =>
 zai g1 s1 (!x19)
 ) else (
 zai g1 s1 false
 )
 )
 )
 ) else (
 some true
 )
theorem zcc (r_q2b : OF ρ → Typ → Typ → Option Bool) (h_r_q2b : ∀ y0 y1, CM (fun G => r_q2b G y0 y1)) (g1 : OF ρ → Nat → Option Bool) (h_g1 : ∀ y0, CM (fun G => g1 G y0)) (a0 a1 : Typ) (s1 : Nat) : CM (fun G : OF ρ => z68 (r_q2b G) a0 a1 (g1 G) s1) := by
 simp only [z68]
 repeat (first | exact z01 | exact h_r_q2b _ _ | exact h_g1 _ | apply zue | apply zud | refine z0h ?_ ?_ | refine z0i ?_ (fun _ => ?_) | intro _ | assumption)
noncomputable def zhg (r_q2b : Typ → Typ → Option Bool) (a0 a1 : Typ) (s1 : Nat) : Option Bool :=
 z22 (ι := Nat) (ρ := fun _ => Bool) (fun g i => z68 r_q2b a0 a1 (fun s1 => g s1) i) s1
theorem zku (r_q2b : Typ → Typ → Option Bool) (a0 a1 : Typ) (s1 : Nat) : zhg r_q2b a0 a1 s1 = z68 r_q2b a0 a1 (zhg r_q2b a0 a1) s1 :=
 z0t (ι := Nat) (ρ := fun _ => Bool) (Φ := fun g i => z68 r_q2b a0 a1 (fun s1 => g s1) i) (fun i => zcc (ι := Nat) (ρ := fun _ => Bool) (fun _ => r_q2b) (fun _ _ => z01) (fun g => (fun s1 => g s1)) (fun _ => z0s) a0 a1 i) s1
theorem zub (r_q2b : OF ρ → Typ → Typ → Option Bool) (h_r_q2b : ∀ y0 y1, CM (fun G => r_q2b G y0 y1)) (a0 a1 : Typ) (s1 : Nat) : CM (fun G : OF ρ => zhg (r_q2b G) a0 a1 s1) :=
 z28 (κ := Nat) (τ := fun _ => Bool) (Φ := fun G g i => z68 (r_q2b G) a0 a1 (fun s1 => g s1) i) (fun g i => zcc r_q2b h_r_q2b (fun _ => (fun s1 => g s1)) (fun _ => z01) a0 a1 i) (fun G i => zcc (ι := Nat) (ρ := fun _ => Bool) (fun _ => r_q2b G) (fun _ _ => z01) (fun g => (fun s1 => g s1)) (fun _ => z0s) a0 a1 i) s1
noncomputable def zdi (r_q2b : Typ → Typ → Option Bool) (a0 a1 : Typ) : Option Bool :=
 zhg r_q2b a0 a1 0
theorem zkw (r_q2b : OF ρ → Typ → Typ → Option Bool) (h_r_q2b : ∀ y0 y1, CM (fun G => r_q2b G y0 y1)) (a0 a1 : Typ) : CM (fun G : OF ρ => zdi (r_q2b G) a0 a1) := by
 simp only [zdi]
 repeat (first | exact z01 | exact h_r_q2b _ _ | apply zub | refine z0h ?_ ?_ | refine z0i ?_ (fun _ => ?_) | intro _ | assumption)
noncomputable def zdf (r_q2b : Typ → Typ → Option Bool) (a0 a1 : Typ) (s21 : Bool) : Option Bool :=
 bif s21 then (
 some false
 ) else (
 zdi r_q2b a0 a1
 )
theorem zuc (r_q2b : OF ρ → Typ → Typ → Option Bool) (h_r_q2b : ∀ y0 y1, CM (fun G => r_q2b G y0 y1)) (a0 a1 : Typ) (s21 : Bool) : CM (fun G : OF ρ => zdf (r_q2b G) a0 a1 s21) := by
 simp only [zdf]
 repeat (first | exact z01 | exact h_r_q2b _ _ | apply zkw | refine z0h ?_ ?_ | refine z0i ?_ (fun _ => ?_) | intro _ | assumption)
noncomputable def zok (r_q19 r_q0z r_q1v : Typ → Typ → Option Bool) (r_q06 : (List Typ) → Typ → Option Int) (r_q03 : (List Typ) → Typ → Option Bool) (r_q1t : Typ → Typ → Option Bool) (r_q05 : (List Typ) → Typ → Option Int) (r_q02 : (List Typ) → Typ → Option Bool) (r_q2b : Typ → Typ → Option Bool) (a0 a1 : Typ) : Option Bool :=
 bif (!a1.opn) then (
 bif a0.opn then (
 zdf r_q2b a0 a1 true
 ) else (
 (zwb a0.names a1).bind fun x24 =>
 zdf r_q2b a0 a1 x24
 )
 ) else (
 zdi r_q2b a0 a1
 )
theorem Z1m (r_q19 : OF ρ → Typ → Typ → Option Bool) (h_r_q19 : ∀ y0 y1, CM (fun G => r_q19 G y0 y1)) (r_q0z : OF ρ → Typ → Typ → Option Bool) (h_r_q0z : ∀ y0 y1, CM (fun G => r_q0z G y0 y1)) (r_q1v : OF ρ → Typ → Typ → Option Bool) (h_r_q1v : ∀ y0 y1, CM (fun G => r_q1v G y0 y1)) (r_q06 : OF ρ → (List Typ) → Typ → Option Int) (h_r_q06 : ∀ y0 y1, CM (fun G => r_q06 G y0 y1)) (r_q03 : OF ρ → (List Typ) → Typ → Option Bool) (h_r_q03 : ∀ y0 y1, CM (fun G => r_q03 G y0 y1)) (r_q1t : OF ρ → Typ → Typ → Option Bool) (h_r_q1t : ∀ y0 y1, CM (fun G => r_q1t G y0 y1)) (r_q05 : OF ρ → (List Typ) → Typ → Option Int) (h_r_q05 : ∀ y0 y1, CM (fun G => r_q05 G y0 y1)) (r_q02 : OF ρ → (List Typ) → Typ → Option Bool) (h_r_q02 : ∀ y0 y1, CM (fun G => r_q02 G y0 y1)) (r_q2b : OF ρ → Typ → Typ → Option Bool) (h_r_q2b : ∀ y0 y1, CM (fun G => r_q2b G y0 y1)) (a0 a1 : Typ) : CM (fun G : OF ρ => zok (r_q19 G) (r_q0z G) (r_q1v G) (r_q06 G) (r_q03 G) (r_q1t G) (r_q05 G) (r_q02 G) (r_q2b G) a0 a1) := by
 simp only [zok]
 repeat (first | exact z01 | exact h_r_q19 _ _ | exact h_r_q0z _ _ | exact h_r_q1v _ _ | exact h_r_q06 _ _ | exact h_r_q03 _ _ | exact h_r_q1t _ _ | exact h_r_q05 _ _ | exact h_r_q02 _ _ | exact h_r_q2b _ _ | apply zkw | apply zuc | refine z0h ?_ ?_ | refine z0i ?_ (fun _ => ?_) | intro _ | assumption)
noncomputable def zop (r_q19 r_q0z r_q1v : Typ → Typ → Option Bool) (r_q06 : (List Typ) → Typ → Option Int) (r_q03 : (List Typ) → Typ → Option Bool) (r_q1t : Typ → Typ → Option Bool) (r_q05 : (List Typ) → Typ → Option Int) (r_q02 : (List Typ) → Typ → Option Bool) (r_q2b : Typ → Typ → Option Bool) (a0 a1 : Typ) : Option Bool :=
 (r_q2b a0 a1).bind fun x1 =>
 some x1
theorem Z1r (r_q19 : OF ρ → Typ → Typ → Option Bool) (h_r_q19 : ∀ y0 y1, CM (fun G => r_q19 G y0 y1)) (r_q0z : OF ρ → Typ → Typ → Option Bool) (h_r_q0z : ∀ y0 y1, CM (fun G => r_q0z G y0 y1)) (r_q1v : OF ρ → Typ → Typ → Option Bool) (h_r_q1v : ∀ y0 y1, CM (fun G => r_q1v G y0 y1)) (r_q06 : OF ρ → (List Typ) → Typ → Option Int) (h_r_q06 : ∀ y0 y1, CM (fun G => r_q06 G y0 y1)) (r_q03 : OF ρ → (List Typ) → Typ → Option Bool) (h_r_q03 : ∀ y0 y1, CM (fun G => r_q03 G y0 y1)) (r_q1t : OF ρ → Typ → Typ → Option Bool) (h_r_q1t : ∀ y0 y1, CM (fun G => r_q1t G y0 y1)) (r_q05 : OF ρ → (List Typ) → Typ → Option Int) (h_r_q05 : ∀ y0 y1, CM (fun G => r_q05 G y0 y1)) (r_q02 : OF ρ → (List Typ) → Typ → Option Bool) (h_r_q02 : ∀ y0 y1, CM (fun G => r_q02 G y0 y1)) (r_q2b : OF ρ → Typ → Typ → Option Bool) (h_r_q2b : ∀ y0 y1, CM (fun G => r_q2b G y0 y1)) (a0 a1 : Typ) : CM (fun G : OF ρ => zop (r_q19 G) (r_q0z G) (r_q1v G) (r_q06 G) (r_q03 G) (r_q1t G) (r_q05 G) (r_q02 G) (r_q2b G) a0 a1) := by
 simp only [zop]
 repeat (first | exact z01 | exact h_r_q19 _ _ | exact h_r_q0z _ _ | exact h_r_q1v _ _ | exact h_r_q06 _ _ | exact h_r_q03 _ _ | exact h_r_q1t _ _ | exact h_r_q05 _ _ | exact h_r_q02 _ _ | exact h_r_q2b _ _ | refine z0h ?_ ?_ | refine z0i ?_ (fun _ => ?_))
noncomputable def zoa (r_q19 r_q0z r_q1v : Typ → Typ → Option Bool) (r_q06 : (List Typ) → Typ → Option Int) (r_q03 : (List Typ) → Typ → Option Bool) (r_q1t : Typ → Typ → Option Bool) (r_q05 : (List Typ) → Typ → Option Int) (r_q02 : (List Typ) → Typ → Option Bool) (r_q2b : Typ → Typ → Option Bool) (a0 a1 : Typ) : Option Bool :=
 (r_q2b a1 a0).bind fun x1 =>
 some x1
theorem Z1c (r_q19 : OF ρ → Typ → Typ → Option Bool) (h_r_q19 : ∀ y0 y1, CM (fun G => r_q19 G y0 y1)) (r_q0z : OF ρ → Typ → Typ → Option Bool) (h_r_q0z : ∀ y0 y1, CM (fun G => r_q0z G y0 y1)) (r_q1v : OF ρ → Typ → Typ → Option Bool) (h_r_q1v : ∀ y0 y1, CM (fun G => r_q1v G y0 y1)) (r_q06 : OF ρ → (List Typ) → Typ → Option Int) (h_r_q06 : ∀ y0 y1, CM (fun G => r_q06 G y0 y1)) (r_q03 : OF ρ → (List Typ) → Typ → Option Bool) (h_r_q03 : ∀ y0 y1, CM (fun G => r_q03 G y0 y1)) (r_q1t : OF ρ → Typ → Typ → Option Bool) (h_r_q1t : ∀ y0 y1, CM (fun G => r_q1t G y0 y1)) (r_q05 : OF ρ → (List Typ) → Typ → Option Int) (h_r_q05 : ∀ y0 y1, CM (fun G => r_q05 G y0 y1)) (r_q02 : OF ρ → (List Typ) → Typ → Option Bool) (h_r_q02 : ∀ y0 y1, CM (fun G => r_q02 G y0 y1)) (r_q2b : OF ρ → Typ → Typ → Option Bool) (h_r_q2b : ∀ y0 y1, CM (fun G => r_q2b G y0 y1)) (a0 a1 : Typ) : CM (fun G : OF ρ => zoa (r_q19 G) (r_q0z G) (r_q1v G) (r_q06 G) (r_q03 G) (r_q1t G) (r_q05 G) (r_q02 G) (r_q2b G) a0 a1) := by
 simp only [zoa]
 repeat (first | exact z01 | exact h_r_q19 _ _ | exact h_r_q0z _ _ | exact h_r_q1v _ _ | exact h_r_q06 _ _ | exact h_r_q03 _ _ | exact h_r_q1t _ _ | exact h_r_q05 _ _ | exact h_r_q02 _ _ | exact h_r_q2b _ _ | refine z0h ?_ ?_ | refine z0i ?_ (fun _ => ?_))
noncomputable def z6n (r_q1v : Typ → Typ → Option Bool) (a0 : (List Typ)) (a1c0 : Typ) (g1 : Nat → Option Int) (s1 : Nat) : Option Int :=
 bif (decide (((s1 : Nat) : Int) < (((a0).length : Nat) : Int))) then (
 ((a0)[s1]?).bind fun x4 =>
 (r_q1v x4 a1c0).bind fun x5 =>
 bif x5 then (
 some ((s1 : Nat) : Int)
 ) else (
 g1 (s1 + 1)
 )
 ) else (
 some (-1)
 )
theorem zcs (r_q1v : OF ρ → Typ → Typ → Option Bool) (h_r_q1v : ∀ y0 y1, CM (fun G => r_q1v G y0 y1)) (g1 : OF ρ → Nat → Option Int) (h_g1 : ∀ y0, CM (fun G => g1 G y0)) (a0 : (List Typ)) (a1c0 : Typ) (s1 : Nat) : CM (fun G : OF ρ => z6n (r_q1v G) a0 a1c0 (g1 G) s1) := by
 simp only [z6n]
 repeat (first | exact z01 | exact h_r_q1v _ _ | exact h_g1 _ | refine z0h ?_ ?_ | refine z0i ?_ (fun _ => ?_))
noncomputable def zhw (r_q1v : Typ → Typ → Option Bool) (a0 : (List Typ)) (a1c0 : Typ) (s1 : Nat) : Option Int :=
 z22 (ι := Nat) (ρ := fun _ => Int) (fun g i => z6n r_q1v a0 a1c0 (fun s1 => g s1) i) s1
theorem zlk (r_q1v : Typ → Typ → Option Bool) (a0 : (List Typ)) (a1c0 : Typ) (s1 : Nat) : zhw r_q1v a0 a1c0 s1 = z6n r_q1v a0 a1c0 (zhw r_q1v a0 a1c0) s1 :=
 z0t (ι := Nat) (ρ := fun _ => Int) (Φ := fun g i => z6n r_q1v a0 a1c0 (fun s1 => g s1) i) (fun i => zcs (ι := Nat) (ρ := fun _ => Int) (fun _ => r_q1v) (fun _ _ => z01) (fun g => (fun s1 => g s1)) (fun _ => z0s) a0 a1c0 i) s1
theorem zvd (r_q1v : OF ρ → Typ → Typ → Option Bool) (h_r_q1v : ∀ y0 y1, CM (fun G => r_q1v G y0 y1)) (a0 : (List Typ)) (a1c0 : Typ) (s1 : Nat) : CM (fun G : OF ρ => zhw (r_q1v G) a0 a1c0 s1) :=
 z28 (κ := Nat) (τ := fun _ => Int) (Φ := fun G g i => z6n (r_q1v G) a0 a1c0 (fun s1 => g s1) i) (fun g i => zcs r_q1v h_r_q1v (fun _ => (fun s1 => g s1)) (fun _ => z01) a0 a1c0 i) (fun G i => zcs (ι := Nat) (ρ := fun _ => Int) (fun _ => r_q1v G) (fun _ _ => z01) (fun g => (fun s1 => g s1)) (fun _ => z0s) a0 a1c0 i) s1
noncomputable def zoy (r_q19 r_q0z r_q1v : Typ → Typ → Option Bool) (r_q06 : (List Typ) → Typ → Option Int) (r_q03 : (List Typ) → Typ → Option Bool) (r_q1t : Typ → Typ → Option Bool) (r_q05 : (List Typ) → Typ → Option Int) (r_q02 : (List Typ) → Typ → Option Bool) (r_q2b : Typ → Typ → Option Bool) (a0 : (List Typ)) (a1c0 : Typ) : Option Int :=
 zhw r_q1v a0 a1c0 0
theorem Z21 (r_q19 : OF ρ → Typ → Typ → Option Bool) (h_r_q19 : ∀ y0 y1, CM (fun G => r_q19 G y0 y1)) (r_q0z : OF ρ → Typ → Typ → Option Bool) (h_r_q0z : ∀ y0 y1, CM (fun G => r_q0z G y0 y1)) (r_q1v : OF ρ → Typ → Typ → Option Bool) (h_r_q1v : ∀ y0 y1, CM (fun G => r_q1v G y0 y1)) (r_q06 : OF ρ → (List Typ) → Typ → Option Int) (h_r_q06 : ∀ y0 y1, CM (fun G => r_q06 G y0 y1)) (r_q03 : OF ρ → (List Typ) → Typ → Option Bool) (h_r_q03 : ∀ y0 y1, CM (fun G => r_q03 G y0 y1)) (r_q1t : OF ρ → Typ → Typ → Option Bool) (h_r_q1t : ∀ y0 y1, CM (fun G => r_q1t G y0 y1)) (r_q05 : OF ρ → (List Typ) → Typ → Option Int) (h_r_q05 : ∀ y0 y1, CM (fun G => r_q05 G y0 y1)) (r_q02 : OF ρ → (List Typ) → Typ → Option Bool) (h_r_q02 : ∀ y0 y1, CM (fun G => r_q02 G y0 y1)) (r_q2b : OF ρ → Typ → Typ → Option Bool) (h_r_q2b : ∀ y0 y1, CM (fun G => r_q2b G y0 y1)) (a0 : (List Typ)) (a1c0 : Typ) : CM (fun G : OF ρ => zoy (r_q19 G) (r_q0z G) (r_q1v G) (r_q06 G) (r_q03 G) (r_q1t G) (r_q05 G) (r_q02 G) (r_q2b G) a0 a1c0) := by
 simp only [zoy]
 repeat (first | exact z01 | exact h_r_q19 _ _ | exact h_r_q0z _ _ | exact h_r_q1v _ _ | exact h_r_q06 _ _ | exact h_r_q03 _ _ | exact h_r_q1t _ _ | exact h_r_q05 _ _ | exact h_r_q02 _ _ | exact h_r_q2b _ _ | apply zvd | refine z0h ?_ ?_ | refine z0i ?_ (fun _ => ?_) | intro _ | assumption)
noncomputable def zp0 (r_q19 r_q0z r_q1v : Typ → Typ → Option Bool) (r_q06 : (List Typ) → Typ → Option Int) (r_q03 : (List Typ) → Typ → Option Bool) (r_q1t : Typ → Typ → Option Bool) (r_q05 : (List Typ) → Typ → Option Int) (r_q02 : (List Typ) → Typ → Option Bool) (r_q2b : Typ → Typ → Option Bool) (a0 : (List Typ)) (a1c0 : Typ) : Option Bool :=
 (r_q06 a0 a1c0).bind fun x1 =>
 some (decide (x1 ≥ 0))
theorem Z23 (r_q19 : OF ρ → Typ → Typ → Option Bool) (h_r_q19 : ∀ y0 y1, CM (fun G => r_q19 G y0 y1)) (r_q0z : OF ρ → Typ → Typ → Option Bool) (h_r_q0z : ∀ y0 y1, CM (fun G => r_q0z G y0 y1)) (r_q1v : OF ρ → Typ → Typ → Option Bool) (h_r_q1v : ∀ y0 y1, CM (fun G => r_q1v G y0 y1)) (r_q06 : OF ρ → (List Typ) → Typ → Option Int) (h_r_q06 : ∀ y0 y1, CM (fun G => r_q06 G y0 y1)) (r_q03 : OF ρ → (List Typ) → Typ → Option Bool) (h_r_q03 : ∀ y0 y1, CM (fun G => r_q03 G y0 y1)) (r_q1t : OF ρ → Typ → Typ → Option Bool) (h_r_q1t : ∀ y0 y1, CM (fun G => r_q1t G y0 y1)) (r_q05 : OF ρ → (List Typ) → Typ → Option Int) (h_r_q05 : ∀ y0 y1, CM (fun G => r_q05 G y0 y1)) (r_q02 : OF ρ → (List Typ) → Typ → Option Bool) (h_r_q02 : ∀ y0 y1, CM (fun G => r_q02 G y0 y1)) (r_q2b : OF ρ → Typ → Typ → Option Bool) (h_r_q2b : ∀ y0 y1, CM (fun G => r_q2b G y0 y1)) (a0 : (List Typ)) (a1c0 : Typ) : CM (fun G : OF ρ => zp0 (r_q19 G) (r_q0z G) (r_q1v G) (r_q06 G) (r_q03 G) (r_q1t G) (r_q05 G) (r_q02 G) (r_q2b G) a0 a1c0) := by
 simp only [zp0]
 repeat (first | exact z01 | exact h_r_q19 _ _ | exact h_r_q0z _ _ | exact h_r_q1v _ _ | exact h_r_q06 _ _ | exact h_r_q03 _ _ | exact h_r_q1t _ _ | exact h_r_q05 _ _ | exact h_r_q02 _ _ | exact h_r_q2b _ _ | refine z0h ?_ ?_ | refine z0i ?_ (fun _ => ?_))
noncomputable def zoc (r_q19 r_q0z r_q1v : Typ → Typ → Option Bool) (r_q06 : (List Typ) → Typ → Option Int) (r_q03 : (List Typ) → Typ → Option Bool) (r_q1t : Typ → Typ → Option Bool) (r_q05 : (List Typ) → Typ → Option Int) (r_q02 : (List Typ) → Typ → Option Bool) (r_q2b : Typ → Typ → Option Bool) (a0 a1 : Typ) : Option Bool :=
 (r_q2b a0 a1).bind fun x1 =>
 some (!x1)
theorem Z1e (r_q19 : OF ρ → Typ → Typ → Option Bool) (h_r_q19 : ∀ y0 y1, CM (fun G => r_q19 G y0 y1)) (r_q0z : OF ρ → Typ → Typ → Option Bool) (h_r_q0z : ∀ y0 y1, CM (fun G => r_q0z G y0 y1)) (r_q1v : OF ρ → Typ → Typ → Option Bool) (h_r_q1v : ∀ y0 y1, CM (fun G => r_q1v G y0 y1)) (r_q06 : OF ρ → (List Typ) → Typ → Option Int) (h_r_q06 : ∀ y0 y1, CM (fun G => r_q06 G y0 y1)) (r_q03 : OF ρ → (List Typ) → Typ → Option Bool) (h_r_q03 : ∀ y0 y1, CM (fun G => r_q03 G y0 y1)) (r_q1t : OF ρ → Typ → Typ → Option Bool) (h_r_q1t : ∀ y0 y1, CM (fun G => r_q1t G y0 y1)) (r_q05 : OF ρ → (List Typ) → Typ → Option Int) (h_r_q05 : ∀ y0 y1, CM (fun G => r_q05 G y0 y1)) (r_q02 : OF ρ → (List Typ) → Typ → Option Bool) (h_r_q02 : ∀ y0 y1, CM (fun G => r_q02 G y0 y1)) (r_q2b : OF ρ → Typ → Typ → Option Bool) (h_r_q2b : ∀ y0 y1, CM (fun G => r_q2b G y0 y1)) (a0 a1 : Typ) : CM (fun G : OF ρ => zoc (r_q19 G) (r_q0z G) (r_q1v G) (r_q06 G) (r_q03 G) (r_q1t G) (r_q05 G) (r_q02 G) (r_q2b G) a0 a1) := by
 simp only [zoc]
 repeat (first | exact z01 | exact h_r_q19 _ _ | exact h_r_q0z _ _ | exact h_r_q1v _ _ | exact h_r_q06 _ _ | exact h_r_q03 _ _ | exact h_r_q1t _ _ | exact h_r_q05 _ _ | exact h_r_q02 _ _ | exact h_r_q2b _ _ | refine z0h ?_ ?_ | refine z0i ?_ (fun _ => ?_))
noncomputable def z6o (r_q1t : Typ → Typ → Option Bool) (a0 : (List Typ)) (a1c0 : Typ) (g1 : Nat → Option Int) (s1 : Nat) : Option Int :=
 bif (decide (((s1 : Nat) : Int) < (((a0).length : Nat) : Int))) then (
 ((a0)[s1]?).bind fun x4 =>
 (r_q1t x4 a1c0).bind fun x5 =>
 bif x5 then (
 some ((s1 : Nat) : Int)
 ) else (
 g1 (s1 + 1)
 )
 ) else (
 some (-1)
 )
theorem zct (r_q1t : OF ρ → Typ → Typ → Option Bool) (h_r_q1t : ∀ y0 y1, CM (fun G => r_q1t G y0 y1)) (g1 : OF ρ → Nat → Option Int) (h_g1 : ∀ y0, CM (fun G => g1 G y0)) (a0 : (List Typ)) (a1c0 : Typ) (s1 : Nat) : CM (fun G : OF ρ => z6o (r_q1t G) a0 a1c0 (g1 G) s1) := by
 simp only [z6o]
 repeat (first | exact z01 | exact h_r_q1t _ _ | exact h_g1 _ | refine z0h ?_ ?_ | refine z0i ?_ (fun _ => ?_))
noncomputable def zhx (r_q1t : Typ → Typ → Option Bool) (a0 : (List Typ)) (a1c0 : Typ) (s1 : Nat) : Option Int :=
 z22 (ι := Nat) (ρ := fun _ => Int) (fun g i => z6o r_q1t a0 a1c0 (fun s1 => g s1) i) s1
theorem zll (r_q1t : Typ → Typ → Option Bool) (a0 : (List Typ)) (a1c0 : Typ) (s1 : Nat) : zhx r_q1t a0 a1c0 s1 = z6o r_q1t a0 a1c0 (zhx r_q1t a0 a1c0) s1 :=
 z0t (ι := Nat) (ρ := fun _ => Int) (Φ := fun g i => z6o r_q1t a0 a1c0 (fun s1 => g s1) i) (fun i => zct (ι := Nat) (ρ := fun _ => Int) (fun _ => r_q1t) (fun _ _ => z01) (fun g => (fun s1 => g s1)) (fun _ => z0s) a0 a1c0 i) s1
theorem zve (r_q1t : OF ρ → Typ → Typ → Option Bool) (h_r_q1t : ∀ y0 y1, CM (fun G => r_q1t G y0 y1)) (a0 : (List Typ)) (a1c0 : Typ) (s1 : Nat) : CM (fun G : OF ρ => zhx (r_q1t G) a0 a1c0 s1) :=
 z28 (κ := Nat) (τ := fun _ => Int) (Φ := fun G g i => z6o (r_q1t G) a0 a1c0 (fun s1 => g s1) i) (fun g i => zct r_q1t h_r_q1t (fun _ => (fun s1 => g s1)) (fun _ => z01) a0 a1c0 i) (fun G i => zct (ι := Nat) (ρ := fun _ => Int) (fun _ => r_q1t G) (fun _ _ => z01) (fun g => (fun s1 => g s1)) (fun _ => z0s) a0 a1c0 i) s1
noncomputable def zoz (r_q19 r_q0z r_q1v : Typ → Typ → Option Bool) (r_q06 : (List Typ) → Typ → Option Int) (r_q03 : (List Typ) → Typ → Option Bool) (r_q1t : Typ → Typ → Option Bool) (r_q05 : (List Typ) → Typ → Option Int) (r_q02 : (List Typ) → Typ → Option Bool) (r_q2b : Typ → Typ → Option Bool) (a0 : (List Typ)) (a1c0 : Typ) : Option Int :=
 zhx r_q1t a0 a1c0 0
theorem Z22 (r_q19 : OF ρ → Typ → Typ → Option Bool) (h_r_q19 : ∀ y0 y1, CM (fun G => r_q19 G y0 y1)) (r_q0z : OF ρ → Typ → Typ → Option Bool) (h_r_q0z : ∀ y0 y1, CM (fun G => r_q0z G y0 y1)) (r_q1v : OF ρ → Typ → Typ → Option Bool) (h_r_q1v : ∀ y0 y1, CM (fun G => r_q1v G y0 y1)) (r_q06 : OF ρ → (List Typ) → Typ → Option Int) (h_r_q06 : ∀ y0 y1, CM (fun G => r_q06 G y0 y1)) (r_q03 : OF ρ → (List Typ) → Typ → Option Bool) (h_r_q03 : ∀ y0 y1, CM (fun G => r_q03 G y0 y1)) (r_q1t : OF ρ → Typ → Typ → Option Bool) (h_r_q1t : ∀ y0 y1, CM (fun G => r_q1t G y0 y1)) (r_q05 : OF ρ → (List Typ) → Typ → Option Int) (h_r_q05 : ∀ y0 y1, CM (fun G => r_q05 G y0 y1)) (r_q02 : OF ρ → (List Typ) → Typ → Option Bool) (h_r_q02 : ∀ y0 y1, CM (fun G => r_q02 G y0 y1)) (r_q2b : OF ρ → Typ → Typ → Option Bool) (h_r_q2b : ∀ y0 y1, CM (fun G => r_q2b G y0 y1)) (a0 : (List Typ)) (a1c0 : Typ) : CM (fun G : OF ρ => zoz (r_q19 G) (r_q0z G) (r_q1v G) (r_q06 G) (r_q03 G) (r_q1t G) (r_q05 G) (r_q02 G) (r_q2b G) a0 a1c0) := by
 simp only [zoz]
 repeat (first | exact z01 | exact h_r_q19 _ _ | exact h_r_q0z _ _ | exact h_r_q1v _ _ | exact h_r_q06 _ _ | exact h_r_q03 _ _ | exact h_r_q1t _ _ | exact h_r_q05 _ _ | exact h_r_q02 _ _ | exact h_r_q2b _ _ | apply zve | refine z0h ?_ ?_ | refine z0i ?_ (fun _ => ?_) | intro _ | assumption)
noncomputable def zp1 (r_q19 r_q0z r_q1v : Typ → Typ → Option Bool) (r_q06 : (List Typ) → Typ → Option Int) (r_q03 : (List Typ) → Typ → Option Bool) (r_q1t : Typ → Typ → Option Bool) (r_q05 : (List Typ) → Typ → Option Int) (r_q02 : (List Typ) → Typ → Option Bool) (r_q2b : Typ → Typ → Option Bool) (a0 : (List Typ)) (a1c0 : Typ) : Option Bool :=
 (r_q05 a0 a1c0).bind fun x1 =>
 some (decide (x1 ≥ 0))
theorem Z24 (r_q19 : OF ρ → Typ → Typ → Option Bool) (h_r_q19 : ∀ y0 y1, CM (fun G => r_q19 G y0 y1)) (r_q0z : OF ρ → Typ → Typ → Option Bool) (h_r_q0z : ∀ y0 y1, CM (fun G => r_q0z G y0 y1)) (r_q1v : OF ρ → Typ → Typ → Option Bool) (h_r_q1v : ∀ y0 y1, CM (fun G => r_q1v G y0 y1)) (r_q06 : OF ρ → (List Typ) → Typ → Option Int) (h_r_q06 : ∀ y0 y1, CM (fun G => r_q06 G y0 y1)) (r_q03 : OF ρ → (List Typ) → Typ → Option Bool) (h_r_q03 : ∀ y0 y1, CM (fun G => r_q03 G y0 y1)) (r_q1t : OF ρ → Typ → Typ → Option Bool) (h_r_q1t : ∀ y0 y1, CM (fun G => r_q1t G y0 y1)) (r_q05 : OF ρ → (List Typ) → Typ → Option Int) (h_r_q05 : ∀ y0 y1, CM (fun G => r_q05 G y0 y1)) (r_q02 : OF ρ → (List Typ) → Typ → Option Bool) (h_r_q02 : ∀ y0 y1, CM (fun G => r_q02 G y0 y1)) (r_q2b : OF ρ → Typ → Typ → Option Bool) (h_r_q2b : ∀ y0 y1, CM (fun G => r_q2b G y0 y1)) (a0 : (List Typ)) (a1c0 : Typ) : CM (fun G : OF ρ => zp1 (r_q19 G) (r_q0z G) (r_q1v G) (r_q06 G) (r_q03 G) (r_q1t G) (r_q05 G) (r_q02 G) (r_q2b G) a0 a1c0) := by
 simp only [zp1]
 repeat (first | exact z01 | exact h_r_q19 _ _ | exact h_r_q0z _ _ | exact h_r_q1v _ _ | exact h_r_q06 _ _ | exact h_r_q03 _ _ | exact h_r_q1t _ _ | exact h_r_q05 _ _ | exact h_r_q02 _ _ | exact h_r_q2b _ _ | refine z0h ?_ ?_ | refine z0i ?_ (fun _ => ?_))
noncomputable def zdb (r_q19 r_q0z : Typ → Typ → Option Bool) (r_q03 r_q02 : (List Typ) → Typ → Option Bool) (a0 a1 : Typ) (s1 : Bool) : Option Bool :=
 bif s1 then (
 some true
 ) else (
 bif (a0.kind == 7) then (
 (r_q02 a0.parts a1).bind fun x4 =>
 some (!x4)
 ) else (
 bif (a1.kind == 7) then (
 (r_q03 a1.parts a0).bind fun x6 =>
 some x6
 ) else (
 bif (a1.kind == 2) then (
 some false
 ) else (
 bif (a0.kind == 4) then (
 (zgh (a0.only)).bind fun x9 =>
 (z9v x9.1 a1 0).bind fun x10 =>
 some x10.1
 ) else (
 bif (a0.kind == 1) then (
 some false
 ) else (
 bif (a0.kind == 3) then (
 bif (a1.kind == 3) then (
 some (a0.of == a1.of)
 ) else (
 some false
 )
 ) else (
 bif (a0.kind == 5) then (
 bif (a1.kind == 3) then (
 bif (a1.of == 8) then (
 some true
 ) else (
 bif (a1.kind == 5) then (
 ((a1.parts)[0]?).bind fun x18 =>
 (zro x18).bind fun x19 =>
 ((a0.parts)[0]?).bind fun x20 =>
 (r_q0z x20 x19).bind fun x21 =>
 some x21
 ) else (
 some false
 )
 )
 ) else (
 bif (a1.kind == 5) then (
 ((a1.parts)[0]?).bind fun x23 =>
 (zro x23).bind fun x24 =>
 ((a0.parts)[0]?).bind fun x25 =>
 (r_q0z x25 x24).bind fun x26 =>
 some x26
 ) else (
 some false
 )
 )
 ) else (
 bif (a0.kind == 8) then (
 bif (a1.kind == 3) then (
 bif (a1.of == 10) then (
 some true
 ) else (
 bif (a1.kind == 8) then (
 some (a0.cls == a1.cls)
 ) else (
 some false
 )
 )
 ) else (
 bif (a1.kind == 8) then (
 some (a0.cls == a1.cls)
 ) else (
 some false
 )
 )
 ) else (
 bif (a0.kind == 6) then (
 bif (a1.kind == 3) then (
 bif (a1.of == 9) then (
 some true
 ) else (
 bif (a1.kind == 6) then (
 (r_q19 a0 a1).bind fun x36 =>
 some x36
 ) else (
 some false
 )
 )
 ) else (
 bif (a1.kind == 6) then (
 (r_q19 a0 a1).bind fun x38 =>
 some x38
 ) else (
 some false
 )
 )
 ) else (
 some false
 )
 )
 )
 )
 )
 )
 )
 )
 )
 )
theorem ztj (r_q19 : OF ρ → Typ → Typ → Option Bool) (h_r_q19 : ∀ y0 y1, CM (fun G => r_q19 G y0 y1)) (r_q0z : OF ρ → Typ → Typ → Option Bool) (h_r_q0z : ∀ y0 y1, CM (fun G => r_q0z G y0 y1)) (r_q03 : OF ρ → (List Typ) → Typ → Option Bool) (h_r_q03 : ∀ y0 y1, CM (fun G => r_q03 G y0 y1)) (r_q02 : OF ρ → (List Typ) → Typ → Option Bool) (h_r_q02 : ∀ y0 y1, CM (fun G => r_q02 G y0 y1)) (a0 a1 : Typ) (s1 : Bool) : CM (fun G : OF ρ => zdb (r_q19 G) (r_q0z G) (r_q03 G) (r_q02 G) a0 a1 s1) := by
 simp only [zdb]
 repeat (first | exact z01 | exact h_r_q19 _ _ | exact h_r_q0z _ _ | exact h_r_q03 _ _ | exact h_r_q02 _ _ | refine z0h ?_ ?_ | refine z0i ?_ (fun _ => ?_))
noncomputable def zms (r_q19 r_q0z r_q1v : Typ → Typ → Option Bool) (r_q06 : (List Typ) → Typ → Option Int) (r_q03 : (List Typ) → Typ → Option Bool) (r_q1t : Typ → Typ → Option Bool) (r_q05 : (List Typ) → Typ → Option Int) (r_q02 : (List Typ) → Typ → Option Bool) (r_q2b : Typ → Typ → Option Bool) (a0 a1 : Typ) : Option Bool :=
 bif (a1.kind == 1) then (
 zdb r_q19 r_q0z r_q03 r_q02 a0 a1 true
 ) else (
 zdb r_q19 r_q0z r_q03 r_q02 a0 a1 (a0.kind == 2)
 )
theorem Z16 (r_q19 : OF ρ → Typ → Typ → Option Bool) (h_r_q19 : ∀ y0 y1, CM (fun G => r_q19 G y0 y1)) (r_q0z : OF ρ → Typ → Typ → Option Bool) (h_r_q0z : ∀ y0 y1, CM (fun G => r_q0z G y0 y1)) (r_q1v : OF ρ → Typ → Typ → Option Bool) (h_r_q1v : ∀ y0 y1, CM (fun G => r_q1v G y0 y1)) (r_q06 : OF ρ → (List Typ) → Typ → Option Int) (h_r_q06 : ∀ y0 y1, CM (fun G => r_q06 G y0 y1)) (r_q03 : OF ρ → (List Typ) → Typ → Option Bool) (h_r_q03 : ∀ y0 y1, CM (fun G => r_q03 G y0 y1)) (r_q1t : OF ρ → Typ → Typ → Option Bool) (h_r_q1t : ∀ y0 y1, CM (fun G => r_q1t G y0 y1)) (r_q05 : OF ρ → (List Typ) → Typ → Option Int) (h_r_q05 : ∀ y0 y1, CM (fun G => r_q05 G y0 y1)) (r_q02 : OF ρ → (List Typ) → Typ → Option Bool) (h_r_q02 : ∀ y0 y1, CM (fun G => r_q02 G y0 y1)) (r_q2b : OF ρ → Typ → Typ → Option Bool) (h_r_q2b : ∀ y0 y1, CM (fun G => r_q2b G y0 y1)) (a0 a1 : Typ) : CM (fun G : OF ρ => zms (r_q19 G) (r_q0z G) (r_q1v G) (r_q06 G) (r_q03 G) (r_q1t G) (r_q05 G) (r_q02 G) (r_q2b G) a0 a1) := by
 simp only [zms]
 repeat (first | exact z01 | exact h_r_q19 _ _ | exact h_r_q0z _ _ | exact h_r_q1v _ _ | exact h_r_q06 _ _ | exact h_r_q03 _ _ | exact h_r_q1t _ _ | exact h_r_q05 _ _ | exact h_r_q02 _ _ | exact h_r_q2b _ _ | apply ztj | refine z0h ?_ ?_ | refine z0i ?_ (fun _ => ?_) | intro _ | assumption)
inductive C_q19 where
 | k_q19 (a0 : Typ) (a1 : Typ)
 | k_q0z (a0 : Typ) (a1 : Typ)
 | k_q1v (a0 : Typ) (a1 : Typ)
 | k_q06 (a0 : (List Typ)) (a1c0 : Typ)
 | k_q03 (a0 : (List Typ)) (a1c0 : Typ)
 | k_q1t (a0 : Typ) (a1 : Typ)
 | k_q05 (a0 : (List Typ)) (a1c0 : Typ)
 | k_q02 (a0 : (List Typ)) (a1c0 : Typ)
 | k_q2b (a0 : Typ) (a1 : Typ)
def C_q19.R : C_q19 → Type
 | .k_q19 _ _ => Bool
 | .k_q0z _ _ => Bool
 | .k_q1v _ _ => Bool
 | .k_q06 _ _ => Int
 | .k_q03 _ _ => Bool
 | .k_q1t _ _ => Bool
 | .k_q05 _ _ => Int
 | .k_q02 _ _ => Bool
 | .k_q2b _ _ => Bool
noncomputable def C_q19.F (g : ∀ i : C_q19, Option i.R) : ∀ i : C_q19, Option i.R
 | .k_q19 a0 a1 => zok (fun a0 a1 => g (.k_q19 a0 a1)) (fun a0 a1 => g (.k_q0z a0 a1)) (fun a0 a1 => g (.k_q1v a0 a1)) (fun a0 a1c0 => g (.k_q06 a0 a1c0)) (fun a0 a1c0 => g (.k_q03 a0 a1c0)) (fun a0 a1 => g (.k_q1t a0 a1)) (fun a0 a1c0 => g (.k_q05 a0 a1c0)) (fun a0 a1c0 => g (.k_q02 a0 a1c0)) (fun a0 a1 => g (.k_q2b a0 a1)) a0 a1
 | .k_q0z a0 a1 => zop (fun a0 a1 => g (.k_q19 a0 a1)) (fun a0 a1 => g (.k_q0z a0 a1)) (fun a0 a1 => g (.k_q1v a0 a1)) (fun a0 a1c0 => g (.k_q06 a0 a1c0)) (fun a0 a1c0 => g (.k_q03 a0 a1c0)) (fun a0 a1 => g (.k_q1t a0 a1)) (fun a0 a1c0 => g (.k_q05 a0 a1c0)) (fun a0 a1c0 => g (.k_q02 a0 a1c0)) (fun a0 a1 => g (.k_q2b a0 a1)) a0 a1
 | .k_q1v a0 a1 => zoa (fun a0 a1 => g (.k_q19 a0 a1)) (fun a0 a1 => g (.k_q0z a0 a1)) (fun a0 a1 => g (.k_q1v a0 a1)) (fun a0 a1c0 => g (.k_q06 a0 a1c0)) (fun a0 a1c0 => g (.k_q03 a0 a1c0)) (fun a0 a1 => g (.k_q1t a0 a1)) (fun a0 a1c0 => g (.k_q05 a0 a1c0)) (fun a0 a1c0 => g (.k_q02 a0 a1c0)) (fun a0 a1 => g (.k_q2b a0 a1)) a0 a1
 | .k_q06 a0 a1c0 => zoy (fun a0 a1 => g (.k_q19 a0 a1)) (fun a0 a1 => g (.k_q0z a0 a1)) (fun a0 a1 => g (.k_q1v a0 a1)) (fun a0 a1c0 => g (.k_q06 a0 a1c0)) (fun a0 a1c0 => g (.k_q03 a0 a1c0)) (fun a0 a1 => g (.k_q1t a0 a1)) (fun a0 a1c0 => g (.k_q05 a0 a1c0)) (fun a0 a1c0 => g (.k_q02 a0 a1c0)) (fun a0 a1 => g (.k_q2b a0 a1)) a0 a1c0
 | .k_q03 a0 a1c0 => zp0 (fun a0 a1 => g (.k_q19 a0 a1)) (fun a0 a1 => g (.k_q0z a0 a1)) (fun a0 a1 => g (.k_q1v a0 a1)) (fun a0 a1c0 => g (.k_q06 a0 a1c0)) (fun a0 a1c0 => g (.k_q03 a0 a1c0)) (fun a0 a1 => g (.k_q1t a0 a1)) (fun a0 a1c0 => g (.k_q05 a0 a1c0)) (fun a0 a1c0 => g (.k_q02 a0 a1c0)) (fun a0 a1 => g (.k_q2b a0 a1)) a0 a1c0
 | .k_q1t a0 a1 => zoc (fun a0 a1 => g (.k_q19 a0 a1)) (fun a0 a1 => g (.k_q0z a0 a1)) (fun a0 a1 => g (.k_q1v a0 a1)) (fun a0 a1c0 => g (.k_q06 a0 a1c0)) (fun a0 a1c0 => g (.k_q03 a0 a1c0)) (fun a0 a1 => g (.k_q1t a0 a1)) (fun a0 a1c0 => g (.k_q05 a0 a1c0)) (fun a0 a1c0 => g (.k_q02 a0 a1c0)) (fun a0 a1 => g (.k_q2b a0 a1)) a0 a1
 | .k_q05 a0 a1c0 => zoz (fun a0 a1 => g (.k_q19 a0 a1)) (fun a0 a1 => g (.k_q0z a0 a1)) (fun a0 a1 => g (.k_q1v a0 a1)) (fun a0 a1c0 => g (.k_q06 a0 a1c0)) (fun a0 a1c0 => g (.k_q03 a0 a1c0)) (fun a0 a1 => g (.k_q1t a0 a1)) (fun a0 a1c0 => g (.k_q05 a0 a1c0)) (fun a0 a1c0 => g (.k_q02 a0 a1c0)) (fun a0 a1 => g (.k_q2b a0 a1)) a0 a1c0
 | .k_q02 a0 a1c0 => zp1 (fun a0 a1 => g (.k_q19 a0 a1)) (fun a0 a1 => g (.k_q0z a0 a1)) (fun a0 a1 => g (.k_q1v a0 a1)) (fun a0 a1c0 => g (.k_q06 a0 a1c0)) (fun a0 a1c0 => g (.k_q03 a0 a1c0)) (fun a0 a1 => g (.k_q1t a0 a1)) (fun a0 a1c0 => g (.k_q05 a0 a1c0)) (fun a0 a1c0 => g (.k_q02 a0 a1c0)) (fun a0 a1 => g (.k_q2b a0 a1)) a0 a1c0
 | .k_q2b a0 a1 => zms (fun a0 a1 => g (.k_q19 a0 a1)) (fun a0 a1 => g (.k_q0z a0 a1)) (fun a0 a1 => g (.k_q1v a0 a1)) (fun a0 a1c0 => g (.k_q06 a0 a1c0)) (fun a0 a1c0 => g (.k_q03 a0 a1c0)) (fun a0 a1 => g (.k_q1t a0 a1)) (fun a0 a1c0 => g (.k_q05 a0 a1c0)) (fun a0 a1c0 => g (.k_q02 a0 a1c0)) (fun a0 a1 => g (.k_q2b a0 a1)) a0 a1
noncomputable def zfe (a0 a1 : Typ) : Option Bool := z22 C_q19.F (.k_q19 a0 a1)
noncomputable def zff (a0 a1 : Typ) : Option Bool := z22 C_q19.F (.k_q0z a0 a1)
noncomputable def zds (a0 a1 : Typ) : Option Bool := z22 C_q19.F (.k_q1v a0 a1)
noncomputable def zgm (a0 : (List Typ)) (a1c0 : Typ) : Option Int := z22 C_q19.F (.k_q06 a0 a1c0)
noncomputable def zfh (a0 : (List Typ)) (a1c0 : Typ) : Option Bool := z22 C_q19.F (.k_q03 a0 a1c0)
noncomputable def zdt (a0 a1 : Typ) : Option Bool := z22 C_q19.F (.k_q1t a0 a1)
noncomputable def zgn (a0 : (List Typ)) (a1c0 : Typ) : Option Int := z22 C_q19.F (.k_q05 a0 a1c0)
noncomputable def zfi (a0 : (List Typ)) (a1c0 : Typ) : Option Bool := z22 C_q19.F (.k_q02 a0 a1c0)
noncomputable def z4f (a0 a1 : Typ) : Option Bool := z22 C_q19.F (.k_q2b a0 a1)
abbrev Z0j := fun (g : ∀ i : C_q19, Option i.R) a0 a1 => g (.k_q19 a0 a1)
theorem Z0a (a0 a1 : _) : CM (ρ := C_q19.R) (fun g => g (C_q19.k_q19 a0 a1)) := z0s
abbrev Z0i := fun (g : ∀ i : C_q19, Option i.R) a0 a1 => g (.k_q0z a0 a1)
theorem Z09 (a0 a1 : _) : CM (ρ := C_q19.R) (fun g => g (C_q19.k_q0z a0 a1)) := z0s
abbrev Z0h := fun (g : ∀ i : C_q19, Option i.R) a0 a1 => g (.k_q1v a0 a1)
theorem Z08 (a0 a1 : _) : CM (ρ := C_q19.R) (fun g => g (C_q19.k_q1v a0 a1)) := z0s
abbrev Z0g := fun (g : ∀ i : C_q19, Option i.R) a0 a1c0 => g (.k_q06 a0 a1c0)
theorem Z07 (a0 a1c0 : _) : CM (ρ := C_q19.R) (fun g => g (C_q19.k_q06 a0 a1c0)) := z0s
abbrev Z0f := fun (g : ∀ i : C_q19, Option i.R) a0 a1c0 => g (.k_q03 a0 a1c0)
theorem Z06 (a0 a1c0 : _) : CM (ρ := C_q19.R) (fun g => g (C_q19.k_q03 a0 a1c0)) := z0s
abbrev Z0e := fun (g : ∀ i : C_q19, Option i.R) a0 a1 => g (.k_q1t a0 a1)
theorem Z05 (a0 a1 : _) : CM (ρ := C_q19.R) (fun g => g (C_q19.k_q1t a0 a1)) := z0s
abbrev Z0d := fun (g : ∀ i : C_q19, Option i.R) a0 a1c0 => g (.k_q05 a0 a1c0)
theorem Z04 (a0 a1c0 : _) : CM (ρ := C_q19.R) (fun g => g (C_q19.k_q05 a0 a1c0)) := z0s
abbrev Z0c := fun (g : ∀ i : C_q19, Option i.R) a0 a1c0 => g (.k_q02 a0 a1c0)
theorem Z03 (a0 a1c0 : _) : CM (ρ := C_q19.R) (fun g => g (C_q19.k_q02 a0 a1c0)) := z0s
abbrev Z0b := fun (g : ∀ i : C_q19, Option i.R) a0 a1 => g (.k_q2b a0 a1)
theorem Z02 (a0 a1 : _) : CM (ρ := C_q19.R) (fun g => g (C_q19.k_q2b a0 a1)) := z0s
theorem C_q19.cm (i : C_q19) : CM (fun g : (∀ i : C_q19, Option i.R) => C_q19.F g i) := by
 cases i with
 | k_q19 a0 a1 => exact Z1m Z0j Z0a Z0i Z09 Z0h Z08 Z0g Z07 Z0f Z06 Z0e Z05 Z0d Z04 Z0c Z03 Z0b Z02 a0 a1
 | k_q0z a0 a1 => exact Z1r Z0j Z0a Z0i Z09 Z0h Z08 Z0g Z07 Z0f Z06 Z0e Z05 Z0d Z04 Z0c Z03 Z0b Z02 a0 a1
 | k_q1v a0 a1 => exact Z1c Z0j Z0a Z0i Z09 Z0h Z08 Z0g Z07 Z0f Z06 Z0e Z05 Z0d Z04 Z0c Z03 Z0b Z02 a0 a1
 | k_q06 a0 a1c0 => exact Z21 Z0j Z0a Z0i Z09 Z0h Z08 Z0g Z07 Z0f Z06 Z0e Z05 Z0d Z04 Z0c Z03 Z0b Z02 a0 a1c0
 | k_q03 a0 a1c0 => exact Z23 Z0j Z0a Z0i Z09 Z0h Z08 Z0g Z07 Z0f Z06 Z0e Z05 Z0d Z04 Z0c Z03 Z0b Z02 a0 a1c0
 | k_q1t a0 a1 => exact Z1e Z0j Z0a Z0i Z09 Z0h Z08 Z0g Z07 Z0f Z06 Z0e Z05 Z0d Z04 Z0c Z03 Z0b Z02 a0 a1
 | k_q05 a0 a1c0 => exact Z22 Z0j Z0a Z0i Z09 Z0h Z08 Z0g Z07 Z0f Z06 Z0e Z05 Z0d Z04 Z0c Z03 Z0b Z02 a0 a1c0
 | k_q02 a0 a1c0 => exact Z24 Z0j Z0a Z0i Z09 Z0h Z08 Z0g Z07 Z0f Z06 Z0e Z05 Z0d Z04 Z0c Z03 Z0b Z02 a0 a1c0
 | k_q2b a0 a1 => exact Z16 Z0j Z0a Z0i Z09 Z0h Z08 Z0g Z07 Z0f Z06 Z0e Z05 Z0d Z04 Z0c Z03 Z0b Z02 a0 a1
theorem Zd9 (a0 a1 : Typ) : zfe a0 a1 = zok zfe zff zds zgm zfh zdt zgn zfi z4f a0 a1 := z0t C_q19.cm (.k_q19 a0 a1)
theorem Zde (a0 a1 : Typ) : zff a0 a1 = zop zfe zff zds zgm zfh zdt zgn zfi z4f a0 a1 := z0t C_q19.cm (.k_q0z a0 a1)
theorem Zd0 (a0 a1 : Typ) : zds a0 a1 = zoa zfe zff zds zgm zfh zdt zgn zfi z4f a0 a1 := z0t C_q19.cm (.k_q1v a0 a1)
theorem Zdn (a0 : (List Typ)) (a1c0 : Typ) : zgm a0 a1c0 = zoy zfe zff zds zgm zfh zdt zgn zfi z4f a0 a1c0 := z0t C_q19.cm (.k_q06 a0 a1c0)
theorem Zdp (a0 : (List Typ)) (a1c0 : Typ) : zfh a0 a1c0 = zp0 zfe zff zds zgm zfh zdt zgn zfi z4f a0 a1c0 := z0t C_q19.cm (.k_q03 a0 a1c0)
theorem Zd2 (a0 a1 : Typ) : zdt a0 a1 = zoc zfe zff zds zgm zfh zdt zgn zfi z4f a0 a1 := z0t C_q19.cm (.k_q1t a0 a1)
theorem Zdo (a0 : (List Typ)) (a1c0 : Typ) : zgn a0 a1c0 = zoz zfe zff zds zgm zfh zdt zgn zfi z4f a0 a1c0 := z0t C_q19.cm (.k_q05 a0 a1c0)
theorem Zdq (a0 : (List Typ)) (a1c0 : Typ) : zfi a0 a1c0 = zp1 zfe zff zds zgm zfh zdt zgn zfi z4f a0 a1c0 := z0t C_q19.cm (.k_q02 a0 a1c0)
theorem Z9y (a0 a1 : Typ) : z4f a0 a1 = zms zfe zff zds zgm zfh zdt zgn zfi z4f a0 a1 := z0t C_q19.cm (.k_q2b a0 a1)
def C_q19.Q : ∀ i : C_q19, i.R → Prop
 | .k_q19 a0 a1 => fun (r : Bool) => z08 Try.prog 66 [(z02 a0), (z02 a1)] (BO r)
 | .k_q0z a0 a1 => fun (r : Bool) => z08 Try.prog 62 [(z02 a0), (PV.pt 34 (z02 a1) 0)] (BO r)
 | .k_q1v a0 a1 => fun (r : Bool) => z08 Try.prog 65 [(z02 a0), (PV.pt 34 (z02 a1) 0)] (BO r)
 | .k_q06 a0 a1c0 => fun (r : Int) => z08 Try.prog 93 [(PV.sl none 34 18 (List.map ofTyp a0)), (PV.fn (.func 65) [] [(PV.pt 34 (z02 a1c0) 0)])] (I64 r)
 | .k_q03 a0 a1c0 => fun (r : Bool) => z08 Try.prog 63 [(PV.sl none 34 18 (List.map ofTyp a0)), (PV.fn (.func 65) [] [(PV.pt 34 (z02 a1c0) 0)])] (BO r)
 | .k_q1t a0 a1 => fun (r : Bool) => z08 Try.prog 64 [(z02 a0), (PV.pt 34 (z02 a1) 0)] (BO r)
 | .k_q05 a0 a1c0 => fun (r : Int) => z08 Try.prog 93 [(PV.sl none 34 18 (List.map ofTyp a0)), (PV.fn (.func 64) [] [(PV.pt 34 (z02 a1c0) 0)])] (I64 r)
 | .k_q02 a0 a1c0 => fun (r : Bool) => z08 Try.prog 63 [(PV.sl none 34 18 (List.map ofTyp a0)), (PV.fn (.func 64) [] [(PV.pt 34 (z02 a1c0) 0)])] (BO r)
 | .k_q2b a0 a1 => fun (r : Bool) => z08 Try.prog 35 [(z02 a0), (z02 a1)] (BO r)
theorem zix (r_q19 : Typ → Typ → Option Bool) (c_q19 : ∀ (a0 : Typ) (a1 : Typ) r, r_q19 a0 a1 = some r → z08 Try.prog 66 [(z02 a0), (z02 a1)] (BO r)) (r_q0z : Typ → Typ → Option Bool) (c_q0z : ∀ (a0 : Typ) (a1 : Typ) r, r_q0z a0 a1 = some r → z08 Try.prog 62 [(z02 a0), (PV.pt 34 (z02 a1) 0)] (BO r)) (r_q1v : Typ → Typ → Option Bool) (c_q1v : ∀ (a0 : Typ) (a1 : Typ) r, r_q1v a0 a1 = some r → z08 Try.prog 65 [(z02 a0), (PV.pt 34 (z02 a1) 0)] (BO r)) (r_q06 : (List Typ) → Typ → Option Int) (c_q06 : ∀ (a0 : (List Typ)) (a1c0 : Typ) r, r_q06 a0 a1c0 = some r → z08 Try.prog 93 [(PV.sl none 34 18 (List.map ofTyp a0)), (PV.fn (.func 65) [] [(PV.pt 34 (z02 a1c0) 0)])] (I64 r)) (r_q03 : (List Typ) → Typ → Option Bool) (c_q03 : ∀ (a0 : (List Typ)) (a1c0 : Typ) r, r_q03 a0 a1c0 = some r → z08 Try.prog 63 [(PV.sl none 34 18 (List.map ofTyp a0)), (PV.fn (.func 65) [] [(PV.pt 34 (z02 a1c0) 0)])] (BO r)) (r_q1t : Typ → Typ → Option Bool) (c_q1t : ∀ (a0 : Typ) (a1 : Typ) r, r_q1t a0 a1 = some r → z08 Try.prog 64 [(z02 a0), (PV.pt 34 (z02 a1) 0)] (BO r)) (r_q05 : (List Typ) → Typ → Option Int) (c_q05 : ∀ (a0 : (List Typ)) (a1c0 : Typ) r, r_q05 a0 a1c0 = some r → z08 Try.prog 93 [(PV.sl none 34 18 (List.map ofTyp a0)), (PV.fn (.func 64) [] [(PV.pt 34 (z02 a1c0) 0)])] (I64 r)) (r_q02 : (List Typ) → Typ → Option Bool) (c_q02 : ∀ (a0 : (List Typ)) (a1c0 : Typ) r, r_q02 a0 a1c0 = some r → z08 Try.prog 63 [(PV.sl none 34 18 (List.map ofTyp a0)), (PV.fn (.func 64) [] [(PV.pt 34 (z02 a1c0) 0)])] (BO r)) (r_q2b : Typ → Typ → Option Bool) (c_q2b : ∀ (a0 : Typ) (a1 : Typ) r, r_q2b a0 a1 = some r → z08 Try.prog 35 [(z02 a0), (z02 a1)] (BO r)) (a0 a1 : Typ) (r : Bool) (h : zok r_q19 r_q0z r_q1v r_q06 r_q03 r_q1t r_q05 r_q02 r_q2b a0 a1 = some r) : z08 Try.prog 66 [(z02 a0), (z02 a1)] (BO r) := by
 unfold zok at h
 refine z0g Try.func66 rfl Try.ntmps66 Try.results66 rfl (z0q ?_)
 change BW _ _ _ ⟨[(0, (z02 a0)), (1, (z02 a1))], [], _⟩ _
 refine bR ?_
 iterate 2 refine sX ?_
 refine eX ?_
 refine z37 (ι := Unit) (fun i => zdi r_q2b a0 a1 = some r) (fun i => [(2, (PV.rf 0 0)), (3, (PV.pt 34 (z02 a1) 0))]) (fun i => [.box 34 (z0x a0)]) ?_ ?_ ?_
 intro i; exact ⟨lbE rfl, ⟨(il_rf rfl), ⟨(z00 (z0b _)), trivial⟩⟩, ⟨wfC34, trivial⟩⟩
 rintro ⟨⟩ h; replace h : zdi r_q2b a0 a1 = some r := h; unfold zdi at h
 change BW _ _ _ ⟨[(2, (PV.rf 0 0)), (3, (PV.pt 34 (z02 a1) 0))], [.box 34 (z0x a0)], _⟩ _
 refine z09 ?_
 refine bR ?_
 iterate 3 refine sX ?_
 refine eX ?_
 refine z0e ?_
 refine cBx ?_
 unfold zhg at h
 refine z3c (σ := Nat) (fun i => [(2, (PV.rf 0 0)), (3, (PV.pt 34 (z02 a1) 0)), (20, (PV.sl none 9 1 (List.map ofStr a1.names))), (21, (I64 ((((a1.names).length : Nat) : Int)))), (22, (I64 (((i : Nat) : Int))))]) (fun i => [.box 34 (z0x a0)]) 0 h ?_ ?_ ?_
 intro i; exact ⟨lbE rfl, ⟨(il_rf rfl), ⟨(z00 (z0b _)), ⟨(z00 (z0c (fun _ => rfl) _)), ⟨(z00 rfl), ⟨(z00 rfl), trivial⟩⟩⟩⟩⟩, ⟨wfC34, trivial⟩⟩
 exact jN
 rintro g1_f s1 h; replace h : z68 r_q2b a0 a1 (fun y0 => g1_f y0) s1 = some r := h; unfold z68 at h
 change BW _ _ _ ⟨[(2, (PV.rf 0 0)), (3, (PV.pt 34 (z02 a1) 0)), (20, (PV.sl none 9 1 (List.map ofStr a1.names))), (21, (I64 ((((a1.names).length : Nat) : Int)))), (22, (I64 (((s1 : Nat) : Int))))], [.box 34 (z0x a0)], _⟩ _
 refine bR ?_
 refine eX ?_
 refine z09 ?_
 refine z2f (t := 20) rfl fun hb3 => ?_
 try rw [List.length_map] at hb3
 refine cX h rfl ?_ ?_
 intro hc2 h
 have hc2_ := of_decide_eq_true hc2
 refine z07 ?_
 refine cBx ?_
 refine z37 (ι := Unit) (fun i => zdh (fun y0 => g1_f y0) s1 = some r) (fun i => [(2, (PV.rf 0 0)), (3, (PV.pt 34 (z02 a1) 0)), (20, (PV.sl none 9 1 (List.map ofStr a1.names))), (21, (I64 ((((a1.names).length : Nat) : Int)))), (22, (I64 (((s1 : Nat) : Int))))]) (fun i => [.box 34 (z0x a0)]) ?_ ?_ ?_
 intro i; exact ⟨lbE rfl, ⟨(il_rf rfl), ⟨(z00 (z0b _)), ⟨(z00 (z0c (fun _ => rfl) _)), ⟨(z00 rfl), ⟨(z00 rfl), trivial⟩⟩⟩⟩⟩, ⟨wfC34, trivial⟩⟩
 rintro ⟨⟩ h; replace h : zdh (fun y0 => g1_f y0) s1 = some r := h; unfold zdh at h
 change BW _ _ _ ⟨[(2, (PV.rf 0 0)), (3, (PV.pt 34 (z02 a1) 0)), (20, (PV.sl none 9 1 (List.map ofStr a1.names))), (21, (I64 ((((a1.names).length : Nat) : Int)))), (22, (I64 (((s1 : Nat) : Int))))], [.box 34 (z0x a0)], _⟩ _
 refine z0a ?_
 refine sS rfl rfl rfl (z1b (k := s1) (c := 1) rfl rfl rfl (by omega)) ?_
 refine sX (z06 ?_)
 exact ⟨rfl, (s1 + 1), h, jN⟩
 refine z0e ?_
 refine cBx ?_
 refine bR ?_
 refine sX ?_
 obtain ⟨x4, hx4, h⟩ := obind h
 refine sS rfl rfl rfl (z0w (i := s1) Try.underlying31 inf_9 rfl rfl rfl hx4 rfl) ?_
 iterate 2 refine sX ?_
 refine eX ?_
 refine bR ?_
 iterate 3 refine sX ?_
 obtain ⟨x5, hx5, h⟩ := obind h
 refine sS rfl rfl rfl (z04 rfl Z8z rfl (wkr (wkr .nil)) ⟨(z0c (fun _ => rfl) a0.names), ⟨rfl, trivial⟩⟩ (Z7n a0.names x4 x5 hx5) rfl) ?_
 refine eX ?_
 refine z09 ?_
 refine bR ?_
 refine sX ?_
 refine eX ?_
 refine cX h rfl ?_ ?_
 intro hc6 h
 refine z09 ?_
 refine z37 (ι := Bool) (fun i => zdg (fun y0 => g1_f y0) s1 i = some r) (fun i => [(2, (PV.rf 0 0)), (3, (PV.pt 34 (z02 a1) 0)), (20, (PV.sl none 9 1 (List.map ofStr a1.names))), (21, (I64 ((((a1.names).length : Nat) : Int)))), (22, (I64 (((s1 : Nat) : Int)))), (42, (BO i))]) (fun i => [.box 34 (z0x a0)]) ?_ ?_ ?_
 intro i; exact ⟨lbE rfl, ⟨(il_rf rfl), ⟨(z00 (z0b _)), ⟨(z00 (z0c (fun _ => rfl) _)), ⟨(z00 rfl), ⟨(z00 rfl), ⟨(z00 rfl), trivial⟩⟩⟩⟩⟩⟩, ⟨wfC34, trivial⟩⟩
 rintro s7 h; replace h : zdg (fun y0 => g1_f y0) s1 s7 = some r := h; unfold zdg at h
 change BW _ _ _ ⟨[(2, (PV.rf 0 0)), (3, (PV.pt 34 (z02 a1) 0)), (20, (PV.sl none 9 1 (List.map ofStr a1.names))), (21, (I64 ((((a1.names).length : Nat) : Int)))), (22, (I64 (((s1 : Nat) : Int)))), (42, (BO s7))], [.box 34 (z0x a0)], _⟩ _
 refine cX h rfl ?_ ?_
 intro hc8 h
 refine bR ?_
 refine eX ?_
 obtain rfl := eI h; exact z05 eK
 intro hc8 h
 refine z07 ?_
 refine cBx ?_
 refine z1a ?_
 exact ⟨rfl, (), h, jN⟩
 refine z0a ?_
 iterate 3 refine sX ?_
 obtain ⟨x9, hx9, h⟩ := obind h
 refine sS rfl rfl rfl (z0w (i := s1) Try.underlying32 inf_4 rfl rfl rfl hx9 rfl) ?_
 iterate 3 refine sX ?_
 refine z0n (t := 39) rfl ?_ ?_
 intro hb10; replace h := z0j hb10 h
 iterate 2 refine nX ?_
 refine sX (z06 ?_)
 exact ⟨rfl, true, h, jN⟩
 intro hb10; replace h := z0k hb10 h
 iterate 2 refine yX ?_
 refine sX (z06 ?_)
 exact ⟨rfl, a0.opn, h, jN⟩
 intro hc6 h
 refine z07 ?_
 refine cBx ?_
 refine z37 (ι := Bool) (fun i => zai (fun y0 => g1_f y0) s1 i = some r) (fun i => [(2, (PV.rf 0 0)), (3, (PV.pt 34 (z02 a1) 0)), (20, (PV.sl none 9 1 (List.map ofStr a1.names))), (21, (I64 ((((a1.names).length : Nat) : Int)))), (22, (I64 (((s1 : Nat) : Int)))), (69, (BO i))]) (fun i => [.box 34 (z0x a0)]) ?_ ?_ ?_
 intro i; exact ⟨lbE rfl, ⟨(il_rf rfl), ⟨(z00 (z0b _)), ⟨(z00 (z0c (fun _ => rfl) _)), ⟨(z00 rfl), ⟨(z00 rfl), ⟨(z00 rfl), trivial⟩⟩⟩⟩⟩⟩, ⟨wfC34, trivial⟩⟩
 rintro s11 h; replace h : zai (fun y0 => g1_f y0) s1 s11 = some r := h; unfold zai at h
 change BW _ _ _ ⟨[(2, (PV.rf 0 0)), (3, (PV.pt 34 (z02 a1) 0)), (20, (PV.sl none 9 1 (List.map ofStr a1.names))), (21, (I64 ((((a1.names).length : Nat) : Int)))), (22, (I64 (((s1 : Nat) : Int)))), (69, (BO s11))], [.box 34 (z0x a0)], _⟩ _
 refine cX h rfl ?_ ?_
 intro hc12 h
 refine bR ?_
 refine eX ?_
 obtain rfl := eI h; exact z05 eK
 intro hc12 h
 refine z07 ?_
 exact ⟨rfl, (), h, jN⟩
 refine z13 22 [] [0] mo (by kernel_rfl) ?_
 iterate 3 refine gX ?_
 obtain ⟨x13, hx13, h⟩ := obind h
 refine z1h rfl rfl rfl rfl (fun H hp => z1o Try.underlying30 z0u rfl rfl rfl hx13 (z1c _)) ?_
 iterate 4 refine gX ?_
 obtain ⟨x14, hx14, h⟩ := obind h
 refine z1h rfl rfl rfl rfl (fun H hp => z0w (i := s1) Try.underlying30 z0u rfl rfl rfl hx14 (z1c _)) ?_
 refine gX ?_
 obtain ⟨x15, hx15, h⟩ := obind h
 refine z1h rfl rfl rfl rfl (fun H hp => z04 rfl zns rfl (wkr (wkr .nil)) ⟨(z0b x13), ⟨(z0b x14), trivial⟩⟩ (c_q2b x13 x14 x15 hx15) rfl) ?_
 iterate 2 refine gX ?_
 refine z1s 55 rfl ?_ ?_
 intro hb16; replace h := z0j hb16 h
 iterate 9 refine mX ?_
 refine z11 ?_
 change AO _ _ _ _ _
 iterate 4 refine nX ?_
 refine sX (z06 ?_)
 exact ⟨rfl, true, h, jN⟩
 intro hb16; replace h := z0k hb16 h
 iterate 3 refine wX ?_
 obtain ⟨x17, hx17, h⟩ := obind h
 refine z2l rfl rfl rfl rfl rfl rfl rfl (fun H hp => z1o Try.underlying32 inf_4 rfl rfl rfl hx17 rfl) ?_
 iterate 2 refine wX ?_
 refine z1s 61 rfl ?_ ?_
 intro hb18; replace h := z0j hb18 h
 iterate 3 refine wX ?_
 refine z11 ?_
 change AO _ _ _ _ _
 obtain ⟨x19, hx19, h⟩ := obind h
 refine z1g rfl rfl rfl rfl rfl rfl (z0w (i := s1) Try.underlying32 inf_4 rfl rfl rfl hx19 rfl) ?_
 iterate 3 refine yX ?_
 refine sX (z06 ?_)
 exact ⟨rfl, (!x19), h, jN⟩
 intro hb18; replace h := z0k hb18 h
 iterate 3 refine mX ?_
 refine z11 ?_
 change AO _ _ _ _ _
 iterate 3 refine nX ?_
 refine yX ?_
 refine sX (z06 ?_)
 exact ⟨rfl, false, h, jN⟩
 intro hc2 h
 refine z1a ?_
 refine cBx ?_
 refine bR ?_
 refine eX ?_
 obtain rfl := eI h; exact z05 eK
 refine z09 ?_
 refine zg6 1 3 (y := (PV.pt 34 (z02 a1) 0)) rfl rfl (Wk.pt (x := .agg (cc4 a1)) (y := (z02 a1)) (wkr (wkr (wkr (wkr (wkr (wkr (wkr (wkr (wkr (wkr (wkr (wkr (wkr (wkr (wkr (wkr (wkr (wkr .nil))))))))))))))))))) ?_
 refine z0a ?_
 iterate 2 refine sX ?_
 refine eX ?_
 refine cX h rfl ?_ ?_
 intro hc20 h
 refine z37 (ι := Bool) (fun i => zdf r_q2b a0 a1 i = some r) (fun i => [(2, (PV.rf 0 0)), (3, (PV.pt 34 (z02 a1) 0)), (18, (BO i))]) (fun i => [.box 34 (z0x a0)]) ?_ ?_ ?_
 intro i; exact ⟨lbE rfl, ⟨(il_rf rfl), ⟨(z00 (z0b _)), ⟨(z00 rfl), trivial⟩⟩⟩, ⟨wfC34, trivial⟩⟩
 rintro s21 h; replace h : zdf r_q2b a0 a1 s21 = some r := h; unfold zdf at h
 change BW _ _ _ ⟨[(2, (PV.rf 0 0)), (3, (PV.pt 34 (z02 a1) 0)), (18, (BO s21))], [.box 34 (z0x a0)], _⟩ _
 refine cX h rfl ?_ ?_
 intro hc22 h
 refine bR ?_
 refine eX ?_
 obtain rfl := eI h; exact z05 eK
 intro hc22 h
 refine z07 ?_
 exact ⟨rfl, (), h, jN⟩
 refine z0a ?_
 iterate 3 refine sX ?_
 refine z0n (t := 13) rfl ?_ ?_
 intro hb23; replace h := z0j hb23 h
 iterate 4 refine nX ?_
 refine sX (z06 ?_)
 exact ⟨rfl, true, h, jN⟩
 intro hb23; replace h := z0k hb23 h
 iterate 2 refine yX ?_
 refine z1g rfl rfl rfl rfl rfl rfl (zpt rfl rfl rfl) ?_
 obtain ⟨x24, hx24, h⟩ := obind h
 refine z1g rfl rfl rfl rfl rfl rfl (z04 rfl Zc9 rfl (wkr (wkr .nil)) ⟨(z0c (fun _ => rfl) a0.names), ⟨(z4q (z4p (z0b a1) rfl)), trivial⟩⟩ (Zbi a0.names a1 x24 hx24) rfl) ?_
 refine sX (z06 ?_)
 exact ⟨rfl, x24, h, jN⟩
 intro hc20 h
 refine z07 ?_
 exact ⟨rfl, (), h, jN⟩
theorem zej (r_q19 : Typ → Typ → Option Bool) (c_q19 : ∀ (a0 : Typ) (a1 : Typ) r, r_q19 a0 a1 = some r → z08 Try.prog 66 [(z02 a0), (z02 a1)] (BO r)) (r_q0z : Typ → Typ → Option Bool) (c_q0z : ∀ (a0 : Typ) (a1 : Typ) r, r_q0z a0 a1 = some r → z08 Try.prog 62 [(z02 a0), (PV.pt 34 (z02 a1) 0)] (BO r)) (r_q1v : Typ → Typ → Option Bool) (c_q1v : ∀ (a0 : Typ) (a1 : Typ) r, r_q1v a0 a1 = some r → z08 Try.prog 65 [(z02 a0), (PV.pt 34 (z02 a1) 0)] (BO r)) (r_q06 : (List Typ) → Typ → Option Int) (c_q06 : ∀ (a0 : (List Typ)) (a1c0 : Typ) r, r_q06 a0 a1c0 = some r → z08 Try.prog 93 [(PV.sl none 34 18 (List.map ofTyp a0)), (PV.fn (.func 65) [] [(PV.pt 34 (z02 a1c0) 0)])] (I64 r)) (r_q03 : (List Typ) → Typ → Option Bool) (c_q03 : ∀ (a0 : (List Typ)) (a1c0 : Typ) r, r_q03 a0 a1c0 = some r → z08 Try.prog 63 [(PV.sl none 34 18 (List.map ofTyp a0)), (PV.fn (.func 65) [] [(PV.pt 34 (z02 a1c0) 0)])] (BO r)) (r_q1t : Typ → Typ → Option Bool) (c_q1t : ∀ (a0 : Typ) (a1 : Typ) r, r_q1t a0 a1 = some r → z08 Try.prog 64 [(z02 a0), (PV.pt 34 (z02 a1) 0)] (BO r)) (r_q05 : (List Typ) → Typ → Option Int) (c_q05 : ∀ (a0 : (List Typ)) (a1c0 : Typ) r, r_q05 a0 a1c0 = some r → z08 Try.prog 93 [(PV.sl none 34 18 (List.map ofTyp a0)), (PV.fn (.func 64) [] [(PV.pt 34 (z02 a1c0) 0)])] (I64 r)) (r_q02 : (List Typ) → Typ → Option Bool) (c_q02 : ∀ (a0 : (List Typ)) (a1c0 : Typ) r, r_q02 a0 a1c0 = some r → z08 Try.prog 63 [(PV.sl none 34 18 (List.map ofTyp a0)), (PV.fn (.func 64) [] [(PV.pt 34 (z02 a1c0) 0)])] (BO r)) (r_q2b : Typ → Typ → Option Bool) (c_q2b : ∀ (a0 : Typ) (a1 : Typ) r, r_q2b a0 a1 = some r → z08 Try.prog 35 [(z02 a0), (z02 a1)] (BO r)) (a0 a1 : Typ) (r : Bool) (h : zop r_q19 r_q0z r_q1v r_q06 r_q03 r_q1t r_q05 r_q02 r_q2b a0 a1 = some r) : z08 Try.prog 62 [(z02 a0), (PV.pt 34 (z02 a1) 0)] (BO r) := by
 unfold zop at h
 refine z0g Try.func62 rfl Try.ntmps62 Try.results62 rfl (z0q ?_)
 change BW _ _ _ ⟨[(0, (z02 a0)), (1, (PV.pt 34 (z02 a1) 0))], [], _⟩ _
 refine bR ?_
 refine sX ?_
 refine eX ?_
 refine bR ?_
 iterate 2 refine sX ?_
 obtain ⟨x1, hx1, h⟩ := obind h
 refine sS rfl rfl rfl (z04 rfl zns rfl (wkr (wkr .nil)) ⟨(z0b a0), ⟨(z0b a1), trivial⟩⟩ (c_q2b a0 a1 x1 hx1) rfl) ?_
 refine eX ?_
 obtain rfl := eI h; exact z05 eK
theorem ziv (r_q19 : Typ → Typ → Option Bool) (c_q19 : ∀ (a0 : Typ) (a1 : Typ) r, r_q19 a0 a1 = some r → z08 Try.prog 66 [(z02 a0), (z02 a1)] (BO r)) (r_q0z : Typ → Typ → Option Bool) (c_q0z : ∀ (a0 : Typ) (a1 : Typ) r, r_q0z a0 a1 = some r → z08 Try.prog 62 [(z02 a0), (PV.pt 34 (z02 a1) 0)] (BO r)) (r_q1v : Typ → Typ → Option Bool) (c_q1v : ∀ (a0 : Typ) (a1 : Typ) r, r_q1v a0 a1 = some r → z08 Try.prog 65 [(z02 a0), (PV.pt 34 (z02 a1) 0)] (BO r)) (r_q06 : (List Typ) → Typ → Option Int) (c_q06 : ∀ (a0 : (List Typ)) (a1c0 : Typ) r, r_q06 a0 a1c0 = some r → z08 Try.prog 93 [(PV.sl none 34 18 (List.map ofTyp a0)), (PV.fn (.func 65) [] [(PV.pt 34 (z02 a1c0) 0)])] (I64 r)) (r_q03 : (List Typ) → Typ → Option Bool) (c_q03 : ∀ (a0 : (List Typ)) (a1c0 : Typ) r, r_q03 a0 a1c0 = some r → z08 Try.prog 63 [(PV.sl none 34 18 (List.map ofTyp a0)), (PV.fn (.func 65) [] [(PV.pt 34 (z02 a1c0) 0)])] (BO r)) (r_q1t : Typ → Typ → Option Bool) (c_q1t : ∀ (a0 : Typ) (a1 : Typ) r, r_q1t a0 a1 = some r → z08 Try.prog 64 [(z02 a0), (PV.pt 34 (z02 a1) 0)] (BO r)) (r_q05 : (List Typ) → Typ → Option Int) (c_q05 : ∀ (a0 : (List Typ)) (a1c0 : Typ) r, r_q05 a0 a1c0 = some r → z08 Try.prog 93 [(PV.sl none 34 18 (List.map ofTyp a0)), (PV.fn (.func 64) [] [(PV.pt 34 (z02 a1c0) 0)])] (I64 r)) (r_q02 : (List Typ) → Typ → Option Bool) (c_q02 : ∀ (a0 : (List Typ)) (a1c0 : Typ) r, r_q02 a0 a1c0 = some r → z08 Try.prog 63 [(PV.sl none 34 18 (List.map ofTyp a0)), (PV.fn (.func 64) [] [(PV.pt 34 (z02 a1c0) 0)])] (BO r)) (r_q2b : Typ → Typ → Option Bool) (c_q2b : ∀ (a0 : Typ) (a1 : Typ) r, r_q2b a0 a1 = some r → z08 Try.prog 35 [(z02 a0), (z02 a1)] (BO r)) (a0 a1 : Typ) (r : Bool) (h : zoa r_q19 r_q0z r_q1v r_q06 r_q03 r_q1t r_q05 r_q02 r_q2b a0 a1 = some r) : z08 Try.prog 65 [(z02 a0), (PV.pt 34 (z02 a1) 0)] (BO r) := by
 unfold zoa at h
 refine z0g Try.func65 rfl Try.ntmps65 Try.results65 rfl (z0q ?_)
 change BW _ _ _ ⟨[(0, (z02 a0)), (1, (PV.pt 34 (z02 a1) 0))], [], _⟩ _
 refine bR ?_
 refine sX ?_
 refine eX ?_
 refine bR ?_
 iterate 2 refine sX ?_
 obtain ⟨x1, hx1, h⟩ := obind h
 refine sS rfl rfl rfl (z04 rfl zns rfl (wkr (wkr .nil)) ⟨(z0b a1), ⟨(z0b a0), trivial⟩⟩ (c_q2b a1 a0 x1 hx1) rfl) ?_
 refine eX ?_
 obtain rfl := eI h; exact z05 eK
theorem z2t (r_q19 : Typ → Typ → Option Bool) (c_q19 : ∀ (a0 : Typ) (a1 : Typ) r, r_q19 a0 a1 = some r → z08 Try.prog 66 [(z02 a0), (z02 a1)] (BO r)) (r_q0z : Typ → Typ → Option Bool) (c_q0z : ∀ (a0 : Typ) (a1 : Typ) r, r_q0z a0 a1 = some r → z08 Try.prog 62 [(z02 a0), (PV.pt 34 (z02 a1) 0)] (BO r)) (r_q1v : Typ → Typ → Option Bool) (c_q1v : ∀ (a0 : Typ) (a1 : Typ) r, r_q1v a0 a1 = some r → z08 Try.prog 65 [(z02 a0), (PV.pt 34 (z02 a1) 0)] (BO r)) (r_q06 : (List Typ) → Typ → Option Int) (c_q06 : ∀ (a0 : (List Typ)) (a1c0 : Typ) r, r_q06 a0 a1c0 = some r → z08 Try.prog 93 [(PV.sl none 34 18 (List.map ofTyp a0)), (PV.fn (.func 65) [] [(PV.pt 34 (z02 a1c0) 0)])] (I64 r)) (r_q03 : (List Typ) → Typ → Option Bool) (c_q03 : ∀ (a0 : (List Typ)) (a1c0 : Typ) r, r_q03 a0 a1c0 = some r → z08 Try.prog 63 [(PV.sl none 34 18 (List.map ofTyp a0)), (PV.fn (.func 65) [] [(PV.pt 34 (z02 a1c0) 0)])] (BO r)) (r_q1t : Typ → Typ → Option Bool) (c_q1t : ∀ (a0 : Typ) (a1 : Typ) r, r_q1t a0 a1 = some r → z08 Try.prog 64 [(z02 a0), (PV.pt 34 (z02 a1) 0)] (BO r)) (r_q05 : (List Typ) → Typ → Option Int) (c_q05 : ∀ (a0 : (List Typ)) (a1c0 : Typ) r, r_q05 a0 a1c0 = some r → z08 Try.prog 93 [(PV.sl none 34 18 (List.map ofTyp a0)), (PV.fn (.func 64) [] [(PV.pt 34 (z02 a1c0) 0)])] (I64 r)) (r_q02 : (List Typ) → Typ → Option Bool) (c_q02 : ∀ (a0 : (List Typ)) (a1c0 : Typ) r, r_q02 a0 a1c0 = some r → z08 Try.prog 63 [(PV.sl none 34 18 (List.map ofTyp a0)), (PV.fn (.func 64) [] [(PV.pt 34 (z02 a1c0) 0)])] (BO r)) (r_q2b : Typ → Typ → Option Bool) (c_q2b : ∀ (a0 : Typ) (a1 : Typ) r, r_q2b a0 a1 = some r → z08 Try.prog 35 [(z02 a0), (z02 a1)] (BO r)) (a0 : (List Typ)) (a1c0 : Typ) (r : Int) (h : zoy r_q19 r_q0z r_q1v r_q06 r_q03 r_q1t r_q05 r_q02 r_q2b a0 a1c0 = some r) : z08 Try.prog 93 [(PV.sl none 34 18 (List.map ofTyp a0)), (PV.fn (.func 65) [] [(PV.pt 34 (z02 a1c0) 0)])] (I64 r) := by
 unfold zoy at h
 refine z0g Try.func93 rfl Try.ntmps93 Try.results93 rfl (z0q ?_)
 change BW _ _ _ ⟨[(0, (PV.sl none 34 18 (List.map ofTyp a0))), (1, (PV.fn (.func 65) [] [(PV.pt 34 (z02 a1c0) 0)]))], [], _⟩ _
 refine bR ?_
 refine eX ?_
 refine z09 ?_
 refine bR ?_
 iterate 2 refine sX ?_
 refine eX ?_
 refine z0e ?_
 refine cBx ?_
 unfold zhw at h
 refine z3c (σ := Nat) (fun i => [(0, (PV.sl none 34 18 (List.map ofTyp a0))), (1, (PV.fn (.func 65) [] [(PV.pt 34 (z02 a1c0) 0)])), (7, (I64 ((((a0).length : Nat) : Int)))), (8, (I64 (((i : Nat) : Int))))]) (fun i => []) 0 h ?_ ?_ ?_
 intro i; exact ⟨lbE rfl, ⟨(z00 (z0c z1m _)), ⟨(z00 (z4q (z4p (z0b a1c0) rfl))), ⟨(z00 rfl), ⟨(z00 rfl), trivial⟩⟩⟩⟩, trivial⟩
 exact jN
 rintro g1_f s1 h; replace h : z6n r_q1v a0 a1c0 (fun y0 => g1_f y0) s1 = some r := h; unfold z6n at h
 change BW _ _ _ ⟨[(0, (PV.sl none 34 18 (List.map ofTyp a0))), (1, (PV.fn (.func 65) [] [(PV.pt 34 (z02 a1c0) 0)])), (7, (I64 ((((a0).length : Nat) : Int)))), (8, (I64 (((s1 : Nat) : Int))))], [], _⟩ _
 refine bR ?_
 refine eX ?_
 refine z09 ?_
 refine z2f (t := 0) rfl fun hb3 => ?_
 try rw [List.length_map] at hb3
 refine cX h rfl ?_ ?_
 intro hc2 h
 have hc2_ := of_decide_eq_true hc2
 refine z07 ?_
 refine cBx ?_
 refine z09 ?_
 refine z0e ?_
 refine cBx ?_
 refine bR ?_
 refine sX ?_
 refine eX ?_
 refine bR ?_
 iterate 3 refine sX ?_
 obtain ⟨x4, hx4, h⟩ := obind h
 refine sS rfl rfl rfl (z0w (i := s1) Try.underlying30 z0u rfl rfl rfl hx4 (z1c _)) ?_
 refine sX ?_
 obtain ⟨x5, hx5, h⟩ := obind h
 refine sS rfl rfl rfl (z76 rfl rfl Zcf rfl (wkr (wkr .nil)) ⟨(z0b x4), ⟨(z0b a1c0), trivial⟩⟩ (c_q1v x4 a1c0 x5 hx5) rfl) (z06 ?_)
 refine cBx ?_
 refine cX h rfl ?_ ?_
 intro hc6 h
 refine bR ?_
 refine sX ?_
 refine eX ?_
 obtain rfl := eI h; exact z05 eK
 intro hc6 h
 refine z07 ?_
 refine cBx ?_
 refine z0a ?_
 refine sS rfl rfl rfl (z1b (k := s1) (c := 1) rfl rfl rfl (by omega)) ?_
 refine sX (z06 ?_)
 exact ⟨rfl, (s1 + 1), h, jN⟩
 intro hc2 h
 refine z1a ?_
 refine cBx ?_
 refine bR ?_
 refine eX ?_
 obtain rfl := eI h; exact z05 eK
theorem z2o (r_q19 : Typ → Typ → Option Bool) (c_q19 : ∀ (a0 : Typ) (a1 : Typ) r, r_q19 a0 a1 = some r → z08 Try.prog 66 [(z02 a0), (z02 a1)] (BO r)) (r_q0z : Typ → Typ → Option Bool) (c_q0z : ∀ (a0 : Typ) (a1 : Typ) r, r_q0z a0 a1 = some r → z08 Try.prog 62 [(z02 a0), (PV.pt 34 (z02 a1) 0)] (BO r)) (r_q1v : Typ → Typ → Option Bool) (c_q1v : ∀ (a0 : Typ) (a1 : Typ) r, r_q1v a0 a1 = some r → z08 Try.prog 65 [(z02 a0), (PV.pt 34 (z02 a1) 0)] (BO r)) (r_q06 : (List Typ) → Typ → Option Int) (c_q06 : ∀ (a0 : (List Typ)) (a1c0 : Typ) r, r_q06 a0 a1c0 = some r → z08 Try.prog 93 [(PV.sl none 34 18 (List.map ofTyp a0)), (PV.fn (.func 65) [] [(PV.pt 34 (z02 a1c0) 0)])] (I64 r)) (r_q03 : (List Typ) → Typ → Option Bool) (c_q03 : ∀ (a0 : (List Typ)) (a1c0 : Typ) r, r_q03 a0 a1c0 = some r → z08 Try.prog 63 [(PV.sl none 34 18 (List.map ofTyp a0)), (PV.fn (.func 65) [] [(PV.pt 34 (z02 a1c0) 0)])] (BO r)) (r_q1t : Typ → Typ → Option Bool) (c_q1t : ∀ (a0 : Typ) (a1 : Typ) r, r_q1t a0 a1 = some r → z08 Try.prog 64 [(z02 a0), (PV.pt 34 (z02 a1) 0)] (BO r)) (r_q05 : (List Typ) → Typ → Option Int) (c_q05 : ∀ (a0 : (List Typ)) (a1c0 : Typ) r, r_q05 a0 a1c0 = some r → z08 Try.prog 93 [(PV.sl none 34 18 (List.map ofTyp a0)), (PV.fn (.func 64) [] [(PV.pt 34 (z02 a1c0) 0)])] (I64 r)) (r_q02 : (List Typ) → Typ → Option Bool) (c_q02 : ∀ (a0 : (List Typ)) (a1c0 : Typ) r, r_q02 a0 a1c0 = some r → z08 Try.prog 63 [(PV.sl none 34 18 (List.map ofTyp a0)), (PV.fn (.func 64) [] [(PV.pt 34 (z02 a1c0) 0)])] (BO r)) (r_q2b : Typ → Typ → Option Bool) (c_q2b : ∀ (a0 : Typ) (a1 : Typ) r, r_q2b a0 a1 = some r → z08 Try.prog 35 [(z02 a0), (z02 a1)] (BO r)) (a0 : (List Typ)) (a1c0 : Typ) (r : Bool) (h : zp0 r_q19 r_q0z r_q1v r_q06 r_q03 r_q1t r_q05 r_q02 r_q2b a0 a1c0 = some r) : z08 Try.prog 63 [(PV.sl none 34 18 (List.map ofTyp a0)), (PV.fn (.func 65) [] [(PV.pt 34 (z02 a1c0) 0)])] (BO r) := by
 unfold zp0 at h
 refine z0g Try.func63 rfl Try.ntmps63 Try.results63 rfl (z0q ?_)
 change BW _ _ _ ⟨[(0, (PV.sl none 34 18 (List.map ofTyp a0))), (1, (PV.fn (.func 65) [] [(PV.pt 34 (z02 a1c0) 0)]))], [], _⟩ _
 refine bR ?_
 refine eX ?_
 refine bR ?_
 iterate 2 refine sX ?_
 obtain ⟨x1, hx1, h⟩ := obind h
 refine sS rfl rfl rfl (z04 rfl Z90 rfl (wkr (wkr .nil)) ⟨(z0c z1m a0), ⟨(z4q (z4p (z0b a1c0) rfl)), trivial⟩⟩ (c_q06 a0 a1c0 x1 hx1) rfl) ?_
 refine sX ?_
 refine eX ?_
 obtain rfl := eI h; exact z05 eK
theorem ziw (r_q19 : Typ → Typ → Option Bool) (c_q19 : ∀ (a0 : Typ) (a1 : Typ) r, r_q19 a0 a1 = some r → z08 Try.prog 66 [(z02 a0), (z02 a1)] (BO r)) (r_q0z : Typ → Typ → Option Bool) (c_q0z : ∀ (a0 : Typ) (a1 : Typ) r, r_q0z a0 a1 = some r → z08 Try.prog 62 [(z02 a0), (PV.pt 34 (z02 a1) 0)] (BO r)) (r_q1v : Typ → Typ → Option Bool) (c_q1v : ∀ (a0 : Typ) (a1 : Typ) r, r_q1v a0 a1 = some r → z08 Try.prog 65 [(z02 a0), (PV.pt 34 (z02 a1) 0)] (BO r)) (r_q06 : (List Typ) → Typ → Option Int) (c_q06 : ∀ (a0 : (List Typ)) (a1c0 : Typ) r, r_q06 a0 a1c0 = some r → z08 Try.prog 93 [(PV.sl none 34 18 (List.map ofTyp a0)), (PV.fn (.func 65) [] [(PV.pt 34 (z02 a1c0) 0)])] (I64 r)) (r_q03 : (List Typ) → Typ → Option Bool) (c_q03 : ∀ (a0 : (List Typ)) (a1c0 : Typ) r, r_q03 a0 a1c0 = some r → z08 Try.prog 63 [(PV.sl none 34 18 (List.map ofTyp a0)), (PV.fn (.func 65) [] [(PV.pt 34 (z02 a1c0) 0)])] (BO r)) (r_q1t : Typ → Typ → Option Bool) (c_q1t : ∀ (a0 : Typ) (a1 : Typ) r, r_q1t a0 a1 = some r → z08 Try.prog 64 [(z02 a0), (PV.pt 34 (z02 a1) 0)] (BO r)) (r_q05 : (List Typ) → Typ → Option Int) (c_q05 : ∀ (a0 : (List Typ)) (a1c0 : Typ) r, r_q05 a0 a1c0 = some r → z08 Try.prog 93 [(PV.sl none 34 18 (List.map ofTyp a0)), (PV.fn (.func 64) [] [(PV.pt 34 (z02 a1c0) 0)])] (I64 r)) (r_q02 : (List Typ) → Typ → Option Bool) (c_q02 : ∀ (a0 : (List Typ)) (a1c0 : Typ) r, r_q02 a0 a1c0 = some r → z08 Try.prog 63 [(PV.sl none 34 18 (List.map ofTyp a0)), (PV.fn (.func 64) [] [(PV.pt 34 (z02 a1c0) 0)])] (BO r)) (r_q2b : Typ → Typ → Option Bool) (c_q2b : ∀ (a0 : Typ) (a1 : Typ) r, r_q2b a0 a1 = some r → z08 Try.prog 35 [(z02 a0), (z02 a1)] (BO r)) (a0 a1 : Typ) (r : Bool) (h : zoc r_q19 r_q0z r_q1v r_q06 r_q03 r_q1t r_q05 r_q02 r_q2b a0 a1 = some r) : z08 Try.prog 64 [(z02 a0), (PV.pt 34 (z02 a1) 0)] (BO r) := by
 unfold zoc at h
 refine z0g Try.func64 rfl Try.ntmps64 Try.results64 rfl (z0q ?_)
 change BW _ _ _ ⟨[(0, (z02 a0)), (1, (PV.pt 34 (z02 a1) 0))], [], _⟩ _
 refine bR ?_
 refine sX ?_
 refine eX ?_
 refine bR ?_
 iterate 2 refine sX ?_
 obtain ⟨x1, hx1, h⟩ := obind h
 refine sS rfl rfl rfl (z04 rfl zns rfl (wkr (wkr .nil)) ⟨(z0b a0), ⟨(z0b a1), trivial⟩⟩ (c_q2b a0 a1 x1 hx1) rfl) ?_
 refine sX ?_
 refine eX ?_
 obtain rfl := eI h; exact z05 eK
theorem z2u (r_q19 : Typ → Typ → Option Bool) (c_q19 : ∀ (a0 : Typ) (a1 : Typ) r, r_q19 a0 a1 = some r → z08 Try.prog 66 [(z02 a0), (z02 a1)] (BO r)) (r_q0z : Typ → Typ → Option Bool) (c_q0z : ∀ (a0 : Typ) (a1 : Typ) r, r_q0z a0 a1 = some r → z08 Try.prog 62 [(z02 a0), (PV.pt 34 (z02 a1) 0)] (BO r)) (r_q1v : Typ → Typ → Option Bool) (c_q1v : ∀ (a0 : Typ) (a1 : Typ) r, r_q1v a0 a1 = some r → z08 Try.prog 65 [(z02 a0), (PV.pt 34 (z02 a1) 0)] (BO r)) (r_q06 : (List Typ) → Typ → Option Int) (c_q06 : ∀ (a0 : (List Typ)) (a1c0 : Typ) r, r_q06 a0 a1c0 = some r → z08 Try.prog 93 [(PV.sl none 34 18 (List.map ofTyp a0)), (PV.fn (.func 65) [] [(PV.pt 34 (z02 a1c0) 0)])] (I64 r)) (r_q03 : (List Typ) → Typ → Option Bool) (c_q03 : ∀ (a0 : (List Typ)) (a1c0 : Typ) r, r_q03 a0 a1c0 = some r → z08 Try.prog 63 [(PV.sl none 34 18 (List.map ofTyp a0)), (PV.fn (.func 65) [] [(PV.pt 34 (z02 a1c0) 0)])] (BO r)) (r_q1t : Typ → Typ → Option Bool) (c_q1t : ∀ (a0 : Typ) (a1 : Typ) r, r_q1t a0 a1 = some r → z08 Try.prog 64 [(z02 a0), (PV.pt 34 (z02 a1) 0)] (BO r)) (r_q05 : (List Typ) → Typ → Option Int) (c_q05 : ∀ (a0 : (List Typ)) (a1c0 : Typ) r, r_q05 a0 a1c0 = some r → z08 Try.prog 93 [(PV.sl none 34 18 (List.map ofTyp a0)), (PV.fn (.func 64) [] [(PV.pt 34 (z02 a1c0) 0)])] (I64 r)) (r_q02 : (List Typ) → Typ → Option Bool) (c_q02 : ∀ (a0 : (List Typ)) (a1c0 : Typ) r, r_q02 a0 a1c0 = some r → z08 Try.prog 63 [(PV.sl none 34 18 (List.map ofTyp a0)), (PV.fn (.func 64) [] [(PV.pt 34 (z02 a1c0) 0)])] (BO r)) (r_q2b : Typ → Typ → Option Bool) (c_q2b : ∀ (a0 : Typ) (a1 : Typ) r, r_q2b a0 a1 = some r → z08 Try.prog 35 [(z02 a0), (z02 a1)] (BO r)) (a0 : (List Typ)) (a1c0 : Typ) (r : Int) (h : zoz r_q19 r_q0z r_q1v r_q06 r_q03 r_q1t r_q05 r_q02 r_q2b a0 a1c0 = some r) : z08 Try.prog 93 [(PV.sl none 34 18 (List.map ofTyp a0)), (PV.fn (.func 64) [] [(PV.pt 34 (z02 a1c0) 0)])] (I64 r) := by
 unfold zoz at h
 refine z0g Try.func93 rfl Try.ntmps93 Try.results93 rfl (z0q ?_)
 change BW _ _ _ ⟨[(0, (PV.sl none 34 18 (List.map ofTyp a0))), (1, (PV.fn (.func 64) [] [(PV.pt 34 (z02 a1c0) 0)]))], [], _⟩ _
 refine bR ?_
 refine eX ?_
 refine z09 ?_
 refine bR ?_
 iterate 2 refine sX ?_
 refine eX ?_
 refine z0e ?_
 refine cBx ?_
 unfold zhx at h
 refine z3c (σ := Nat) (fun i => [(0, (PV.sl none 34 18 (List.map ofTyp a0))), (1, (PV.fn (.func 64) [] [(PV.pt 34 (z02 a1c0) 0)])), (7, (I64 ((((a0).length : Nat) : Int)))), (8, (I64 (((i : Nat) : Int))))]) (fun i => []) 0 h ?_ ?_ ?_
 intro i; exact ⟨lbE rfl, ⟨(z00 (z0c z1m _)), ⟨(z00 (z4q (z4p (z0b a1c0) rfl))), ⟨(z00 rfl), ⟨(z00 rfl), trivial⟩⟩⟩⟩, trivial⟩
 exact jN
 rintro g1_f s1 h; replace h : z6o r_q1t a0 a1c0 (fun y0 => g1_f y0) s1 = some r := h; unfold z6o at h
 change BW _ _ _ ⟨[(0, (PV.sl none 34 18 (List.map ofTyp a0))), (1, (PV.fn (.func 64) [] [(PV.pt 34 (z02 a1c0) 0)])), (7, (I64 ((((a0).length : Nat) : Int)))), (8, (I64 (((s1 : Nat) : Int))))], [], _⟩ _
 refine bR ?_
 refine eX ?_
 refine z09 ?_
 refine z2f (t := 0) rfl fun hb3 => ?_
 try rw [List.length_map] at hb3
 refine cX h rfl ?_ ?_
 intro hc2 h
 have hc2_ := of_decide_eq_true hc2
 refine z07 ?_
 refine cBx ?_
 refine z09 ?_
 refine z0e ?_
 refine cBx ?_
 refine bR ?_
 refine sX ?_
 refine eX ?_
 refine bR ?_
 iterate 3 refine sX ?_
 obtain ⟨x4, hx4, h⟩ := obind h
 refine sS rfl rfl rfl (z0w (i := s1) Try.underlying30 z0u rfl rfl rfl hx4 (z1c _)) ?_
 refine sX ?_
 obtain ⟨x5, hx5, h⟩ := obind h
 refine sS rfl rfl rfl (z76 rfl rfl Zcg rfl (wkr (wkr .nil)) ⟨(z0b x4), ⟨(z0b a1c0), trivial⟩⟩ (c_q1t x4 a1c0 x5 hx5) rfl) (z06 ?_)
 refine cBx ?_
 refine cX h rfl ?_ ?_
 intro hc6 h
 refine bR ?_
 refine sX ?_
 refine eX ?_
 obtain rfl := eI h; exact z05 eK
 intro hc6 h
 refine z07 ?_
 refine cBx ?_
 refine z0a ?_
 refine sS rfl rfl rfl (z1b (k := s1) (c := 1) rfl rfl rfl (by omega)) ?_
 refine sX (z06 ?_)
 exact ⟨rfl, (s1 + 1), h, jN⟩
 intro hc2 h
 refine z1a ?_
 refine cBx ?_
 refine bR ?_
 refine eX ?_
 obtain rfl := eI h; exact z05 eK
theorem z2p (r_q19 : Typ → Typ → Option Bool) (c_q19 : ∀ (a0 : Typ) (a1 : Typ) r, r_q19 a0 a1 = some r → z08 Try.prog 66 [(z02 a0), (z02 a1)] (BO r)) (r_q0z : Typ → Typ → Option Bool) (c_q0z : ∀ (a0 : Typ) (a1 : Typ) r, r_q0z a0 a1 = some r → z08 Try.prog 62 [(z02 a0), (PV.pt 34 (z02 a1) 0)] (BO r)) (r_q1v : Typ → Typ → Option Bool) (c_q1v : ∀ (a0 : Typ) (a1 : Typ) r, r_q1v a0 a1 = some r → z08 Try.prog 65 [(z02 a0), (PV.pt 34 (z02 a1) 0)] (BO r)) (r_q06 : (List Typ) → Typ → Option Int) (c_q06 : ∀ (a0 : (List Typ)) (a1c0 : Typ) r, r_q06 a0 a1c0 = some r → z08 Try.prog 93 [(PV.sl none 34 18 (List.map ofTyp a0)), (PV.fn (.func 65) [] [(PV.pt 34 (z02 a1c0) 0)])] (I64 r)) (r_q03 : (List Typ) → Typ → Option Bool) (c_q03 : ∀ (a0 : (List Typ)) (a1c0 : Typ) r, r_q03 a0 a1c0 = some r → z08 Try.prog 63 [(PV.sl none 34 18 (List.map ofTyp a0)), (PV.fn (.func 65) [] [(PV.pt 34 (z02 a1c0) 0)])] (BO r)) (r_q1t : Typ → Typ → Option Bool) (c_q1t : ∀ (a0 : Typ) (a1 : Typ) r, r_q1t a0 a1 = some r → z08 Try.prog 64 [(z02 a0), (PV.pt 34 (z02 a1) 0)] (BO r)) (r_q05 : (List Typ) → Typ → Option Int) (c_q05 : ∀ (a0 : (List Typ)) (a1c0 : Typ) r, r_q05 a0 a1c0 = some r → z08 Try.prog 93 [(PV.sl none 34 18 (List.map ofTyp a0)), (PV.fn (.func 64) [] [(PV.pt 34 (z02 a1c0) 0)])] (I64 r)) (r_q02 : (List Typ) → Typ → Option Bool) (c_q02 : ∀ (a0 : (List Typ)) (a1c0 : Typ) r, r_q02 a0 a1c0 = some r → z08 Try.prog 63 [(PV.sl none 34 18 (List.map ofTyp a0)), (PV.fn (.func 64) [] [(PV.pt 34 (z02 a1c0) 0)])] (BO r)) (r_q2b : Typ → Typ → Option Bool) (c_q2b : ∀ (a0 : Typ) (a1 : Typ) r, r_q2b a0 a1 = some r → z08 Try.prog 35 [(z02 a0), (z02 a1)] (BO r)) (a0 : (List Typ)) (a1c0 : Typ) (r : Bool) (h : zp1 r_q19 r_q0z r_q1v r_q06 r_q03 r_q1t r_q05 r_q02 r_q2b a0 a1c0 = some r) : z08 Try.prog 63 [(PV.sl none 34 18 (List.map ofTyp a0)), (PV.fn (.func 64) [] [(PV.pt 34 (z02 a1c0) 0)])] (BO r) := by
 unfold zp1 at h
 refine z0g Try.func63 rfl Try.ntmps63 Try.results63 rfl (z0q ?_)
 change BW _ _ _ ⟨[(0, (PV.sl none 34 18 (List.map ofTyp a0))), (1, (PV.fn (.func 64) [] [(PV.pt 34 (z02 a1c0) 0)]))], [], _⟩ _
 refine bR ?_
 refine eX ?_
 refine bR ?_
 iterate 2 refine sX ?_
 obtain ⟨x1, hx1, h⟩ := obind h
 refine sS rfl rfl rfl (z04 rfl Z90 rfl (wkr (wkr .nil)) ⟨(z0c z1m a0), ⟨(z4q (z4p (z0b a1c0) rfl)), trivial⟩⟩ (c_q05 a0 a1c0 x1 hx1) rfl) ?_
 refine sX ?_
 refine eX ?_
 obtain rfl := eI h; exact z05 eK
theorem zmw (r_q19 : Typ → Typ → Option Bool) (c_q19 : ∀ (a0 : Typ) (a1 : Typ) r, r_q19 a0 a1 = some r → z08 Try.prog 66 [(z02 a0), (z02 a1)] (BO r)) (r_q0z : Typ → Typ → Option Bool) (c_q0z : ∀ (a0 : Typ) (a1 : Typ) r, r_q0z a0 a1 = some r → z08 Try.prog 62 [(z02 a0), (PV.pt 34 (z02 a1) 0)] (BO r)) (r_q1v : Typ → Typ → Option Bool) (c_q1v : ∀ (a0 : Typ) (a1 : Typ) r, r_q1v a0 a1 = some r → z08 Try.prog 65 [(z02 a0), (PV.pt 34 (z02 a1) 0)] (BO r)) (r_q06 : (List Typ) → Typ → Option Int) (c_q06 : ∀ (a0 : (List Typ)) (a1c0 : Typ) r, r_q06 a0 a1c0 = some r → z08 Try.prog 93 [(PV.sl none 34 18 (List.map ofTyp a0)), (PV.fn (.func 65) [] [(PV.pt 34 (z02 a1c0) 0)])] (I64 r)) (r_q03 : (List Typ) → Typ → Option Bool) (c_q03 : ∀ (a0 : (List Typ)) (a1c0 : Typ) r, r_q03 a0 a1c0 = some r → z08 Try.prog 63 [(PV.sl none 34 18 (List.map ofTyp a0)), (PV.fn (.func 65) [] [(PV.pt 34 (z02 a1c0) 0)])] (BO r)) (r_q1t : Typ → Typ → Option Bool) (c_q1t : ∀ (a0 : Typ) (a1 : Typ) r, r_q1t a0 a1 = some r → z08 Try.prog 64 [(z02 a0), (PV.pt 34 (z02 a1) 0)] (BO r)) (r_q05 : (List Typ) → Typ → Option Int) (c_q05 : ∀ (a0 : (List Typ)) (a1c0 : Typ) r, r_q05 a0 a1c0 = some r → z08 Try.prog 93 [(PV.sl none 34 18 (List.map ofTyp a0)), (PV.fn (.func 64) [] [(PV.pt 34 (z02 a1c0) 0)])] (I64 r)) (r_q02 : (List Typ) → Typ → Option Bool) (c_q02 : ∀ (a0 : (List Typ)) (a1c0 : Typ) r, r_q02 a0 a1c0 = some r → z08 Try.prog 63 [(PV.sl none 34 18 (List.map ofTyp a0)), (PV.fn (.func 64) [] [(PV.pt 34 (z02 a1c0) 0)])] (BO r)) (r_q2b : Typ → Typ → Option Bool) (c_q2b : ∀ (a0 : Typ) (a1 : Typ) r, r_q2b a0 a1 = some r → z08 Try.prog 35 [(z02 a0), (z02 a1)] (BO r)) (a0 a1 : Typ) (r : Bool) (h : zms r_q19 r_q0z r_q1v r_q06 r_q03 r_q1t r_q05 r_q02 r_q2b a0 a1 = some r) : z08 Try.prog 35 [(z02 a0), (z02 a1)] (BO r) := by
 unfold zms at h
 refine z0g Try.func35 rfl Try.ntmps35 Try.results35 rfl (z0q ?_)
 change BW _ _ _ ⟨[(0, (z02 a0)), (1, (z02 a1))], [], _⟩ _
 refine bR ?_
 iterate 2 refine sX ?_
 refine eX ?_
 refine z09 ?_
 refine zg6 0 2 (y := (PV.pt 34 (z02 a0) 0)) rfl rfl (Wk.pt (x := .agg (cc4 a0)) (y := (z02 a0)) (wkr (wkr (wkr (wkr (wkr (wkr (wkr (wkr (wkr (wkr (wkr (wkr (wkr (wkr (wkr (wkr (wkr (wkr .nil))))))))))))))))))) ?_
 refine zg6 1 3 (y := (PV.pt 34 (z02 a1) 0)) rfl rfl (Wk.pt (x := .agg (cc4 a1)) (y := (z02 a1)) (wkr (wkr (wkr (wkr (wkr (wkr (wkr (wkr (wkr (wkr (wkr (wkr (wkr (wkr (wkr (wkr (wkr (wkr .nil))))))))))))))))))) ?_
 refine z0a ?_
 refine eX ?_
 refine z09 ?_
 refine z0e ?_
 refine cBx ?_
 refine z37 (ι := Bool) (fun i => zdb r_q19 r_q0z r_q03 r_q02 a0 a1 i = some r) (fun i => [(2, (PV.pt 34 (z02 a0) 0)), (3, (PV.pt 34 (z02 a1) 0)), (5, (PV.fn (.func 61) [] [])), (10, (BO i))]) (fun i => []) ?_ ?_ ?_
 intro i; exact ⟨lbE rfl, ⟨(z00 (z0b _)), ⟨(z00 (z0b _)), ⟨(z00 rfl), ⟨(z00 rfl), trivial⟩⟩⟩⟩, trivial⟩
 rintro s1 h; replace h : zdb r_q19 r_q0z r_q03 r_q02 a0 a1 s1 = some r := h; unfold zdb at h
 change BW _ _ _ ⟨[(2, (PV.pt 34 (z02 a0) 0)), (3, (PV.pt 34 (z02 a1) 0)), (5, (PV.fn (.func 61) [] [])), (10, (BO s1))], [], _⟩ _
 refine cX h rfl ?_ ?_
 intro hc2 h
 refine bR ?_
 refine eX ?_
 obtain rfl := eI h; exact z05 eK
 intro hc2 h
 refine bR ?_
 iterate 3 refine sX ?_
 refine eX ?_
 refine cX h rfl ?_ ?_
 intro hc3 h
 refine bR ?_
 iterate 2 refine sX ?_
 refine sS rfl rfl rfl (zpt rfl rfl rfl) ?_
 obtain ⟨x4, hx4, h⟩ := obind h
 refine sS rfl rfl rfl (z04 rfl Z9b rfl (wkr (wkr .nil)) ⟨(z0c z1m a0.parts), ⟨(z4q (z4p (z0b a1) rfl)), trivial⟩⟩ (c_q02 a0.parts a1 x4 hx4) rfl) ?_
 refine sX ?_
 refine eX ?_
 obtain rfl := eI h; exact z05 eK
 intro hc3 h
 refine bR ?_
 iterate 3 refine sX ?_
 refine eX ?_
 refine cX h rfl ?_ ?_
 intro hc5 h
 refine bR ?_
 iterate 2 refine sX ?_
 refine sS rfl rfl rfl (zpt rfl rfl rfl) ?_
 obtain ⟨x6, hx6, h⟩ := obind h
 refine sS rfl rfl rfl (z04 rfl Z9b rfl (wkr (wkr .nil)) ⟨(z0c z1m a1.parts), ⟨(z4q (z4p (z0b a0) rfl)), trivial⟩⟩ (c_q03 a1.parts a0 x6 hx6) rfl) ?_
 refine eX ?_
 obtain rfl := eI h; exact z05 eK
 intro hc5 h
 refine bR ?_
 iterate 3 refine sX ?_
 refine eX ?_
 refine cX h rfl ?_ ?_
 intro hc7 h
 refine bR ?_
 refine eX ?_
 obtain rfl := eI h; exact z05 eK
 intro hc7 h
 refine bR ?_
 iterate 3 refine sX ?_
 refine eX ?_
 refine cX h rfl ?_ ?_
 intro hc8 h
 refine bR ?_
 iterate 2 refine sX ?_
 obtain ⟨x9, hx9, h⟩ := obind h
 refine sS rfl rfl rfl (z04 rfl Z0r rfl (.cons (Wk.toOld (zj5 (a0.only))) .nil) ⟨(z1e (z10 (a0.only))), trivial⟩ (zys (a0.only) x9 hx9) (z03 (ids_V x9.1) (z03 rfl z0o))) ?_
 iterate 4 refine sX ?_
 refine eX ?_
 refine bR ?_
 iterate 2 refine sX ?_
 obtain ⟨x10, hx10, h⟩ := obind h
 refine sS rfl rfl rfl (z04 rfl Z0u rfl (wkr (wkr (wkr .nil))) ⟨(ids_V x9.1), ⟨(z0b a1), ⟨rfl, trivial⟩⟩⟩ (Zak x9.1 a1 0 x10 hx10) (z03 rfl (z03 rfl z0o))) ?_
 iterate 4 refine sX ?_
 refine eX ?_
 refine bR ?_
 refine sX ?_
 refine eX ?_
 obtain rfl := eI h; exact z05 eK
 intro hc8 h
 refine bR ?_
 iterate 3 refine sX ?_
 refine eX ?_
 refine cX h rfl ?_ ?_
 intro hc11 h
 refine bR ?_
 refine eX ?_
 obtain rfl := eI h; exact z05 eK
 intro hc11 h
 refine bR ?_
 iterate 3 refine sX ?_
 refine eX ?_
 refine cX h rfl ?_ ?_
 intro hc12 h
 refine bR ?_
 iterate 4 refine sX ?_
 refine z0n (t := 68) rfl ?_ ?_
 intro hb13; replace h := z0j hb13 h
 iterate 5 refine yX ?_
 refine sX ?_
 refine eX ?_
 obtain rfl := eI h; exact z05 eK
 intro hb13; replace h := z0k hb13 h
 iterate 5 refine nX ?_
 refine sX ?_
 refine eX ?_
 obtain rfl := eI h; exact z05 eK
 intro hc12 h
 refine bR ?_
 iterate 3 refine sX ?_
 refine eX ?_
 refine cX h rfl ?_ ?_
 intro hc14 h
 refine z09 (z13 23 [] [] mo (by kernel_rfl) ?_)
 iterate 4 refine gX ?_
 refine z1s 82 rfl ?_ ?_
 intro hb15; replace h := z0j hb15 h
 iterate 3 refine wX ?_
 iterate 2 refine gX ?_
 refine z1s 87 rfl ?_ ?_
 intro hb16; replace h := z0j hb16 h
 iterate 14 refine mX ?_
 refine z11 ?_
 change AO _ _ _ _ _
 iterate 2 refine nX ?_
 refine sX ?_
 refine eX ?_
 obtain rfl := eI h; exact z05 eK
 intro hb16; replace h := z0k hb16 h
 iterate 4 refine wX ?_
 refine z1s 91 rfl ?_ ?_
 intro hb17; replace h := z0j hb17 h
 iterate 3 refine wX ?_
 obtain ⟨x18, hx18, h⟩ := obind h
 refine z2l rfl rfl rfl rfl rfl rfl rfl (fun H hp => z0w (i := 0) Try.underlying30 z0u rfl rfl rfl hx18 (z1c _)) ?_
 refine wX ?_
 obtain ⟨x19, hx19, h⟩ := obind h
 refine z2l rfl rfl rfl rfl rfl rfl rfl (fun H hp => z96 rfl rfl Z9d rfl (wkr .nil) ⟨(z0b x18), trivial⟩ (Z7b x18 x19 hx19) (z4q (z4p (z0b x19) rfl))) ?_
 iterate 2 refine wX ?_
 obtain ⟨x20, hx20, h⟩ := obind h
 refine z2l rfl rfl rfl rfl rfl rfl rfl (fun H hp => z0w (i := 0) Try.underlying30 z0u rfl rfl rfl hx20 (z1c _)) ?_
 refine wX ?_
 refine z11 ?_
 change AO _ _ _ _ _
 obtain ⟨x21, hx21, h⟩ := obind h
 refine z1g rfl rfl rfl rfl rfl rfl (z76 rfl rfl Z9c rfl (wkr (wkr .nil)) ⟨(z0b x20), ⟨(z0b x19), trivial⟩⟩ (c_q0z x20 x19 x21 hx21) rfl) ?_
 refine yX ?_
 refine sX ?_
 refine eX ?_
 obtain rfl := eI h; exact z05 eK
 intro hb17; replace h := z0k hb17 h
 iterate 10 refine mX ?_
 refine z11 ?_
 change AO _ _ _ _ _
 refine nX ?_
 refine yX ?_
 refine sX ?_
 refine eX ?_
 obtain rfl := eI h; exact z05 eK
 intro hb15; replace h := z0k hb15 h
 iterate 3 refine mX ?_
 iterate 2 refine gX ?_
 iterate 4 refine wX ?_
 refine z1s 91 rfl ?_ ?_
 intro hb22; replace h := z0j hb22 h
 iterate 3 refine wX ?_
 obtain ⟨x23, hx23, h⟩ := obind h
 refine z2l rfl rfl rfl rfl rfl rfl rfl (fun H hp => z0w (i := 0) Try.underlying30 z0u rfl rfl rfl hx23 (z1c _)) ?_
 refine wX ?_
 obtain ⟨x24, hx24, h⟩ := obind h
 refine z2l rfl rfl rfl rfl rfl rfl rfl (fun H hp => z96 rfl rfl Z9d rfl (wkr .nil) ⟨(z0b x23), trivial⟩ (Z7b x23 x24 hx24) (z4q (z4p (z0b x24) rfl))) ?_
 iterate 2 refine wX ?_
 obtain ⟨x25, hx25, h⟩ := obind h
 refine z2l rfl rfl rfl rfl rfl rfl rfl (fun H hp => z0w (i := 0) Try.underlying30 z0u rfl rfl rfl hx25 (z1c _)) ?_
 refine wX ?_
 refine z11 ?_
 change AO _ _ _ _ _
 obtain ⟨x26, hx26, h⟩ := obind h
 refine z1g rfl rfl rfl rfl rfl rfl (z76 rfl rfl Z9c rfl (wkr (wkr .nil)) ⟨(z0b x25), ⟨(z0b x24), trivial⟩⟩ (c_q0z x25 x24 x26 hx26) rfl) ?_
 refine yX ?_
 refine sX ?_
 refine eX ?_
 obtain rfl := eI h; exact z05 eK
 intro hb22; replace h := z0k hb22 h
 iterate 10 refine mX ?_
 refine z11 ?_
 change AO _ _ _ _ _
 refine nX ?_
 refine yX ?_
 refine sX ?_
 refine eX ?_
 obtain rfl := eI h; exact z05 eK
 intro hc14 h
 refine bR ?_
 iterate 3 refine sX ?_
 refine eX ?_
 refine cX h rfl ?_ ?_
 intro hc27 h
 refine bR ?_
 iterate 4 refine sX ?_
 refine z0n (t := 112) rfl ?_ ?_
 intro hb28; replace h := z0j hb28 h
 iterate 3 refine yX ?_
 iterate 2 refine sX ?_
 refine z0n (t := 117) rfl ?_ ?_
 intro hb29; replace h := z0j hb29 h
 iterate 10 refine nX ?_
 refine sX ?_
 refine eX ?_
 obtain rfl := eI h; exact z05 eK
 intro hb29; replace h := z0k hb29 h
 iterate 4 refine yX ?_
 refine z0n (t := 121) rfl ?_ ?_
 intro hb30; replace h := z0j hb30 h
 iterate 4 refine yX ?_
 refine z1g rfl rfl rfl rfl rfl rfl ((z21 (a := a0.cls) (b := a1.cls) rfl rfl rfl rfl).cast (y := (BO ((a0.cls == a1.cls)))) rfl rfl) ?_
 refine yX ?_
 refine sX ?_
 refine eX ?_
 obtain rfl := eI h; exact z05 eK
 intro hb30; replace h := z0k hb30 h
 iterate 5 refine nX ?_
 refine yX ?_
 refine sX ?_
 refine eX ?_
 obtain rfl := eI h; exact z05 eK
 intro hb28; replace h := z0k hb28 h
 iterate 3 refine nX ?_
 iterate 2 refine sX ?_
 iterate 4 refine yX ?_
 refine z0n (t := 121) rfl ?_ ?_
 intro hb31; replace h := z0j hb31 h
 iterate 4 refine yX ?_
 refine z1g rfl rfl rfl rfl rfl rfl ((z21 (a := a0.cls) (b := a1.cls) rfl rfl rfl rfl).cast (y := (BO ((a0.cls == a1.cls)))) rfl rfl) ?_
 refine yX ?_
 refine sX ?_
 refine eX ?_
 obtain rfl := eI h; exact z05 eK
 intro hb31; replace h := z0k hb31 h
 iterate 5 refine nX ?_
 refine yX ?_
 refine sX ?_
 refine eX ?_
 obtain rfl := eI h; exact z05 eK
 intro hc27 h
 refine bR ?_
 iterate 3 refine sX ?_
 refine eX ?_
 refine cX h rfl ?_ ?_
 intro hc32 h
 refine bR ?_
 iterate 4 refine sX ?_
 refine z0n (t := 136) rfl ?_ ?_
 intro hb33; replace h := z0j hb33 h
 iterate 3 refine yX ?_
 iterate 2 refine sX ?_
 refine z0n (t := 141) rfl ?_ ?_
 intro hb34; replace h := z0j hb34 h
 iterate 8 refine nX ?_
 refine sX ?_
 refine eX ?_
 obtain rfl := eI h; exact z05 eK
 intro hb34; replace h := z0k hb34 h
 iterate 4 refine yX ?_
 refine z0n (t := 145) rfl ?_ ?_
 intro hb35; replace h := z0j hb35 h
 iterate 2 refine yX ?_
 obtain ⟨x36, hx36, h⟩ := obind h
 refine z1g rfl rfl rfl rfl rfl rfl (z04 rfl Z9a rfl (wkr (wkr .nil)) ⟨(z0b a0), ⟨(z0b a1), trivial⟩⟩ (c_q19 a0 a1 x36 hx36) rfl) ?_
 refine yX ?_
 refine sX ?_
 refine eX ?_
 obtain rfl := eI h; exact z05 eK
 intro hb35; replace h := z0k hb35 h
 iterate 3 refine nX ?_
 refine yX ?_
 refine sX ?_
 refine eX ?_
 obtain rfl := eI h; exact z05 eK
 intro hb33; replace h := z0k hb33 h
 iterate 3 refine nX ?_
 iterate 2 refine sX ?_
 iterate 4 refine yX ?_
 refine z0n (t := 145) rfl ?_ ?_
 intro hb37; replace h := z0j hb37 h
 iterate 2 refine yX ?_
 obtain ⟨x38, hx38, h⟩ := obind h
 refine z1g rfl rfl rfl rfl rfl rfl (z04 rfl Z9a rfl (wkr (wkr .nil)) ⟨(z0b a0), ⟨(z0b a1), trivial⟩⟩ (c_q19 a0 a1 x38 hx38) rfl) ?_
 refine yX ?_
 refine sX ?_
 refine eX ?_
 obtain rfl := eI h; exact z05 eK
 intro hb37; replace h := z0k hb37 h
 iterate 3 refine nX ?_
 refine yX ?_
 refine sX ?_
 refine eX ?_
 obtain rfl := eI h; exact z05 eK
 intro hc32 h
 refine z07 ?_
 refine cBx ?_
 refine bR ?_
 refine eX ?_
 obtain rfl := eI h; exact z05 eK
 refine z0a ?_
 iterate 4 refine sX ?_
 refine z0n (t := 14) rfl ?_ ?_
 intro hb39; replace h := z0j hb39 h
 iterate 3 refine nX ?_
 refine sX ?_
 refine sX (z06 ?_)
 exact ⟨rfl, true, h, jN⟩
 intro hb39; replace h := z0k hb39 h
 iterate 3 refine yX ?_
 refine sX ?_
 refine sX (z06 ?_)
 exact ⟨rfl, (a0.kind == 2), h, jN⟩
theorem C_q19.sound : ∀ (i : C_q19) (r : i.R), z22 C_q19.F i = some r → C_q19.Q i r := by
 refine z2r (Φ := C_q19.F) (Q := C_q19.Q) ?_
 intro g hg i r h
 cases i with
 | k_q19 a0 a1 => exact zix (fun a0 a1 => g (.k_q19 a0 a1)) (fun a0 a1 r hr => hg (.k_q19 a0 a1) r hr) (fun a0 a1 => g (.k_q0z a0 a1)) (fun a0 a1 r hr => hg (.k_q0z a0 a1) r hr) (fun a0 a1 => g (.k_q1v a0 a1)) (fun a0 a1 r hr => hg (.k_q1v a0 a1) r hr) (fun a0 a1c0 => g (.k_q06 a0 a1c0)) (fun a0 a1c0 r hr => hg (.k_q06 a0 a1c0) r hr) (fun a0 a1c0 => g (.k_q03 a0 a1c0)) (fun a0 a1c0 r hr => hg (.k_q03 a0 a1c0) r hr) (fun a0 a1 => g (.k_q1t a0 a1)) (fun a0 a1 r hr => hg (.k_q1t a0 a1) r hr) (fun a0 a1c0 => g (.k_q05 a0 a1c0)) (fun a0 a1c0 r hr => hg (.k_q05 a0 a1c0) r hr) (fun a0 a1c0 => g (.k_q02 a0 a1c0)) (fun a0 a1c0 r hr => hg (.k_q02 a0 a1c0) r hr) (fun a0 a1 => g (.k_q2b a0 a1)) (fun a0 a1 r hr => hg (.k_q2b a0 a1) r hr) a0 a1 r h
 | k_q0z a0 a1 => exact zej (fun a0 a1 => g (.k_q19 a0 a1)) (fun a0 a1 r hr => hg (.k_q19 a0 a1) r hr) (fun a0 a1 => g (.k_q0z a0 a1)) (fun a0 a1 r hr => hg (.k_q0z a0 a1) r hr) (fun a0 a1 => g (.k_q1v a0 a1)) (fun a0 a1 r hr => hg (.k_q1v a0 a1) r hr) (fun a0 a1c0 => g (.k_q06 a0 a1c0)) (fun a0 a1c0 r hr => hg (.k_q06 a0 a1c0) r hr) (fun a0 a1c0 => g (.k_q03 a0 a1c0)) (fun a0 a1c0 r hr => hg (.k_q03 a0 a1c0) r hr) (fun a0 a1 => g (.k_q1t a0 a1)) (fun a0 a1 r hr => hg (.k_q1t a0 a1) r hr) (fun a0 a1c0 => g (.k_q05 a0 a1c0)) (fun a0 a1c0 r hr => hg (.k_q05 a0 a1c0) r hr) (fun a0 a1c0 => g (.k_q02 a0 a1c0)) (fun a0 a1c0 r hr => hg (.k_q02 a0 a1c0) r hr) (fun a0 a1 => g (.k_q2b a0 a1)) (fun a0 a1 r hr => hg (.k_q2b a0 a1) r hr) a0 a1 r h
 | k_q1v a0 a1 => exact ziv (fun a0 a1 => g (.k_q19 a0 a1)) (fun a0 a1 r hr => hg (.k_q19 a0 a1) r hr) (fun a0 a1 => g (.k_q0z a0 a1)) (fun a0 a1 r hr => hg (.k_q0z a0 a1) r hr) (fun a0 a1 => g (.k_q1v a0 a1)) (fun a0 a1 r hr => hg (.k_q1v a0 a1) r hr) (fun a0 a1c0 => g (.k_q06 a0 a1c0)) (fun a0 a1c0 r hr => hg (.k_q06 a0 a1c0) r hr) (fun a0 a1c0 => g (.k_q03 a0 a1c0)) (fun a0 a1c0 r hr => hg (.k_q03 a0 a1c0) r hr) (fun a0 a1 => g (.k_q1t a0 a1)) (fun a0 a1 r hr => hg (.k_q1t a0 a1) r hr) (fun a0 a1c0 => g (.k_q05 a0 a1c0)) (fun a0 a1c0 r hr => hg (.k_q05 a0 a1c0) r hr) (fun a0 a1c0 => g (.k_q02 a0 a1c0)) (fun a0 a1c0 r hr => hg (.k_q02 a0 a1c0) r hr) (fun a0 a1 => g (.k_q2b a0 a1)) (fun a0 a1 r hr => hg (.k_q2b a0 a1) r hr) a0 a1 r h
 | k_q06 a0 a1c0 => exact z2t (fun a0 a1 => g (.k_q19 a0 a1)) (fun a0 a1 r hr => hg (.k_q19 a0 a1) r hr) (fun a0 a1 => g (.k_q0z a0 a1)) (fun a0 a1 r hr => hg (.k_q0z a0 a1) r hr) (fun a0 a1 => g (.k_q1v a0 a1)) (fun a0 a1 r hr => hg (.k_q1v a0 a1) r hr) (fun a0 a1c0 => g (.k_q06 a0 a1c0)) (fun a0 a1c0 r hr => hg (.k_q06 a0 a1c0) r hr) (fun a0 a1c0 => g (.k_q03 a0 a1c0)) (fun a0 a1c0 r hr => hg (.k_q03 a0 a1c0) r hr) (fun a0 a1 => g (.k_q1t a0 a1)) (fun a0 a1 r hr => hg (.k_q1t a0 a1) r hr) (fun a0 a1c0 => g (.k_q05 a0 a1c0)) (fun a0 a1c0 r hr => hg (.k_q05 a0 a1c0) r hr) (fun a0 a1c0 => g (.k_q02 a0 a1c0)) (fun a0 a1c0 r hr => hg (.k_q02 a0 a1c0) r hr) (fun a0 a1 => g (.k_q2b a0 a1)) (fun a0 a1 r hr => hg (.k_q2b a0 a1) r hr) a0 a1c0 r h
 | k_q03 a0 a1c0 => exact z2o (fun a0 a1 => g (.k_q19 a0 a1)) (fun a0 a1 r hr => hg (.k_q19 a0 a1) r hr) (fun a0 a1 => g (.k_q0z a0 a1)) (fun a0 a1 r hr => hg (.k_q0z a0 a1) r hr) (fun a0 a1 => g (.k_q1v a0 a1)) (fun a0 a1 r hr => hg (.k_q1v a0 a1) r hr) (fun a0 a1c0 => g (.k_q06 a0 a1c0)) (fun a0 a1c0 r hr => hg (.k_q06 a0 a1c0) r hr) (fun a0 a1c0 => g (.k_q03 a0 a1c0)) (fun a0 a1c0 r hr => hg (.k_q03 a0 a1c0) r hr) (fun a0 a1 => g (.k_q1t a0 a1)) (fun a0 a1 r hr => hg (.k_q1t a0 a1) r hr) (fun a0 a1c0 => g (.k_q05 a0 a1c0)) (fun a0 a1c0 r hr => hg (.k_q05 a0 a1c0) r hr) (fun a0 a1c0 => g (.k_q02 a0 a1c0)) (fun a0 a1c0 r hr => hg (.k_q02 a0 a1c0) r hr) (fun a0 a1 => g (.k_q2b a0 a1)) (fun a0 a1 r hr => hg (.k_q2b a0 a1) r hr) a0 a1c0 r h
 | k_q1t a0 a1 => exact ziw (fun a0 a1 => g (.k_q19 a0 a1)) (fun a0 a1 r hr => hg (.k_q19 a0 a1) r hr) (fun a0 a1 => g (.k_q0z a0 a1)) (fun a0 a1 r hr => hg (.k_q0z a0 a1) r hr) (fun a0 a1 => g (.k_q1v a0 a1)) (fun a0 a1 r hr => hg (.k_q1v a0 a1) r hr) (fun a0 a1c0 => g (.k_q06 a0 a1c0)) (fun a0 a1c0 r hr => hg (.k_q06 a0 a1c0) r hr) (fun a0 a1c0 => g (.k_q03 a0 a1c0)) (fun a0 a1c0 r hr => hg (.k_q03 a0 a1c0) r hr) (fun a0 a1 => g (.k_q1t a0 a1)) (fun a0 a1 r hr => hg (.k_q1t a0 a1) r hr) (fun a0 a1c0 => g (.k_q05 a0 a1c0)) (fun a0 a1c0 r hr => hg (.k_q05 a0 a1c0) r hr) (fun a0 a1c0 => g (.k_q02 a0 a1c0)) (fun a0 a1c0 r hr => hg (.k_q02 a0 a1c0) r hr) (fun a0 a1 => g (.k_q2b a0 a1)) (fun a0 a1 r hr => hg (.k_q2b a0 a1) r hr) a0 a1 r h
 | k_q05 a0 a1c0 => exact z2u (fun a0 a1 => g (.k_q19 a0 a1)) (fun a0 a1 r hr => hg (.k_q19 a0 a1) r hr) (fun a0 a1 => g (.k_q0z a0 a1)) (fun a0 a1 r hr => hg (.k_q0z a0 a1) r hr) (fun a0 a1 => g (.k_q1v a0 a1)) (fun a0 a1 r hr => hg (.k_q1v a0 a1) r hr) (fun a0 a1c0 => g (.k_q06 a0 a1c0)) (fun a0 a1c0 r hr => hg (.k_q06 a0 a1c0) r hr) (fun a0 a1c0 => g (.k_q03 a0 a1c0)) (fun a0 a1c0 r hr => hg (.k_q03 a0 a1c0) r hr) (fun a0 a1 => g (.k_q1t a0 a1)) (fun a0 a1 r hr => hg (.k_q1t a0 a1) r hr) (fun a0 a1c0 => g (.k_q05 a0 a1c0)) (fun a0 a1c0 r hr => hg (.k_q05 a0 a1c0) r hr) (fun a0 a1c0 => g (.k_q02 a0 a1c0)) (fun a0 a1c0 r hr => hg (.k_q02 a0 a1c0) r hr) (fun a0 a1 => g (.k_q2b a0 a1)) (fun a0 a1 r hr => hg (.k_q2b a0 a1) r hr) a0 a1c0 r h
 | k_q02 a0 a1c0 => exact z2p (fun a0 a1 => g (.k_q19 a0 a1)) (fun a0 a1 r hr => hg (.k_q19 a0 a1) r hr) (fun a0 a1 => g (.k_q0z a0 a1)) (fun a0 a1 r hr => hg (.k_q0z a0 a1) r hr) (fun a0 a1 => g (.k_q1v a0 a1)) (fun a0 a1 r hr => hg (.k_q1v a0 a1) r hr) (fun a0 a1c0 => g (.k_q06 a0 a1c0)) (fun a0 a1c0 r hr => hg (.k_q06 a0 a1c0) r hr) (fun a0 a1c0 => g (.k_q03 a0 a1c0)) (fun a0 a1c0 r hr => hg (.k_q03 a0 a1c0) r hr) (fun a0 a1 => g (.k_q1t a0 a1)) (fun a0 a1 r hr => hg (.k_q1t a0 a1) r hr) (fun a0 a1c0 => g (.k_q05 a0 a1c0)) (fun a0 a1c0 r hr => hg (.k_q05 a0 a1c0) r hr) (fun a0 a1c0 => g (.k_q02 a0 a1c0)) (fun a0 a1c0 r hr => hg (.k_q02 a0 a1c0) r hr) (fun a0 a1 => g (.k_q2b a0 a1)) (fun a0 a1 r hr => hg (.k_q2b a0 a1) r hr) a0 a1c0 r h
 | k_q2b a0 a1 => exact zmw (fun a0 a1 => g (.k_q19 a0 a1)) (fun a0 a1 r hr => hg (.k_q19 a0 a1) r hr) (fun a0 a1 => g (.k_q0z a0 a1)) (fun a0 a1 r hr => hg (.k_q0z a0 a1) r hr) (fun a0 a1 => g (.k_q1v a0 a1)) (fun a0 a1 r hr => hg (.k_q1v a0 a1) r hr) (fun a0 a1c0 => g (.k_q06 a0 a1c0)) (fun a0 a1c0 r hr => hg (.k_q06 a0 a1c0) r hr) (fun a0 a1c0 => g (.k_q03 a0 a1c0)) (fun a0 a1c0 r hr => hg (.k_q03 a0 a1c0) r hr) (fun a0 a1 => g (.k_q1t a0 a1)) (fun a0 a1 r hr => hg (.k_q1t a0 a1) r hr) (fun a0 a1c0 => g (.k_q05 a0 a1c0)) (fun a0 a1c0 r hr => hg (.k_q05 a0 a1c0) r hr) (fun a0 a1c0 => g (.k_q02 a0 a1c0)) (fun a0 a1c0 r hr => hg (.k_q02 a0 a1c0) r hr) (fun a0 a1 => g (.k_q2b a0 a1)) (fun a0 a1 r hr => hg (.k_q2b a0 a1) r hr) a0 a1 r h
theorem Z4h (a0 a1 : Typ) (r : Bool) (h : z4f a0 a1 = some r) : z08 Try.prog 35 [(z02 a0), (z02 a1)] (BO r) := C_q19.sound (.k_q2b a0 a1) r h
end Go.Proofs.Ytiapdjdhaclmnaa
