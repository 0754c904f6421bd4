/- Pure functions, and that calls answer as they say. -/
import Derived.Test.YthidgpcbnieleaaGreatDoorG7
namespace Go.Proofs.YthidgpcbnieleaaGreatDoor
open Go Aw
set_option linter.unusedVariables false
set_option linter.unusedSimpArgs false
set_option maxRecDepth 20000
set_option maxHeartbeats 2000000
variable {ι : Type} {ρ : ι → Type}
noncomputable def zkv (r_q17 : S_api_Step → V → (List S_api_Step) → V → Bool → Int → Bool → Int → Option (Bool × Bool × Int × Bool × Int)) (r_q0e : V → (List S_api_Step) → V → Bool → Int → Bool → Int → Option (Bool × Int × Bool × Int)) (r_q09 : (List S_api_Step) → V → V → Bool → Int → Option (Bool × Int × Bool × Int)) (a0 : S_api_Step) (a1 : V) (a2 : (List S_api_Step)) (a3c0 : V) (a3c1 : Bool) (a3c2 : Int) (a4 : Bool) (a5 : Int) : Option (Bool × Bool × Int × Bool × Int) :=
 (zdx a2).bind fun x1 =>
 (z8k 32 x1 ([a0] : (List S_api_Step))).bind fun x2 =>
 (r_q09 x2 a1 a3c0 a3c1 a3c2).bind fun x3 =>
 some (x3.1, x3.2.2.1, x3.2.2.2, x3.1, x3.2.1)
theorem zwb (r_q17 : OF ρ → S_api_Step → V → (List S_api_Step) → V → Bool → Int → Bool → Int → Option (Bool × Bool × Int × Bool × Int)) (h_r_q17 : ∀ y0 y1 y2 y3 y4 y5 y6 y7, CM (fun G => r_q17 G y0 y1 y2 y3 y4 y5 y6 y7)) (r_q0e : OF ρ → V → (List S_api_Step) → V → Bool → Int → Bool → Int → Option (Bool × Int × Bool × Int)) (h_r_q0e : ∀ y0 y1 y2 y3 y4 y5 y6, CM (fun G => r_q0e G y0 y1 y2 y3 y4 y5 y6)) (r_q09 : OF ρ → (List S_api_Step) → V → V → Bool → Int → Option (Bool × Int × Bool × Int)) (h_r_q09 : ∀ y0 y1 y2 y3 y4, CM (fun G => r_q09 G y0 y1 y2 y3 y4)) (a0 : S_api_Step) (a1 : V) (a2 : (List S_api_Step)) (a3c0 : V) (a3c1 : Bool) (a3c2 : Int) (a4 : Bool) (a5 : Int) : CM (fun G : OF ρ => zkv (r_q17 G) (r_q0e G) (r_q09 G) a0 a1 a2 a3c0 a3c1 a3c2 a4 a5) := by
 simp only [zkv]
 repeat (first | exact z0c | exact h_r_q17 _ _ _ _ _ _ _ _ | exact h_r_q0e _ _ _ _ _ _ _ | exact h_r_q09 _ _ _ _ _ | refine z11 ?_ ?_ | refine z12 ?_ (fun _ => ?_))
noncomputable def z5v (r_q17 : S_api_Step → V → (List S_api_Step) → V → Bool → Int → Bool → Int → Option (Bool × Bool × Int × Bool × Int)) (a1c0 : (List S_api_Step)) (a1c1c0 : V) (x5 : ((List (Str × V)) × Bool)) (g1 : Nat → Bool → Int → Bool → Int → Option (Bool × Int × Bool × Int)) (s6 : Nat) (s7 : Bool) (s8 : Int) (s9 : Bool) (s10 : Int) : Option (Bool × Int × Bool × Int) :=
 bif (decide (((s6 : Nat) : Int) < (((x5.1).length : Nat) : Int))) then (
 ((x5.1)[s6]?).bind fun x13 =>
 (r_q17 (S_api_Step.mk x13.1 false 0) x13.2 a1c0 a1c1c0 s7 s8 s9 s10).bind fun x14 =>
 bif (!x14.1) then (
 some (x14.2.1, x14.2.2.1, x14.2.2.2.1, x14.2.2.2.2)
 ) else (
 g1 (s6 + 1) x14.2.1 x14.2.2.1 x14.2.2.2.1 x14.2.2.2.2
 )
 ) else (
 some (s7, s8, s9, s10)
 )
theorem zaz (r_q17 : OF ρ → S_api_Step → V → (List S_api_Step) → V → Bool → Int → Bool → Int → Option (Bool × Bool × Int × Bool × Int)) (h_r_q17 : ∀ y0 y1 y2 y3 y4 y5 y6 y7, CM (fun G => r_q17 G y0 y1 y2 y3 y4 y5 y6 y7)) (g1 : OF ρ → Nat → Bool → Int → Bool → Int → Option (Bool × Int × Bool × Int)) (h_g1 : ∀ y0 y1 y2 y3 y4, CM (fun G => g1 G y0 y1 y2 y3 y4)) (a1c0 : (List S_api_Step)) (a1c1c0 : V) (x5 : ((List (Str × V)) × Bool)) (s6 : Nat) (s7 : Bool) (s8 : Int) (s9 : Bool) (s10 : Int) : CM (fun G : OF ρ => z5v (r_q17 G) a1c0 a1c1c0 x5 (g1 G) s6 s7 s8 s9 s10) := by
 simp only [z5v]
 repeat (first | exact z0c | exact h_r_q17 _ _ _ _ _ _ _ _ | exact h_g1 _ _ _ _ _ | refine z11 ?_ ?_ | refine z12 ?_ (fun _ => ?_))
noncomputable def zen (r_q17 : S_api_Step → V → (List S_api_Step) → V → Bool → Int → Bool → Int → Option (Bool × Bool × Int × Bool × Int)) (a1c0 : (List S_api_Step)) (a1c1c0 : V) (x5 : ((List (Str × V)) × Bool)) (s6 : Nat) (s7 : Bool) (s8 : Int) (s9 : Bool) (s10 : Int) : Option (Bool × Int × Bool × Int) :=
 z2w (ι := (Nat × Bool × Int × Bool × Int)) (ρ := fun _ => (Bool × Int × Bool × Int)) (fun g i => z5v r_q17 a1c0 a1c1c0 x5 (fun s6 s7 s8 s9 s10 => g (s6, s7, s8, s9, s10)) i.1 i.2.1 i.2.2.1 i.2.2.2.1 i.2.2.2.2) (s6, s7, s8, s9, s10)
theorem z9k (r_q17 : S_api_Step → V → (List S_api_Step) → V → Bool → Int → Bool → Int → Option (Bool × Bool × Int × Bool × Int)) (a1c0 : (List S_api_Step)) (a1c1c0 : V) (x5 : ((List (Str × V)) × Bool)) (s6 : Nat) (s7 : Bool) (s8 : Int) (s9 : Bool) (s10 : Int) : zen r_q17 a1c0 a1c1c0 x5 s6 s7 s8 s9 s10 = z5v r_q17 a1c0 a1c1c0 x5 (zen r_q17 a1c0 a1c1c0 x5) s6 s7 s8 s9 s10 :=
 z19 (ι := (Nat × Bool × Int × Bool × Int)) (ρ := fun _ => (Bool × Int × Bool × Int)) (Φ := fun g i => z5v r_q17 a1c0 a1c1c0 x5 (fun s6 s7 s8 s9 s10 => g (s6, s7, s8, s9, s10)) i.1 i.2.1 i.2.2.1 i.2.2.2.1 i.2.2.2.2) (fun i => zaz (ι := (Nat × Bool × Int × Bool × Int)) (ρ := fun _ => (Bool × Int × Bool × Int)) (fun _ => r_q17) (fun _ _ _ _ _ _ _ _ => z0c) (fun g => (fun s6 s7 s8 s9 s10 => g (s6, s7, s8, s9, s10))) (fun _ _ _ _ _ => z17) a1c0 a1c1c0 x5 i.1 i.2.1 i.2.2.1 i.2.2.2.1 i.2.2.2.2) (s6, s7, s8, s9, s10)
theorem zq5 (r_q17 : OF ρ → S_api_Step → V → (List S_api_Step) → V → Bool → Int → Bool → Int → Option (Bool × Bool × Int × Bool × Int)) (h_r_q17 : ∀ y0 y1 y2 y3 y4 y5 y6 y7, CM (fun G => r_q17 G y0 y1 y2 y3 y4 y5 y6 y7)) (a1c0 : (List S_api_Step)) (a1c1c0 : V) (x5 : ((List (Str × V)) × Bool)) (s6 : Nat) (s7 : Bool) (s8 : Int) (s9 : Bool) (s10 : Int) : CM (fun G : OF ρ => zen (r_q17 G) a1c0 a1c1c0 x5 s6 s7 s8 s9 s10) :=
 z40 (κ := (Nat × Bool × Int × Bool × Int)) (τ := fun _ => (Bool × Int × Bool × Int)) (Φ := fun G g i => z5v (r_q17 G) a1c0 a1c1c0 x5 (fun s6 s7 s8 s9 s10 => g (s6, s7, s8, s9, s10)) i.1 i.2.1 i.2.2.1 i.2.2.2.1 i.2.2.2.2) (fun g i => zaz r_q17 h_r_q17 (fun _ => (fun s6 s7 s8 s9 s10 => g (s6, s7, s8, s9, s10))) (fun _ _ _ _ _ => z0c) a1c0 a1c1c0 x5 i.1 i.2.1 i.2.2.1 i.2.2.2.1 i.2.2.2.2) (fun G i => zaz (ι := (Nat × Bool × Int × Bool × Int)) (ρ := fun _ => (Bool × Int × Bool × Int)) (fun _ => r_q17 G) (fun _ _ _ _ _ _ _ _ => z0c) (fun g => (fun s6 s7 s8 s9 s10 => g (s6, s7, s8, s9, s10))) (fun _ _ _ _ _ => z17) a1c0 a1c1c0 x5 i.1 i.2.1 i.2.2.1 i.2.2.2.1 i.2.2.2.2) (s6, s7, s8, s9, s10)
noncomputable def z9l (r_q17 : S_api_Step → V → (List S_api_Step) → V → Bool → Int → Bool → Int → Option (Bool × Bool × Int × Bool × Int)) (a0 : V) (a1c0 : (List S_api_Step)) (a1c1c0 : V) (s1 : Bool) (s2 : Int) (s3 : Bool) (s4 : Int) : Option (Bool × Int × Bool × Int) :=
 (zfq a0).bind fun x5 =>
 zen r_q17 a1c0 a1c1c0 x5 0 s1 s2 s3 s4
theorem zhw (r_q17 : OF ρ → S_api_Step → V → (List S_api_Step) → V → Bool → Int → Bool → Int → Option (Bool × Bool × Int × Bool × Int)) (h_r_q17 : ∀ y0 y1 y2 y3 y4 y5 y6 y7, CM (fun G => r_q17 G y0 y1 y2 y3 y4 y5 y6 y7)) (a0 : V) (a1c0 : (List S_api_Step)) (a1c1c0 : V) (s1 : Bool) (s2 : Int) (s3 : Bool) (s4 : Int) : CM (fun G : OF ρ => z9l (r_q17 G) a0 a1c0 a1c1c0 s1 s2 s3 s4) := by
 simp only [z9l]
 repeat (first | exact z0c | exact h_r_q17 _ _ _ _ _ _ _ _ | apply zq5 | refine z11 ?_ ?_ | refine z12 ?_ (fun _ => ?_) | intro _ | assumption)
noncomputable def z5u (r_q17 : S_api_Step → V → (List S_api_Step) → V → Bool → Int → Bool → Int → Option (Bool × Bool × Int × Bool × Int)) (a0 : V) (a1c0 : (List S_api_Step)) (a1c1c0 : V) (g1 : Nat → Bool → Int → Bool → Int → Option (Bool × Int × Bool × Int)) (s17 : Nat) (s18 : Bool) (s19 : Int) (s20 : Bool) (s21 : Int) : Option (Bool × Int × Bool × Int) :=
 bif (decide (((s17 : Nat) : Int) < ((((a0).asList).length : Nat) : Int))) then (
 (((a0).asList)[s17]?).bind fun x24 =>
 (r_q17 (S_api_Step.mk [] true ((s17 : Nat) : Int)) x24 a1c0 a1c1c0 s18 s19 s20 s21).bind fun x25 =>
 bif (!x25.1) then (
 some (x25.2.1, x25.2.2.1, x25.2.2.2.1, x25.2.2.2.2)
 ) else (
 g1 (s17 + 1) x25.2.1 x25.2.2.1 x25.2.2.2.1 x25.2.2.2.2
 )
 ) else (
 z9l r_q17 a0 a1c0 a1c1c0 s18 s19 s20 s21
 )
theorem zay (r_q17 : OF ρ → S_api_Step → V → (List S_api_Step) → V → Bool → Int → Bool → Int → Option (Bool × Bool × Int × Bool × Int)) (h_r_q17 : ∀ y0 y1 y2 y3 y4 y5 y6 y7, CM (fun G => r_q17 G y0 y1 y2 y3 y4 y5 y6 y7)) (g1 : OF ρ → Nat → Bool → Int → Bool → Int → Option (Bool × Int × Bool × Int)) (h_g1 : ∀ y0 y1 y2 y3 y4, CM (fun G => g1 G y0 y1 y2 y3 y4)) (a0 : V) (a1c0 : (List S_api_Step)) (a1c1c0 : V) (s17 : Nat) (s18 : Bool) (s19 : Int) (s20 : Bool) (s21 : Int) : CM (fun G : OF ρ => z5u (r_q17 G) a0 a1c0 a1c1c0 (g1 G) s17 s18 s19 s20 s21) := by
 simp only [z5u]
 repeat (first | exact z0c | exact h_r_q17 _ _ _ _ _ _ _ _ | exact h_g1 _ _ _ _ _ | apply zhw | refine z11 ?_ ?_ | refine z12 ?_ (fun _ => ?_) | intro _ | assumption)
noncomputable def zem (r_q17 : S_api_Step → V → (List S_api_Step) → V → Bool → Int → Bool → Int → Option (Bool × Bool × Int × Bool × Int)) (a0 : V) (a1c0 : (List S_api_Step)) (a1c1c0 : V) (s17 : Nat) (s18 : Bool) (s19 : Int) (s20 : Bool) (s21 : Int) : Option (Bool × Int × Bool × Int) :=
 z2w (ι := (Nat × Bool × Int × Bool × Int)) (ρ := fun _ => (Bool × Int × Bool × Int)) (fun g i => z5u r_q17 a0 a1c0 a1c1c0 (fun s17 s18 s19 s20 s21 => g (s17, s18, s19, s20, s21)) i.1 i.2.1 i.2.2.1 i.2.2.2.1 i.2.2.2.2) (s17, s18, s19, s20, s21)
theorem zhv (r_q17 : S_api_Step → V → (List S_api_Step) → V → Bool → Int → Bool → Int → Option (Bool × Bool × Int × Bool × Int)) (a0 : V) (a1c0 : (List S_api_Step)) (a1c1c0 : V) (s17 : Nat) (s18 : Bool) (s19 : Int) (s20 : Bool) (s21 : Int) : zem r_q17 a0 a1c0 a1c1c0 s17 s18 s19 s20 s21 = z5u r_q17 a0 a1c0 a1c1c0 (zem r_q17 a0 a1c0 a1c1c0) s17 s18 s19 s20 s21 :=
 z19 (ι := (Nat × Bool × Int × Bool × Int)) (ρ := fun _ => (Bool × Int × Bool × Int)) (Φ := fun g i => z5u r_q17 a0 a1c0 a1c1c0 (fun s17 s18 s19 s20 s21 => g (s17, s18, s19, s20, s21)) i.1 i.2.1 i.2.2.1 i.2.2.2.1 i.2.2.2.2) (fun i => zay (ι := (Nat × Bool × Int × Bool × Int)) (ρ := fun _ => (Bool × Int × Bool × Int)) (fun _ => r_q17) (fun _ _ _ _ _ _ _ _ => z0c) (fun g => (fun s17 s18 s19 s20 s21 => g (s17, s18, s19, s20, s21))) (fun _ _ _ _ _ => z17) a0 a1c0 a1c1c0 i.1 i.2.1 i.2.2.1 i.2.2.2.1 i.2.2.2.2) (s17, s18, s19, s20, s21)
theorem zq4 (r_q17 : OF ρ → S_api_Step → V → (List S_api_Step) → V → Bool → Int → Bool → Int → Option (Bool × Bool × Int × Bool × Int)) (h_r_q17 : ∀ y0 y1 y2 y3 y4 y5 y6 y7, CM (fun G => r_q17 G y0 y1 y2 y3 y4 y5 y6 y7)) (a0 : V) (a1c0 : (List S_api_Step)) (a1c1c0 : V) (s17 : Nat) (s18 : Bool) (s19 : Int) (s20 : Bool) (s21 : Int) : CM (fun G : OF ρ => zem (r_q17 G) a0 a1c0 a1c1c0 s17 s18 s19 s20 s21) :=
 z40 (κ := (Nat × Bool × Int × Bool × Int)) (τ := fun _ => (Bool × Int × Bool × Int)) (Φ := fun G g i => z5u (r_q17 G) a0 a1c0 a1c1c0 (fun s17 s18 s19 s20 s21 => g (s17, s18, s19, s20, s21)) i.1 i.2.1 i.2.2.1 i.2.2.2.1 i.2.2.2.2) (fun g i => zay r_q17 h_r_q17 (fun _ => (fun s17 s18 s19 s20 s21 => g (s17, s18, s19, s20, s21))) (fun _ _ _ _ _ => z0c) a0 a1c0 a1c1c0 i.1 i.2.1 i.2.2.1 i.2.2.2.1 i.2.2.2.2) (fun G i => zay (ι := (Nat × Bool × Int × Bool × Int)) (ρ := fun _ => (Bool × Int × Bool × Int)) (fun _ => r_q17 G) (fun _ _ _ _ _ _ _ _ => z0c) (fun g => (fun s17 s18 s19 s20 s21 => g (s17, s18, s19, s20, s21))) (fun _ _ _ _ _ => z17) a0 a1c0 a1c1c0 i.1 i.2.1 i.2.2.1 i.2.2.2.1 i.2.2.2.2) (s17, s18, s19, s20, s21)
noncomputable def zl3 (r_q17 : S_api_Step → V → (List S_api_Step) → V → Bool → Int → Bool → Int → Option (Bool × Bool × Int × Bool × Int)) (r_q0e : V → (List S_api_Step) → V → Bool → Int → Bool → Int → Option (Bool × Int × Bool × Int)) (r_q09 : (List S_api_Step) → V → V → Bool → Int → Option (Bool × Int × Bool × Int)) (a0 : V) (a1c0 : (List S_api_Step)) (a1c1c0 : V) (a1c1c1 : Bool) (a1c1c2 : Int) (a1c2 : Bool) (a1c3 : Int) : Option (Bool × Int × Bool × Int) :=
 bif (a0).isList then (
 zem r_q17 a0 a1c0 a1c1c0 0 a1c1c1 a1c1c2 a1c2 a1c3
 ) else (
 z9l r_q17 a0 a1c0 a1c1c0 a1c1c1 a1c1c2 a1c2 a1c3
 )
theorem zwm (r_q17 : OF ρ → S_api_Step → V → (List S_api_Step) → V → Bool → Int → Bool → Int → Option (Bool × Bool × Int × Bool × Int)) (h_r_q17 : ∀ y0 y1 y2 y3 y4 y5 y6 y7, CM (fun G => r_q17 G y0 y1 y2 y3 y4 y5 y6 y7)) (r_q0e : OF ρ → V → (List S_api_Step) → V → Bool → Int → Bool → Int → Option (Bool × Int × Bool × Int)) (h_r_q0e : ∀ y0 y1 y2 y3 y4 y5 y6, CM (fun G => r_q0e G y0 y1 y2 y3 y4 y5 y6)) (r_q09 : OF ρ → (List S_api_Step) → V → V → Bool → Int → Option (Bool × Int × Bool × Int)) (h_r_q09 : ∀ y0 y1 y2 y3 y4, CM (fun G => r_q09 G y0 y1 y2 y3 y4)) (a0 : V) (a1c0 : (List S_api_Step)) (a1c1c0 : V) (a1c1c1 : Bool) (a1c1c2 : Int) (a1c2 : Bool) (a1c3 : Int) : CM (fun G : OF ρ => zl3 (r_q17 G) (r_q0e G) (r_q09 G) a0 a1c0 a1c1c0 a1c1c1 a1c1c2 a1c2 a1c3) := by
 simp only [zl3]
 repeat (first | exact z0c | exact h_r_q17 _ _ _ _ _ _ _ _ | exact h_r_q0e _ _ _ _ _ _ _ | exact h_r_q09 _ _ _ _ _ | apply zhw | apply zq4 | refine z11 ?_ ?_ | refine z12 ?_ (fun _ => ?_) | intro _ | assumption)
noncomputable def zl4 (r_q17 : S_api_Step → V → (List S_api_Step) → V → Bool → Int → Bool → Int → Option (Bool × Bool × Int × Bool × Int)) (r_q0e : V → (List S_api_Step) → V → Bool → Int → Bool → Int → Option (Bool × Int × Bool × Int)) (r_q09 : (List S_api_Step) → V → V → Bool → Int → Option (Bool × Int × Bool × Int)) (a0 : (List S_api_Step)) (a1 a2c0 : V) (a2c1 : Bool) (a2c2 : Int) : Option (Bool × Int × Bool × Int) :=
 (zr0 a2c0 a2c1 a2c2 a0 a1 0).bind fun x1 =>
 bif x1.1 then (
 some (false, 9, x1.2.1, x1.2.2.1)
 ) else (
 bif (x1.2.2.2 == 0) then (
 (r_q0e a1 a0 a2c0 x1.2.1 x1.2.2.1 true 0).bind fun x4 =>
 some (x4.2.2.1, x4.2.2.2, x4.1, x4.2.1)
 ) else (
 bif (x1.2.2.2 == 1) then (
 some (true, 0, x1.2.1, x1.2.2.1)
 ) else (
 bif (x1.2.2.2 == 2) then (
 some (false, 0, x1.2.1, x1.2.2.1)
 ) else (
 some (false, 43, x1.2.1, x1.2.2.1)
 )
 )
 )
 )
theorem zwn (r_q17 : OF ρ → S_api_Step → V → (List S_api_Step) → V → Bool → Int → Bool → Int → Option (Bool × Bool × Int × Bool × Int)) (h_r_q17 : ∀ y0 y1 y2 y3 y4 y5 y6 y7, CM (fun G => r_q17 G y0 y1 y2 y3 y4 y5 y6 y7)) (r_q0e : OF ρ → V → (List S_api_Step) → V → Bool → Int → Bool → Int → Option (Bool × Int × Bool × Int)) (h_r_q0e : ∀ y0 y1 y2 y3 y4 y5 y6, CM (fun G => r_q0e G y0 y1 y2 y3 y4 y5 y6)) (r_q09 : OF ρ → (List S_api_Step) → V → V → Bool → Int → Option (Bool × Int × Bool × Int)) (h_r_q09 : ∀ y0 y1 y2 y3 y4, CM (fun G => r_q09 G y0 y1 y2 y3 y4)) (a0 : (List S_api_Step)) (a1 a2c0 : V) (a2c1 : Bool) (a2c2 : Int) : CM (fun G : OF ρ => zl4 (r_q17 G) (r_q0e G) (r_q09 G) a0 a1 a2c0 a2c1 a2c2) := by
 simp only [zl4]
 repeat (first | exact z0c | exact h_r_q17 _ _ _ _ _ _ _ _ | exact h_r_q0e _ _ _ _ _ _ _ | exact h_r_q09 _ _ _ _ _ | refine z11 ?_ ?_ | refine z12 ?_ (fun _ => ?_))
inductive C_q17 where
 | k_q17 (a0 : S_api_Step) (a1 : V) (a2 : (List S_api_Step)) (a3c0 : V) (a3c1 : Bool) (a3c2 : Int) (a4 : Bool) (a5 : Int)
 | k_q0e (a0 : V) (a1c0 : (List S_api_Step)) (a1c1c0 : V) (a1c1c1 : Bool) (a1c1c2 : Int) (a1c2 : Bool) (a1c3 : Int)
 | k_q09 (a0 : (List S_api_Step)) (a1 : V) (a2c0 : V) (a2c1 : Bool) (a2c2 : Int)
def C_q17.R : C_q17 → Type
 | .k_q17 _ _ _ _ _ _ _ _ => (Bool × Bool × Int × Bool × Int)
 | .k_q0e _ _ _ _ _ _ _ => (Bool × Int × Bool × Int)
 | .k_q09 _ _ _ _ _ => (Bool × Int × Bool × Int)
noncomputable def C_q17.F (g : ∀ i : C_q17, Option i.R) : ∀ i : C_q17, Option i.R
 | .k_q17 a0 a1 a2 a3c0 a3c1 a3c2 a4 a5 => zkv (fun a0 a1 a2 a3c0 a3c1 a3c2 a4 a5 => g (.k_q17 a0 a1 a2 a3c0 a3c1 a3c2 a4 a5)) (fun a0 a1c0 a1c1c0 a1c1c1 a1c1c2 a1c2 a1c3 => g (.k_q0e a0 a1c0 a1c1c0 a1c1c1 a1c1c2 a1c2 a1c3)) (fun a0 a1 a2c0 a2c1 a2c2 => g (.k_q09 a0 a1 a2c0 a2c1 a2c2)) a0 a1 a2 a3c0 a3c1 a3c2 a4 a5
 | .k_q0e a0 a1c0 a1c1c0 a1c1c1 a1c1c2 a1c2 a1c3 => zl3 (fun a0 a1 a2 a3c0 a3c1 a3c2 a4 a5 => g (.k_q17 a0 a1 a2 a3c0 a3c1 a3c2 a4 a5)) (fun a0 a1c0 a1c1c0 a1c1c1 a1c1c2 a1c2 a1c3 => g (.k_q0e a0 a1c0 a1c1c0 a1c1c1 a1c1c2 a1c2 a1c3)) (fun a0 a1 a2c0 a2c1 a2c2 => g (.k_q09 a0 a1 a2c0 a2c1 a2c2)) a0 a1c0 a1c1c0 a1c1c1 a1c1c2 a1c2 a1c3
 | .k_q09 a0 a1 a2c0 a2c1 a2c2 => zl4 (fun a0 a1 a2 a3c0 a3c1 a3c2 a4 a5 => g (.k_q17 a0 a1 a2 a3c0 a3c1 a3c2 a4 a5)) (fun a0 a1c0 a1c1c0 a1c1c1 a1c1c2 a1c2 a1c3 => g (.k_q0e a0 a1c0 a1c1c0 a1c1c1 a1c1c2 a1c2 a1c3)) (fun a0 a1 a2c0 a2c1 a2c2 => g (.k_q09 a0 a1 a2c0 a2c1 a2c2)) a0 a1 a2c0 a2c1 a2c2
noncomputable def zjz (a0 : S_api_Step) (a1 : V) (a2 : (List S_api_Step)) (a3c0 : V) (a3c1 : Bool) (a3c2 : Int) (a4 : Bool) (a5 : Int) : Option (Bool × Bool × Int × Bool × Int) := z2w C_q17.F (.k_q17 a0 a1 a2 a3c0 a3c1 a3c2 a4 a5)
noncomputable def zqy (a0 : V) (a1c0 : (List S_api_Step)) (a1c1c0 : V) (a1c1c1 : Bool) (a1c1c2 : Int) (a1c2 : Bool) (a1c3 : Int) : Option (Bool × Int × Bool × Int) := z2w C_q17.F (.k_q0e a0 a1c0 a1c1c0 a1c1c1 a1c1c2 a1c2 a1c3)
noncomputable def zk2 (a0 : (List S_api_Step)) (a1 a2c0 : V) (a2c1 : Bool) (a2c2 : Int) : Option (Bool × Int × Bool × Int) := z2w C_q17.F (.k_q09 a0 a1 a2c0 a2c1 a2c2)
abbrev Z6p := fun (g : ∀ i : C_q17, Option i.R) a0 a1 a2 a3c0 a3c1 a3c2 a4 a5 => g (.k_q17 a0 a1 a2 a3c0 a3c1 a3c2 a4 a5)
theorem Z6g (a0 a1 a2 a3c0 a3c1 a3c2 a4 a5 : _) : CM (ρ := C_q17.R) (fun g => g (C_q17.k_q17 a0 a1 a2 a3c0 a3c1 a3c2 a4 a5)) := z17
abbrev Z6o := fun (g : ∀ i : C_q17, Option i.R) a0 a1c0 a1c1c0 a1c1c1 a1c1c2 a1c2 a1c3 => g (.k_q0e a0 a1c0 a1c1c0 a1c1c1 a1c1c2 a1c2 a1c3)
theorem Z6f (a0 a1c0 a1c1c0 a1c1c1 a1c1c2 a1c2 a1c3 : _) : CM (ρ := C_q17.R) (fun g => g (C_q17.k_q0e a0 a1c0 a1c1c0 a1c1c1 a1c1c2 a1c2 a1c3)) := z17
abbrev Z6n := fun (g : ∀ i : C_q17, Option i.R) a0 a1 a2c0 a2c1 a2c2 => g (.k_q09 a0 a1 a2c0 a2c1 a2c2)
theorem Z6e (a0 a1 a2c0 a2c1 a2c2 : _) : CM (ρ := C_q17.R) (fun g => g (C_q17.k_q09 a0 a1 a2c0 a2c1 a2c2)) := z17
theorem C_q17.cm (i : C_q17) : CM (fun g : (∀ i : C_q17, Option i.R) => C_q17.F g i) := by
 cases i with
 | k_q17 a0 a1 a2 a3c0 a3c1 a3c2 a4 a5 => exact zwb Z6p Z6g Z6o Z6f Z6n Z6e a0 a1 a2 a3c0 a3c1 a3c2 a4 a5
 | k_q0e a0 a1c0 a1c1c0 a1c1c1 a1c1c2 a1c2 a1c3 => exact zwm Z6p Z6g Z6o Z6f Z6n Z6e a0 a1c0 a1c1c0 a1c1c1 a1c1c2 a1c2 a1c3
 | k_q09 a0 a1 a2c0 a2c1 a2c2 => exact zwn Z6p Z6g Z6o Z6f Z6n Z6e a0 a1 a2c0 a2c1 a2c2
theorem Z7y (a0 : S_api_Step) (a1 : V) (a2 : (List S_api_Step)) (a3c0 : V) (a3c1 : Bool) (a3c2 : Int) (a4 : Bool) (a5 : Int) : zjz a0 a1 a2 a3c0 a3c1 a3c2 a4 a5 = zkv zjz zqy zk2 a0 a1 a2 a3c0 a3c1 a3c2 a4 a5 := z19 C_q17.cm (.k_q17 a0 a1 a2 a3c0 a3c1 a3c2 a4 a5)
theorem Z88 (a0 : V) (a1c0 : (List S_api_Step)) (a1c1c0 : V) (a1c1c1 : Bool) (a1c1c2 : Int) (a1c2 : Bool) (a1c3 : Int) : zqy a0 a1c0 a1c1c0 a1c1c1 a1c1c2 a1c2 a1c3 = zl3 zjz zqy zk2 a0 a1c0 a1c1c0 a1c1c1 a1c1c2 a1c2 a1c3 := z19 C_q17.cm (.k_q0e a0 a1c0 a1c1c0 a1c1c1 a1c1c2 a1c2 a1c3)
theorem Z89 (a0 : (List S_api_Step)) (a1 a2c0 : V) (a2c1 : Bool) (a2c2 : Int) : zk2 a0 a1 a2c0 a2c1 a2c2 = zl4 zjz zqy zk2 a0 a1 a2c0 a2c1 a2c2 := z19 C_q17.cm (.k_q09 a0 a1 a2c0 a2c1 a2c2)
def C_q17.Q : ∀ i : C_q17, i.R → Prop
 | .k_q17 a0 a1 a2 a3c0 a3c1 a3c2 a4 a5 => fun (r : (Bool × Bool × Int × Bool × Int)) => z18 Tryz.prog 85 [(z00 a0), (ofV a1), (PV.pt 30 (PV.sl none 83 3 (List.map z00 a2)) 0), (PV.rf 0 0), (PV.rf 3 0), (PV.rf 4 0)] [.box 56 [(PV.fn (.func 21) [] [(PV.pt 20 (ofV a3c0) 0), (PV.rf 1 0), (PV.rf 2 0)])], .box 4 [(BO a3c1)], .box 3 [(I64 a3c2)], .box 4 [(BO a4)], .box 33 [(I64 a5)]] (BO r.1) [.box 56 [(PV.fn (.func 21) [] [(PV.pt 20 (ofV a3c0) 0), (PV.rf 1 0), (PV.rf 2 0)])], .box 4 [(BO r.2.1)], .box 3 [(I64 r.2.2.1)], .box 4 [(BO r.2.2.2.1)], .box 33 [(I64 r.2.2.2.2)]]
 | .k_q0e a0 a1c0 a1c1c0 a1c1c1 a1c1c2 a1c2 a1c3 => fun (r : (Bool × Int × Bool × Int)) => z18 Tryz.prog 84 [(ofV a0), (PV.fn (.func 85) [] [(PV.pt 30 (PV.sl none 83 3 (List.map z00 a1c0)) 0), (PV.rf 0 0), (PV.rf 3 0), (PV.rf 4 0)])] [.box 56 [(PV.fn (.func 21) [] [(PV.pt 20 (ofV a1c1c0) 0), (PV.rf 1 0), (PV.rf 2 0)])], .box 4 [(BO a1c1c1)], .box 3 [(I64 a1c1c2)], .box 4 [(BO a1c2)], .box 33 [(I64 a1c3)]] (PV.tup []) [.box 56 [(PV.fn (.func 21) [] [(PV.pt 20 (ofV a1c1c0) 0), (PV.rf 1 0), (PV.rf 2 0)])], .box 4 [(BO r.1)], .box 3 [(I64 r.2.1)], .box 4 [(BO r.2.2.1)], .box 33 [(I64 r.2.2.2)]]
 | .k_q09 a0 a1 a2c0 a2c1 a2c2 => fun (r : (Bool × Int × Bool × Int)) => z18 Tryz.prog 49 [(PV.sl none 83 3 (List.map z00 a0)), (ofV a1), (PV.fn (.func 21) [] [(PV.pt 20 (ofV a2c0) 0), (PV.rf 0 0), (PV.rf 1 0)])] [.box 4 [(BO a2c1)], .box 3 [(I64 a2c2)]] (PV.tup [(BO r.1), (I64 r.2.1)]) [.box 4 [(BO r.2.2.1)], .box 3 [(I64 r.2.2.2)]]
theorem zbp (r_q17 : S_api_Step → V → (List S_api_Step) → V → Bool → Int → Bool → Int → Option (Bool × Bool × Int × Bool × Int)) (c_q17 : ∀ (a0 : S_api_Step) (a1 : V) (a2 : (List S_api_Step)) (a3c0 : V) (a3c1 : Bool) (a3c2 : Int) (a4 : Bool) (a5 : Int) r, r_q17 a0 a1 a2 a3c0 a3c1 a3c2 a4 a5 = some r → z18 Tryz.prog 85 [(z00 a0), (ofV a1), (PV.pt 30 (PV.sl none 83 3 (List.map z00 a2)) 0), (PV.rf 0 0), (PV.rf 3 0), (PV.rf 4 0)] [.box 56 [(PV.fn (.func 21) [] [(PV.pt 20 (ofV a3c0) 0), (PV.rf 1 0), (PV.rf 2 0)])], .box 4 [(BO a3c1)], .box 3 [(I64 a3c2)], .box 4 [(BO a4)], .box 33 [(I64 a5)]] (BO r.1) [.box 56 [(PV.fn (.func 21) [] [(PV.pt 20 (ofV a3c0) 0), (PV.rf 1 0), (PV.rf 2 0)])], .box 4 [(BO r.2.1)], .box 3 [(I64 r.2.2.1)], .box 4 [(BO r.2.2.2.1)], .box 33 [(I64 r.2.2.2.2)]]) (r_q0e : V → (List S_api_Step) → V → Bool → Int → Bool → Int → Option (Bool × Int × Bool × Int)) (c_q0e : ∀ (a0 : V) (a1c0 : (List S_api_Step)) (a1c1c0 : V) (a1c1c1 : Bool) (a1c1c2 : Int) (a1c2 : Bool) (a1c3 : Int) r, r_q0e a0 a1c0 a1c1c0 a1c1c1 a1c1c2 a1c2 a1c3 = some r → z18 Tryz.prog 84 [(ofV a0), (PV.fn (.func 85) [] [(PV.pt 30 (PV.sl none 83 3 (List.map z00 a1c0)) 0), (PV.rf 0 0), (PV.rf 3 0), (PV.rf 4 0)])] [.box 56 [(PV.fn (.func 21) [] [(PV.pt 20 (ofV a1c1c0) 0), (PV.rf 1 0), (PV.rf 2 0)])], .box 4 [(BO a1c1c1)], .box 3 [(I64 a1c1c2)], .box 4 [(BO a1c2)], .box 33 [(I64 a1c3)]] (PV.tup []) [.box 56 [(PV.fn (.func 21) [] [(PV.pt 20 (ofV a1c1c0) 0), (PV.rf 1 0), (PV.rf 2 0)])], .box 4 [(BO r.1)], .box 3 [(I64 r.2.1)], .box 4 [(BO r.2.2.1)], .box 33 [(I64 r.2.2.2)]]) (r_q09 : (List S_api_Step) → V → V → Bool → Int → Option (Bool × Int × Bool × Int)) (c_q09 : ∀ (a0 : (List S_api_Step)) (a1 : V) (a2c0 : V) (a2c1 : Bool) (a2c2 : Int) r, r_q09 a0 a1 a2c0 a2c1 a2c2 = some r → z18 Tryz.prog 49 [(PV.sl none 83 3 (List.map z00 a0)), (ofV a1), (PV.fn (.func 21) [] [(PV.pt 20 (ofV a2c0) 0), (PV.rf 0 0), (PV.rf 1 0)])] [.box 4 [(BO a2c1)], .box 3 [(I64 a2c2)]] (PV.tup [(BO r.1), (I64 r.2.1)]) [.box 4 [(BO r.2.2.1)], .box 3 [(I64 r.2.2.2)]]) (a0 : S_api_Step) (a1 : V) (a2 : (List S_api_Step)) (a3c0 : V) (a3c1 : Bool) (a3c2 : Int) (a4 : Bool) (a5 : Int) (r : (Bool × Bool × Int × Bool × Int)) (h : zkv r_q17 r_q0e r_q09 a0 a1 a2 a3c0 a3c1 a3c2 a4 a5 = some r) : z18 Tryz.prog 85 [(z00 a0), (ofV a1), (PV.pt 30 (PV.sl none 83 3 (List.map z00 a2)) 0), (PV.rf 0 0), (PV.rf 3 0), (PV.rf 4 0)] [.box 56 [(PV.fn (.func 21) [] [(PV.pt 20 (ofV a3c0) 0), (PV.rf 1 0), (PV.rf 2 0)])], .box 4 [(BO a3c1)], .box 3 [(I64 a3c2)], .box 4 [(BO a4)], .box 33 [(I64 a5)]] (BO r.1) [.box 56 [(PV.fn (.func 21) [] [(PV.pt 20 (ofV a3c0) 0), (PV.rf 1 0), (PV.rf 2 0)])], .box 4 [(BO r.2.1)], .box 3 [(I64 r.2.2.1)], .box 4 [(BO r.2.2.2.1)], .box 33 [(I64 r.2.2.2.2)]] := by
 unfold zkv at h
 refine z0d Tryz.func85 rfl Tryz.ntmps85 Tryz.results85 rfl (z0g ?_)
 change BW _ _ _ ⟨[(0, (z00 a0)), (1, (ofV a1)), (2, (PV.pt 30 (PV.sl none 83 3 (List.map z00 a2)) 0)), (3, (PV.rf 0 0)), (4, (PV.rf 3 0)), (5, (PV.rf 4 0))], [.box 56 [(PV.fn (.func 21) [] [(PV.pt 20 (ofV a3c0) 0), (PV.rf 1 0), (PV.rf 2 0)])], .box 4 [(BO a3c1)], .box 3 [(I64 a3c2)], .box 4 [(BO a4)], .box 33 [(I64 a5)]], _⟩ _
 refine bR ?_
 refine sX ?_
 refine eX ?_
 refine z08 (z1l 12 [1, 4, 7, 11] [0, 5] mo (by kernel_rfl) ?_)
 refine gX ?_
 obtain ⟨x1, hx1, h⟩ := obind h
 refine z41 rfl rfl rfl rfl (z49 rfl zvi rfl (wkr .nil) ⟨(z03 z02 a2), trivial⟩ (ztg a2 x1 hx1) (z67 (z0u z02 _) rfl) rfl) ⟨rfl, ⟨rfl, trivial⟩⟩ ?_
 refine gX ?_
 refine z1p rfl rfl rfl rfl (fun H hp => (z77 (xs := [(PV.agg [(z0i a0.f_Name), (BO a0.f_At), (I64 a0.f_Index)])]) Tryz.underlying30 z1h rfl rfl rfl rfl rfl rfl ⟨lbE rfl, lbE rfl⟩ rfl).cast (y := (PV.sl none 83 3 (List.map z00 ([a0] : (List S_api_Step))))) rfl rfl) ?_
 obtain ⟨x2, hx2, h⟩ := obind h
 refine z41 rfl rfl rfl rfl (z2l Tryz.underlying30 z1h rfl Tryz.underlying30 rfl rfl rfl rfl z2x z2j hx2 rfl) ⟨rfl, ⟨rfl, trivial⟩⟩ ?_
 iterate 2 refine gX ?_
 obtain ⟨x3, hx3, h⟩ := obind h
 refine z41 rfl rfl rfl rfl (Op1.cast (y := (PV.tup [(BO x3.1), (I64 x3.2.1)])) (H'' := [.box 56 [(PV.fn (.func 21) [] [(PV.pt 20 (ofV a3c0) 0), (PV.rf 1 0), (PV.rf 2 0)])], .box 4 [(BO x3.2.2.1)], .box 3 [(I64 x3.2.2.2)], .box 4 [(BO a4)], .box 33 [(I64 a5)], .box 83 [(z0i a0.f_Name), (BO a0.f_At), (I64 a0.f_Index)], .arr 83 (x2).length]) (z1b [1, 2] (.func rfl) zvl rfl (.cons Wk.tok (wkr (wkr .nil))) rfl (.cons rfl (.box (.cons (.same rfl) .nil)) (.cons rfl (.box (.cons (.same rfl) .nil)) .nil)) (.cons (.same (z03 z02 x2)) (.cons (.same (ids_V a1)) (.cons (.fn (.cons (.same (z13 (ids_V a3c0))) (.cons (.rf rfl) (.cons (.rf rfl) .nil)))) .nil))) (c_q09 x2 a1 a3c0 a3c1 a3c2 x3 hx3) (.same (z01 rfl (z01 rfl z04))) (.cons (.box (.cons (.same rfl) .nil)) (.cons (.box (.cons (.same rfl) .nil)) .nil)) rfl) rfl rfl) ⟨rfl, ⟨rfl, trivial⟩⟩ ?_
 iterate 3 refine gX ?_
 refine zds rfl rfl rfl (z0e z3a rfl rfl rfl rfl rfl rfl (lbE rfl) rfl) ⟨rfl, ⟨rfl, trivial⟩⟩ ?_
 refine z1u ?_
 change AO _ _ _ _ _
 refine z0j rfl rfl (z0e z3x rfl rfl rfl rfl rfl rfl (lbE rfl) rfl) ?_
 refine z0a ?_
 refine cBx ?_
 refine bR ?_
 refine sX ?_
 refine eX ?_
 obtain rfl := eI h; exact z05 ⟨_, rfl, endR (y := (BO x3.1)) 5 (Wk.refl _) rfl rfl (.same rfl) (.cons (.box (.cons (.fn (.cons (.same (z13 (ids_V _))) (.cons (.rf rfl) (.cons (.rf rfl) .nil)))) .nil)) (.cons (.box (.cons (.same rfl) .nil)) (.cons (.box (.cons (.same rfl) .nil)) (.cons (.box (.cons (.same rfl) .nil)) (.cons (.box (.cons (.same rfl) .nil)) .nil))))) ⟨rfl, rfl⟩⟩
theorem z4u (r_q17 : S_api_Step → V → (List S_api_Step) → V → Bool → Int → Bool → Int → Option (Bool × Bool × Int × Bool × Int)) (c_q17 : ∀ (a0 : S_api_Step) (a1 : V) (a2 : (List S_api_Step)) (a3c0 : V) (a3c1 : Bool) (a3c2 : Int) (a4 : Bool) (a5 : Int) r, r_q17 a0 a1 a2 a3c0 a3c1 a3c2 a4 a5 = some r → z18 Tryz.prog 85 [(z00 a0), (ofV a1), (PV.pt 30 (PV.sl none 83 3 (List.map z00 a2)) 0), (PV.rf 0 0), (PV.rf 3 0), (PV.rf 4 0)] [.box 56 [(PV.fn (.func 21) [] [(PV.pt 20 (ofV a3c0) 0), (PV.rf 1 0), (PV.rf 2 0)])], .box 4 [(BO a3c1)], .box 3 [(I64 a3c2)], .box 4 [(BO a4)], .box 33 [(I64 a5)]] (BO r.1) [.box 56 [(PV.fn (.func 21) [] [(PV.pt 20 (ofV a3c0) 0), (PV.rf 1 0), (PV.rf 2 0)])], .box 4 [(BO r.2.1)], .box 3 [(I64 r.2.2.1)], .box 4 [(BO r.2.2.2.1)], .box 33 [(I64 r.2.2.2.2)]]) (r_q0e : V → (List S_api_Step) → V → Bool → Int → Bool → Int → Option (Bool × Int × Bool × Int)) (c_q0e : ∀ (a0 : V) (a1c0 : (List S_api_Step)) (a1c1c0 : V) (a1c1c1 : Bool) (a1c1c2 : Int) (a1c2 : Bool) (a1c3 : Int) r, r_q0e a0 a1c0 a1c1c0 a1c1c1 a1c1c2 a1c2 a1c3 = some r → z18 Tryz.prog 84 [(ofV a0), (PV.fn (.func 85) [] [(PV.pt 30 (PV.sl none 83 3 (List.map z00 a1c0)) 0), (PV.rf 0 0), (PV.rf 3 0), (PV.rf 4 0)])] [.box 56 [(PV.fn (.func 21) [] [(PV.pt 20 (ofV a1c1c0) 0), (PV.rf 1 0), (PV.rf 2 0)])], .box 4 [(BO a1c1c1)], .box 3 [(I64 a1c1c2)], .box 4 [(BO a1c2)], .box 33 [(I64 a1c3)]] (PV.tup []) [.box 56 [(PV.fn (.func 21) [] [(PV.pt 20 (ofV a1c1c0) 0), (PV.rf 1 0), (PV.rf 2 0)])], .box 4 [(BO r.1)], .box 3 [(I64 r.2.1)], .box 4 [(BO r.2.2.1)], .box 33 [(I64 r.2.2.2)]]) (r_q09 : (List S_api_Step) → V → V → Bool → Int → Option (Bool × Int × Bool × Int)) (c_q09 : ∀ (a0 : (List S_api_Step)) (a1 : V) (a2c0 : V) (a2c1 : Bool) (a2c2 : Int) r, r_q09 a0 a1 a2c0 a2c1 a2c2 = some r → z18 Tryz.prog 49 [(PV.sl none 83 3 (List.map z00 a0)), (ofV a1), (PV.fn (.func 21) [] [(PV.pt 20 (ofV a2c0) 0), (PV.rf 0 0), (PV.rf 1 0)])] [.box 4 [(BO a2c1)], .box 3 [(I64 a2c2)]] (PV.tup [(BO r.1), (I64 r.2.1)]) [.box 4 [(BO r.2.2.1)], .box 3 [(I64 r.2.2.2)]]) (a0 : V) (a1c0 : (List S_api_Step)) (a1c1c0 : V) (a1c1c1 : Bool) (a1c1c2 : Int) (a1c2 : Bool) (a1c3 : Int) (r : (Bool × Int × Bool × Int)) (h : zl3 r_q17 r_q0e r_q09 a0 a1c0 a1c1c0 a1c1c1 a1c1c2 a1c2 a1c3 = some r) : z18 Tryz.prog 84 [(ofV a0), (PV.fn (.func 85) [] [(PV.pt 30 (PV.sl none 83 3 (List.map z00 a1c0)) 0), (PV.rf 0 0), (PV.rf 3 0), (PV.rf 4 0)])] [.box 56 [(PV.fn (.func 21) [] [(PV.pt 20 (ofV a1c1c0) 0), (PV.rf 1 0), (PV.rf 2 0)])], .box 4 [(BO a1c1c1)], .box 3 [(I64 a1c1c2)], .box 4 [(BO a1c2)], .box 33 [(I64 a1c3)]] (PV.tup []) [.box 56 [(PV.fn (.func 21) [] [(PV.pt 20 (ofV a1c1c0) 0), (PV.rf 1 0), (PV.rf 2 0)])], .box 4 [(BO r.1)], .box 3 [(I64 r.2.1)], .box 4 [(BO r.2.2.1)], .box 33 [(I64 r.2.2.2)]] := by
 unfold zl3 at h
 refine z0d Tryz.func84 rfl Tryz.ntmps84 Tryz.results84 rfl (z0g ?_)
 change BW _ _ _ ⟨[(0, (ofV a0)), (1, (PV.fn (.func 85) [] [(PV.pt 30 (PV.sl none 83 3 (List.map z00 a1c0)) 0), (PV.rf 0 0), (PV.rf 3 0), (PV.rf 4 0)]))], [.box 56 [(PV.fn (.func 21) [] [(PV.pt 20 (ofV a1c1c0) 0), (PV.rf 1 0), (PV.rf 2 0)])], .box 4 [(BO a1c1c1)], .box 3 [(I64 a1c1c2)], .box 4 [(BO a1c2)], .box 33 [(I64 a1c3)]], _⟩ _
 refine z2t (ι := (Bool × Int × Bool × Int)) (fun i => z9l r_q17 a0 a1c0 a1c1c0 i.1 i.2.1 i.2.2.1 i.2.2.2 = some r) (fun i => [(0, (ofV a0)), (1, (PV.fn (.func 85) [] [(PV.pt 30 (PV.sl none 83 3 (List.map z00 a1c0)) 0), (PV.rf 0 0), (PV.rf 3 0), (PV.rf 4 0)]))]) (fun i => [.box 56 [(PV.fn (.func 21) [] [(PV.pt 20 (ofV a1c1c0) 0), (PV.rf 1 0), (PV.rf 2 0)])], .box 4 [(BO i.1)], .box 3 [(I64 i.2.1)], .box 4 [(BO i.2.2.1)], .box 33 [(I64 i.2.2.2)]]) ?_ ?_ ?_
 intro i; exact ⟨lbE rfl, ⟨(z09 (ids_V _)), ⟨(il_fn (z0s (z09 (z13 (z03 z02 a1c0))) (z0s (il_rf rfl) (z0s (il_rf rfl) (z0s (il_rf rfl) z24))))), trivial⟩⟩, ⟨⟨(il_fn (z0s (z09 (z13 (ids_V a1c1c0))) (z0s (il_rf rfl) (z0s (il_rf rfl) z24)))), trivial⟩, ⟨⟨(z09 rfl), trivial⟩, ⟨⟨(z09 rfl), trivial⟩, ⟨⟨(z09 rfl), trivial⟩, ⟨⟨(z09 rfl), trivial⟩, trivial⟩⟩⟩⟩⟩⟩
 rintro ⟨s1, s2, s3, s4⟩ h; replace h : z9l r_q17 a0 a1c0 a1c1c0 s1 s2 s3 s4 = some r := h; unfold z9l at h
 change BW _ _ _ ⟨[(0, (ofV a0)), (1, (PV.fn (.func 85) [] [(PV.pt 30 (PV.sl none 83 3 (List.map z00 a1c0)) 0), (PV.rf 0 0), (PV.rf 3 0), (PV.rf 4 0)]))], [.box 56 [(PV.fn (.func 21) [] [(PV.pt 20 (ofV a1c1c0) 0), (PV.rf 1 0), (PV.rf 2 0)])], .box 4 [(BO s1)], .box 3 [(I64 s2)], .box 4 [(BO s3)], .box 33 [(I64 s4)]], _⟩ _
 refine bR ?_
 refine sX ?_
 obtain ⟨x5, hx5, h⟩ := obind h
 refine sS rfl rfl rfl (z06 rfl zvg rfl (wkr .nil) ⟨(ids_V a0), trivial⟩ (ztf a0 x5 hx5) (z01 (z03 z0r x5.1) (z01 rfl z04))) ?_
 iterate 4 refine sX ?_
 refine eX ?_
 refine bR ?_
 iterate 2 refine sX ?_
 refine eX ?_
 refine z0h ?_
 refine cBx ?_
 unfold zen at h
 refine z2u (σ := (Nat × Bool × Int × Bool × Int)) (fun i => [(1, (PV.fn (.func 85) [] [(PV.pt 30 (PV.sl none 83 3 (List.map z00 a1c0)) 0), (PV.rf 0 0), (PV.rf 3 0), (PV.rf 4 0)])), (37, (PV.sl none 69 2 (List.map ofFld x5.1))), (38, (I64 ((((x5.1).length : Nat) : Int)))), (39, (I64 (((i.1 : Nat) : Int))))]) (fun i => [.box 56 [(PV.fn (.func 21) [] [(PV.pt 20 (ofV a1c1c0) 0), (PV.rf 1 0), (PV.rf 2 0)])], .box 4 [(BO i.2.1)], .box 3 [(I64 i.2.2.1)], .box 4 [(BO i.2.2.2.1)], .box 33 [(I64 i.2.2.2.2)]]) (0, s1, s2, s3, s4) h ?_ ?_ ?_
 intro i; exact ⟨lbE rfl, ⟨(il_fn (z0s (z09 (z13 (z03 z02 a1c0))) (z0s (il_rf rfl) (z0s (il_rf rfl) (z0s (il_rf rfl) z24))))), ⟨(z09 (z03 z0r _)), ⟨(z09 rfl), ⟨(z09 rfl), trivial⟩⟩⟩⟩, ⟨⟨(il_fn (z0s (z09 (z13 (ids_V a1c1c0))) (z0s (il_rf rfl) (z0s (il_rf rfl) z24)))), trivial⟩, ⟨⟨(z09 rfl), trivial⟩, ⟨⟨(z09 rfl), trivial⟩, ⟨⟨(z09 rfl), trivial⟩, ⟨⟨(z09 rfl), trivial⟩, trivial⟩⟩⟩⟩⟩⟩
 exact jN
 rintro g1_f ⟨s6, s7, s8, s9, s10⟩ h; replace h : z5v r_q17 a1c0 a1c1c0 x5 (fun y0 y1 y2 y3 y4 => g1_f (y0, y1, y2, y3, y4)) s6 s7 s8 s9 s10 = some r := h; unfold z5v at h
 change BW _ _ _ ⟨[(1, (PV.fn (.func 85) [] [(PV.pt 30 (PV.sl none 83 3 (List.map z00 a1c0)) 0), (PV.rf 0 0), (PV.rf 3 0), (PV.rf 4 0)])), (37, (PV.sl none 69 2 (List.map ofFld x5.1))), (38, (I64 ((((x5.1).length : Nat) : Int)))), (39, (I64 (((s6 : Nat) : Int))))], [.box 56 [(PV.fn (.func 21) [] [(PV.pt 20 (ofV a1c1c0) 0), (PV.rf 1 0), (PV.rf 2 0)])], .box 4 [(BO s7)], .box 3 [(I64 s8)], .box 4 [(BO s9)], .box 33 [(I64 s10)]], _⟩ _
 refine bR ?_
 refine eX ?_
 refine z08 ?_
 refine z3j (t := 37) rfl fun hb12 => ?_
 try rw [List.length_map] at hb12
 refine cX h rfl ?_ ?_
 intro hc11 h
 have hc11_ := of_decide_eq_true hc11
 refine z07 ?_
 refine cBx ?_
 refine z08 ?_
 refine z0h ?_
 refine cBx ?_
 refine bR ?_
 obtain ⟨x13, hx13, h⟩ := obind h
 refine sS rfl rfl rfl (z1r (i := s6) Tryz.underlying71 z0z rfl rfl rfl hx13 rfl) ?_
 refine sX ?_
 refine sS rfl rfl rfl ((z14 z0z rfl).cast (H'' := [.box 56 [(PV.fn (.func 21) [] [(PV.pt 20 (ofV a1c1c0) 0), (PV.rf 1 0), (PV.rf 2 0)])], .box 4 [(BO s7)], .box 3 [(I64 s8)], .box 4 [(BO s9)], .box 33 [(I64 s10)], .box 69 [(z0i []), (ofV V.nil)]]) rfl (by simp only [mk_nil]; rfl)) ?_
 refine z0j rfl rfl (z0e z0z rfl rfl rfl rfl rfl rfl (lbE rfl) (by show List.all [(z0i x13.1), (ofV x13.2)] z6n = true; simp only [List.all_cons, List.all_nil, zb5, z3v, Bool.and_true, Bool.true_and]; try rfl)) ?_
 refine z0a ?_
 refine cBx ?_
 refine bR ?_
 iterate 3 refine sX ?_
 refine sS rfl rfl rfl (z1g (cs := [(z0i x13.1), (BO false), (I64 0)]) z8e z1h rfl rfl rfl rfl) ?_
 iterate 2 refine sX ?_
 obtain ⟨x14, hx14, h⟩ := obind h
 refine sS rfl rfl rfl (Op1.cast (y := (BO x14.1)) (H'' := [.box 56 [(PV.fn (.func 21) [] [(PV.pt 20 (ofV a1c1c0) 0), (PV.rf 1 0), (PV.rf 2 0)])], .box 4 [(BO x14.2.1)], .box 3 [(I64 x14.2.2.1)], .box 4 [(BO x14.2.2.2.1)], .box 33 [(I64 x14.2.2.2.2)], .box 69 [(z0i x13.1), (ofV x13.2)]]) (z1b [0, 1, 2, 3, 4] (.held rfl rfl) zvh rfl (wkr (wkr (wkr (wkr (wkr (wkr .nil)))))) rfl (.cons rfl (.box (.cons (.fn (.cons (.same (z13 (ids_V _))) (.cons (.rf rfl) (.cons (.rf rfl) .nil)))) .nil)) (.cons rfl (.box (.cons (.same rfl) .nil)) (.cons rfl (.box (.cons (.same rfl) .nil)) (.cons rfl (.box (.cons (.same rfl) .nil)) (.cons rfl (.box (.cons (.same rfl) .nil)) .nil))))) (.cons (.same (z02 (S_api_Step.mk x13.1 false 0))) (.cons (.same (ids_V x13.2)) (.cons (.same (z13 (z03 z02 a1c0))) (.cons (.rf rfl) (.cons (.rf rfl) (.cons (.rf rfl) .nil)))))) (c_q17 (S_api_Step.mk x13.1 false 0) x13.2 a1c0 a1c1c0 s7 s8 s9 s10 x14 hx14) (.same rfl) (.cons (.box (.cons (.fn (.cons (.same (z13 (ids_V _))) (.cons (.rf rfl) (.cons (.rf rfl) .nil)))) .nil)) (.cons (.box (.cons (.same rfl) .nil)) (.cons (.box (.cons (.same rfl) .nil)) (.cons (.box (.cons (.same rfl) .nil)) (.cons (.box (.cons (.same rfl) .nil)) .nil))))) rfl) rfl rfl) ?_
 refine eX ?_
 refine cX h rfl ?_ ?_
 intro hc15 h
 obtain rfl := eI h; exact z05 ⟨_, rfl, endR (y := (PV.tup [])) 5 (Wk.refl _) rfl rfl (.tup .nil) (.cons (.box (.cons (.fn (.cons (.same (z13 (ids_V _))) (.cons (.rf rfl) (.cons (.rf rfl) .nil)))) .nil)) (.cons (.box (.cons (.same rfl) .nil)) (.cons (.box (.cons (.same rfl) .nil)) (.cons (.box (.cons (.same rfl) .nil)) (.cons (.box (.cons (.same rfl) .nil)) .nil))))) ⟨rfl, rfl⟩⟩
 intro hc15 h
 refine z07 ?_
 refine cBx ?_
 refine z0f ?_
 refine sS rfl rfl rfl (z27 (k := s6) (c := 1) rfl rfl rfl (by omega)) ?_
 refine sX (z0a ?_)
 exact ⟨rfl, ((s6 + 1), x14.2.1, x14.2.2.1, x14.2.2.2.1, x14.2.2.2.2), h, jN⟩
 intro hc11 h
 refine z1z ?_
 change ∃ xs, _ = some xs ∧ EndOk _ _ _ _
 obtain rfl := Option.some.inj h
 exact ⟨_, rfl, endR (y := (PV.tup [])) 5 (Wk.refl _) rfl rfl (.tup .nil) (.cons (.box (.cons (.fn (.cons (.same (z13 (ids_V _))) (.cons (.rf rfl) (.cons (.rf rfl) .nil)))) .nil)) (.cons (.box (.cons (.same rfl) .nil)) (.cons (.box (.cons (.same rfl) .nil)) (.cons (.box (.cons (.same rfl) .nil)) (.cons (.box (.cons (.same rfl) .nil)) .nil))))) ⟨rfl, rfl⟩⟩
 refine bR ?_
 refine sX ?_
 refine sS rfl rfl rfl (z1w rfl rfl) ?_
 iterate 4 refine sX ?_
 refine eX ?_
 refine bR ?_
 refine eX ?_
 refine cX h rfl ?_ ?_
 intro hc16 h
 refine bR ?_
 iterate 2 refine sX ?_
 refine eX ?_
 refine z0h ?_
 refine cBx ?_
 unfold zem at h
 refine z2u (σ := (Nat × Bool × Int × Bool × Int)) (fun i => [(0, (ofV a0)), (1, (PV.fn (.func 85) [] [(PV.pt 30 (PV.sl none 83 3 (List.map z00 a1c0)) 0), (PV.rf 0 0), (PV.rf 3 0), (PV.rf 4 0)])), (18, (PV.sl none 20 1 (List.map ofV (a0).asList))), (19, (I64 (((((a0).asList).length : Nat) : Int)))), (20, (I64 (((i.1 : Nat) : Int))))]) (fun i => [.box 56 [(PV.fn (.func 21) [] [(PV.pt 20 (ofV a1c1c0) 0), (PV.rf 1 0), (PV.rf 2 0)])], .box 4 [(BO i.2.1)], .box 3 [(I64 i.2.2.1)], .box 4 [(BO i.2.2.2.1)], .box 33 [(I64 i.2.2.2.2)]]) (0, a1c1c1, a1c1c2, a1c2, a1c3) h ?_ ?_ ?_
 intro i; exact ⟨lbE rfl, ⟨(z09 (ids_V _)), ⟨(il_fn (z0s (z09 (z13 (z03 z02 a1c0))) (z0s (il_rf rfl) (z0s (il_rf rfl) (z0s (il_rf rfl) z24))))), ⟨(z09 (z03 ids_V _)), ⟨(z09 rfl), ⟨(z09 rfl), trivial⟩⟩⟩⟩⟩, ⟨⟨(il_fn (z0s (z09 (z13 (ids_V a1c1c0))) (z0s (il_rf rfl) (z0s (il_rf rfl) z24)))), trivial⟩, ⟨⟨(z09 rfl), trivial⟩, ⟨⟨(z09 rfl), trivial⟩, ⟨⟨(z09 rfl), trivial⟩, ⟨⟨(z09 rfl), trivial⟩, trivial⟩⟩⟩⟩⟩⟩
 exact jN
 rintro g1_f ⟨s17, s18, s19, s20, s21⟩ h; replace h : z5u r_q17 a0 a1c0 a1c1c0 (fun y0 y1 y2 y3 y4 => g1_f (y0, y1, y2, y3, y4)) s17 s18 s19 s20 s21 = some r := h; unfold z5u at h
 change BW _ _ _ ⟨[(0, (ofV a0)), (1, (PV.fn (.func 85) [] [(PV.pt 30 (PV.sl none 83 3 (List.map z00 a1c0)) 0), (PV.rf 0 0), (PV.rf 3 0), (PV.rf 4 0)])), (18, (PV.sl none 20 1 (List.map ofV (a0).asList))), (19, (I64 (((((a0).asList).length : Nat) : Int)))), (20, (I64 (((s17 : Nat) : Int))))], [.box 56 [(PV.fn (.func 21) [] [(PV.pt 20 (ofV a1c1c0) 0), (PV.rf 1 0), (PV.rf 2 0)])], .box 4 [(BO s18)], .box 3 [(I64 s19)], .box 4 [(BO s20)], .box 33 [(I64 s21)]], _⟩ _
 refine bR ?_
 refine eX ?_
 refine z08 ?_
 refine z3j (t := 18) rfl fun hb23 => ?_
 try rw [List.length_map] at hb23
 refine cX h rfl ?_ ?_
 intro hc22 h
 have hc22_ := of_decide_eq_true hc22
 refine z07 ?_
 refine cBx ?_
 refine z08 ?_
 refine z0h ?_
 refine cBx ?_
 refine bR ?_
 refine sX ?_
 obtain ⟨x24, hx24, h⟩ := obind h
 refine sS rfl rfl rfl (z1r (i := s17) Tryz.underlying67 z1t rfl rfl rfl hx24 rfl) ?_
 refine sS rfl rfl rfl (z1y (y := (ofV x24)) Tryz.underlying20 rfl rfl rfl (by rw [z0t]; rfl)) ?_
 refine sX ?_
 refine eX ?_
 refine bR ?_
 iterate 2 refine sX ?_
 refine sS rfl rfl rfl (z1g (cs := [(z0i []), (BO true), (I64 (((s17 : Nat) : Int)))]) z8e z1h rfl rfl rfl rfl) ?_
 refine sX ?_
 obtain ⟨x25, hx25, h⟩ := obind h
 refine sS rfl rfl rfl (Op1.cast (y := (BO x25.1)) (H'' := [.box 56 [(PV.fn (.func 21) [] [(PV.pt 20 (ofV a1c1c0) 0), (PV.rf 1 0), (PV.rf 2 0)])], .box 4 [(BO x25.2.1)], .box 3 [(I64 x25.2.2.1)], .box 4 [(BO x25.2.2.2.1)], .box 33 [(I64 x25.2.2.2.2)]]) (z1b [0, 1, 2, 3, 4] (.held rfl rfl) zvh rfl (wkr (wkr (wkr (wkr (wkr (wkr .nil)))))) rfl (.cons rfl (.box (.cons (.fn (.cons (.same (z13 (ids_V _))) (.cons (.rf rfl) (.cons (.rf rfl) .nil)))) .nil)) (.cons rfl (.box (.cons (.same rfl) .nil)) (.cons rfl (.box (.cons (.same rfl) .nil)) (.cons rfl (.box (.cons (.same rfl) .nil)) (.cons rfl (.box (.cons (.same rfl) .nil)) .nil))))) (.cons (.same (z02 (S_api_Step.mk [] true ((s17 : Nat) : Int)))) (.cons (.same (ids_V x24)) (.cons (.same (z13 (z03 z02 a1c0))) (.cons (.rf rfl) (.cons (.rf rfl) (.cons (.rf rfl) .nil)))))) (c_q17 (S_api_Step.mk [] true ((s17 : Nat) : Int)) x24 a1c0 a1c1c0 s18 s19 s20 s21 x25 hx25) (.same rfl) (.cons (.box (.cons (.fn (.cons (.same (z13 (ids_V _))) (.cons (.rf rfl) (.cons (.rf rfl) .nil)))) .nil)) (.cons (.box (.cons (.same rfl) .nil)) (.cons (.box (.cons (.same rfl) .nil)) (.cons (.box (.cons (.same rfl) .nil)) (.cons (.box (.cons (.same rfl) .nil)) .nil))))) rfl) rfl rfl) ?_
 refine eX ?_
 refine cX h rfl ?_ ?_
 intro hc26 h
 obtain rfl := eI h; exact z05 ⟨_, rfl, endR (y := (PV.tup [])) 5 (Wk.refl _) rfl rfl (.tup .nil) (.cons (.box (.cons (.fn (.cons (.same (z13 (ids_V _))) (.cons (.rf rfl) (.cons (.rf rfl) .nil)))) .nil)) (.cons (.box (.cons (.same rfl) .nil)) (.cons (.box (.cons (.same rfl) .nil)) (.cons (.box (.cons (.same rfl) .nil)) (.cons (.box (.cons (.same rfl) .nil)) .nil))))) ⟨rfl, rfl⟩⟩
 intro hc26 h
 refine z07 ?_
 refine cBx ?_
 refine z0f ?_
 refine sS rfl rfl rfl (z27 (k := s17) (c := 1) rfl rfl rfl (by omega)) ?_
 refine sX (z0a ?_)
 exact ⟨rfl, ((s17 + 1), x25.2.1, x25.2.2.1, x25.2.2.2.1, x25.2.2.2.2), h, jN⟩
 intro hc22 h
 refine z1z ?_
 exact ⟨rfl, (s18, s19, s20, s21), h, jN⟩
 intro hc16 h
 refine z07 ?_
 exact ⟨rfl, (a1c1c1, a1c1c2, a1c2, a1c3), h, jN⟩
theorem z4t (r_q17 : S_api_Step → V → (List S_api_Step) → V → Bool → Int → Bool → Int → Option (Bool × Bool × Int × Bool × Int)) (c_q17 : ∀ (a0 : S_api_Step) (a1 : V) (a2 : (List S_api_Step)) (a3c0 : V) (a3c1 : Bool) (a3c2 : Int) (a4 : Bool) (a5 : Int) r, r_q17 a0 a1 a2 a3c0 a3c1 a3c2 a4 a5 = some r → z18 Tryz.prog 85 [(z00 a0), (ofV a1), (PV.pt 30 (PV.sl none 83 3 (List.map z00 a2)) 0), (PV.rf 0 0), (PV.rf 3 0), (PV.rf 4 0)] [.box 56 [(PV.fn (.func 21) [] [(PV.pt 20 (ofV a3c0) 0), (PV.rf 1 0), (PV.rf 2 0)])], .box 4 [(BO a3c1)], .box 3 [(I64 a3c2)], .box 4 [(BO a4)], .box 33 [(I64 a5)]] (BO r.1) [.box 56 [(PV.fn (.func 21) [] [(PV.pt 20 (ofV a3c0) 0), (PV.rf 1 0), (PV.rf 2 0)])], .box 4 [(BO r.2.1)], .box 3 [(I64 r.2.2.1)], .box 4 [(BO r.2.2.2.1)], .box 33 [(I64 r.2.2.2.2)]]) (r_q0e : V → (List S_api_Step) → V → Bool → Int → Bool → Int → Option (Bool × Int × Bool × Int)) (c_q0e : ∀ (a0 : V) (a1c0 : (List S_api_Step)) (a1c1c0 : V) (a1c1c1 : Bool) (a1c1c2 : Int) (a1c2 : Bool) (a1c3 : Int) r, r_q0e a0 a1c0 a1c1c0 a1c1c1 a1c1c2 a1c2 a1c3 = some r → z18 Tryz.prog 84 [(ofV a0), (PV.fn (.func 85) [] [(PV.pt 30 (PV.sl none 83 3 (List.map z00 a1c0)) 0), (PV.rf 0 0), (PV.rf 3 0), (PV.rf 4 0)])] [.box 56 [(PV.fn (.func 21) [] [(PV.pt 20 (ofV a1c1c0) 0), (PV.rf 1 0), (PV.rf 2 0)])], .box 4 [(BO a1c1c1)], .box 3 [(I64 a1c1c2)], .box 4 [(BO a1c2)], .box 33 [(I64 a1c3)]] (PV.tup []) [.box 56 [(PV.fn (.func 21) [] [(PV.pt 20 (ofV a1c1c0) 0), (PV.rf 1 0), (PV.rf 2 0)])], .box 4 [(BO r.1)], .box 3 [(I64 r.2.1)], .box 4 [(BO r.2.2.1)], .box 33 [(I64 r.2.2.2)]]) (r_q09 : (List S_api_Step) → V → V → Bool → Int → Option (Bool × Int × Bool × Int)) (c_q09 : ∀ (a0 : (List S_api_Step)) (a1 : V) (a2c0 : V) (a2c1 : Bool) (a2c2 : Int) r, r_q09 a0 a1 a2c0 a2c1 a2c2 = some r → z18 Tryz.prog 49 [(PV.sl none 83 3 (List.map z00 a0)), (ofV a1), (PV.fn (.func 21) [] [(PV.pt 20 (ofV a2c0) 0), (PV.rf 0 0), (PV.rf 1 0)])] [.box 4 [(BO a2c1)], .box 3 [(I64 a2c2)]] (PV.tup [(BO r.1), (I64 r.2.1)]) [.box 4 [(BO r.2.2.1)], .box 3 [(I64 r.2.2.2)]]) (a0 : (List S_api_Step)) (a1 a2c0 : V) (a2c1 : Bool) (a2c2 : Int) (r : (Bool × Int × Bool × Int)) (h : zl4 r_q17 r_q0e r_q09 a0 a1 a2c0 a2c1 a2c2 = some r) : z18 Tryz.prog 49 [(PV.sl none 83 3 (List.map z00 a0)), (ofV a1), (PV.fn (.func 21) [] [(PV.pt 20 (ofV a2c0) 0), (PV.rf 0 0), (PV.rf 1 0)])] [.box 4 [(BO a2c1)], .box 3 [(I64 a2c2)]] (PV.tup [(BO r.1), (I64 r.2.1)]) [.box 4 [(BO r.2.2.1)], .box 3 [(I64 r.2.2.2)]] := by
 unfold zl4 at h
 refine z0d Tryz.func49 rfl Tryz.ntmps49 Tryz.results49 rfl (z0g ?_)
 change BW _ _ _ ⟨[(0, (PV.sl none 83 3 (List.map z00 a0))), (1, (ofV a1)), (2, (PV.fn (.func 21) [] [(PV.pt 20 (ofV a2c0) 0), (PV.rf 0 0), (PV.rf 1 0)]))], [.box 4 [(BO a2c1)], .box 3 [(I64 a2c2)]], _⟩ _
 refine bR ?_
 refine sX ?_
 refine sS rfl rfl rfl ((zb4 rfl rfl (z3t _)).cast rfl (by rw [z0t])) ?_
 refine sX ?_
 refine sS rfl rfl rfl (z14 z3a rfl) ?_
 refine sS rfl rfl rfl (z14 z3x rfl) (z0a ?_)
 refine cBx ?_
 refine z08 ?_
 refine z3p 2 3 (y := (PV.pt 30 (PV.sl none 83 3 (List.map z00 a0)) 0)) rfl rfl (Wk.pt (x := .agg [(PV.sl none 83 3 (List.map z00 a0))]) (y := (PV.sl none 83 3 (List.map z00 a0))) (wkr .nil)) ?_
 refine z3p 3 4 (y := (PV.pt 20 (ofV a1) 0)) rfl rfl (Wk.pt (x := .agg [(ofV a1)]) (y := (ofV a1)) (by rw [z0t]; exact (wkr .nil))) ?_
 refine z0f ?_
 refine sS rfl rfl rfl (z14 z8f rfl) ?_
 refine z0j rfl rfl (z0e z8f rfl rfl rfl rfl rfl rfl (lbE rfl) rfl) ?_
 refine z0a ?_
 refine cBx ?_
 refine z08 ?_
 refine bR ?_
 refine sS rfl rfl rfl (z69 rfl rfl rfl) ?_
 obtain ⟨x1, hx1, h⟩ := obind h
 refine sS rfl rfl rfl (Op1.cast (y := (BO x1.1)) (H'' := [.box 4 [(BO x1.2.1)], .box 3 [(I64 x1.2.2.1)], .dead, .dead, .box 56 [(PV.fn (.func 21) [] [(PV.pt 20 (ofV a2c0) 0), (PV.rf 0 0), (PV.rf 1 0)])], .box 4 [(BO false)], .box 33 [(I64 0)], .box 3 [(I64 x1.2.2.2)]]) (z1b [4, 0, 1, 7] (.func rfl) Z02 rfl (wkr .nil) rfl (.cons rfl (.box (.cons (.fn (.cons (.same (z13 (ids_V _))) (.cons (.rf rfl) (.cons (.rf rfl) .nil)))) .nil)) (.cons rfl (.box (.cons (.same rfl) .nil)) (.cons rfl (.box (.cons (.same rfl) .nil)) (.cons rfl (.box (.cons (.same rfl) .nil)) .nil)))) (.cons (.fn (.cons (.rf rfl) (.cons (.same (z13 (z03 z02 a0))) (.cons (.same (z13 (ids_V a1))) (.cons (.rf rfl) .nil))))) .nil) (Z5o a2c0 a2c1 a2c2 a0 a1 0 x1 hx1) (.same rfl) (.cons (.box (.cons (.fn (.cons (.same (z13 (ids_V _))) (.cons (.rf rfl) (.cons (.rf rfl) .nil)))) .nil)) (.cons (.box (.cons (.same rfl) .nil)) (.cons (.box (.cons (.same rfl) .nil)) (.cons (.box (.cons (.same rfl) .nil)) .nil)))) rfl) rfl rfl) (z0a ?_)
 refine cBx ?_
 refine cX h rfl ?_ ?_
 intro hc2 h
 refine bR ?_
 refine z0j rfl rfl (z0e z3a rfl rfl rfl rfl rfl rfl (lbE rfl) rfl) ?_
 refine z0j rfl rfl (z0e z3x rfl rfl rfl rfl rfl rfl (lbE rfl) rfl) ?_
 refine z0a ?_
 refine cBx ?_
 obtain rfl := eI h; exact z05 ⟨_, rfl, endR (y := (PV.tup [(BO false), (I64 9)])) 2 (Wk.refl _) rfl rfl (.tup (.cons (.same rfl) (.cons (.same rfl) .nil))) (.cons (.box (.cons (.same rfl) .nil)) (.cons (.box (.cons (.same rfl) .nil)) .nil)) ⟨rfl, rfl⟩⟩
 intro hc2 h
 refine z07 ?_
 refine cBx ?_
 refine z08 ?_
 refine bR ?_
 refine eX ?_
 refine z0h ?_
 refine cBx ?_
 refine bR ?_
 refine sX ?_
 refine eX ?_
 refine cX h rfl ?_ ?_
 intro hc3 h
 refine z07 ?_
 refine cBx ?_
 refine bR ?_
 refine z0j rfl rfl (z0e z3a rfl rfl rfl rfl rfl rfl (lbE rfl) rfl) ?_
 refine z0a ?_
 refine cBx ?_
 refine bR ?_
 refine sS rfl rfl rfl (z1y (y := (ofV a1)) Tryz.underlying20 rfl rfl rfl (by rw [z0t]; rfl)) ?_
 refine sS rfl rfl rfl (z69 rfl rfl rfl) ?_
 obtain ⟨x4, hx4, h⟩ := obind h
 refine sS rfl rfl rfl (Op1.cast (y := (PV.tup [])) (H'' := [.box 4 [(BO x4.1)], .box 3 [(I64 x4.2.1)], .dead, .dead, .box 56 [(PV.fn (.func 21) [] [(PV.pt 20 (ofV a2c0) 0), (PV.rf 0 0), (PV.rf 1 0)])], .box 4 [(BO x4.2.2.1)], .box 33 [(I64 x4.2.2.2)], .box 3 [(I64 x1.2.2.2)]]) (z1b [4, 0, 1, 5, 6] (.func rfl) Z01 rfl (wkr (wkr .nil)) rfl (.cons rfl (.box (.cons (.fn (.cons (.same (z13 (ids_V _))) (.cons (.rf rfl) (.cons (.rf rfl) .nil)))) .nil)) (.cons rfl (.box (.cons (.same rfl) .nil)) (.cons rfl (.box (.cons (.same rfl) .nil)) (.cons rfl (.box (.cons (.same rfl) .nil)) (.cons rfl (.box (.cons (.same rfl) .nil)) .nil))))) (.cons (.same (ids_V a1)) (.cons (.fn (.cons (.same (z13 (z03 z02 a0))) (.cons (.rf rfl) (.cons (.rf rfl) (.cons (.rf rfl) .nil))))) .nil)) (c_q0e a1 a0 a2c0 x1.2.1 x1.2.2.1 true 0 x4 hx4) (.same z04) (.cons (.box (.cons (.fn (.cons (.same (z13 (ids_V _))) (.cons (.rf rfl) (.cons (.rf rfl) .nil)))) .nil)) (.cons (.box (.cons (.same rfl) .nil)) (.cons (.box (.cons (.same rfl) .nil)) (.cons (.box (.cons (.same rfl) .nil)) (.cons (.box (.cons (.same rfl) .nil)) .nil))))) rfl) rfl rfl) (z0a ?_)
 refine cBx ?_
 refine z08 (z1l 3 [0, 2] [6] mo (by kernel_rfl) ?_)
 refine z41 rfl rfl rfl rfl ((zk8 Tryz.underlying4 rfl rfl rfl rfl rfl)) ⟨rfl, trivial⟩ ?_
 refine gX ?_
 refine zds rfl rfl rfl (z0e z3a rfl rfl rfl rfl rfl rfl (lbE rfl) rfl) ⟨rfl, trivial⟩ ?_
 refine z1u ?_
 change AO _ _ _ _ _
 refine z0j rfl rfl (z0e z3x rfl rfl rfl rfl rfl rfl (lbE rfl) rfl) ?_
 refine z0a ?_
 refine cBx ?_
 obtain rfl := eI h; exact z05 ⟨_, rfl, endR (y := (PV.tup [(BO x4.2.2.1), (I64 x4.2.2.2)])) 2 (Wk.refl _) rfl rfl (.tup (.cons (.same rfl) (.cons (.same rfl) .nil))) (.cons (.box (.cons (.same rfl) .nil)) (.cons (.box (.cons (.same rfl) .nil)) .nil)) ⟨rfl, rfl⟩⟩
 intro hc3 h
 refine bR ?_
 refine sX ?_
 refine eX ?_
 refine cX h rfl ?_ ?_
 intro hc5 h
 refine bR ?_
 refine z0j rfl rfl (z0e z3a rfl rfl rfl rfl rfl rfl (lbE rfl) rfl) ?_
 refine z0j rfl rfl (z0e z3x rfl rfl rfl rfl rfl rfl (lbE rfl) rfl) ?_
 refine z0a ?_
 refine cBx ?_
 obtain rfl := eI h; exact z05 ⟨_, rfl, endR (y := (PV.tup [(BO true), (I64 0)])) 2 (Wk.refl _) rfl rfl (.tup (.cons (.same rfl) (.cons (.same rfl) .nil))) (.cons (.box (.cons (.same rfl) .nil)) (.cons (.box (.cons (.same rfl) .nil)) .nil)) ⟨rfl, rfl⟩⟩
 intro hc5 h
 refine bR ?_
 refine sX ?_
 refine eX ?_
 refine cX h rfl ?_ ?_
 intro hc6 h
 refine bR ?_
 refine z0j rfl rfl (z0e z3a rfl rfl rfl rfl rfl rfl (lbE rfl) rfl) ?_
 refine z0j rfl rfl (z0e z3x rfl rfl rfl rfl rfl rfl (lbE rfl) rfl) ?_
 refine z0a ?_
 refine cBx ?_
 obtain rfl := eI h; exact z05 ⟨_, rfl, endR (y := (PV.tup [(BO false), (I64 0)])) 2 (Wk.refl _) rfl rfl (.tup (.cons (.same rfl) (.cons (.same rfl) .nil))) (.cons (.box (.cons (.same rfl) .nil)) (.cons (.box (.cons (.same rfl) .nil)) .nil)) ⟨rfl, rfl⟩⟩
 intro hc6 h
 refine bR ?_
 refine z0j rfl rfl (z0e z3a rfl rfl rfl rfl rfl rfl (lbE rfl) rfl) ?_
 refine z0j rfl rfl (z0e z3x rfl rfl rfl rfl rfl rfl (lbE rfl) rfl) ?_
 refine z0a ?_
 refine cBx ?_
 obtain rfl := eI h; exact z05 ⟨_, rfl, endR (y := (PV.tup [(BO false), (I64 43)])) 2 (Wk.refl _) rfl rfl (.tup (.cons (.same rfl) (.cons (.same rfl) .nil))) (.cons (.box (.cons (.same rfl) .nil)) (.cons (.box (.cons (.same rfl) .nil)) .nil)) ⟨rfl, rfl⟩⟩
theorem C_q17.sound : ∀ (i : C_q17) (r : i.R), z2w C_q17.F i = some r → C_q17.Q i r := by
 refine z3z (Φ := C_q17.F) (Q := C_q17.Q) ?_
 intro g hg i r h
 cases i with
 | k_q17 a0 a1 a2 a3c0 a3c1 a3c2 a4 a5 => exact zbp (fun a0 a1 a2 a3c0 a3c1 a3c2 a4 a5 => g (.k_q17 a0 a1 a2 a3c0 a3c1 a3c2 a4 a5)) (fun a0 a1 a2 a3c0 a3c1 a3c2 a4 a5 r hr => hg (.k_q17 a0 a1 a2 a3c0 a3c1 a3c2 a4 a5) r hr) (fun a0 a1c0 a1c1c0 a1c1c1 a1c1c2 a1c2 a1c3 => g (.k_q0e a0 a1c0 a1c1c0 a1c1c1 a1c1c2 a1c2 a1c3)) (fun a0 a1c0 a1c1c0 a1c1c1 a1c1c2 a1c2 a1c3 r hr => hg (.k_q0e a0 a1c0 a1c1c0 a1c1c1 a1c1c2 a1c2 a1c3) r hr) (fun a0 a1 a2c0 a2c1 a2c2 => g (.k_q09 a0 a1 a2c0 a2c1 a2c2)) (fun a0 a1 a2c0 a2c1 a2c2 r hr => hg (.k_q09 a0 a1 a2c0 a2c1 a2c2) r hr) a0 a1 a2 a3c0 a3c1 a3c2 a4 a5 r h
 | k_q0e a0 a1c0 a1c1c0 a1c1c1 a1c1c2 a1c2 a1c3 => exact z4u (fun a0 a1 a2 a3c0 a3c1 a3c2 a4 a5 => g (.k_q17 a0 a1 a2 a3c0 a3c1 a3c2 a4 a5)) (fun a0 a1 a2 a3c0 a3c1 a3c2 a4 a5 r hr => hg (.k_q17 a0 a1 a2 a3c0 a3c1 a3c2 a4 a5) r hr) (fun a0 a1c0 a1c1c0 a1c1c1 a1c1c2 a1c2 a1c3 => g (.k_q0e a0 a1c0 a1c1c0 a1c1c1 a1c1c2 a1c2 a1c3)) (fun a0 a1c0 a1c1c0 a1c1c1 a1c1c2 a1c2 a1c3 r hr => hg (.k_q0e a0 a1c0 a1c1c0 a1c1c1 a1c1c2 a1c2 a1c3) r hr) (fun a0 a1 a2c0 a2c1 a2c2 => g (.k_q09 a0 a1 a2c0 a2c1 a2c2)) (fun a0 a1 a2c0 a2c1 a2c2 r hr => hg (.k_q09 a0 a1 a2c0 a2c1 a2c2) r hr) a0 a1c0 a1c1c0 a1c1c1 a1c1c2 a1c2 a1c3 r h
 | k_q09 a0 a1 a2c0 a2c1 a2c2 => exact z4t (fun a0 a1 a2 a3c0 a3c1 a3c2 a4 a5 => g (.k_q17 a0 a1 a2 a3c0 a3c1 a3c2 a4 a5)) (fun a0 a1 a2 a3c0 a3c1 a3c2 a4 a5 r hr => hg (.k_q17 a0 a1 a2 a3c0 a3c1 a3c2 a4 a5) r hr) (fun a0 a1c0 a1c1c0 a1c1c1 a1c1c2 a1c2 a1c3 => g (.k_q0e a0 a1c0 a1c1c0 a1c1c1 a1c1c2 a1c2 a1c3)) (fun a0 a1c0 a1c1c0 a1c1c1 a1c1c2 a1c2 a1c3 r hr => hg (.k_q0e a0 a1c0 a1c1c0 a1c1c1 a1c1c2 a1c2 a1c3) r hr) (fun a0 a1 a2c0 a2c1 a2c2 => g (.k_q09 a0 a1 a2c0 a2c1 a2c2)) (fun a0 a1 a2c0 a2c1 a2c2 r hr => hg (.k_q09 a0 a1 a2c0 a2c1 a2c2) r hr) a0 a1 a2c0 a2c1 a2c2 r h
theorem Z5n (a0 : (List S_api_Step)) (a1 a2c0 : V) (a2c1 : Bool) (a2c2 : Int) (r : (Bool × Int × Bool × Int)) (h : zk2 a0 a1 a2c0 a2c1 a2c2 = some r) : z18 Tryz.prog 49 [(PV.sl none 83 3 (List.map z00 a0)), (ofV a1), (PV.fn (.func 21) [] [(PV.pt 20 (ofV a2c0) 0), (PV.rf 0 0), (PV.rf 1 0)])] [.box 4 [(BO a2c1)], .box 3 [(I64 a2c2)]] (PV.tup [(BO r.1), (I64 r.2.1)]) [.box 4 [(BO r.2.2.1)], .box 3 [(I64 r.2.2.2)]] := C_q17.sound (.k_q09 a0 a1 a2c0 a2c1 a2c2) r h
noncomputable def zi6 (a0 a1c0 : V) (a1c1 : Bool) (a1c2 : Int) : Option (Int × Bool × Int) :=
 (zd3 a0).bind fun x1 =>
 bif (x1.2 != 0) then (
 some (x1.2, a1c1, a1c2)
 ) else (
 (zk2 ([]) a0 a1c0 a1c1 a1c2).bind fun x3 =>
 some (x3.2.1, x3.2.2.1, x3.2.2.2)
 )
theorem Z5k (a0 a1c0 : V) (a1c1 : Bool) (a1c2 : Int) (r : (Int × Bool × Int)) (h : zi6 a0 a1c0 a1c1 a1c2 = some r) : z18 Tryz.prog 20 [(ofV a0), (PV.fn (.func 21) [] [(PV.pt 20 (ofV a1c0) 0), (PV.rf 0 0), (PV.rf 1 0)])] [.box 4 [(BO a1c1)], .box 3 [(I64 a1c2)]] (I64 r.1) [.box 4 [(BO r.2.1)], .box 3 [(I64 r.2.2)]] := by
 unfold zi6 at h
 refine z0d Tryz.func20 rfl Tryz.ntmps20 Tryz.results20 rfl (z0g ?_)
 change BW _ _ _ ⟨[(0, (ofV a0)), (1, (PV.fn (.func 21) [] [(PV.pt 20 (ofV a1c0) 0), (PV.rf 0 0), (PV.rf 1 0)]))], [.box 4 [(BO a1c1)], .box 3 [(I64 a1c2)]], _⟩ _
 refine bR ?_
 refine eX ?_
 refine z08 ?_
 refine bR ?_
 refine sX ?_
 obtain ⟨x1, hx1, h⟩ := obind h
 refine sS rfl rfl rfl (z06 rfl zki rfl (wkr .nil) ⟨(ids_V a0), trivial⟩ (zji a0 x1 hx1) (z01 rfl (z01 rfl z04))) ?_
 iterate 4 refine sX ?_
 refine eX ?_
 refine bR ?_
 refine sX ?_
 refine eX ?_
 refine cX h rfl ?_ ?_
 intro hc2 h
 refine bR ?_
 refine sX ?_
 refine eX ?_
 obtain rfl := eI h; exact z05 ⟨_, rfl, endR (y := (I64 x1.2)) 2 (Wk.refl _) rfl rfl (.same rfl) (.cons (.box (.cons (.same rfl) .nil)) (.cons (.box (.cons (.same rfl) .nil)) .nil)) ⟨rfl, rfl⟩⟩
 intro hc2 h
 refine z07 ?_
 refine cBx ?_
 refine z08 ?_
 refine bR ?_
 refine sX ?_
 refine sS rfl rfl rfl (zfz Tryz.underlying56 ⟨_, _, _, rfl⟩ rfl rfl rfl (.inl ⟨rfl, rfl⟩)) (z0a ?_)
 refine cBx ?_
 refine z7c rfl ?_
 refine z07 ?_
 refine cBx ?_
 refine bR ?_
 iterate 2 refine sX ?_
 obtain ⟨x3, hx3, h⟩ := obind h
 refine sS rfl rfl rfl (Op1.cast (y := (PV.tup [(BO x3.1), (I64 x3.2.1)])) (H'' := [.box 4 [(BO x3.2.2.1)], .box 3 [(I64 x3.2.2.2)]]) (z1b [0, 1] (.func rfl) zvl rfl (.cons Wk.nil (wkr (wkr .nil))) rfl (.cons rfl (.box (.cons (.same rfl) .nil)) (.cons rfl (.box (.cons (.same rfl) .nil)) .nil)) (.cons (.same (z03 z02 ([]))) (.cons (.same (ids_V a0)) (.cons (.fn (.cons (.same (z13 (ids_V a1c0))) (.cons (.rf rfl) (.cons (.rf rfl) .nil)))) .nil))) (Z5n ([]) a0 a1c0 a1c1 a1c2 x3 hx3) (.same (z01 rfl (z01 rfl z04))) (.cons (.box (.cons (.same rfl) .nil)) (.cons (.box (.cons (.same rfl) .nil)) .nil)) rfl) rfl rfl) ?_
 iterate 4 refine sX ?_
 refine eX ?_
 refine bR ?_
 refine sX ?_
 refine eX ?_
 obtain rfl := eI h; exact z05 ⟨_, rfl, endR (y := (I64 x3.2.1)) 2 (Wk.refl _) rfl rfl (.same rfl) (.cons (.box (.cons (.same rfl) .nil)) (.cons (.box (.cons (.same rfl) .nil)) .nil)) ⟨rfl, rfl⟩⟩
noncomputable def zjq (a0 : V) : Option (Int × Int × Int) :=
 (zfr (S_value_count.mk 0 0 0) a0 1).bind fun x1 =>
 bif (!x1.1) then (
 some (0, 0, (x1.2).f_why)
 ) else (
 some ((x1.2).f_n, (x1.2).f_deep, 0)
 )
theorem Z4s (a0 : V) (r : (Int × Int × Int)) (h : zjq a0 = some r) : z0m Tryz.prog 22 [(ofV a0)] (PV.tup [(I64 r.1), (I64 r.2.1), (I64 r.2.2)]) := by
 unfold zjq at h
 refine z0d Tryz.func22 rfl Tryz.ntmps22 Tryz.results22 rfl (z0g ?_)
 change BW _ _ _ ⟨[(0, (ofV a0))], [], _⟩ _
 refine bR ?_
 iterate 2 refine sX ?_
 refine eX ?_
 refine bR ?_
 refine sS rfl rfl rfl (z14 zs1 rfl) (z0a ?_)
 refine cBx ?_
 refine z08 ?_
 refine bR ?_
 refine sX ?_
 obtain ⟨x1, hx1, h⟩ := obind h
 refine sS rfl rfl rfl (z6a 0 rfl zvk rfl (wkr (wkr (wkr .nil))) (.box (.val (ids_V a0) (.val rfl .nil))) rfl (z0o rfl (z0o rfl (z0o rfl rfl))) (Z1z (S_value_count.mk 0 0 0) a0 1 x1 hx1) rfl (z0o rfl (z0o rfl (z0o rfl rfl)))) ?_
 refine eX ?_
 refine cX h rfl ?_ ?_
 intro hc2 h
 refine z08 (z1l 4 [] [0] mo (by kernel_rfl) ?_)
 iterate 4 refine gX ?_
 refine z1u ?_
 change AO _ _ _ _ _
 refine eX ?_
 obtain rfl := eI h; exact z05 eK
 intro hc2 h
 refine z07 ?_
 refine cBx ?_
 refine z08 (z1l 5 [] [0] mo (by kernel_rfl) ?_)
 iterate 5 refine gX ?_
 refine z1u ?_
 change AO _ _ _ _ _
 refine sX ?_
 refine eX ?_
 obtain rfl := eI h; exact z05 eK
noncomputable def zqt (a0 : Str) : Option Str :=
 (z8k 1 ([] : Str) a0).bind fun x2 =>
 some x2
theorem Z5e (a0 r : Str) (h : zqt a0 = some r) : z0m Tryz.prog 109 [(PV.sl none 5 1 (List.map ofB a0))] (PV.sl none 5 1 (List.map ofB r)) := by
 unfold zqt at h
 refine z0d Tryz.func109 rfl Tryz.ntmps109 Tryz.results109 rfl (z0g ?_)
 change BW _ _ _ ⟨[(0, (PV.sl none 5 1 (List.map ofB a0)))], [], _⟩ _
 refine bR ?_
 refine eX ?_
 refine z08 ?_
 refine bR ?_
 refine sX ?_
 refine zaa rfl rfl rfl Tryz.underlying23 rfl rfl ?_
 intro nb1 hnb1
 refine z0a ?_
 refine cBx ?_
 cases nb1
 refine z7c rfl ?_
 refine z07 ?_
 refine cBx ?_
 refine bR ?_
 refine sS rfl rfl rfl ((z1e (xs := []) Tryz.underlying23 inf_5 rfl rfl rfl rfl rfl rfl ⟨lbE rfl, lbE rfl⟩ rfl).cast (y := (PV.sl (some 0) 5 1 (List.map ofB ([] : Str)))) rfl rfl) ?_
 refine sX ?_
 obtain ⟨x2, hx2, h⟩ := obind h
 refine sS rfl rfl rfl (z2l Tryz.underlying23 inf_5 rfl Tryz.underlying23 rfl rfl rfl rfl (fun _ => rfl) (fun _ => rfl) hx2 rfl) ?_
 refine eX ?_
 obtain rfl := eI h; exact z05 ⟨_, rfl, z0p (y := (PV.sl none 5 1 (List.map ofB x2))) Wk.tok (z03 (fun _ => rfl) x2) ⟨rfl, rfl⟩⟩
 have hz := List.map_eq_nil_iff.1 (hnb1 rfl)
 rw [hz] at h
 replace h : some [] = some r := h
 refine zc2 rfl ?_
 refine bR ?_
 refine eX ?_
 obtain rfl := eI h; exact z05 ⟨_, rfl, z0p (y := (PV.sl none 5 1 (List.map ofB []))) Wk.nil (z03 (fun _ => rfl) ([])) ⟨rfl, rfl⟩⟩
noncomputable def z5o (r_q1y : V → Option V) (a0 : (List (Str × V))) (g1 : (List (Str × V)) → Nat → Option (List (Str × V))) (s1 : (List (Str × V))) (s2 : Nat) : Option (List (Str × V)) :=
 bif (decide (((s2 : Nat) : Int) < (((a0).length : Nat) : Int))) then (
 ((a0)[s2]?).bind fun x5 =>
 (r_q1y x5.2).bind fun x6 =>
 (z8k 32 s1 ([(x5.1, x6)] : (List (Str × V)))).bind fun x7 =>
 g1 x7 (s2 + 1)
 ) else (
 some s1
 )
theorem zaq (r_q1y : OF ρ → V → Option V) (h_r_q1y : ∀ y0, CM (fun G => r_q1y G y0)) (g1 : OF ρ → (List (Str × V)) → Nat → Option (List (Str × V))) (h_g1 : ∀ y0 y1, CM (fun G => g1 G y0 y1)) (a0 s1 : (List (Str × V))) (s2 : Nat) : CM (fun G : OF ρ => z5o (r_q1y G) a0 (g1 G) s1 s2) := by
 simp only [z5o]
 repeat (first | exact z0c | exact h_r_q1y _ | exact h_g1 _ _ | refine z11 ?_ ?_ | refine z12 ?_ (fun _ => ?_))
noncomputable def zef (r_q1y : V → Option V) (a0 s1 : (List (Str × V))) (s2 : Nat) : Option (List (Str × V)) :=
 z2w (ι := ((List (Str × V)) × Nat)) (ρ := fun _ => (List (Str × V))) (fun g i => z5o r_q1y a0 (fun s1 s2 => g (s1, s2)) i.1 i.2) (s1, s2)
theorem zhk (r_q1y : V → Option V) (a0 s1 : (List (Str × V))) (s2 : Nat) : zef r_q1y a0 s1 s2 = z5o r_q1y a0 (zef r_q1y a0) s1 s2 :=
 z19 (ι := ((List (Str × V)) × Nat)) (ρ := fun _ => (List (Str × V))) (Φ := fun g i => z5o r_q1y a0 (fun s1 s2 => g (s1, s2)) i.1 i.2) (fun i => zaq (ι := ((List (Str × V)) × Nat)) (ρ := fun _ => (List (Str × V))) (fun _ => r_q1y) (fun _ => z0c) (fun g => (fun s1 s2 => g (s1, s2))) (fun _ _ => z17) a0 i.1 i.2) (s1, s2)
theorem zpr (r_q1y : OF ρ → V → Option V) (h_r_q1y : ∀ y0, CM (fun G => r_q1y G y0)) (a0 s1 : (List (Str × V))) (s2 : Nat) : CM (fun G : OF ρ => zef (r_q1y G) a0 s1 s2) :=
 z40 (κ := ((List (Str × V)) × Nat)) (τ := fun _ => (List (Str × V))) (Φ := fun G g i => z5o (r_q1y G) a0 (fun s1 s2 => g (s1, s2)) i.1 i.2) (fun g i => zaq r_q1y h_r_q1y (fun _ => (fun s1 s2 => g (s1, s2))) (fun _ _ => z0c) a0 i.1 i.2) (fun G i => zaq (ι := ((List (Str × V)) × Nat)) (ρ := fun _ => (List (Str × V))) (fun _ => r_q1y G) (fun _ => z0c) (fun g => (fun s1 s2 => g (s1, s2))) (fun _ _ => z17) a0 i.1 i.2) (s1, s2)
noncomputable def zky (r_q0u : (List (Str × V)) → Option (List (Str × V))) (r_q1y : V → Option V) (a0 : (List (Str × V))) : Option (List (Str × V)) :=
 zef r_q1y a0 ([] : (List (Str × V))) 0
theorem zwe (r_q0u : OF ρ → (List (Str × V)) → Option (List (Str × V))) (h_r_q0u : ∀ y0, CM (fun G => r_q0u G y0)) (r_q1y : OF ρ → V → Option V) (h_r_q1y : ∀ y0, CM (fun G => r_q1y G y0)) (a0 : (List (Str × V))) : CM (fun G : OF ρ => zky (r_q0u G) (r_q1y G) a0) := by
 simp only [zky]
 repeat (first | exact z0c | exact h_r_q0u _ | exact h_r_q1y _ | apply zpr | refine z11 ?_ ?_ | refine z12 ?_ (fun _ => ?_) | intro _ | assumption)
noncomputable def z5j (r_q1y : V → Option V) (a0 : V) (g1 : (List V) → Nat → Option V) (s4 : (List V)) (s5 : Nat) : Option V :=
 bif (decide (((s5 : Nat) : Int) < ((((a0).asList).length : Nat) : Int))) then (
 (((a0).asList)[s5]?).bind fun x8 =>
 (r_q1y x8).bind fun x9 =>
 (z8k 16 s4 ([x9] : (List V))).bind fun x10 =>
 g1 x10 (s5 + 1)
 ) else (
 some (V.list s4)
 )
theorem zam (r_q1y : OF ρ → V → Option V) (h_r_q1y : ∀ y0, CM (fun G => r_q1y G y0)) (g1 : OF ρ → (List V) → Nat → Option V) (h_g1 : ∀ y0 y1, CM (fun G => g1 G y0 y1)) (a0 : V) (s4 : (List V)) (s5 : Nat) : CM (fun G : OF ρ => z5j (r_q1y G) a0 (g1 G) s4 s5) := by
 simp only [z5j]
 repeat (first | exact z0c | exact h_r_q1y _ | exact h_g1 _ _ | refine z11 ?_ ?_ | refine z12 ?_ (fun _ => ?_))
noncomputable def zea (r_q1y : V → Option V) (a0 : V) (s4 : (List V)) (s5 : Nat) : Option V :=
 z2w (ι := ((List V) × Nat)) (ρ := fun _ => V) (fun g i => z5j r_q1y a0 (fun s4 s5 => g (s4, s5)) i.1 i.2) (s4, s5)
theorem zh8 (r_q1y : V → Option V) (a0 : V) (s4 : (List V)) (s5 : Nat) : zea r_q1y a0 s4 s5 = z5j r_q1y a0 (zea r_q1y a0) s4 s5 :=
 z19 (ι := ((List V) × Nat)) (ρ := fun _ => V) (Φ := fun g i => z5j r_q1y a0 (fun s4 s5 => g (s4, s5)) i.1 i.2) (fun i => zam (ι := ((List V) × Nat)) (ρ := fun _ => V) (fun _ => r_q1y) (fun _ => z0c) (fun g => (fun s4 s5 => g (s4, s5))) (fun _ _ => z17) a0 i.1 i.2) (s4, s5)
theorem zpk (r_q1y : OF ρ → V → Option V) (h_r_q1y : ∀ y0, CM (fun G => r_q1y G y0)) (a0 : V) (s4 : (List V)) (s5 : Nat) : CM (fun G : OF ρ => zea (r_q1y G) a0 s4 s5) :=
 z40 (κ := ((List V) × Nat)) (τ := fun _ => V) (Φ := fun G g i => z5j (r_q1y G) a0 (fun s4 s5 => g (s4, s5)) i.1 i.2) (fun g i => zam r_q1y h_r_q1y (fun _ => (fun s4 s5 => g (s4, s5))) (fun _ _ => z0c) a0 i.1 i.2) (fun G i => zam (ι := ((List V) × Nat)) (ρ := fun _ => V) (fun _ => r_q1y G) (fun _ => z0c) (fun g => (fun s4 s5 => g (s4, s5))) (fun _ _ => z17) a0 i.1 i.2) (s4, s5)
noncomputable def zkp (r_q0u : (List (Str × V)) → Option (List (Str × V))) (r_q1y : V → Option V) (a0 : V) : Option V :=
 bif (a0).isBytes then (
 (zqt ((a0).asBytes)).bind fun x2 =>
 some (V.bytes x2)
 ) else (
 bif (a0).isList then (
 zea r_q1y a0 ([] : (List V)) 0
 ) else (
 bif (a0).isDict then (
 (r_q0u ((a0).asDict)).bind fun x12 =>
 some (V.dict x12)
 ) else (
 bif (a0).isRec then (
 ((a0).asRec).bind fun x14 =>
 (r_q0u x14.fields).bind fun x15 =>
 some (V.record x14.cls x14.ver x15)
 ) else (
 some a0
 )
 )
 )
 )
theorem zw5 (r_q0u : OF ρ → (List (Str × V)) → Option (List (Str × V))) (h_r_q0u : ∀ y0, CM (fun G => r_q0u G y0)) (r_q1y : OF ρ → V → Option V) (h_r_q1y : ∀ y0, CM (fun G => r_q1y G y0)) (a0 : V) : CM (fun G : OF ρ => zkp (r_q0u G) (r_q1y G) a0) := by
 simp only [zkp]
 repeat (first | exact z0c | exact h_r_q0u _ | exact h_r_q1y _ | apply zpk | refine z11 ?_ ?_ | refine z12 ?_ (fun _ => ?_) | intro _ | assumption)
inductive C_q0u where
 | k_q0u (a0 : (List (Str × V)))
 | k_q1y (a0 : V)
def C_q0u.R : C_q0u → Type
 | .k_q0u _ => (List (Str × V))
 | .k_q1y _ => V
noncomputable def C_q0u.F (g : ∀ i : C_q0u, Option i.R) : ∀ i : C_q0u, Option i.R
 | .k_q0u a0 => zky (fun a0 => g (.k_q0u a0)) (fun a0 => g (.k_q1y a0)) a0
 | .k_q1y a0 => zkp (fun a0 => g (.k_q0u a0)) (fun a0 => g (.k_q1y a0)) a0
noncomputable def zo3 (a0 : (List (Str × V))) : Option (List (Str × V)) := z2w C_q0u.F (.k_q0u a0)
noncomputable def zd2 (a0 : V) : Option V := z2w C_q0u.F (.k_q1y a0)
abbrev Z90 := fun (g : ∀ i : C_q0u, Option i.R) a0 => g (.k_q0u a0)
theorem Z8w (a0 : _) : CM (ρ := C_q0u.R) (fun g => g (C_q0u.k_q0u a0)) := z17
abbrev Z8z := fun (g : ∀ i : C_q0u, Option i.R) a0 => g (.k_q1y a0)
theorem Z8v (a0 : _) : CM (ρ := C_q0u.R) (fun g => g (C_q0u.k_q1y a0)) := z17
theorem C_q0u.cm (i : C_q0u) : CM (fun g : (∀ i : C_q0u, Option i.R) => C_q0u.F g i) := by
 cases i with
 | k_q0u a0 => exact zwe Z90 Z8w Z8z Z8v a0
 | k_q1y a0 => exact zw5 Z90 Z8w Z8z Z8v a0
theorem Z81 (a0 : (List (Str × V))) : zo3 a0 = zky zo3 zd2 a0 := z19 C_q0u.cm (.k_q0u a0)
theorem Z7s (a0 : V) : zd2 a0 = zkp zo3 zd2 a0 := z19 C_q0u.cm (.k_q1y a0)
def C_q0u.Q : ∀ i : C_q0u, i.R → Prop
 | .k_q0u a0 => fun (r : (List (Str × V))) => z0m Tryz.prog 110 [(PV.sl none 69 2 (List.map ofFld a0))] (PV.sl none 69 2 (List.map ofFld r))
 | .k_q1y a0 => fun (r : V) => z0m Tryz.prog 90 [(ofV a0)] (ofV r)
theorem z97 (r_q0u : (List (Str × V)) → Option (List (Str × V))) (c_q0u : ∀ (a0 : (List (Str × V))) r, r_q0u a0 = some r → z0m Tryz.prog 110 [(PV.sl none 69 2 (List.map ofFld a0))] (PV.sl none 69 2 (List.map ofFld r))) (r_q1y : V → Option V) (c_q1y : ∀ (a0 : V) r, r_q1y a0 = some r → z0m Tryz.prog 90 [(ofV a0)] (ofV r)) (a0 r : (List (Str × V))) (h : zky r_q0u r_q1y a0 = some r) : z0m Tryz.prog 110 [(PV.sl none 69 2 (List.map ofFld a0))] (PV.sl none 69 2 (List.map ofFld r)) := by
 unfold zky at h
 refine z0d Tryz.func110 rfl Tryz.ntmps110 Tryz.results110 rfl (z0g ?_)
 change BW _ _ _ ⟨[(0, (PV.sl none 69 2 (List.map ofFld a0)))], [], _⟩ _
 refine bR ?_
 refine eX ?_
 refine bR ?_
 refine sS rfl rfl rfl ((z1e (xs := []) Tryz.underlying71 z0z rfl rfl rfl rfl rfl rfl ⟨lbE rfl, lbE rfl⟩ rfl).cast (y := (PV.sl (some 0) 69 2 (List.map ofFld ([] : (List (Str × V)))))) rfl rfl) ?_
 refine eX ?_
 refine z08 ?_
 refine bR ?_
 iterate 2 refine sX ?_
 refine eX ?_
 refine z0h ?_
 refine cBx ?_
 unfold zef at h
 refine z2u (σ := ((List (Str × V)) × Nat)) (fun i => [(3, (PV.sl (some 0) 69 2 (List.map ofFld i.1))), (7, (PV.sl none 69 2 (List.map ofFld a0))), (8, (I64 ((((a0).length : Nat) : Int)))), (9, (I64 (((i.2 : Nat) : Int))))]) (fun i => [.arr 69 (i.1).length]) (([] : (List (Str × V))), 0) h ?_ ?_ ?_
 intro i; exact ⟨lbE rfl, ⟨(z3r rfl (z0u z0r _)), ⟨(z09 (z03 z0r _)), ⟨(z09 rfl), ⟨(z09 rfl), trivial⟩⟩⟩⟩, trivial⟩
 exact jN
 rintro g1_f ⟨s1, s2⟩ h; replace h : z5o r_q1y a0 (fun y0 y1 => g1_f (y0, y1)) s1 s2 = some r := h; unfold z5o at h
 change BW _ _ _ ⟨[(3, (PV.sl (some 0) 69 2 (List.map ofFld s1))), (7, (PV.sl none 69 2 (List.map ofFld a0))), (8, (I64 ((((a0).length : Nat) : Int)))), (9, (I64 (((s2 : Nat) : Int))))], [.arr 69 (s1).length], _⟩ _
 refine bR ?_
 refine eX ?_
 refine z08 ?_
 refine z3j (t := 7) rfl fun hb4 => ?_
 try rw [List.length_map] at hb4
 refine cX h rfl ?_ ?_
 intro hc3 h
 have hc3_ := of_decide_eq_true hc3
 refine z07 ?_
 refine cBx ?_
 refine z08 ?_
 refine z0h ?_
 refine cBx ?_
 refine bR ?_
 obtain ⟨x5, hx5, h⟩ := obind h
 refine sS rfl rfl rfl (z1r (i := s2) Tryz.underlying71 z0z rfl rfl rfl hx5 rfl) ?_
 refine sX ?_
 refine sS rfl rfl rfl ((z14 z0z rfl).cast (H'' := [.arr 69 (s1).length, .box 69 [(z0i []), (ofV V.nil)]]) rfl (by simp only [mk_nil]; rfl)) ?_
 refine z0j rfl rfl (z0e z0z rfl rfl rfl rfl rfl rfl (lbE rfl) (by show List.all [(z0i x5.1), (ofV x5.2)] z6n = true; simp only [List.all_cons, List.all_nil, zb5, z3v, Bool.and_true, Bool.true_and]; try rfl)) ?_
 refine z0a ?_
 refine cBx ?_
 refine z1l 8 [7] [1] mo (by kernel_rfl) ?_
 iterate 5 refine gX ?_
 obtain ⟨x6, hx6, h⟩ := obind h
 refine z1p rfl rfl rfl rfl (fun H hp => z06 rfl Z00 rfl (wkr .nil) ⟨(ids_V x5.2), trivial⟩ (c_q1y x5.2 x6 hx6) (ids_V x6)) ?_
 refine z1p rfl rfl rfl rfl (fun H hp => z1g (cs := [(z0i x5.1), (ofV x6)]) zgu z0z rfl rfl (by simp only [List.all_cons, List.all_nil, z3t, z29, Bool.and_true, Bool.true_and]; try rfl) (by simp only [z3u, List.getElem?_cons_zero, List.getElem?_cons_succ, z0t, z10]; rfl)) ?_
 refine z41 rfl rfl rfl rfl ((z1e (xs := [(PV.agg [(z0i x5.1), (ofV x6)])]) Tryz.underlying71 z0z rfl rfl rfl (by simp only [List.all_cons, List.all_nil, z3t, z29, Bool.and_true, Bool.true_and]; try rfl) (by simp only [List.all_cons, List.all_nil, csz_V, z31, z0t, z10]; try rfl) rfl ⟨lbE rfl, lbE rfl⟩ (by simp only [z8z, z3u, List.flatMap_cons, List.flatMap_nil, z0t, z10]; try rfl)).cast (y := (PV.sl (some 2) 69 2 (List.map ofFld ([(x5.1, x6)] : (List (Str × V)))))) rfl rfl) ⟨rfl, trivial⟩ ?_
 refine z1u ?_
 change AO _ _ _ _ _
 obtain ⟨x7, hx7, h⟩ := obind h
 refine sS rfl rfl rfl (z2l Tryz.underlying71 z0z rfl Tryz.underlying71 rfl rfl rfl rfl z7a z6m hx7 rfl) ?_
 refine eX ?_
 refine z0f ?_
 refine sS rfl rfl rfl (z27 (k := s2) (c := 1) rfl rfl rfl (by omega)) ?_
 refine sX (z0a ?_)
 exact ⟨rfl, (x7, (s2 + 1)), h, jN⟩
 intro hc3 h
 refine z1z ?_
 refine cBx ?_
 refine bR ?_
 refine sX ?_
 refine eX ?_
 obtain rfl := eI h; exact z05 ⟨_, rfl, z0p (y := (PV.sl none 69 2 (List.map ofFld s1))) Wk.tok (z03 z0r s1) ⟨rfl, rfl⟩⟩
theorem zgt (r_q0u : (List (Str × V)) → Option (List (Str × V))) (c_q0u : ∀ (a0 : (List (Str × V))) r, r_q0u a0 = some r → z0m Tryz.prog 110 [(PV.sl none 69 2 (List.map ofFld a0))] (PV.sl none 69 2 (List.map ofFld r))) (r_q1y : V → Option V) (c_q1y : ∀ (a0 : V) r, r_q1y a0 = some r → z0m Tryz.prog 90 [(ofV a0)] (ofV r)) (a0 r : V) (h : zkp r_q0u r_q1y a0 = some r) : z0m Tryz.prog 90 [(ofV a0)] (ofV r) := by
 unfold zkp at h
 refine z0d Tryz.func90 rfl Tryz.ntmps90 Tryz.results90 rfl (z0g ?_)
 change BW _ _ _ ⟨[(0, (ofV a0))], [], _⟩ _
 refine bR ?_
 refine eX ?_
 refine z08 ?_
 refine bR ?_
 refine eX ?_
 refine z0h ?_
 refine cBx ?_
 refine bR ?_
 refine sS rfl rfl rfl (z4z rfl rfl) ?_
 refine sX ?_
 refine eX ?_
 refine cX h rfl ?_ ?_
 intro hc1 h
 refine bR ?_
 refine eX ?_
 refine bR ?_
 refine sX ?_
 obtain ⟨x2, hx2, h⟩ := obind h
 refine sS rfl rfl rfl (z06 rfl Z3w rfl (wkr .nil) ⟨(z03 (fun _ => rfl) ((a0).asBytes)), trivial⟩ (Z5e ((a0).asBytes) x2 hx2) (z03 (fun _ => rfl) x2)) ?_
 refine sS rfl rfl rfl ((z15 Tryz.underlying23 rfl rfl rfl).wk ((Wk.iface (Wk.refl _)).trans (Wk.eq (zg3 _).symm))) ?_
 refine eX ?_
 obtain rfl := eI h; exact z05 ⟨_, rfl, z0p (y := (ofV (V.bytes x2))) (Wk.refl _) (ids_V (V.bytes x2)) ⟨rfl, rfl⟩⟩
 intro hc1 h
 refine bR ?_
 refine sS rfl rfl rfl (z1w rfl rfl) ?_
 refine sX ?_
 refine eX ?_
 refine cX h rfl ?_ ?_
 intro hc3 h
 refine bR ?_
 refine eX ?_
 refine bR ?_
 refine sS rfl rfl rfl ((z1e (xs := []) Tryz.underlying67 z1t rfl rfl rfl rfl rfl rfl ⟨lbE rfl, lbE rfl⟩ rfl).cast (y := (PV.sl (some 0) 20 1 (List.map ofV ([] : (List V))))) rfl rfl) ?_
 refine eX ?_
 refine z08 ?_
 refine bR ?_
 iterate 2 refine sX ?_
 refine eX ?_
 refine z0h ?_
 refine cBx ?_
 unfold zea at h
 refine z2u (σ := ((List V) × Nat)) (fun i => [(5, (PV.sl (some 0) 20 1 (List.map ofV i.1))), (21, (PV.sl none 20 1 (List.map ofV (a0).asList))), (22, (I64 (((((a0).asList).length : Nat) : Int)))), (23, (I64 (((i.2 : Nat) : Int))))]) (fun i => [.arr 20 (i.1).length]) (([] : (List V)), 0) h ?_ ?_ ?_
 intro i; exact ⟨lbE rfl, ⟨(z3r rfl (z0u ids_V _)), ⟨(z09 (z03 ids_V _)), ⟨(z09 rfl), ⟨(z09 rfl), trivial⟩⟩⟩⟩, trivial⟩
 exact jN
 rintro g1_f ⟨s4, s5⟩ h; replace h : z5j r_q1y a0 (fun y0 y1 => g1_f (y0, y1)) s4 s5 = some r := h; unfold z5j at h
 change BW _ _ _ ⟨[(5, (PV.sl (some 0) 20 1 (List.map ofV s4))), (21, (PV.sl none 20 1 (List.map ofV (a0).asList))), (22, (I64 (((((a0).asList).length : Nat) : Int)))), (23, (I64 (((s5 : Nat) : Int))))], [.arr 20 (s4).length], _⟩ _
 refine bR ?_
 refine eX ?_
 refine z08 ?_
 refine z3j (t := 21) rfl fun hb7 => ?_
 try rw [List.length_map] at hb7
 refine cX h rfl ?_ ?_
 intro hc6 h
 have hc6_ := of_decide_eq_true hc6
 refine z07 ?_
 refine cBx ?_
 refine z08 ?_
 refine z0h ?_
 refine cBx ?_
 refine bR ?_
 obtain ⟨x8, hx8, h⟩ := obind h
 refine sS rfl rfl rfl (z1r (i := s5) Tryz.underlying67 z1t rfl rfl rfl hx8 rfl) ?_
 refine sS rfl rfl rfl (z1y (y := (ofV x8)) Tryz.underlying20 rfl rfl rfl (by rw [z0t]; rfl)) ?_
 refine eX ?_
 refine z0f ?_
 iterate 2 refine sX ?_
 obtain ⟨x9, hx9, h⟩ := obind h
 refine sS rfl rfl rfl (z06 rfl Z00 rfl (wkr .nil) ⟨(ids_V x8), trivial⟩ (c_q1y x8 x9 hx9) (ids_V x9)) ?_
 refine sS rfl rfl rfl ((z1e (xs := [(ofV x9)]) Tryz.underlying67 z1t rfl rfl rfl (by simp only [List.all_cons, List.all_nil, z3t, z29, Bool.and_true, Bool.true_and]; try rfl) (by simp only [List.all_cons, List.all_nil, csz_V, z31, z0t, z10]; try rfl) rfl ⟨lbE rfl, lbE rfl⟩ (by simp only [z8z, z3u, List.flatMap_cons, List.flatMap_nil, z0t, z10]; try rfl)).cast (y := (PV.sl (some 1) 20 1 (List.map ofV ([x9] : (List V))))) rfl rfl) ?_
 obtain ⟨x10, hx10, h⟩ := obind h
 refine sS rfl rfl rfl (z2l Tryz.underlying67 z1t rfl Tryz.underlying67 rfl rfl rfl rfl csz_V z4i hx10 rfl) ?_
 refine eX ?_
 refine z0f ?_
 refine sS rfl rfl rfl (z27 (k := s5) (c := 1) rfl rfl rfl (by omega)) ?_
 refine sX (z0a ?_)
 exact ⟨rfl, (x10, (s5 + 1)), h, jN⟩
 intro hc6 h
 refine z1z ?_
 refine cBx ?_
 refine bR ?_
 refine sX ?_
 refine sS rfl rfl rfl ((z15 Tryz.underlying67 rfl rfl rfl).wk ((Wk.iface Wk.tok).trans (Wk.eq (z7w _).symm))) ?_
 refine eX ?_
 obtain rfl := eI h; exact z05 ⟨_, rfl, z0p (y := (ofV (V.list s4))) (Wk.refl _) (ids_V (V.list s4)) ⟨rfl, rfl⟩⟩
 intro hc3 h
 refine bR ?_
 refine sS rfl rfl rfl (z2r rfl rfl) ?_
 refine sX ?_
 refine eX ?_
 refine cX h rfl ?_ ?_
 intro hc11 h
 refine bR ?_
 refine eX ?_
 refine bR ?_
 refine sX ?_
 obtain ⟨x12, hx12, h⟩ := obind h
 refine sS rfl rfl rfl (z06 rfl zxp rfl (wkr .nil) ⟨(z03 z0r ((a0).asDict)), trivial⟩ (c_q0u ((a0).asDict) x12 hx12) (z03 z0r x12)) ?_
 refine sS rfl rfl rfl ((z15 Tryz.underlying71 rfl rfl rfl).wk ((Wk.iface (Wk.refl _)).trans (Wk.eq (z50 _).symm))) ?_
 refine eX ?_
 obtain rfl := eI h; exact z05 ⟨_, rfl, z0p (y := (ofV (V.dict x12))) (Wk.refl _) (ids_V (V.dict x12)) ⟨rfl, rfl⟩⟩
 intro hc11 h
 refine bR ?_
 refine sS rfl rfl rfl (z35 rfl rfl) ?_
 refine sX ?_
 refine eX ?_
 refine cX h rfl ?_ ?_
 intro hc13 h
 refine bR ?_
 refine eX ?_
 refine z08 (z1l 13 [] [] mo (by kernel_rfl) ?_)
 refine gX ?_
 obtain ⟨x14, hx14, h⟩ := obind h
 refine z1p rfl rfl rfl rfl (fun H hp => z1m rfl rfl hx14) ?_
 iterate 3 refine gX ?_
 refine z1p rfl rfl rfl rfl (fun H hp => z1m rfl rfl hx14) ?_
 iterate 3 refine gX ?_
 refine z1p rfl rfl rfl rfl (fun H hp => z1m rfl rfl hx14) ?_
 iterate 2 refine gX ?_
 obtain ⟨x15, hx15, h⟩ := obind h
 refine z1p rfl rfl rfl rfl (fun H hp => z06 rfl zxp rfl (wkr .nil) ⟨(z03 z0r x14.fields), trivial⟩ (c_q0u x14.fields x15 hx15) (z03 z0r x15)) ?_
 refine z1u ?_
 change AO _ _ _ _ _
 refine sS rfl rfl rfl (z1g (cs := [(z0i x14.cls), (I64 x14.ver), (PV.sl none 69 2 (List.map ofFld x15))]) zjd zez rfl rfl rfl rfl) ?_
 refine sX ?_
 refine sS rfl rfl rfl (z15 Tryz.underlying73 rfl rfl rfl) ?_
 refine eX ?_
 refine z3p 0 2 (y := (ofV (V.record x14.cls x14.ver x15))) rfl rfl ((Wk.iface (Wk.pt (x := .agg [(z0i x14.cls), (I64 x14.ver), (PV.sl none 69 2 (List.map ofFld x15))]) (y := zg0 (Rec.mk x14.cls x14.ver x15)) (wkr (wkr (wkr .nil))))).trans (Wk.eq (zet (some (Rec.mk x14.cls x14.ver x15))).symm)) ?_
 obtain rfl := eI h; exact z05 ⟨_, rfl, z0p (y := (ofV (V.record x14.cls x14.ver x15))) (Wk.refl _) (ids_V (V.record x14.cls x14.ver x15)) ⟨rfl, rfl⟩⟩
 intro hc13 h
 refine z07 ?_
 refine cBx ?_
 refine bR ?_
 refine sX ?_
 refine eX ?_
 obtain rfl := eI h; exact z05 ⟨_, rfl, z0p (y := (ofV a0)) (Wk.refl _) (ids_V a0) ⟨rfl, rfl⟩⟩
theorem C_q0u.sound : ∀ (i : C_q0u) (r : i.R), z2w C_q0u.F i = some r → C_q0u.Q i r := by
 refine z3z (Φ := C_q0u.F) (Q := C_q0u.Q) ?_
 intro g hg i r h
 cases i with
 | k_q0u a0 => exact z97 (fun a0 => g (.k_q0u a0)) (fun a0 r hr => hg (.k_q0u a0) r hr) (fun a0 => g (.k_q1y a0)) (fun a0 r hr => hg (.k_q1y a0) r hr) a0 r h
 | k_q1y a0 => exact zgt (fun a0 => g (.k_q0u a0)) (fun a0 r hr => hg (.k_q0u a0) r hr) (fun a0 => g (.k_q1y a0)) (fun a0 r hr => hg (.k_q1y a0) r hr) a0 r h
theorem Z4t (a0 r : V) (h : zd2 a0 = some r) : z0m Tryz.prog 90 [(ofV a0)] (ofV r) := C_q0u.sound (.k_q1y a0) r h
noncomputable def zu2 (a0 : (List S_api_Step)) (a1 : V) (a2 : Int) : Option (V × Int × Int) :=
 some (a1, 0, (IntKind.i64.wrap (a2 + 1)))
theorem Z55 (a0 : (List S_api_Step)) (a1 : V) (a2 : Int) (r : (V × Int × Int)) (h : zu2 a0 a1 a2 = some r) : z18 Tryz.prog 24 [(PV.sl none 83 3 (List.map z00 a0)), (ofV a1), (PV.rf 0 0)] [.box 3 [(I64 a2)]] (PV.tup [(ofV r.1), (I64 r.2.1)]) [.box 3 [(I64 r.2.2)]] := by
 unfold zu2 at h
 refine z0d Tryz.func24 rfl Tryz.ntmps24 Tryz.results24 rfl (z0g ?_)
 change BW _ _ _ ⟨[(0, (PV.sl none 83 3 (List.map z00 a0))), (1, (ofV a1)), (2, (PV.rf 0 0))], [.box 3 [(I64 a2)]], _⟩ _
 refine bR ?_
 refine sX ?_
 refine eX ?_
 refine bR ?_
 iterate 2 refine sX ?_
 refine z0j rfl rfl (z0e z8f rfl rfl rfl rfl rfl rfl (lbE rfl) rfl) ?_
 refine z0a ?_
 refine cBx ?_
 refine bR ?_
 iterate 2 refine sX ?_
 refine eX ?_
 obtain rfl := eI h; exact z05 ⟨_, rfl, endR (y := (PV.tup [(ofV a1), (I64 0)])) 1 (Wk.refl _) rfl rfl (.tup (.cons (.same (ids_V a1)) (.cons (.same rfl) .nil))) (.cons (.box (.cons (.same rfl) .nil)) .nil) ⟨rfl, rfl⟩⟩
end Go.Proofs.YthidgpcbnieleaaGreatDoor
