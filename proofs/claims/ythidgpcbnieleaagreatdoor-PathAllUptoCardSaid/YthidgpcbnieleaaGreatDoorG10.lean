/- Pure functions, and that calls answer as they say. -/
import Derived.Test.YthidgpcbnieleaaGreatDoorG9
namespace Go.Proofs.YthidgpcbnieleaaGreatDoor
open Go Aw
set_option linter.unusedVariables false
set_option linter.unusedSimpArgs false
set_option maxRecDepth 20000
set_option maxHeartbeats 2000000
variable {ι : Type} {ρ : ι → Type}
noncomputable def zkq (r_q1r : S_api_Step → V → (List S_api_Step) → (List (List S_api_Step)) → Bool → Int → Option (Bool × (List (List S_api_Step)) × Bool × Int)) (r_q0l : V → (List S_api_Step) → (List (List S_api_Step)) → Bool → Int → Option ((List (List S_api_Step)) × Bool × Int)) (r_q0o : (List S_api_Step) → V → (List (List S_api_Step)) → Option (Bool × Int × (List (List S_api_Step)))) (a0 : S_api_Step) (a1 : V) (a2 : (List S_api_Step)) (a3c1 : (List (List S_api_Step))) (a4 : Bool) (a5 : Int) : Option (Bool × (List (List S_api_Step)) × Bool × Int) :=
 (zdx a2).bind fun x1 =>
 (z8k 32 x1 ([a0] : (List S_api_Step))).bind fun x2 =>
 (r_q0o x2 a1 a3c1).bind fun x3 =>
 some (x3.1, x3.2.2, x3.1, x3.2.1)
theorem zw6 (r_q1r : OF ρ → S_api_Step → V → (List S_api_Step) → (List (List S_api_Step)) → Bool → Int → Option (Bool × (List (List S_api_Step)) × Bool × Int)) (h_r_q1r : ∀ y0 y1 y2 y3 y4 y5, CM (fun G => r_q1r G y0 y1 y2 y3 y4 y5)) (r_q0l : OF ρ → V → (List S_api_Step) → (List (List S_api_Step)) → Bool → Int → Option ((List (List S_api_Step)) × Bool × Int)) (h_r_q0l : ∀ y0 y1 y2 y3 y4, CM (fun G => r_q0l G y0 y1 y2 y3 y4)) (r_q0o : OF ρ → (List S_api_Step) → V → (List (List S_api_Step)) → Option (Bool × Int × (List (List S_api_Step)))) (h_r_q0o : ∀ y0 y1 y2, CM (fun G => r_q0o G y0 y1 y2)) (a0 : S_api_Step) (a1 : V) (a2 : (List S_api_Step)) (a3c1 : (List (List S_api_Step))) (a4 : Bool) (a5 : Int) : CM (fun G : OF ρ => zkq (r_q1r G) (r_q0l G) (r_q0o G) a0 a1 a2 a3c1 a4 a5) := by
 simp only [zkq]
 repeat (first | exact z0c | exact h_r_q1r _ _ _ _ _ _ | exact h_r_q0l _ _ _ _ _ | exact h_r_q0o _ _ _ | refine z11 ?_ ?_ | refine z12 ?_ (fun _ => ?_))
noncomputable def z5r (r_q1r : S_api_Step → V → (List S_api_Step) → (List (List S_api_Step)) → Bool → Int → Option (Bool × (List (List S_api_Step)) × Bool × Int)) (a1c0 : (List S_api_Step)) (x4 : ((List (Str × V)) × Bool)) (g1 : Nat → (List (List S_api_Step)) → Bool → Int → Option ((List (List S_api_Step)) × Bool × Int)) (s5 : Nat) (s6 : (List (List S_api_Step))) (s7 : Bool) (s8 : Int) : Option ((List (List S_api_Step)) × Bool × Int) :=
 bif (decide (((s5 : Nat) : Int) < (((x4.1).length : Nat) : Int))) then (
 ((x4.1)[s5]?).bind fun x11 =>
 (r_q1r (S_api_Step.mk x11.1 false 0) x11.2 a1c0 s6 s7 s8).bind fun x12 =>
 bif (!x12.1) then (
 some (x12.2.1, x12.2.2.1, x12.2.2.2)
 ) else (
 g1 (s5 + 1) x12.2.1 x12.2.2.1 x12.2.2.2
 )
 ) else (
 some (s6, s7, s8)
 )
theorem zat (r_q1r : OF ρ → S_api_Step → V → (List S_api_Step) → (List (List S_api_Step)) → Bool → Int → Option (Bool × (List (List S_api_Step)) × Bool × Int)) (h_r_q1r : ∀ y0 y1 y2 y3 y4 y5, CM (fun G => r_q1r G y0 y1 y2 y3 y4 y5)) (g1 : OF ρ → Nat → (List (List S_api_Step)) → Bool → Int → Option ((List (List S_api_Step)) × Bool × Int)) (h_g1 : ∀ y0 y1 y2 y3, CM (fun G => g1 G y0 y1 y2 y3)) (a1c0 : (List S_api_Step)) (x4 : ((List (Str × V)) × Bool)) (s5 : Nat) (s6 : (List (List S_api_Step))) (s7 : Bool) (s8 : Int) : CM (fun G : OF ρ => z5r (r_q1r G) a1c0 x4 (g1 G) s5 s6 s7 s8) := by
 simp only [z5r]
 repeat (first | exact z0c | exact h_r_q1r _ _ _ _ _ _ | exact h_g1 _ _ _ _ | refine z11 ?_ ?_ | refine z12 ?_ (fun _ => ?_))
noncomputable def zei (r_q1r : S_api_Step → V → (List S_api_Step) → (List (List S_api_Step)) → Bool → Int → Option (Bool × (List (List S_api_Step)) × Bool × Int)) (a1c0 : (List S_api_Step)) (x4 : ((List (Str × V)) × Bool)) (s5 : Nat) (s6 : (List (List S_api_Step))) (s7 : Bool) (s8 : Int) : Option ((List (List S_api_Step)) × Bool × Int) :=
 z2w (ι := (Nat × (List (List S_api_Step)) × Bool × Int)) (ρ := fun _ => ((List (List S_api_Step)) × Bool × Int)) (fun g i => z5r r_q1r a1c0 x4 (fun s5 s6 s7 s8 => g (s5, s6, s7, s8)) i.1 i.2.1 i.2.2.1 i.2.2.2) (s5, s6, s7, s8)
theorem z9e (r_q1r : S_api_Step → V → (List S_api_Step) → (List (List S_api_Step)) → Bool → Int → Option (Bool × (List (List S_api_Step)) × Bool × Int)) (a1c0 : (List S_api_Step)) (x4 : ((List (Str × V)) × Bool)) (s5 : Nat) (s6 : (List (List S_api_Step))) (s7 : Bool) (s8 : Int) : zei r_q1r a1c0 x4 s5 s6 s7 s8 = z5r r_q1r a1c0 x4 (zei r_q1r a1c0 x4) s5 s6 s7 s8 :=
 z19 (ι := (Nat × (List (List S_api_Step)) × Bool × Int)) (ρ := fun _ => ((List (List S_api_Step)) × Bool × Int)) (Φ := fun g i => z5r r_q1r a1c0 x4 (fun s5 s6 s7 s8 => g (s5, s6, s7, s8)) i.1 i.2.1 i.2.2.1 i.2.2.2) (fun i => zat (ι := (Nat × (List (List S_api_Step)) × Bool × Int)) (ρ := fun _ => ((List (List S_api_Step)) × Bool × Int)) (fun _ => r_q1r) (fun _ _ _ _ _ _ => z0c) (fun g => (fun s5 s6 s7 s8 => g (s5, s6, s7, s8))) (fun _ _ _ _ => z17) a1c0 x4 i.1 i.2.1 i.2.2.1 i.2.2.2) (s5, s6, s7, s8)
theorem zpv (r_q1r : OF ρ → S_api_Step → V → (List S_api_Step) → (List (List S_api_Step)) → Bool → Int → Option (Bool × (List (List S_api_Step)) × Bool × Int)) (h_r_q1r : ∀ y0 y1 y2 y3 y4 y5, CM (fun G => r_q1r G y0 y1 y2 y3 y4 y5)) (a1c0 : (List S_api_Step)) (x4 : ((List (Str × V)) × Bool)) (s5 : Nat) (s6 : (List (List S_api_Step))) (s7 : Bool) (s8 : Int) : CM (fun G : OF ρ => zei (r_q1r G) a1c0 x4 s5 s6 s7 s8) :=
 z40 (κ := (Nat × (List (List S_api_Step)) × Bool × Int)) (τ := fun _ => ((List (List S_api_Step)) × Bool × Int)) (Φ := fun G g i => z5r (r_q1r G) a1c0 x4 (fun s5 s6 s7 s8 => g (s5, s6, s7, s8)) i.1 i.2.1 i.2.2.1 i.2.2.2) (fun g i => zat r_q1r h_r_q1r (fun _ => (fun s5 s6 s7 s8 => g (s5, s6, s7, s8))) (fun _ _ _ _ => z0c) a1c0 x4 i.1 i.2.1 i.2.2.1 i.2.2.2) (fun G i => zat (ι := (Nat × (List (List S_api_Step)) × Bool × Int)) (ρ := fun _ => ((List (List S_api_Step)) × Bool × Int)) (fun _ => r_q1r G) (fun _ _ _ _ _ _ => z0c) (fun g => (fun s5 s6 s7 s8 => g (s5, s6, s7, s8))) (fun _ _ _ _ => z17) a1c0 x4 i.1 i.2.1 i.2.2.1 i.2.2.2) (s5, s6, s7, s8)
noncomputable def z9f (r_q1r : S_api_Step → V → (List S_api_Step) → (List (List S_api_Step)) → Bool → Int → Option (Bool × (List (List S_api_Step)) × Bool × Int)) (a0 : V) (a1c0 : (List S_api_Step)) (s1 : (List (List S_api_Step))) (s2 : Bool) (s3 : Int) : Option ((List (List S_api_Step)) × Bool × Int) :=
 (zfq a0).bind fun x4 =>
 zei r_q1r a1c0 x4 0 s1 s2 s3
theorem zho (r_q1r : OF ρ → S_api_Step → V → (List S_api_Step) → (List (List S_api_Step)) → Bool → Int → Option (Bool × (List (List S_api_Step)) × Bool × Int)) (h_r_q1r : ∀ y0 y1 y2 y3 y4 y5, CM (fun G => r_q1r G y0 y1 y2 y3 y4 y5)) (a0 : V) (a1c0 : (List S_api_Step)) (s1 : (List (List S_api_Step))) (s2 : Bool) (s3 : Int) : CM (fun G : OF ρ => z9f (r_q1r G) a0 a1c0 s1 s2 s3) := by
 simp only [z9f]
 repeat (first | exact z0c | exact h_r_q1r _ _ _ _ _ _ | apply zpv | refine z11 ?_ ?_ | refine z12 ?_ (fun _ => ?_) | intro _ | assumption)
noncomputable def z5q (r_q1r : S_api_Step → V → (List S_api_Step) → (List (List S_api_Step)) → Bool → Int → Option (Bool × (List (List S_api_Step)) × Bool × Int)) (a0 : V) (a1c0 : (List S_api_Step)) (g1 : Nat → (List (List S_api_Step)) → Bool → Int → Option ((List (List S_api_Step)) × Bool × Int)) (s15 : Nat) (s16 : (List (List S_api_Step))) (s17 : Bool) (s18 : Int) : Option ((List (List S_api_Step)) × Bool × Int) :=
 bif (decide (((s15 : Nat) : Int) < ((((a0).asList).length : Nat) : Int))) then (
 (((a0).asList)[s15]?).bind fun x21 =>
 (r_q1r (S_api_Step.mk [] true ((s15 : Nat) : Int)) x21 a1c0 s16 s17 s18).bind fun x22 =>
 bif (!x22.1) then (
 some (x22.2.1, x22.2.2.1, x22.2.2.2)
 ) else (
 g1 (s15 + 1) x22.2.1 x22.2.2.1 x22.2.2.2
 )
 ) else (
 z9f r_q1r a0 a1c0 s16 s17 s18
 )
theorem zas (r_q1r : OF ρ → S_api_Step → V → (List S_api_Step) → (List (List S_api_Step)) → Bool → Int → Option (Bool × (List (List S_api_Step)) × Bool × Int)) (h_r_q1r : ∀ y0 y1 y2 y3 y4 y5, CM (fun G => r_q1r G y0 y1 y2 y3 y4 y5)) (g1 : OF ρ → Nat → (List (List S_api_Step)) → Bool → Int → Option ((List (List S_api_Step)) × Bool × Int)) (h_g1 : ∀ y0 y1 y2 y3, CM (fun G => g1 G y0 y1 y2 y3)) (a0 : V) (a1c0 : (List S_api_Step)) (s15 : Nat) (s16 : (List (List S_api_Step))) (s17 : Bool) (s18 : Int) : CM (fun G : OF ρ => z5q (r_q1r G) a0 a1c0 (g1 G) s15 s16 s17 s18) := by
 simp only [z5q]
 repeat (first | exact z0c | exact h_r_q1r _ _ _ _ _ _ | exact h_g1 _ _ _ _ | apply zho | refine z11 ?_ ?_ | refine z12 ?_ (fun _ => ?_) | intro _ | assumption)
noncomputable def zeh (r_q1r : S_api_Step → V → (List S_api_Step) → (List (List S_api_Step)) → Bool → Int → Option (Bool × (List (List S_api_Step)) × Bool × Int)) (a0 : V) (a1c0 : (List S_api_Step)) (s15 : Nat) (s16 : (List (List S_api_Step))) (s17 : Bool) (s18 : Int) : Option ((List (List S_api_Step)) × Bool × Int) :=
 z2w (ι := (Nat × (List (List S_api_Step)) × Bool × Int)) (ρ := fun _ => ((List (List S_api_Step)) × Bool × Int)) (fun g i => z5q r_q1r a0 a1c0 (fun s15 s16 s17 s18 => g (s15, s16, s17, s18)) i.1 i.2.1 i.2.2.1 i.2.2.2) (s15, s16, s17, s18)
theorem zhn (r_q1r : S_api_Step → V → (List S_api_Step) → (List (List S_api_Step)) → Bool → Int → Option (Bool × (List (List S_api_Step)) × Bool × Int)) (a0 : V) (a1c0 : (List S_api_Step)) (s15 : Nat) (s16 : (List (List S_api_Step))) (s17 : Bool) (s18 : Int) : zeh r_q1r a0 a1c0 s15 s16 s17 s18 = z5q r_q1r a0 a1c0 (zeh r_q1r a0 a1c0) s15 s16 s17 s18 :=
 z19 (ι := (Nat × (List (List S_api_Step)) × Bool × Int)) (ρ := fun _ => ((List (List S_api_Step)) × Bool × Int)) (Φ := fun g i => z5q r_q1r a0 a1c0 (fun s15 s16 s17 s18 => g (s15, s16, s17, s18)) i.1 i.2.1 i.2.2.1 i.2.2.2) (fun i => zas (ι := (Nat × (List (List S_api_Step)) × Bool × Int)) (ρ := fun _ => ((List (List S_api_Step)) × Bool × Int)) (fun _ => r_q1r) (fun _ _ _ _ _ _ => z0c) (fun g => (fun s15 s16 s17 s18 => g (s15, s16, s17, s18))) (fun _ _ _ _ => z17) a0 a1c0 i.1 i.2.1 i.2.2.1 i.2.2.2) (s15, s16, s17, s18)
theorem zpu (r_q1r : OF ρ → S_api_Step → V → (List S_api_Step) → (List (List S_api_Step)) → Bool → Int → Option (Bool × (List (List S_api_Step)) × Bool × Int)) (h_r_q1r : ∀ y0 y1 y2 y3 y4 y5, CM (fun G => r_q1r G y0 y1 y2 y3 y4 y5)) (a0 : V) (a1c0 : (List S_api_Step)) (s15 : Nat) (s16 : (List (List S_api_Step))) (s17 : Bool) (s18 : Int) : CM (fun G : OF ρ => zeh (r_q1r G) a0 a1c0 s15 s16 s17 s18) :=
 z40 (κ := (Nat × (List (List S_api_Step)) × Bool × Int)) (τ := fun _ => ((List (List S_api_Step)) × Bool × Int)) (Φ := fun G g i => z5q (r_q1r G) a0 a1c0 (fun s15 s16 s17 s18 => g (s15, s16, s17, s18)) i.1 i.2.1 i.2.2.1 i.2.2.2) (fun g i => zas r_q1r h_r_q1r (fun _ => (fun s15 s16 s17 s18 => g (s15, s16, s17, s18))) (fun _ _ _ _ => z0c) a0 a1c0 i.1 i.2.1 i.2.2.1 i.2.2.2) (fun G i => zas (ι := (Nat × (List (List S_api_Step)) × Bool × Int)) (ρ := fun _ => ((List (List S_api_Step)) × Bool × Int)) (fun _ => r_q1r G) (fun _ _ _ _ _ _ => z0c) (fun g => (fun s15 s16 s17 s18 => g (s15, s16, s17, s18))) (fun _ _ _ _ => z17) a0 a1c0 i.1 i.2.1 i.2.2.1 i.2.2.2) (s15, s16, s17, s18)
noncomputable def zl1 (r_q1r : S_api_Step → V → (List S_api_Step) → (List (List S_api_Step)) → Bool → Int → Option (Bool × (List (List S_api_Step)) × Bool × Int)) (r_q0l : V → (List S_api_Step) → (List (List S_api_Step)) → Bool → Int → Option ((List (List S_api_Step)) × Bool × Int)) (r_q0o : (List S_api_Step) → V → (List (List S_api_Step)) → Option (Bool × Int × (List (List S_api_Step)))) (a0 : V) (a1c0 : (List S_api_Step)) (a1c1c1 : (List (List S_api_Step))) (a1c2 : Bool) (a1c3 : Int) : Option ((List (List S_api_Step)) × Bool × Int) :=
 bif (a0).isList then (
 zeh r_q1r a0 a1c0 0 a1c1c1 a1c2 a1c3
 ) else (
 z9f r_q1r a0 a1c0 a1c1c1 a1c2 a1c3
 )
theorem zwi (r_q1r : OF ρ → S_api_Step → V → (List S_api_Step) → (List (List S_api_Step)) → Bool → Int → Option (Bool × (List (List S_api_Step)) × Bool × Int)) (h_r_q1r : ∀ y0 y1 y2 y3 y4 y5, CM (fun G => r_q1r G y0 y1 y2 y3 y4 y5)) (r_q0l : OF ρ → V → (List S_api_Step) → (List (List S_api_Step)) → Bool → Int → Option ((List (List S_api_Step)) × Bool × Int)) (h_r_q0l : ∀ y0 y1 y2 y3 y4, CM (fun G => r_q0l G y0 y1 y2 y3 y4)) (r_q0o : OF ρ → (List S_api_Step) → V → (List (List S_api_Step)) → Option (Bool × Int × (List (List S_api_Step)))) (h_r_q0o : ∀ y0 y1 y2, CM (fun G => r_q0o G y0 y1 y2)) (a0 : V) (a1c0 : (List S_api_Step)) (a1c1c1 : (List (List S_api_Step))) (a1c2 : Bool) (a1c3 : Int) : CM (fun G : OF ρ => zl1 (r_q1r G) (r_q0l G) (r_q0o G) a0 a1c0 a1c1c1 a1c2 a1c3) := by
 simp only [zl1]
 repeat (first | exact z0c | exact h_r_q1r _ _ _ _ _ _ | exact h_r_q0l _ _ _ _ _ | exact h_r_q0o _ _ _ | apply zho | apply zpu | refine z11 ?_ ?_ | refine z12 ?_ (fun _ => ?_) | intro _ | assumption)
noncomputable def zl0 (r_q1r : S_api_Step → V → (List S_api_Step) → (List (List S_api_Step)) → Bool → Int → Option (Bool × (List (List S_api_Step)) × Bool × Int)) (r_q0l : V → (List S_api_Step) → (List (List S_api_Step)) → Bool → Int → Option ((List (List S_api_Step)) × Bool × Int)) (r_q0o : (List S_api_Step) → V → (List (List S_api_Step)) → Option (Bool × Int × (List (List S_api_Step)))) (a0 : (List S_api_Step)) (a1 : V) (a2c1 : (List (List S_api_Step))) : Option (Bool × Int × (List (List S_api_Step))) :=
 (zqv a2c1 a0 a1 0).bind fun x1 =>
 bif x1.1 then (
 some (false, 9, x1.2.1)
 ) else (
 bif (x1.2.2 == 0) then (
 (r_q0l a1 a0 x1.2.1 true 0).bind fun x4 =>
 some (x4.2.1, x4.2.2, x4.1)
 ) else (
 bif (x1.2.2 == 1) then (
 some (true, 0, x1.2.1)
 ) else (
 bif (x1.2.2 == 2) then (
 some (false, 0, x1.2.1)
 ) else (
 some (false, 43, x1.2.1)
 )
 )
 )
 )
theorem zwg (r_q1r : OF ρ → S_api_Step → V → (List S_api_Step) → (List (List S_api_Step)) → Bool → Int → Option (Bool × (List (List S_api_Step)) × Bool × Int)) (h_r_q1r : ∀ y0 y1 y2 y3 y4 y5, CM (fun G => r_q1r G y0 y1 y2 y3 y4 y5)) (r_q0l : OF ρ → V → (List S_api_Step) → (List (List S_api_Step)) → Bool → Int → Option ((List (List S_api_Step)) × Bool × Int)) (h_r_q0l : ∀ y0 y1 y2 y3 y4, CM (fun G => r_q0l G y0 y1 y2 y3 y4)) (r_q0o : OF ρ → (List S_api_Step) → V → (List (List S_api_Step)) → Option (Bool × Int × (List (List S_api_Step)))) (h_r_q0o : ∀ y0 y1 y2, CM (fun G => r_q0o G y0 y1 y2)) (a0 : (List S_api_Step)) (a1 : V) (a2c1 : (List (List S_api_Step))) : CM (fun G : OF ρ => zl0 (r_q1r G) (r_q0l G) (r_q0o G) a0 a1 a2c1) := by
 simp only [zl0]
 repeat (first | exact z0c | exact h_r_q1r _ _ _ _ _ _ | exact h_r_q0l _ _ _ _ _ | exact h_r_q0o _ _ _ | refine z11 ?_ ?_ | refine z12 ?_ (fun _ => ?_))
inductive C_q1r where
 | k_q1r (a0 : S_api_Step) (a1 : V) (a2 : (List S_api_Step)) (a3c1 : (List (List S_api_Step))) (a4 : Bool) (a5 : Int)
 | k_q0l (a0 : V) (a1c0 : (List S_api_Step)) (a1c1c1 : (List (List S_api_Step))) (a1c2 : Bool) (a1c3 : Int)
 | k_q0o (a0 : (List S_api_Step)) (a1 : V) (a2c1 : (List (List S_api_Step)))
def C_q1r.R : C_q1r → Type
 | .k_q1r _ _ _ _ _ _ => (Bool × (List (List S_api_Step)) × Bool × Int)
 | .k_q0l _ _ _ _ _ => ((List (List S_api_Step)) × Bool × Int)
 | .k_q0o _ _ _ => (Bool × Int × (List (List S_api_Step)))
noncomputable def C_q1r.F (g : ∀ i : C_q1r, Option i.R) : ∀ i : C_q1r, Option i.R
 | .k_q1r a0 a1 a2 a3c1 a4 a5 => zkq (fun a0 a1 a2 a3c1 a4 a5 => g (.k_q1r a0 a1 a2 a3c1 a4 a5)) (fun a0 a1c0 a1c1c1 a1c2 a1c3 => g (.k_q0l a0 a1c0 a1c1c1 a1c2 a1c3)) (fun a0 a1 a2c1 => g (.k_q0o a0 a1 a2c1)) a0 a1 a2 a3c1 a4 a5
 | .k_q0l a0 a1c0 a1c1c1 a1c2 a1c3 => zl1 (fun a0 a1 a2 a3c1 a4 a5 => g (.k_q1r a0 a1 a2 a3c1 a4 a5)) (fun a0 a1c0 a1c1c1 a1c2 a1c3 => g (.k_q0l a0 a1c0 a1c1c1 a1c2 a1c3)) (fun a0 a1 a2c1 => g (.k_q0o a0 a1 a2c1)) a0 a1c0 a1c1c1 a1c2 a1c3
 | .k_q0o a0 a1 a2c1 => zl0 (fun a0 a1 a2 a3c1 a4 a5 => g (.k_q1r a0 a1 a2 a3c1 a4 a5)) (fun a0 a1c0 a1c1c1 a1c2 a1c3 => g (.k_q0l a0 a1c0 a1c1c1 a1c2 a1c3)) (fun a0 a1 a2c1 => g (.k_q0o a0 a1 a2c1)) a0 a1 a2c1
noncomputable def zjv (a0 : S_api_Step) (a1 : V) (a2 : (List S_api_Step)) (a3c1 : (List (List S_api_Step))) (a4 : Bool) (a5 : Int) : Option (Bool × (List (List S_api_Step)) × Bool × Int) := z2w C_q1r.F (.k_q1r a0 a1 a2 a3c1 a4 a5)
noncomputable def zqu (a0 : V) (a1c0 : (List S_api_Step)) (a1c1c1 : (List (List S_api_Step))) (a1c2 : Bool) (a1c3 : Int) : Option ((List (List S_api_Step)) × Bool × Int) := z2w C_q1r.F (.k_q0l a0 a1c0 a1c1c1 a1c2 a1c3)
noncomputable def zk1 (a0 : (List S_api_Step)) (a1 : V) (a2c1 : (List (List S_api_Step))) : Option (Bool × Int × (List (List S_api_Step))) := z2w C_q1r.F (.k_q0o a0 a1 a2c1)
abbrev Z6j := fun (g : ∀ i : C_q1r, Option i.R) a0 a1 a2 a3c1 a4 a5 => g (.k_q1r a0 a1 a2 a3c1 a4 a5)
theorem Z6a (a0 a1 a2 a3c1 a4 a5 : _) : CM (ρ := C_q1r.R) (fun g => g (C_q1r.k_q1r a0 a1 a2 a3c1 a4 a5)) := z17
abbrev Z6i := fun (g : ∀ i : C_q1r, Option i.R) a0 a1c0 a1c1c1 a1c2 a1c3 => g (.k_q0l a0 a1c0 a1c1c1 a1c2 a1c3)
theorem Z69 (a0 a1c0 a1c1c1 a1c2 a1c3 : _) : CM (ρ := C_q1r.R) (fun g => g (C_q1r.k_q0l a0 a1c0 a1c1c1 a1c2 a1c3)) := z17
abbrev Z6h := fun (g : ∀ i : C_q1r, Option i.R) a0 a1 a2c1 => g (.k_q0o a0 a1 a2c1)
theorem Z68 (a0 a1 a2c1 : _) : CM (ρ := C_q1r.R) (fun g => g (C_q1r.k_q0o a0 a1 a2c1)) := z17
theorem C_q1r.cm (i : C_q1r) : CM (fun g : (∀ i : C_q1r, Option i.R) => C_q1r.F g i) := by
 cases i with
 | k_q1r a0 a1 a2 a3c1 a4 a5 => exact zw6 Z6j Z6a Z6i Z69 Z6h Z68 a0 a1 a2 a3c1 a4 a5
 | k_q0l a0 a1c0 a1c1c1 a1c2 a1c3 => exact zwi Z6j Z6a Z6i Z69 Z6h Z68 a0 a1c0 a1c1c1 a1c2 a1c3
 | k_q0o a0 a1 a2c1 => exact zwg Z6j Z6a Z6i Z69 Z6h Z68 a0 a1 a2c1
theorem Z7t (a0 : S_api_Step) (a1 : V) (a2 : (List S_api_Step)) (a3c1 : (List (List S_api_Step))) (a4 : Bool) (a5 : Int) : zjv a0 a1 a2 a3c1 a4 a5 = zkq zjv zqu zk1 a0 a1 a2 a3c1 a4 a5 := z19 C_q1r.cm (.k_q1r a0 a1 a2 a3c1 a4 a5)
theorem Z85 (a0 : V) (a1c0 : (List S_api_Step)) (a1c1c1 : (List (List S_api_Step))) (a1c2 : Bool) (a1c3 : Int) : zqu a0 a1c0 a1c1c1 a1c2 a1c3 = zl1 zjv zqu zk1 a0 a1c0 a1c1c1 a1c2 a1c3 := z19 C_q1r.cm (.k_q0l a0 a1c0 a1c1c1 a1c2 a1c3)
theorem Z83 (a0 : (List S_api_Step)) (a1 : V) (a2c1 : (List (List S_api_Step))) : zk1 a0 a1 a2c1 = zl0 zjv zqu zk1 a0 a1 a2c1 := z19 C_q1r.cm (.k_q0o a0 a1 a2c1)
def C_q1r.Q : ∀ i : C_q1r, i.R → Prop
 | .k_q1r a0 a1 a2 a3c1 a4 a5 => fun (r : (Bool × (List (List S_api_Step)) × Bool × Int)) => z18 Tryz.prog 85 [(z00 a0), (ofV a1), (PV.pt 30 (PV.sl none 83 3 (List.map z00 a2)) 0), (PV.rf 0 0), (PV.rf 4 0), (PV.rf 5 0)] [.box 56 [(PV.fn (.func 52) [] [(PV.rf 1 0), (PV.rf 2 0)])], .box 64 [(PV.fn (.func 26) [] [])], .box 61 [(PV.sl (some 3) 30 1 (List.map (ofSl 83 3 z00) a3c1))], .arr 30 (a3c1).length, .box 4 [(BO a4)], .box 33 [(I64 a5)]] (BO r.1) [.box 56 [(PV.fn (.func 52) [] [(PV.rf 1 0), (PV.rf 2 0)])], .box 64 [(PV.fn (.func 26) [] [])], .box 61 [(PV.sl (some 3) 30 1 (List.map (ofSl 83 3 z00) r.2.1))], .arr 30 (r.2.1).length, .box 4 [(BO r.2.2.1)], .box 33 [(I64 r.2.2.2)]]
 | .k_q0l a0 a1c0 a1c1c1 a1c2 a1c3 => fun (r : ((List (List S_api_Step)) × Bool × Int)) => z18 Tryz.prog 84 [(ofV a0), (PV.fn (.func 85) [] [(PV.pt 30 (PV.sl none 83 3 (List.map z00 a1c0)) 0), (PV.rf 0 0), (PV.rf 4 0), (PV.rf 5 0)])] [.box 56 [(PV.fn (.func 52) [] [(PV.rf 1 0), (PV.rf 2 0)])], .box 64 [(PV.fn (.func 26) [] [])], .box 61 [(PV.sl (some 3) 30 1 (List.map (ofSl 83 3 z00) a1c1c1))], .arr 30 (a1c1c1).length, .box 4 [(BO a1c2)], .box 33 [(I64 a1c3)]] (PV.tup []) [.box 56 [(PV.fn (.func 52) [] [(PV.rf 1 0), (PV.rf 2 0)])], .box 64 [(PV.fn (.func 26) [] [])], .box 61 [(PV.sl (some 3) 30 1 (List.map (ofSl 83 3 z00) r.1))], .arr 30 (r.1).length, .box 4 [(BO r.2.1)], .box 33 [(I64 r.2.2)]]
 | .k_q0o a0 a1 a2c1 => fun (r : (Bool × Int × (List (List S_api_Step)))) => z18 Tryz.prog 49 [(PV.sl none 83 3 (List.map z00 a0)), (ofV a1), (PV.fn (.func 52) [] [(PV.rf 0 0), (PV.rf 1 0)])] [.box 64 [(PV.fn (.func 26) [] [])], .box 61 [(PV.sl (some 2) 30 1 (List.map (ofSl 83 3 z00) a2c1))], .arr 30 (a2c1).length] (PV.tup [(BO r.1), (I64 r.2.1)]) [.box 64 [(PV.fn (.func 26) [] [])], .box 61 [(PV.sl (some 2) 30 1 (List.map (ofSl 83 3 z00) r.2.2))], .arr 30 (r.2.2).length]
theorem zfi (r_q1r : S_api_Step → V → (List S_api_Step) → (List (List S_api_Step)) → Bool → Int → Option (Bool × (List (List S_api_Step)) × Bool × Int)) (c_q1r : ∀ (a0 : S_api_Step) (a1 : V) (a2 : (List S_api_Step)) (a3c1 : (List (List S_api_Step))) (a4 : Bool) (a5 : Int) r, r_q1r a0 a1 a2 a3c1 a4 a5 = some r → z18 Tryz.prog 85 [(z00 a0), (ofV a1), (PV.pt 30 (PV.sl none 83 3 (List.map z00 a2)) 0), (PV.rf 0 0), (PV.rf 4 0), (PV.rf 5 0)] [.box 56 [(PV.fn (.func 52) [] [(PV.rf 1 0), (PV.rf 2 0)])], .box 64 [(PV.fn (.func 26) [] [])], .box 61 [(PV.sl (some 3) 30 1 (List.map (ofSl 83 3 z00) a3c1))], .arr 30 (a3c1).length, .box 4 [(BO a4)], .box 33 [(I64 a5)]] (BO r.1) [.box 56 [(PV.fn (.func 52) [] [(PV.rf 1 0), (PV.rf 2 0)])], .box 64 [(PV.fn (.func 26) [] [])], .box 61 [(PV.sl (some 3) 30 1 (List.map (ofSl 83 3 z00) r.2.1))], .arr 30 (r.2.1).length, .box 4 [(BO r.2.2.1)], .box 33 [(I64 r.2.2.2)]]) (r_q0l : V → (List S_api_Step) → (List (List S_api_Step)) → Bool → Int → Option ((List (List S_api_Step)) × Bool × Int)) (c_q0l : ∀ (a0 : V) (a1c0 : (List S_api_Step)) (a1c1c1 : (List (List S_api_Step))) (a1c2 : Bool) (a1c3 : Int) r, r_q0l a0 a1c0 a1c1c1 a1c2 a1c3 = some r → z18 Tryz.prog 84 [(ofV a0), (PV.fn (.func 85) [] [(PV.pt 30 (PV.sl none 83 3 (List.map z00 a1c0)) 0), (PV.rf 0 0), (PV.rf 4 0), (PV.rf 5 0)])] [.box 56 [(PV.fn (.func 52) [] [(PV.rf 1 0), (PV.rf 2 0)])], .box 64 [(PV.fn (.func 26) [] [])], .box 61 [(PV.sl (some 3) 30 1 (List.map (ofSl 83 3 z00) a1c1c1))], .arr 30 (a1c1c1).length, .box 4 [(BO a1c2)], .box 33 [(I64 a1c3)]] (PV.tup []) [.box 56 [(PV.fn (.func 52) [] [(PV.rf 1 0), (PV.rf 2 0)])], .box 64 [(PV.fn (.func 26) [] [])], .box 61 [(PV.sl (some 3) 30 1 (List.map (ofSl 83 3 z00) r.1))], .arr 30 (r.1).length, .box 4 [(BO r.2.1)], .box 33 [(I64 r.2.2)]]) (r_q0o : (List S_api_Step) → V → (List (List S_api_Step)) → Option (Bool × Int × (List (List S_api_Step)))) (c_q0o : ∀ (a0 : (List S_api_Step)) (a1 : V) (a2c1 : (List (List S_api_Step))) r, r_q0o a0 a1 a2c1 = some r → z18 Tryz.prog 49 [(PV.sl none 83 3 (List.map z00 a0)), (ofV a1), (PV.fn (.func 52) [] [(PV.rf 0 0), (PV.rf 1 0)])] [.box 64 [(PV.fn (.func 26) [] [])], .box 61 [(PV.sl (some 2) 30 1 (List.map (ofSl 83 3 z00) a2c1))], .arr 30 (a2c1).length] (PV.tup [(BO r.1), (I64 r.2.1)]) [.box 64 [(PV.fn (.func 26) [] [])], .box 61 [(PV.sl (some 2) 30 1 (List.map (ofSl 83 3 z00) r.2.2))], .arr 30 (r.2.2).length]) (a0 : S_api_Step) (a1 : V) (a2 : (List S_api_Step)) (a3c1 : (List (List S_api_Step))) (a4 : Bool) (a5 : Int) (r : (Bool × (List (List S_api_Step)) × Bool × Int)) (h : zkq r_q1r r_q0l r_q0o a0 a1 a2 a3c1 a4 a5 = some r) : z18 Tryz.prog 85 [(z00 a0), (ofV a1), (PV.pt 30 (PV.sl none 83 3 (List.map z00 a2)) 0), (PV.rf 0 0), (PV.rf 4 0), (PV.rf 5 0)] [.box 56 [(PV.fn (.func 52) [] [(PV.rf 1 0), (PV.rf 2 0)])], .box 64 [(PV.fn (.func 26) [] [])], .box 61 [(PV.sl (some 3) 30 1 (List.map (ofSl 83 3 z00) a3c1))], .arr 30 (a3c1).length, .box 4 [(BO a4)], .box 33 [(I64 a5)]] (BO r.1) [.box 56 [(PV.fn (.func 52) [] [(PV.rf 1 0), (PV.rf 2 0)])], .box 64 [(PV.fn (.func 26) [] [])], .box 61 [(PV.sl (some 3) 30 1 (List.map (ofSl 83 3 z00) r.2.1))], .arr 30 (r.2.1).length, .box 4 [(BO r.2.2.1)], .box 33 [(I64 r.2.2.2)]] := by
 unfold zkq at h
 refine z0d Tryz.func85 rfl Tryz.ntmps85 Tryz.results85 rfl (z0g ?_)
 change BW _ _ _ ⟨[(0, (z00 a0)), (1, (ofV a1)), (2, (PV.pt 30 (PV.sl none 83 3 (List.map z00 a2)) 0)), (3, (PV.rf 0 0)), (4, (PV.rf 4 0)), (5, (PV.rf 5 0))], [.box 56 [(PV.fn (.func 52) [] [(PV.rf 1 0), (PV.rf 2 0)])], .box 64 [(PV.fn (.func 26) [] [])], .box 61 [(PV.sl (some 3) 30 1 (List.map (ofSl 83 3 z00) a3c1))], .arr 30 (a3c1).length, .box 4 [(BO a4)], .box 33 [(I64 a5)]], _⟩ _
 refine bR ?_
 refine sX ?_
 refine eX ?_
 refine z08 (z1l 12 [1, 4, 7, 11] [0, 6] mo (by kernel_rfl) ?_)
 refine gX ?_
 obtain ⟨x1, hx1, h⟩ := obind h
 refine z41 rfl rfl rfl rfl (z49 rfl zvi rfl (wkr .nil) ⟨(z03 z02 a2), trivial⟩ (ztg a2 x1 hx1) (z67 (z0u z02 _) rfl) rfl) ⟨rfl, ⟨rfl, trivial⟩⟩ ?_
 refine gX ?_
 refine z1p rfl rfl rfl rfl (fun H hp => (z77 (xs := [(PV.agg [(z0i a0.f_Name), (BO a0.f_At), (I64 a0.f_Index)])]) Tryz.underlying30 z1h rfl rfl rfl rfl rfl rfl ⟨lbE rfl, lbE rfl⟩ rfl).cast (y := (PV.sl none 83 3 (List.map z00 ([a0] : (List S_api_Step))))) rfl rfl) ?_
 obtain ⟨x2, hx2, h⟩ := obind h
 refine z41 rfl rfl rfl rfl (z2l Tryz.underlying30 z1h rfl Tryz.underlying30 rfl rfl rfl rfl z2x z2j hx2 rfl) ⟨rfl, ⟨rfl, trivial⟩⟩ ?_
 iterate 2 refine gX ?_
 obtain ⟨x3, hx3, h⟩ := obind h
 refine z41 rfl rfl rfl rfl (Op1.cast (y := (PV.tup [(BO x3.1), (I64 x3.2.1)])) (H'' := [.box 56 [(PV.fn (.func 52) [] [(PV.rf 1 0), (PV.rf 2 0)])], .box 64 [(PV.fn (.func 26) [] [])], .box 61 [(PV.sl (some 3) 30 1 (List.map (ofSl 83 3 z00) x3.2.2))], .arr 30 (x3.2.2).length, .box 4 [(BO a4)], .box 33 [(I64 a5)], .box 83 [(z0i a0.f_Name), (BO a0.f_At), (I64 a0.f_Index)], .arr 83 (x2).length]) (z1b [1, 2, 3] (.func rfl) zvl rfl (.cons Wk.tok (wkr (wkr .nil))) rfl (.cons rfl (.box (.cons (.fn .nil) .nil)) (.cons rfl (.box (.cons (.row rfl (z0u (fun a => z03 (e := 83) (sz := 3) z02 a) a3c1)) .nil)) (.cons rfl .arr .nil))) (.cons (.same (z03 z02 x2)) (.cons (.same (ids_V a1)) (.cons (.fn (.cons (.rf rfl) (.cons (.rf rfl) .nil))) .nil))) (c_q0o x2 a1 a3c1 x3 hx3) (.same (z01 rfl (z01 rfl z04))) (.cons (.box (.cons (.fn .nil) .nil)) (.cons (.box (.cons (.row rfl (z0u (fun a => z03 (e := 83) (sz := 3) z02 a) x3.2.2)) .nil)) (.cons .arr .nil))) rfl) rfl rfl) ⟨rfl, ⟨rfl, trivial⟩⟩ ?_
 iterate 3 refine gX ?_
 refine zds rfl rfl rfl (z0e z3a rfl rfl rfl rfl rfl rfl (lbE rfl) rfl) ⟨rfl, ⟨rfl, trivial⟩⟩ ?_
 refine z1u ?_
 change AO _ _ _ _ _
 refine z0j rfl rfl (z0e z3x rfl rfl rfl rfl rfl rfl (lbE rfl) rfl) ?_
 refine z0a ?_
 refine cBx ?_
 refine bR ?_
 refine sX ?_
 refine eX ?_
 obtain rfl := eI h; exact z05 ⟨_, rfl, endR (y := (BO x3.1)) 6 (Wk.refl _) rfl rfl (.same rfl) (.cons (.box (.cons (.fn (.cons (.rf rfl) (.cons (.rf rfl) .nil))) .nil)) (.cons (.box (.cons (.fn .nil) .nil)) (.cons (.box (.cons (.row rfl (z0u (fun a => z03 (e := 83) (sz := 3) z02 a) x3.2.2)) .nil)) (.cons .arr (.cons (.box (.cons (.same rfl) .nil)) (.cons (.box (.cons (.same rfl) .nil)) .nil)))))) ⟨rfl, rfl⟩⟩
theorem z62 (r_q1r : S_api_Step → V → (List S_api_Step) → (List (List S_api_Step)) → Bool → Int → Option (Bool × (List (List S_api_Step)) × Bool × Int)) (c_q1r : ∀ (a0 : S_api_Step) (a1 : V) (a2 : (List S_api_Step)) (a3c1 : (List (List S_api_Step))) (a4 : Bool) (a5 : Int) r, r_q1r a0 a1 a2 a3c1 a4 a5 = some r → z18 Tryz.prog 85 [(z00 a0), (ofV a1), (PV.pt 30 (PV.sl none 83 3 (List.map z00 a2)) 0), (PV.rf 0 0), (PV.rf 4 0), (PV.rf 5 0)] [.box 56 [(PV.fn (.func 52) [] [(PV.rf 1 0), (PV.rf 2 0)])], .box 64 [(PV.fn (.func 26) [] [])], .box 61 [(PV.sl (some 3) 30 1 (List.map (ofSl 83 3 z00) a3c1))], .arr 30 (a3c1).length, .box 4 [(BO a4)], .box 33 [(I64 a5)]] (BO r.1) [.box 56 [(PV.fn (.func 52) [] [(PV.rf 1 0), (PV.rf 2 0)])], .box 64 [(PV.fn (.func 26) [] [])], .box 61 [(PV.sl (some 3) 30 1 (List.map (ofSl 83 3 z00) r.2.1))], .arr 30 (r.2.1).length, .box 4 [(BO r.2.2.1)], .box 33 [(I64 r.2.2.2)]]) (r_q0l : V → (List S_api_Step) → (List (List S_api_Step)) → Bool → Int → Option ((List (List S_api_Step)) × Bool × Int)) (c_q0l : ∀ (a0 : V) (a1c0 : (List S_api_Step)) (a1c1c1 : (List (List S_api_Step))) (a1c2 : Bool) (a1c3 : Int) r, r_q0l a0 a1c0 a1c1c1 a1c2 a1c3 = some r → z18 Tryz.prog 84 [(ofV a0), (PV.fn (.func 85) [] [(PV.pt 30 (PV.sl none 83 3 (List.map z00 a1c0)) 0), (PV.rf 0 0), (PV.rf 4 0), (PV.rf 5 0)])] [.box 56 [(PV.fn (.func 52) [] [(PV.rf 1 0), (PV.rf 2 0)])], .box 64 [(PV.fn (.func 26) [] [])], .box 61 [(PV.sl (some 3) 30 1 (List.map (ofSl 83 3 z00) a1c1c1))], .arr 30 (a1c1c1).length, .box 4 [(BO a1c2)], .box 33 [(I64 a1c3)]] (PV.tup []) [.box 56 [(PV.fn (.func 52) [] [(PV.rf 1 0), (PV.rf 2 0)])], .box 64 [(PV.fn (.func 26) [] [])], .box 61 [(PV.sl (some 3) 30 1 (List.map (ofSl 83 3 z00) r.1))], .arr 30 (r.1).length, .box 4 [(BO r.2.1)], .box 33 [(I64 r.2.2)]]) (r_q0o : (List S_api_Step) → V → (List (List S_api_Step)) → Option (Bool × Int × (List (List S_api_Step)))) (c_q0o : ∀ (a0 : (List S_api_Step)) (a1 : V) (a2c1 : (List (List S_api_Step))) r, r_q0o a0 a1 a2c1 = some r → z18 Tryz.prog 49 [(PV.sl none 83 3 (List.map z00 a0)), (ofV a1), (PV.fn (.func 52) [] [(PV.rf 0 0), (PV.rf 1 0)])] [.box 64 [(PV.fn (.func 26) [] [])], .box 61 [(PV.sl (some 2) 30 1 (List.map (ofSl 83 3 z00) a2c1))], .arr 30 (a2c1).length] (PV.tup [(BO r.1), (I64 r.2.1)]) [.box 64 [(PV.fn (.func 26) [] [])], .box 61 [(PV.sl (some 2) 30 1 (List.map (ofSl 83 3 z00) r.2.2))], .arr 30 (r.2.2).length]) (a0 : V) (a1c0 : (List S_api_Step)) (a1c1c1 : (List (List S_api_Step))) (a1c2 : Bool) (a1c3 : Int) (r : ((List (List S_api_Step)) × Bool × Int)) (h : zl1 r_q1r r_q0l r_q0o a0 a1c0 a1c1c1 a1c2 a1c3 = some r) : z18 Tryz.prog 84 [(ofV a0), (PV.fn (.func 85) [] [(PV.pt 30 (PV.sl none 83 3 (List.map z00 a1c0)) 0), (PV.rf 0 0), (PV.rf 4 0), (PV.rf 5 0)])] [.box 56 [(PV.fn (.func 52) [] [(PV.rf 1 0), (PV.rf 2 0)])], .box 64 [(PV.fn (.func 26) [] [])], .box 61 [(PV.sl (some 3) 30 1 (List.map (ofSl 83 3 z00) a1c1c1))], .arr 30 (a1c1c1).length, .box 4 [(BO a1c2)], .box 33 [(I64 a1c3)]] (PV.tup []) [.box 56 [(PV.fn (.func 52) [] [(PV.rf 1 0), (PV.rf 2 0)])], .box 64 [(PV.fn (.func 26) [] [])], .box 61 [(PV.sl (some 3) 30 1 (List.map (ofSl 83 3 z00) r.1))], .arr 30 (r.1).length, .box 4 [(BO r.2.1)], .box 33 [(I64 r.2.2)]] := by
 unfold zl1 at h
 refine z0d Tryz.func84 rfl Tryz.ntmps84 Tryz.results84 rfl (z0g ?_)
 change BW _ _ _ ⟨[(0, (ofV a0)), (1, (PV.fn (.func 85) [] [(PV.pt 30 (PV.sl none 83 3 (List.map z00 a1c0)) 0), (PV.rf 0 0), (PV.rf 4 0), (PV.rf 5 0)]))], [.box 56 [(PV.fn (.func 52) [] [(PV.rf 1 0), (PV.rf 2 0)])], .box 64 [(PV.fn (.func 26) [] [])], .box 61 [(PV.sl (some 3) 30 1 (List.map (ofSl 83 3 z00) a1c1c1))], .arr 30 (a1c1c1).length, .box 4 [(BO a1c2)], .box 33 [(I64 a1c3)]], _⟩ _
 refine z2t (ι := ((List (List S_api_Step)) × Bool × Int)) (fun i => z9f r_q1r a0 a1c0 i.1 i.2.1 i.2.2 = some r) (fun i => [(0, (ofV a0)), (1, (PV.fn (.func 85) [] [(PV.pt 30 (PV.sl none 83 3 (List.map z00 a1c0)) 0), (PV.rf 0 0), (PV.rf 4 0), (PV.rf 5 0)]))]) (fun i => [.box 56 [(PV.fn (.func 52) [] [(PV.rf 1 0), (PV.rf 2 0)])], .box 64 [(PV.fn (.func 26) [] [])], .box 61 [(PV.sl (some 3) 30 1 (List.map (ofSl 83 3 z00) i.1))], .arr 30 (i.1).length, .box 4 [(BO i.2.1)], .box 33 [(I64 i.2.2)]]) ?_ ?_ ?_
 intro i; exact ⟨lbE rfl, ⟨(z09 (ids_V _)), ⟨(il_fn (z0s (z09 (z13 (z03 z02 a1c0))) (z0s (il_rf rfl) (z0s (il_rf rfl) (z0s (il_rf rfl) z24))))), trivial⟩⟩, ⟨⟨(il_fn (z0s (il_rf rfl) (z0s (il_rf rfl) z24))), trivial⟩, ⟨⟨(z09 rfl), trivial⟩, ⟨⟨(z3r rfl (z0u (fun a => z03 (e := 83) (sz := 3) z02 a) _)), trivial⟩, ⟨⟨(z09 rfl), trivial⟩, ⟨⟨(z09 rfl), trivial⟩, trivial⟩⟩⟩⟩⟩⟩
 rintro ⟨s1, s2, s3⟩ h; replace h : z9f r_q1r a0 a1c0 s1 s2 s3 = some r := h; unfold z9f at h
 change BW _ _ _ ⟨[(0, (ofV a0)), (1, (PV.fn (.func 85) [] [(PV.pt 30 (PV.sl none 83 3 (List.map z00 a1c0)) 0), (PV.rf 0 0), (PV.rf 4 0), (PV.rf 5 0)]))], [.box 56 [(PV.fn (.func 52) [] [(PV.rf 1 0), (PV.rf 2 0)])], .box 64 [(PV.fn (.func 26) [] [])], .box 61 [(PV.sl (some 3) 30 1 (List.map (ofSl 83 3 z00) s1))], .arr 30 (s1).length, .box 4 [(BO s2)], .box 33 [(I64 s3)]], _⟩ _
 refine bR ?_
 refine sX ?_
 obtain ⟨x4, hx4, h⟩ := obind h
 refine sS rfl rfl rfl (z06 rfl zvg rfl (wkr .nil) ⟨(ids_V a0), trivial⟩ (ztf a0 x4 hx4) (z01 (z03 z0r x4.1) (z01 rfl z04))) ?_
 iterate 4 refine sX ?_
 refine eX ?_
 refine bR ?_
 iterate 2 refine sX ?_
 refine eX ?_
 refine z0h ?_
 refine cBx ?_
 unfold zei at h
 refine z2u (σ := (Nat × (List (List S_api_Step)) × Bool × Int)) (fun i => [(1, (PV.fn (.func 85) [] [(PV.pt 30 (PV.sl none 83 3 (List.map z00 a1c0)) 0), (PV.rf 0 0), (PV.rf 4 0), (PV.rf 5 0)])), (37, (PV.sl none 69 2 (List.map ofFld x4.1))), (38, (I64 ((((x4.1).length : Nat) : Int)))), (39, (I64 (((i.1 : Nat) : Int))))]) (fun i => [.box 56 [(PV.fn (.func 52) [] [(PV.rf 1 0), (PV.rf 2 0)])], .box 64 [(PV.fn (.func 26) [] [])], .box 61 [(PV.sl (some 3) 30 1 (List.map (ofSl 83 3 z00) i.2.1))], .arr 30 (i.2.1).length, .box 4 [(BO i.2.2.1)], .box 33 [(I64 i.2.2.2)]]) (0, s1, s2, s3) h ?_ ?_ ?_
 intro i; exact ⟨lbE rfl, ⟨(il_fn (z0s (z09 (z13 (z03 z02 a1c0))) (z0s (il_rf rfl) (z0s (il_rf rfl) (z0s (il_rf rfl) z24))))), ⟨(z09 (z03 z0r _)), ⟨(z09 rfl), ⟨(z09 rfl), trivial⟩⟩⟩⟩, ⟨⟨(il_fn (z0s (il_rf rfl) (z0s (il_rf rfl) z24))), trivial⟩, ⟨⟨(z09 rfl), trivial⟩, ⟨⟨(z3r rfl (z0u (fun a => z03 (e := 83) (sz := 3) z02 a) _)), trivial⟩, ⟨⟨(z09 rfl), trivial⟩, ⟨⟨(z09 rfl), trivial⟩, trivial⟩⟩⟩⟩⟩⟩
 exact jN
 rintro g1_f ⟨s5, s6, s7, s8⟩ h; replace h : z5r r_q1r a1c0 x4 (fun y0 y1 y2 y3 => g1_f (y0, y1, y2, y3)) s5 s6 s7 s8 = some r := h; unfold z5r at h
 change BW _ _ _ ⟨[(1, (PV.fn (.func 85) [] [(PV.pt 30 (PV.sl none 83 3 (List.map z00 a1c0)) 0), (PV.rf 0 0), (PV.rf 4 0), (PV.rf 5 0)])), (37, (PV.sl none 69 2 (List.map ofFld x4.1))), (38, (I64 ((((x4.1).length : Nat) : Int)))), (39, (I64 (((s5 : Nat) : Int))))], [.box 56 [(PV.fn (.func 52) [] [(PV.rf 1 0), (PV.rf 2 0)])], .box 64 [(PV.fn (.func 26) [] [])], .box 61 [(PV.sl (some 3) 30 1 (List.map (ofSl 83 3 z00) s6))], .arr 30 (s6).length, .box 4 [(BO s7)], .box 33 [(I64 s8)]], _⟩ _
 refine bR ?_
 refine eX ?_
 refine z08 ?_
 refine z3j (t := 37) rfl fun hb10 => ?_
 try rw [List.length_map] at hb10
 refine cX h rfl ?_ ?_
 intro hc9 h
 have hc9_ := of_decide_eq_true hc9
 refine z07 ?_
 refine cBx ?_
 refine z08 ?_
 refine z0h ?_
 refine cBx ?_
 refine bR ?_
 obtain ⟨x11, hx11, h⟩ := obind h
 refine sS rfl rfl rfl (z1r (i := s5) Tryz.underlying71 z0z rfl rfl rfl hx11 rfl) ?_
 refine sX ?_
 refine sS rfl rfl rfl ((z14 z0z rfl).cast (H'' := [.box 56 [(PV.fn (.func 52) [] [(PV.rf 1 0), (PV.rf 2 0)])], .box 64 [(PV.fn (.func 26) [] [])], .box 61 [(PV.sl (some 3) 30 1 (List.map (ofSl 83 3 z00) s6))], .arr 30 (s6).length, .box 4 [(BO s7)], .box 33 [(I64 s8)], .box 69 [(z0i []), (ofV V.nil)]]) rfl (by simp only [mk_nil]; rfl)) ?_
 refine z0j rfl rfl (z0e z0z rfl rfl rfl rfl rfl rfl (lbE rfl) (by show List.all [(z0i x11.1), (ofV x11.2)] z6n = true; simp only [List.all_cons, List.all_nil, zb5, z3v, Bool.and_true, Bool.true_and]; try rfl)) ?_
 refine z0a ?_
 refine cBx ?_
 refine bR ?_
 iterate 3 refine sX ?_
 refine sS rfl rfl rfl (z1g (cs := [(z0i x11.1), (BO false), (I64 0)]) z8e z1h rfl rfl rfl rfl) ?_
 iterate 2 refine sX ?_
 obtain ⟨x12, hx12, h⟩ := obind h
 refine sS rfl rfl rfl (Op1.cast (y := (BO x12.1)) (H'' := [.box 56 [(PV.fn (.func 52) [] [(PV.rf 1 0), (PV.rf 2 0)])], .box 64 [(PV.fn (.func 26) [] [])], .box 61 [(PV.sl (some 3) 30 1 (List.map (ofSl 83 3 z00) x12.2.1))], .arr 30 (x12.2.1).length, .box 4 [(BO x12.2.2.1)], .box 33 [(I64 x12.2.2.2)], .box 69 [(z0i x11.1), (ofV x11.2)]]) (z1b [0, 1, 2, 3, 4, 5] (.held rfl rfl) zvh rfl (wkr (wkr (wkr (wkr (wkr (wkr .nil)))))) rfl (.cons rfl (.box (.cons (.fn (.cons (.rf rfl) (.cons (.rf rfl) .nil))) .nil)) (.cons rfl (.box (.cons (.fn .nil) .nil)) (.cons rfl (.box (.cons (.row rfl (z0u (fun a => z03 (e := 83) (sz := 3) z02 a) s6)) .nil)) (.cons rfl .arr (.cons rfl (.box (.cons (.same rfl) .nil)) (.cons rfl (.box (.cons (.same rfl) .nil)) .nil)))))) (.cons (.same (z02 (S_api_Step.mk x11.1 false 0))) (.cons (.same (ids_V x11.2)) (.cons (.same (z13 (z03 z02 a1c0))) (.cons (.rf rfl) (.cons (.rf rfl) (.cons (.rf rfl) .nil)))))) (c_q1r (S_api_Step.mk x11.1 false 0) x11.2 a1c0 s6 s7 s8 x12 hx12) (.same rfl) (.cons (.box (.cons (.fn (.cons (.rf rfl) (.cons (.rf rfl) .nil))) .nil)) (.cons (.box (.cons (.fn .nil) .nil)) (.cons (.box (.cons (.row rfl (z0u (fun a => z03 (e := 83) (sz := 3) z02 a) x12.2.1)) .nil)) (.cons .arr (.cons (.box (.cons (.same rfl) .nil)) (.cons (.box (.cons (.same rfl) .nil)) .nil)))))) rfl) rfl rfl) ?_
 refine eX ?_
 refine cX h rfl ?_ ?_
 intro hc13 h
 obtain rfl := eI h; exact z05 ⟨_, rfl, endR (y := (PV.tup [])) 6 (Wk.refl _) rfl rfl (.tup .nil) (.cons (.box (.cons (.fn (.cons (.rf rfl) (.cons (.rf rfl) .nil))) .nil)) (.cons (.box (.cons (.fn .nil) .nil)) (.cons (.box (.cons (.row rfl (z0u (fun a => z03 (e := 83) (sz := 3) z02 a) x12.2.1)) .nil)) (.cons .arr (.cons (.box (.cons (.same rfl) .nil)) (.cons (.box (.cons (.same rfl) .nil)) .nil)))))) ⟨rfl, rfl⟩⟩
 intro hc13 h
 refine z07 ?_
 refine cBx ?_
 refine z0f ?_
 refine sS rfl rfl rfl (z27 (k := s5) (c := 1) rfl rfl rfl (by omega)) ?_
 refine sX (z0a ?_)
 exact ⟨rfl, ((s5 + 1), x12.2.1, x12.2.2.1, x12.2.2.2), h, jN⟩
 intro hc9 h
 refine z1z ?_
 change ∃ xs, _ = some xs ∧ EndOk _ _ _ _
 obtain rfl := Option.some.inj h
 exact ⟨_, rfl, endR (y := (PV.tup [])) 6 (Wk.refl _) rfl rfl (.tup .nil) (.cons (.box (.cons (.fn (.cons (.rf rfl) (.cons (.rf rfl) .nil))) .nil)) (.cons (.box (.cons (.fn .nil) .nil)) (.cons (.box (.cons (.row rfl (z0u (fun a => z03 (e := 83) (sz := 3) z02 a) s6)) .nil)) (.cons .arr (.cons (.box (.cons (.same rfl) .nil)) (.cons (.box (.cons (.same rfl) .nil)) .nil)))))) ⟨rfl, rfl⟩⟩
 refine bR ?_
 refine sX ?_
 refine sS rfl rfl rfl (z1w rfl rfl) ?_
 iterate 4 refine sX ?_
 refine eX ?_
 refine bR ?_
 refine eX ?_
 refine cX h rfl ?_ ?_
 intro hc14 h
 refine bR ?_
 iterate 2 refine sX ?_
 refine eX ?_
 refine z0h ?_
 refine cBx ?_
 unfold zeh at h
 refine z2u (σ := (Nat × (List (List S_api_Step)) × Bool × Int)) (fun i => [(0, (ofV a0)), (1, (PV.fn (.func 85) [] [(PV.pt 30 (PV.sl none 83 3 (List.map z00 a1c0)) 0), (PV.rf 0 0), (PV.rf 4 0), (PV.rf 5 0)])), (18, (PV.sl none 20 1 (List.map ofV (a0).asList))), (19, (I64 (((((a0).asList).length : Nat) : Int)))), (20, (I64 (((i.1 : Nat) : Int))))]) (fun i => [.box 56 [(PV.fn (.func 52) [] [(PV.rf 1 0), (PV.rf 2 0)])], .box 64 [(PV.fn (.func 26) [] [])], .box 61 [(PV.sl (some 3) 30 1 (List.map (ofSl 83 3 z00) i.2.1))], .arr 30 (i.2.1).length, .box 4 [(BO i.2.2.1)], .box 33 [(I64 i.2.2.2)]]) (0, a1c1c1, a1c2, a1c3) h ?_ ?_ ?_
 intro i; exact ⟨lbE rfl, ⟨(z09 (ids_V _)), ⟨(il_fn (z0s (z09 (z13 (z03 z02 a1c0))) (z0s (il_rf rfl) (z0s (il_rf rfl) (z0s (il_rf rfl) z24))))), ⟨(z09 (z03 ids_V _)), ⟨(z09 rfl), ⟨(z09 rfl), trivial⟩⟩⟩⟩⟩, ⟨⟨(il_fn (z0s (il_rf rfl) (z0s (il_rf rfl) z24))), trivial⟩, ⟨⟨(z09 rfl), trivial⟩, ⟨⟨(z3r rfl (z0u (fun a => z03 (e := 83) (sz := 3) z02 a) _)), trivial⟩, ⟨⟨(z09 rfl), trivial⟩, ⟨⟨(z09 rfl), trivial⟩, trivial⟩⟩⟩⟩⟩⟩
 exact jN
 rintro g1_f ⟨s15, s16, s17, s18⟩ h; replace h : z5q r_q1r a0 a1c0 (fun y0 y1 y2 y3 => g1_f (y0, y1, y2, y3)) s15 s16 s17 s18 = some r := h; unfold z5q at h
 change BW _ _ _ ⟨[(0, (ofV a0)), (1, (PV.fn (.func 85) [] [(PV.pt 30 (PV.sl none 83 3 (List.map z00 a1c0)) 0), (PV.rf 0 0), (PV.rf 4 0), (PV.rf 5 0)])), (18, (PV.sl none 20 1 (List.map ofV (a0).asList))), (19, (I64 (((((a0).asList).length : Nat) : Int)))), (20, (I64 (((s15 : Nat) : Int))))], [.box 56 [(PV.fn (.func 52) [] [(PV.rf 1 0), (PV.rf 2 0)])], .box 64 [(PV.fn (.func 26) [] [])], .box 61 [(PV.sl (some 3) 30 1 (List.map (ofSl 83 3 z00) s16))], .arr 30 (s16).length, .box 4 [(BO s17)], .box 33 [(I64 s18)]], _⟩ _
 refine bR ?_
 refine eX ?_
 refine z08 ?_
 refine z3j (t := 18) rfl fun hb20 => ?_
 try rw [List.length_map] at hb20
 refine cX h rfl ?_ ?_
 intro hc19 h
 have hc19_ := of_decide_eq_true hc19
 refine z07 ?_
 refine cBx ?_
 refine z08 ?_
 refine z0h ?_
 refine cBx ?_
 refine bR ?_
 refine sX ?_
 obtain ⟨x21, hx21, h⟩ := obind h
 refine sS rfl rfl rfl (z1r (i := s15) Tryz.underlying67 z1t rfl rfl rfl hx21 rfl) ?_
 refine sS rfl rfl rfl (z1y (y := (ofV x21)) Tryz.underlying20 rfl rfl rfl (by rw [z0t]; rfl)) ?_
 refine sX ?_
 refine eX ?_
 refine bR ?_
 iterate 2 refine sX ?_
 refine sS rfl rfl rfl (z1g (cs := [(z0i []), (BO true), (I64 (((s15 : Nat) : Int)))]) z8e z1h rfl rfl rfl rfl) ?_
 refine sX ?_
 obtain ⟨x22, hx22, h⟩ := obind h
 refine sS rfl rfl rfl (Op1.cast (y := (BO x22.1)) (H'' := [.box 56 [(PV.fn (.func 52) [] [(PV.rf 1 0), (PV.rf 2 0)])], .box 64 [(PV.fn (.func 26) [] [])], .box 61 [(PV.sl (some 3) 30 1 (List.map (ofSl 83 3 z00) x22.2.1))], .arr 30 (x22.2.1).length, .box 4 [(BO x22.2.2.1)], .box 33 [(I64 x22.2.2.2)]]) (z1b [0, 1, 2, 3, 4, 5] (.held rfl rfl) zvh rfl (wkr (wkr (wkr (wkr (wkr (wkr .nil)))))) rfl (.cons rfl (.box (.cons (.fn (.cons (.rf rfl) (.cons (.rf rfl) .nil))) .nil)) (.cons rfl (.box (.cons (.fn .nil) .nil)) (.cons rfl (.box (.cons (.row rfl (z0u (fun a => z03 (e := 83) (sz := 3) z02 a) s16)) .nil)) (.cons rfl .arr (.cons rfl (.box (.cons (.same rfl) .nil)) (.cons rfl (.box (.cons (.same rfl) .nil)) .nil)))))) (.cons (.same (z02 (S_api_Step.mk [] true ((s15 : Nat) : Int)))) (.cons (.same (ids_V x21)) (.cons (.same (z13 (z03 z02 a1c0))) (.cons (.rf rfl) (.cons (.rf rfl) (.cons (.rf rfl) .nil)))))) (c_q1r (S_api_Step.mk [] true ((s15 : Nat) : Int)) x21 a1c0 s16 s17 s18 x22 hx22) (.same rfl) (.cons (.box (.cons (.fn (.cons (.rf rfl) (.cons (.rf rfl) .nil))) .nil)) (.cons (.box (.cons (.fn .nil) .nil)) (.cons (.box (.cons (.row rfl (z0u (fun a => z03 (e := 83) (sz := 3) z02 a) x22.2.1)) .nil)) (.cons .arr (.cons (.box (.cons (.same rfl) .nil)) (.cons (.box (.cons (.same rfl) .nil)) .nil)))))) rfl) rfl rfl) ?_
 refine eX ?_
 refine cX h rfl ?_ ?_
 intro hc23 h
 obtain rfl := eI h; exact z05 ⟨_, rfl, endR (y := (PV.tup [])) 6 (Wk.refl _) rfl rfl (.tup .nil) (.cons (.box (.cons (.fn (.cons (.rf rfl) (.cons (.rf rfl) .nil))) .nil)) (.cons (.box (.cons (.fn .nil) .nil)) (.cons (.box (.cons (.row rfl (z0u (fun a => z03 (e := 83) (sz := 3) z02 a) x22.2.1)) .nil)) (.cons .arr (.cons (.box (.cons (.same rfl) .nil)) (.cons (.box (.cons (.same rfl) .nil)) .nil)))))) ⟨rfl, rfl⟩⟩
 intro hc23 h
 refine z07 ?_
 refine cBx ?_
 refine z0f ?_
 refine sS rfl rfl rfl (z27 (k := s15) (c := 1) rfl rfl rfl (by omega)) ?_
 refine sX (z0a ?_)
 exact ⟨rfl, ((s15 + 1), x22.2.1, x22.2.2.1, x22.2.2.2), h, jN⟩
 intro hc19 h
 refine z1z ?_
 exact ⟨rfl, (s16, s17, s18), h, jN⟩
 intro hc14 h
 refine z07 ?_
 exact ⟨rfl, (a1c1c1, a1c2, a1c3), h, jN⟩
theorem z6p (r_q1r : S_api_Step → V → (List S_api_Step) → (List (List S_api_Step)) → Bool → Int → Option (Bool × (List (List S_api_Step)) × Bool × Int)) (c_q1r : ∀ (a0 : S_api_Step) (a1 : V) (a2 : (List S_api_Step)) (a3c1 : (List (List S_api_Step))) (a4 : Bool) (a5 : Int) r, r_q1r a0 a1 a2 a3c1 a4 a5 = some r → z18 Tryz.prog 85 [(z00 a0), (ofV a1), (PV.pt 30 (PV.sl none 83 3 (List.map z00 a2)) 0), (PV.rf 0 0), (PV.rf 4 0), (PV.rf 5 0)] [.box 56 [(PV.fn (.func 52) [] [(PV.rf 1 0), (PV.rf 2 0)])], .box 64 [(PV.fn (.func 26) [] [])], .box 61 [(PV.sl (some 3) 30 1 (List.map (ofSl 83 3 z00) a3c1))], .arr 30 (a3c1).length, .box 4 [(BO a4)], .box 33 [(I64 a5)]] (BO r.1) [.box 56 [(PV.fn (.func 52) [] [(PV.rf 1 0), (PV.rf 2 0)])], .box 64 [(PV.fn (.func 26) [] [])], .box 61 [(PV.sl (some 3) 30 1 (List.map (ofSl 83 3 z00) r.2.1))], .arr 30 (r.2.1).length, .box 4 [(BO r.2.2.1)], .box 33 [(I64 r.2.2.2)]]) (r_q0l : V → (List S_api_Step) → (List (List S_api_Step)) → Bool → Int → Option ((List (List S_api_Step)) × Bool × Int)) (c_q0l : ∀ (a0 : V) (a1c0 : (List S_api_Step)) (a1c1c1 : (List (List S_api_Step))) (a1c2 : Bool) (a1c3 : Int) r, r_q0l a0 a1c0 a1c1c1 a1c2 a1c3 = some r → z18 Tryz.prog 84 [(ofV a0), (PV.fn (.func 85) [] [(PV.pt 30 (PV.sl none 83 3 (List.map z00 a1c0)) 0), (PV.rf 0 0), (PV.rf 4 0), (PV.rf 5 0)])] [.box 56 [(PV.fn (.func 52) [] [(PV.rf 1 0), (PV.rf 2 0)])], .box 64 [(PV.fn (.func 26) [] [])], .box 61 [(PV.sl (some 3) 30 1 (List.map (ofSl 83 3 z00) a1c1c1))], .arr 30 (a1c1c1).length, .box 4 [(BO a1c2)], .box 33 [(I64 a1c3)]] (PV.tup []) [.box 56 [(PV.fn (.func 52) [] [(PV.rf 1 0), (PV.rf 2 0)])], .box 64 [(PV.fn (.func 26) [] [])], .box 61 [(PV.sl (some 3) 30 1 (List.map (ofSl 83 3 z00) r.1))], .arr 30 (r.1).length, .box 4 [(BO r.2.1)], .box 33 [(I64 r.2.2)]]) (r_q0o : (List S_api_Step) → V → (List (List S_api_Step)) → Option (Bool × Int × (List (List S_api_Step)))) (c_q0o : ∀ (a0 : (List S_api_Step)) (a1 : V) (a2c1 : (List (List S_api_Step))) r, r_q0o a0 a1 a2c1 = some r → z18 Tryz.prog 49 [(PV.sl none 83 3 (List.map z00 a0)), (ofV a1), (PV.fn (.func 52) [] [(PV.rf 0 0), (PV.rf 1 0)])] [.box 64 [(PV.fn (.func 26) [] [])], .box 61 [(PV.sl (some 2) 30 1 (List.map (ofSl 83 3 z00) a2c1))], .arr 30 (a2c1).length] (PV.tup [(BO r.1), (I64 r.2.1)]) [.box 64 [(PV.fn (.func 26) [] [])], .box 61 [(PV.sl (some 2) 30 1 (List.map (ofSl 83 3 z00) r.2.2))], .arr 30 (r.2.2).length]) (a0 : (List S_api_Step)) (a1 : V) (a2c1 : (List (List S_api_Step))) (r : (Bool × Int × (List (List S_api_Step)))) (h : zl0 r_q1r r_q0l r_q0o a0 a1 a2c1 = some r) : z18 Tryz.prog 49 [(PV.sl none 83 3 (List.map z00 a0)), (ofV a1), (PV.fn (.func 52) [] [(PV.rf 0 0), (PV.rf 1 0)])] [.box 64 [(PV.fn (.func 26) [] [])], .box 61 [(PV.sl (some 2) 30 1 (List.map (ofSl 83 3 z00) a2c1))], .arr 30 (a2c1).length] (PV.tup [(BO r.1), (I64 r.2.1)]) [.box 64 [(PV.fn (.func 26) [] [])], .box 61 [(PV.sl (some 2) 30 1 (List.map (ofSl 83 3 z00) r.2.2))], .arr 30 (r.2.2).length] := by
 unfold zl0 at h
 refine z0d Tryz.func49 rfl Tryz.ntmps49 Tryz.results49 rfl (z0g ?_)
 change BW _ _ _ ⟨[(0, (PV.sl none 83 3 (List.map z00 a0))), (1, (ofV a1)), (2, (PV.fn (.func 52) [] [(PV.rf 0 0), (PV.rf 1 0)]))], [.box 64 [(PV.fn (.func 26) [] [])], .box 61 [(PV.sl (some 2) 30 1 (List.map (ofSl 83 3 z00) a2c1))], .arr 30 (a2c1).length], _⟩ _
 refine bR ?_
 refine sX ?_
 refine sS rfl rfl rfl ((zb4 rfl rfl (z3t _)).cast rfl (by rw [z0t])) ?_
 refine sX ?_
 refine sS rfl rfl rfl (z14 z3a rfl) ?_
 refine sS rfl rfl rfl (z14 z3x rfl) (z0a ?_)
 refine cBx ?_
 refine z08 ?_
 refine z3p 3 3 (y := (PV.pt 30 (PV.sl none 83 3 (List.map z00 a0)) 0)) rfl rfl (Wk.pt (x := .agg [(PV.sl none 83 3 (List.map z00 a0))]) (y := (PV.sl none 83 3 (List.map z00 a0))) (wkr .nil)) ?_
 refine z3p 4 4 (y := (PV.pt 20 (ofV a1) 0)) rfl rfl (Wk.pt (x := .agg [(ofV a1)]) (y := (ofV a1)) (by rw [z0t]; exact (wkr .nil))) ?_
 refine z0f ?_
 refine sS rfl rfl rfl (z14 z8f rfl) ?_
 refine z0j rfl rfl (z0e z8f rfl rfl rfl rfl rfl rfl (lbE rfl) rfl) ?_
 refine z0a ?_
 refine cBx ?_
 refine z08 ?_
 refine bR ?_
 refine sS rfl rfl rfl (z69 rfl rfl rfl) ?_
 obtain ⟨x1, hx1, h⟩ := obind h
 refine sS rfl rfl rfl (Op1.cast (y := (BO x1.1)) (H'' := [.box 64 [(PV.fn (.func 26) [] [])], .box 61 [(PV.sl (some 2) 30 1 (List.map (ofSl 83 3 z00) x1.2.1))], .arr 30 (x1.2.1).length, .dead, .dead, .box 56 [(PV.fn (.func 52) [] [(PV.rf 0 0), (PV.rf 1 0)])], .box 4 [(BO false)], .box 33 [(I64 0)], .box 3 [(I64 x1.2.2)]]) (z1b [5, 0, 1, 2, 8] (.func rfl) Z02 rfl (wkr .nil) rfl (.cons rfl (.box (.cons (.fn (.cons (.rf rfl) (.cons (.rf rfl) .nil))) .nil)) (.cons rfl (.box (.cons (.fn .nil) .nil)) (.cons rfl (.box (.cons (.row rfl (z0u (fun a => z03 (e := 83) (sz := 3) z02 a) a2c1)) .nil)) (.cons rfl .arr (.cons rfl (.box (.cons (.same rfl) .nil)) .nil))))) (.cons (.fn (.cons (.rf rfl) (.cons (.same (z13 (z03 z02 a0))) (.cons (.same (z13 (ids_V a1))) (.cons (.rf rfl) .nil))))) .nil) (Z5g a2c1 a0 a1 0 x1 hx1) (.same rfl) (.cons (.box (.cons (.fn (.cons (.rf rfl) (.cons (.rf rfl) .nil))) .nil)) (.cons (.box (.cons (.fn .nil) .nil)) (.cons (.box (.cons (.row rfl (z0u (fun a => z03 (e := 83) (sz := 3) z02 a) x1.2.1)) .nil)) (.cons .arr (.cons (.box (.cons (.same rfl) .nil)) .nil))))) rfl) rfl rfl) (z0a ?_)
 refine cBx ?_
 refine cX h rfl ?_ ?_
 intro hc2 h
 refine bR ?_
 refine z0j rfl rfl (z0e z3a rfl rfl rfl rfl rfl rfl (lbE rfl) rfl) ?_
 refine z0j rfl rfl (z0e z3x rfl rfl rfl rfl rfl rfl (lbE rfl) rfl) ?_
 refine z0a ?_
 refine cBx ?_
 obtain rfl := eI h; exact z05 ⟨_, rfl, endR (y := (PV.tup [(BO false), (I64 9)])) 3 (Wk.refl _) rfl rfl (.tup (.cons (.same rfl) (.cons (.same rfl) .nil))) (.cons (.box (.cons (.fn .nil) .nil)) (.cons (.box (.cons (.row rfl (z0u (fun a => z03 (e := 83) (sz := 3) z02 a) x1.2.1)) .nil)) (.cons .arr .nil))) ⟨rfl, rfl⟩⟩
 intro hc2 h
 refine z07 ?_
 refine cBx ?_
 refine z08 ?_
 refine bR ?_
 refine eX ?_
 refine z0h ?_
 refine cBx ?_
 refine bR ?_
 refine sX ?_
 refine eX ?_
 refine cX h rfl ?_ ?_
 intro hc3 h
 refine z07 ?_
 refine cBx ?_
 refine bR ?_
 refine z0j rfl rfl (z0e z3a rfl rfl rfl rfl rfl rfl (lbE rfl) rfl) ?_
 refine z0a ?_
 refine cBx ?_
 refine bR ?_
 refine sS rfl rfl rfl (z1y (y := (ofV a1)) Tryz.underlying20 rfl rfl rfl (by rw [z0t]; rfl)) ?_
 refine sS rfl rfl rfl (z69 rfl rfl rfl) ?_
 obtain ⟨x4, hx4, h⟩ := obind h
 refine sS rfl rfl rfl (Op1.cast (y := (PV.tup [])) (H'' := [.box 64 [(PV.fn (.func 26) [] [])], .box 61 [(PV.sl (some 2) 30 1 (List.map (ofSl 83 3 z00) x4.1))], .arr 30 (x4.1).length, .dead, .dead, .box 56 [(PV.fn (.func 52) [] [(PV.rf 0 0), (PV.rf 1 0)])], .box 4 [(BO x4.2.1)], .box 33 [(I64 x4.2.2)], .box 3 [(I64 x1.2.2)]]) (z1b [5, 0, 1, 2, 6, 7] (.func rfl) Z01 rfl (wkr (wkr .nil)) rfl (.cons rfl (.box (.cons (.fn (.cons (.rf rfl) (.cons (.rf rfl) .nil))) .nil)) (.cons rfl (.box (.cons (.fn .nil) .nil)) (.cons rfl (.box (.cons (.row rfl (z0u (fun a => z03 (e := 83) (sz := 3) z02 a) x1.2.1)) .nil)) (.cons rfl .arr (.cons rfl (.box (.cons (.same rfl) .nil)) (.cons rfl (.box (.cons (.same rfl) .nil)) .nil)))))) (.cons (.same (ids_V a1)) (.cons (.fn (.cons (.same (z13 (z03 z02 a0))) (.cons (.rf rfl) (.cons (.rf rfl) (.cons (.rf rfl) .nil))))) .nil)) (c_q0l a1 a0 x1.2.1 true 0 x4 hx4) (.same z04) (.cons (.box (.cons (.fn (.cons (.rf rfl) (.cons (.rf rfl) .nil))) .nil)) (.cons (.box (.cons (.fn .nil) .nil)) (.cons (.box (.cons (.row rfl (z0u (fun a => z03 (e := 83) (sz := 3) z02 a) x4.1)) .nil)) (.cons .arr (.cons (.box (.cons (.same rfl) .nil)) (.cons (.box (.cons (.same rfl) .nil)) .nil)))))) rfl) rfl rfl) (z0a ?_)
 refine cBx ?_
 refine z08 (z1l 3 [0, 2] [7] mo (by kernel_rfl) ?_)
 refine z41 rfl rfl rfl rfl ((zk8 Tryz.underlying4 rfl rfl rfl rfl rfl)) ⟨rfl, trivial⟩ ?_
 refine gX ?_
 refine zds rfl rfl rfl (z0e z3a rfl rfl rfl rfl rfl rfl (lbE rfl) rfl) ⟨rfl, trivial⟩ ?_
 refine z1u ?_
 change AO _ _ _ _ _
 refine z0j rfl rfl (z0e z3x rfl rfl rfl rfl rfl rfl (lbE rfl) rfl) ?_
 refine z0a ?_
 refine cBx ?_
 obtain rfl := eI h; exact z05 ⟨_, rfl, endR (y := (PV.tup [(BO x4.2.1), (I64 x4.2.2)])) 3 (Wk.refl _) rfl rfl (.tup (.cons (.same rfl) (.cons (.same rfl) .nil))) (.cons (.box (.cons (.fn .nil) .nil)) (.cons (.box (.cons (.row rfl (z0u (fun a => z03 (e := 83) (sz := 3) z02 a) x4.1)) .nil)) (.cons .arr .nil))) ⟨rfl, rfl⟩⟩
 intro hc3 h
 refine bR ?_
 refine sX ?_
 refine eX ?_
 refine cX h rfl ?_ ?_
 intro hc5 h
 refine bR ?_
 refine z0j rfl rfl (z0e z3a rfl rfl rfl rfl rfl rfl (lbE rfl) rfl) ?_
 refine z0j rfl rfl (z0e z3x rfl rfl rfl rfl rfl rfl (lbE rfl) rfl) ?_
 refine z0a ?_
 refine cBx ?_
 obtain rfl := eI h; exact z05 ⟨_, rfl, endR (y := (PV.tup [(BO true), (I64 0)])) 3 (Wk.refl _) rfl rfl (.tup (.cons (.same rfl) (.cons (.same rfl) .nil))) (.cons (.box (.cons (.fn .nil) .nil)) (.cons (.box (.cons (.row rfl (z0u (fun a => z03 (e := 83) (sz := 3) z02 a) x1.2.1)) .nil)) (.cons .arr .nil))) ⟨rfl, rfl⟩⟩
 intro hc5 h
 refine bR ?_
 refine sX ?_
 refine eX ?_
 refine cX h rfl ?_ ?_
 intro hc6 h
 refine bR ?_
 refine z0j rfl rfl (z0e z3a rfl rfl rfl rfl rfl rfl (lbE rfl) rfl) ?_
 refine z0j rfl rfl (z0e z3x rfl rfl rfl rfl rfl rfl (lbE rfl) rfl) ?_
 refine z0a ?_
 refine cBx ?_
 obtain rfl := eI h; exact z05 ⟨_, rfl, endR (y := (PV.tup [(BO false), (I64 0)])) 3 (Wk.refl _) rfl rfl (.tup (.cons (.same rfl) (.cons (.same rfl) .nil))) (.cons (.box (.cons (.fn .nil) .nil)) (.cons (.box (.cons (.row rfl (z0u (fun a => z03 (e := 83) (sz := 3) z02 a) x1.2.1)) .nil)) (.cons .arr .nil))) ⟨rfl, rfl⟩⟩
 intro hc6 h
 refine bR ?_
 refine z0j rfl rfl (z0e z3a rfl rfl rfl rfl rfl rfl (lbE rfl) rfl) ?_
 refine z0j rfl rfl (z0e z3x rfl rfl rfl rfl rfl rfl (lbE rfl) rfl) ?_
 refine z0a ?_
 refine cBx ?_
 obtain rfl := eI h; exact z05 ⟨_, rfl, endR (y := (PV.tup [(BO false), (I64 43)])) 3 (Wk.refl _) rfl rfl (.tup (.cons (.same rfl) (.cons (.same rfl) .nil))) (.cons (.box (.cons (.fn .nil) .nil)) (.cons (.box (.cons (.row rfl (z0u (fun a => z03 (e := 83) (sz := 3) z02 a) x1.2.1)) .nil)) (.cons .arr .nil))) ⟨rfl, rfl⟩⟩
theorem C_q1r.sound : ∀ (i : C_q1r) (r : i.R), z2w C_q1r.F i = some r → C_q1r.Q i r := by
 refine z3z (Φ := C_q1r.F) (Q := C_q1r.Q) ?_
 intro g hg i r h
 cases i with
 | k_q1r a0 a1 a2 a3c1 a4 a5 => exact zfi (fun a0 a1 a2 a3c1 a4 a5 => g (.k_q1r a0 a1 a2 a3c1 a4 a5)) (fun a0 a1 a2 a3c1 a4 a5 r hr => hg (.k_q1r a0 a1 a2 a3c1 a4 a5) r hr) (fun a0 a1c0 a1c1c1 a1c2 a1c3 => g (.k_q0l a0 a1c0 a1c1c1 a1c2 a1c3)) (fun a0 a1c0 a1c1c1 a1c2 a1c3 r hr => hg (.k_q0l a0 a1c0 a1c1c1 a1c2 a1c3) r hr) (fun a0 a1 a2c1 => g (.k_q0o a0 a1 a2c1)) (fun a0 a1 a2c1 r hr => hg (.k_q0o a0 a1 a2c1) r hr) a0 a1 a2 a3c1 a4 a5 r h
 | k_q0l a0 a1c0 a1c1c1 a1c2 a1c3 => exact z62 (fun a0 a1 a2 a3c1 a4 a5 => g (.k_q1r a0 a1 a2 a3c1 a4 a5)) (fun a0 a1 a2 a3c1 a4 a5 r hr => hg (.k_q1r a0 a1 a2 a3c1 a4 a5) r hr) (fun a0 a1c0 a1c1c1 a1c2 a1c3 => g (.k_q0l a0 a1c0 a1c1c1 a1c2 a1c3)) (fun a0 a1c0 a1c1c1 a1c2 a1c3 r hr => hg (.k_q0l a0 a1c0 a1c1c1 a1c2 a1c3) r hr) (fun a0 a1 a2c1 => g (.k_q0o a0 a1 a2c1)) (fun a0 a1 a2c1 r hr => hg (.k_q0o a0 a1 a2c1) r hr) a0 a1c0 a1c1c1 a1c2 a1c3 r h
 | k_q0o a0 a1 a2c1 => exact z6p (fun a0 a1 a2 a3c1 a4 a5 => g (.k_q1r a0 a1 a2 a3c1 a4 a5)) (fun a0 a1 a2 a3c1 a4 a5 r hr => hg (.k_q1r a0 a1 a2 a3c1 a4 a5) r hr) (fun a0 a1c0 a1c1c1 a1c2 a1c3 => g (.k_q0l a0 a1c0 a1c1c1 a1c2 a1c3)) (fun a0 a1c0 a1c1c1 a1c2 a1c3 r hr => hg (.k_q0l a0 a1c0 a1c1c1 a1c2 a1c3) r hr) (fun a0 a1 a2c1 => g (.k_q0o a0 a1 a2c1)) (fun a0 a1 a2c1 r hr => hg (.k_q0o a0 a1 a2c1) r hr) a0 a1 a2c1 r h
theorem Z5c (a0 : (List S_api_Step)) (a1 : V) (a2c1 : (List (List S_api_Step))) (r : (Bool × Int × (List (List S_api_Step)))) (h : zk1 a0 a1 a2c1 = some r) : z18 Tryz.prog 49 [(PV.sl none 83 3 (List.map z00 a0)), (ofV a1), (PV.fn (.func 52) [] [(PV.rf 0 0), (PV.rf 1 0)])] [.box 64 [(PV.fn (.func 26) [] [])], .box 61 [(PV.sl (some 2) 30 1 (List.map (ofSl 83 3 z00) a2c1))], .arr 30 (a2c1).length] (PV.tup [(BO r.1), (I64 r.2.1)]) [.box 64 [(PV.fn (.func 26) [] [])], .box 61 [(PV.sl (some 2) 30 1 (List.map (ofSl 83 3 z00) r.2.2))], .arr 30 (r.2.2).length] := C_q1r.sound (.k_q0o a0 a1 a2c1) r h
noncomputable def zqz (a0 : V) : Option ((List (List S_api_Step)) × Int) :=
 (zd3 a0).bind fun x1 =>
 bif (x1.2 != 0) then (
 some ([], x1.2)
 ) else (
 (zk1 ([]) a0 ([] : (List (List S_api_Step)))).bind fun x3 =>
 bif (x3.2.1 != 0) then (
 some ([], x3.2.1)
 ) else (
 some (x3.2.2, 0)
 )
 )
theorem Z5l (a0 : V) (r : ((List (List S_api_Step)) × Int)) (h : zqz a0 = some r) : z0m Tryz.prog 25 [(ofV a0), (PV.fn (.func 26) [] [])] (PV.tup [(PV.sl none 30 1 (List.map (ofSl 83 3 z00) r.1)), (I64 r.2)]) := by
 unfold zqz at h
 refine z0d Tryz.func25 rfl Tryz.ntmps25 Tryz.results25 rfl (z0g ?_)
 change BW _ _ _ ⟨[(0, (ofV a0)), (1, (PV.fn (.func 26) [] []))], [], _⟩ _
 refine bR ?_
 iterate 2 refine sX ?_
 refine eX ?_
 refine z08 ?_
 refine bR ?_
 refine sX ?_
 obtain ⟨x1, hx1, h⟩ := obind h
 refine sS rfl rfl rfl (z06 rfl zki rfl (wkr .nil) ⟨(ids_V a0), trivial⟩ (zji a0 x1 hx1) (z01 rfl (z01 rfl z04))) ?_
 iterate 4 refine sX ?_
 refine eX ?_
 refine bR ?_
 refine sX ?_
 refine eX ?_
 refine cX h rfl ?_ ?_
 intro hc2 h
 refine bR ?_
 iterate 2 refine sX ?_
 refine eX ?_
 obtain rfl := eI h; exact z05 ⟨_, rfl, z0p (y := (PV.tup [(PV.sl none 30 1 (List.map (ofSl 83 3 z00) [])), (I64 x1.2)])) (Wk.tup (.cons Wk.nil (wkr .nil))) (z01 (z03 (fun a => z03 (e := 83) (sz := 3) z02 a) ([])) (z01 rfl z04)) ⟨rfl, rfl⟩⟩
 intro hc2 h
 refine z07 ?_
 refine cBx ?_
 refine z08 ?_
 refine bR ?_
 refine sX ?_
 refine sS rfl rfl rfl (zfz Tryz.underlying64 ⟨_, _, _, rfl⟩ rfl rfl rfl (.inl ⟨rfl, rfl⟩)) (z0a ?_)
 refine cBx ?_
 refine z7c rfl ?_
 refine z07 ?_
 refine cBx ?_
 refine bR ?_
 refine sS rfl rfl rfl (z14 zxf rfl) (z0a ?_)
 refine cBx ?_
 refine z08 ?_
 refine zj3 (s := ⟨_, _, _⟩) 1 0 30 (sz := 1) rfl rfl rfl ?_
 refine z0f ?_
 refine sX ?_
 refine sS rfl rfl rfl (z69 rfl rfl rfl) ?_
 obtain ⟨x3, hx3, h⟩ := obind h
 refine sS rfl rfl rfl (Op1.cast (y := (PV.tup [(BO x3.1), (I64 x3.2.1)])) (H'' := [.box 64 [(PV.fn (.func 26) [] [])], .box 61 [(PV.sl (some 2) 30 1 (List.map (ofSl 83 3 z00) x3.2.2))], .arr 30 (x3.2.2).length]) (z1b [0, 1, 2] (.func rfl) zvl rfl (.cons Wk.nil (wkr (wkr .nil))) rfl (.cons rfl (.box (.cons (.fn .nil) .nil)) (.cons rfl (.box (.cons (.row rfl (z0u (fun a => z03 (e := 83) (sz := 3) z02 a) ([] : (List (List S_api_Step))))) .nil)) (.cons rfl .arr .nil))) (.cons (.same (z03 z02 ([]))) (.cons (.same (ids_V a0)) (.cons (.fn (.cons (.rf rfl) (.cons (.rf rfl) .nil))) .nil))) (Z5c ([]) a0 ([] : (List (List S_api_Step))) x3 hx3) (.same (z01 rfl (z01 rfl z04))) (.cons (.box (.cons (.fn .nil) .nil)) (.cons (.box (.cons (.row rfl (z0u (fun a => z03 (e := 83) (sz := 3) z02 a) x3.2.2)) .nil)) (.cons .arr .nil))) rfl) rfl rfl) ?_
 iterate 4 refine sX ?_
 refine eX ?_
 refine z08 ?_
 refine bR ?_
 refine sX ?_
 refine eX ?_
 refine cX h rfl ?_ ?_
 intro hc4 h
 refine bR ?_
 iterate 2 refine sX ?_
 refine eX ?_
 obtain rfl := eI h; exact z05 ⟨_, rfl, z0p (y := (PV.tup [(PV.sl none 30 1 (List.map (ofSl 83 3 z00) [])), (I64 x3.2.1)])) (Wk.tup (.cons Wk.nil (wkr .nil))) (z01 (z03 (fun a => z03 (e := 83) (sz := 3) z02 a) ([])) (z01 rfl z04)) ⟨rfl, rfl⟩⟩
 intro hc4 h
 refine z07 ?_
 refine cBx ?_
 refine bR ?_
 iterate 2 refine sX ?_
 refine eX ?_
 obtain rfl := eI h; exact z05 ⟨_, rfl, z0p (y := (PV.tup [(PV.sl none 30 1 (List.map (ofSl 83 3 z00) x3.2.2)), (I64 0)])) (Wk.tup (.cons Wk.tok (wkr .nil))) (z01 (z03 (fun a => z03 (e := 83) (sz := 3) z02 a) x3.2.2) (z01 rfl z04)) ⟨rfl, rfl⟩⟩
end Go.Proofs.YthidgpcbnieleaaGreatDoor
