/- Pure functions, and that calls answer as they say. Written by gen.py. -/
import Derived.Test.YtkmhecgagibgjaaG6
namespace Go.Proofs.Ytkmhecgagibgjaa
open Go Aw
set_option linter.unusedVariables false
set_option linter.unusedSimpArgs false
set_option maxRecDepth 20000
set_option maxHeartbeats 2000000
noncomputable def b_path_walk_2 (r_path_walk_2 : S_api_Step → V → (List S_api_Step) → V → V → Bool → Bool → Int → Option (Bool × Bool × Bool × Int)) (r_path_parts_path_walk_2 : V → (List S_api_Step) → V → V → Bool → Bool → Int → Option (Bool × Bool × Int)) (r_path_walk_law24_MergeMade_1 : (List S_api_Step) → V → V → V → Bool → Option (Bool × Int × Bool)) (a0 : S_api_Step) (a1 : V) (a2 : (List S_api_Step)) (a3c0 : V) (a3c1 : V) (a3c2 : Bool) (a4 : Bool) (a5 : Int) : Option (Bool × Bool × Bool × Int) :=
 Option.bind (p_slices_Clip_api_Step_api_Step a2) fun x1 =>
 Option.bind (appO 32 x1 ([a0] : (List S_api_Step))) fun x2 =>
 Option.bind (r_path_walk_law24_MergeMade_1 x2 a1 a3c0 a3c1 a3c2) fun x3 =>
 some (x3.1, x3.2.2, x3.1, x3.2.1)
theorem b_path_walk_2_cm {ι : Type} {ρ : ι → Type} (r_path_walk_2 : (∀ i, Option (ρ i)) → S_api_Step → V → (List S_api_Step) → V → V → Bool → Bool → Int → Option (Bool × Bool × Bool × Int)) (h_r_path_walk_2 : ∀ y0 y1 y2 y3 y4 y5 y6 y7, CM (fun G => r_path_walk_2 G y0 y1 y2 y3 y4 y5 y6 y7)) (r_path_parts_path_walk_2 : (∀ i, Option (ρ i)) → V → (List S_api_Step) → V → V → Bool → Bool → Int → Option (Bool × Bool × Int)) (h_r_path_parts_path_walk_2 : ∀ y0 y1 y2 y3 y4 y5 y6, CM (fun G => r_path_parts_path_walk_2 G y0 y1 y2 y3 y4 y5 y6)) (r_path_walk_law24_MergeMade_1 : (∀ i, Option (ρ i)) → (List S_api_Step) → V → V → V → Bool → Option (Bool × Int × Bool)) (h_r_path_walk_law24_MergeMade_1 : ∀ y0 y1 y2 y3 y4, CM (fun G => r_path_walk_law24_MergeMade_1 G y0 y1 y2 y3 y4)) (a0 : S_api_Step) (a1 : V) (a2 : (List S_api_Step)) (a3c0 : V) (a3c1 : V) (a3c2 : Bool) (a4 : Bool) (a5 : Int) : CM (fun G : (∀ i, Option (ρ i)) => b_path_walk_2 (r_path_walk_2 G) (r_path_parts_path_walk_2 G) (r_path_walk_law24_MergeMade_1 G) a0 a1 a2 a3c0 a3c1 a3c2 a4 a5) := by
 simp only [b_path_walk_2]
 repeat (first | exact cm_const | exact h_r_path_walk_2 _ _ _ _ _ _ _ _ | exact h_r_path_parts_path_walk_2 _ _ _ _ _ _ _ | exact h_r_path_walk_law24_MergeMade_1 _ _ _ _ _ | refine cm_cond ?_ ?_ | refine cm_bind ?_ (fun _ => ?_))
noncomputable def path_parts_path_walk_2_l1b (r_path_walk_2 : S_api_Step → V → (List S_api_Step) → V → V → Bool → Bool → Int → Option (Bool × Bool × Bool × Int)) (a1c0 : (List S_api_Step)) (a1c1c0 : V) (a1c1c1 : V) (x4 : ((List (Str × V)) × Bool)) (g1 : Nat → Bool → Bool → Int → Option (Bool × Bool × Int)) (s5 : Nat) (s6 : Bool) (s7 : Bool) (s8 : Int) : Option (Bool × Bool × Int) :=
 bif (decide (((s5 : Nat) : Int) < (((x4.1).length : Nat) : Int))) then (
  Option.bind ((x4.1)[s5]?) fun x11 =>
  Option.bind (r_path_walk_2 (S_api_Step.mk x11.1 false 0) x11.2 a1c0 a1c1c0 a1c1c1 s6 s7 s8) fun x12 =>
  bif (!x12.1) then (
   some (x12.2.1, x12.2.2.1, x12.2.2.2)
  ) else (
   g1 (s5 + 1) x12.2.1 x12.2.2.1 x12.2.2.2
  )
 ) else (
  some (s6, s7, s8)
 )
theorem path_parts_path_walk_2_l1b_cm {ι : Type} {ρ : ι → Type} (r_path_walk_2 : (∀ i, Option (ρ i)) → S_api_Step → V → (List S_api_Step) → V → V → Bool → Bool → Int → Option (Bool × Bool × Bool × Int)) (h_r_path_walk_2 : ∀ y0 y1 y2 y3 y4 y5 y6 y7, CM (fun G => r_path_walk_2 G y0 y1 y2 y3 y4 y5 y6 y7)) (g1 : (∀ i, Option (ρ i)) → Nat → Bool → Bool → Int → Option (Bool × Bool × Int)) (h_g1 : ∀ y0 y1 y2 y3, CM (fun G => g1 G y0 y1 y2 y3)) (a1c0 : (List S_api_Step)) (a1c1c0 : V) (a1c1c1 : V) (x4 : ((List (Str × V)) × Bool)) (s5 : Nat) (s6 : Bool) (s7 : Bool) (s8 : Int) : CM (fun G : (∀ i, Option (ρ i)) => path_parts_path_walk_2_l1b (r_path_walk_2 G) a1c0 a1c1c0 a1c1c1 x4 (g1 G) s5 s6 s7 s8) := by
 simp only [path_parts_path_walk_2_l1b]
 repeat (first | exact cm_const | exact h_r_path_walk_2 _ _ _ _ _ _ _ _ | exact h_g1 _ _ _ _ | refine cm_cond ?_ ?_ | refine cm_bind ?_ (fun _ => ?_))
noncomputable def path_parts_path_walk_2_l1 (r_path_walk_2 : S_api_Step → V → (List S_api_Step) → V → V → Bool → Bool → Int → Option (Bool × Bool × Bool × Int)) (a1c0 : (List S_api_Step)) (a1c1c0 : V) (a1c1c1 : V) (x4 : ((List (Str × V)) × Bool)) (s5 : Nat) (s6 : Bool) (s7 : Bool) (s8 : Int) : Option (Bool × Bool × Int) :=
 fixO (ι := (Nat × Bool × Bool × Int)) (ρ := fun _ => (Bool × Bool × Int)) (fun g i => path_parts_path_walk_2_l1b r_path_walk_2 a1c0 a1c1c0 a1c1c1 x4 (fun s5 s6 s7 s8 => g (s5, s6, s7, s8)) i.1 i.2.1 i.2.2.1 i.2.2.2) (s5, s6, s7, s8)
theorem path_parts_path_walk_2_l1_eq (r_path_walk_2 : S_api_Step → V → (List S_api_Step) → V → V → Bool → Bool → Int → Option (Bool × Bool × Bool × Int)) (a1c0 : (List S_api_Step)) (a1c1c0 : V) (a1c1c1 : V) (x4 : ((List (Str × V)) × Bool)) (s5 : Nat) (s6 : Bool) (s7 : Bool) (s8 : Int) : path_parts_path_walk_2_l1 r_path_walk_2 a1c0 a1c1c0 a1c1c1 x4 s5 s6 s7 s8 = path_parts_path_walk_2_l1b r_path_walk_2 a1c0 a1c1c0 a1c1c1 x4 (path_parts_path_walk_2_l1 r_path_walk_2 a1c0 a1c1c0 a1c1c1 x4) s5 s6 s7 s8 :=
 fixO_eq (ι := (Nat × Bool × Bool × Int)) (ρ := fun _ => (Bool × Bool × Int)) (Φ := fun g i => path_parts_path_walk_2_l1b r_path_walk_2 a1c0 a1c1c0 a1c1c1 x4 (fun s5 s6 s7 s8 => g (s5, s6, s7, s8)) i.1 i.2.1 i.2.2.1 i.2.2.2) (fun i => path_parts_path_walk_2_l1b_cm (ι := (Nat × Bool × Bool × Int)) (ρ := fun _ => (Bool × Bool × Int)) (fun _ => r_path_walk_2) (fun _ _ _ _ _ _ _ _ => cm_const) (fun g => (fun s5 s6 s7 s8 => g (s5, s6, s7, s8))) (fun _ _ _ _ => cm_app) a1c0 a1c1c0 a1c1c1 x4 i.1 i.2.1 i.2.2.1 i.2.2.2) (s5, s6, s7, s8)
theorem path_parts_path_walk_2_l1_cm {ι : Type} {ρ : ι → Type} (r_path_walk_2 : (∀ i, Option (ρ i)) → S_api_Step → V → (List S_api_Step) → V → V → Bool → Bool → Int → Option (Bool × Bool × Bool × Int)) (h_r_path_walk_2 : ∀ y0 y1 y2 y3 y4 y5 y6 y7, CM (fun G => r_path_walk_2 G y0 y1 y2 y3 y4 y5 y6 y7)) (a1c0 : (List S_api_Step)) (a1c1c0 : V) (a1c1c1 : V) (x4 : ((List (Str × V)) × Bool)) (s5 : Nat) (s6 : Bool) (s7 : Bool) (s8 : Int) : CM (fun G : (∀ i, Option (ρ i)) => path_parts_path_walk_2_l1 (r_path_walk_2 G) a1c0 a1c1c0 a1c1c1 x4 s5 s6 s7 s8) :=
 cm_fix (κ := (Nat × Bool × Bool × Int)) (τ := fun _ => (Bool × Bool × Int)) (Φ := fun G g i => path_parts_path_walk_2_l1b (r_path_walk_2 G) a1c0 a1c1c0 a1c1c1 x4 (fun s5 s6 s7 s8 => g (s5, s6, s7, s8)) i.1 i.2.1 i.2.2.1 i.2.2.2) (fun g i => path_parts_path_walk_2_l1b_cm r_path_walk_2 h_r_path_walk_2 (fun _ => (fun s5 s6 s7 s8 => g (s5, s6, s7, s8))) (fun _ _ _ _ => cm_const) a1c0 a1c1c0 a1c1c1 x4 i.1 i.2.1 i.2.2.1 i.2.2.2) (fun G i => path_parts_path_walk_2_l1b_cm (ι := (Nat × Bool × Bool × Int)) (ρ := fun _ => (Bool × Bool × Int)) (fun _ => r_path_walk_2 G) (fun _ _ _ _ _ _ _ _ => cm_const) (fun g => (fun s5 s6 s7 s8 => g (s5, s6, s7, s8))) (fun _ _ _ _ => cm_app) a1c0 a1c1c0 a1c1c1 x4 i.1 i.2.1 i.2.2.1 i.2.2.2) (s5, s6, s7, s8)
noncomputable def path_parts_path_walk_2_j1 (r_path_walk_2 : S_api_Step → V → (List S_api_Step) → V → V → Bool → Bool → Int → Option (Bool × Bool × Bool × Int)) (a0 : V) (a1c0 : (List S_api_Step)) (a1c1c0 : V) (a1c1c1 : V) (s1 : Bool) (s2 : Bool) (s3 : Int) : Option (Bool × Bool × Int) :=
 Option.bind (p_path_fieldsOf a0) fun x4 =>
 path_parts_path_walk_2_l1 r_path_walk_2 a1c0 a1c1c0 a1c1c1 x4 0 s1 s2 s3
theorem path_parts_path_walk_2_j1_cm {ι : Type} {ρ : ι → Type} (r_path_walk_2 : (∀ i, Option (ρ i)) → S_api_Step → V → (List S_api_Step) → V → V → Bool → Bool → Int → Option (Bool × Bool × Bool × Int)) (h_r_path_walk_2 : ∀ y0 y1 y2 y3 y4 y5 y6 y7, CM (fun G => r_path_walk_2 G y0 y1 y2 y3 y4 y5 y6 y7)) (a0 : V) (a1c0 : (List S_api_Step)) (a1c1c0 : V) (a1c1c1 : V) (s1 : Bool) (s2 : Bool) (s3 : Int) : CM (fun G : (∀ i, Option (ρ i)) => path_parts_path_walk_2_j1 (r_path_walk_2 G) a0 a1c0 a1c1c0 a1c1c1 s1 s2 s3) := by
 simp only [path_parts_path_walk_2_j1]
 repeat (first | exact cm_const | exact h_r_path_walk_2 _ _ _ _ _ _ _ _ | apply path_parts_path_walk_2_l1_cm | refine cm_cond ?_ ?_ | refine cm_bind ?_ (fun _ => ?_) | intro _ | assumption)
noncomputable def path_parts_path_walk_2_l2b (r_path_walk_2 : S_api_Step → V → (List S_api_Step) → V → V → Bool → Bool → Int → Option (Bool × Bool × Bool × Int)) (a0 : V) (a1c0 : (List S_api_Step)) (a1c1c0 : V) (a1c1c1 : V) (g1 : Nat → Bool → Bool → Int → Option (Bool × Bool × Int)) (s15 : Nat) (s16 : Bool) (s17 : Bool) (s18 : Int) : Option (Bool × Bool × Int) :=
 bif (decide (((s15 : Nat) : Int) < ((((a0).asList).length : Nat) : Int))) then (
  Option.bind (((a0).asList)[s15]?) fun x21 =>
  Option.bind (r_path_walk_2 (S_api_Step.mk [] true ((s15 : Nat) : Int)) x21 a1c0 a1c1c0 a1c1c1 s16 s17 s18) fun x22 =>
  bif (!x22.1) then (
   some (x22.2.1, x22.2.2.1, x22.2.2.2)
  ) else (
   g1 (s15 + 1) x22.2.1 x22.2.2.1 x22.2.2.2
  )
 ) else (
  path_parts_path_walk_2_j1 r_path_walk_2 a0 a1c0 a1c1c0 a1c1c1 s16 s17 s18
 )
theorem path_parts_path_walk_2_l2b_cm {ι : Type} {ρ : ι → Type} (r_path_walk_2 : (∀ i, Option (ρ i)) → S_api_Step → V → (List S_api_Step) → V → V → Bool → Bool → Int → Option (Bool × Bool × Bool × Int)) (h_r_path_walk_2 : ∀ y0 y1 y2 y3 y4 y5 y6 y7, CM (fun G => r_path_walk_2 G y0 y1 y2 y3 y4 y5 y6 y7)) (g1 : (∀ i, Option (ρ i)) → Nat → Bool → Bool → Int → Option (Bool × Bool × Int)) (h_g1 : ∀ y0 y1 y2 y3, CM (fun G => g1 G y0 y1 y2 y3)) (a0 : V) (a1c0 : (List S_api_Step)) (a1c1c0 : V) (a1c1c1 : V) (s15 : Nat) (s16 : Bool) (s17 : Bool) (s18 : Int) : CM (fun G : (∀ i, Option (ρ i)) => path_parts_path_walk_2_l2b (r_path_walk_2 G) a0 a1c0 a1c1c0 a1c1c1 (g1 G) s15 s16 s17 s18) := by
 simp only [path_parts_path_walk_2_l2b]
 repeat (first | exact cm_const | exact h_r_path_walk_2 _ _ _ _ _ _ _ _ | exact h_g1 _ _ _ _ | apply path_parts_path_walk_2_j1_cm | refine cm_cond ?_ ?_ | refine cm_bind ?_ (fun _ => ?_) | intro _ | assumption)
noncomputable def path_parts_path_walk_2_l2 (r_path_walk_2 : S_api_Step → V → (List S_api_Step) → V → V → Bool → Bool → Int → Option (Bool × Bool × Bool × Int)) (a0 : V) (a1c0 : (List S_api_Step)) (a1c1c0 : V) (a1c1c1 : V) (s15 : Nat) (s16 : Bool) (s17 : Bool) (s18 : Int) : Option (Bool × Bool × Int) :=
 fixO (ι := (Nat × Bool × Bool × Int)) (ρ := fun _ => (Bool × Bool × Int)) (fun g i => path_parts_path_walk_2_l2b r_path_walk_2 a0 a1c0 a1c1c0 a1c1c1 (fun s15 s16 s17 s18 => g (s15, s16, s17, s18)) i.1 i.2.1 i.2.2.1 i.2.2.2) (s15, s16, s17, s18)
theorem path_parts_path_walk_2_l2_eq (r_path_walk_2 : S_api_Step → V → (List S_api_Step) → V → V → Bool → Bool → Int → Option (Bool × Bool × Bool × Int)) (a0 : V) (a1c0 : (List S_api_Step)) (a1c1c0 : V) (a1c1c1 : V) (s15 : Nat) (s16 : Bool) (s17 : Bool) (s18 : Int) : path_parts_path_walk_2_l2 r_path_walk_2 a0 a1c0 a1c1c0 a1c1c1 s15 s16 s17 s18 = path_parts_path_walk_2_l2b r_path_walk_2 a0 a1c0 a1c1c0 a1c1c1 (path_parts_path_walk_2_l2 r_path_walk_2 a0 a1c0 a1c1c0 a1c1c1) s15 s16 s17 s18 :=
 fixO_eq (ι := (Nat × Bool × Bool × Int)) (ρ := fun _ => (Bool × Bool × Int)) (Φ := fun g i => path_parts_path_walk_2_l2b r_path_walk_2 a0 a1c0 a1c1c0 a1c1c1 (fun s15 s16 s17 s18 => g (s15, s16, s17, s18)) i.1 i.2.1 i.2.2.1 i.2.2.2) (fun i => path_parts_path_walk_2_l2b_cm (ι := (Nat × Bool × Bool × Int)) (ρ := fun _ => (Bool × Bool × Int)) (fun _ => r_path_walk_2) (fun _ _ _ _ _ _ _ _ => cm_const) (fun g => (fun s15 s16 s17 s18 => g (s15, s16, s17, s18))) (fun _ _ _ _ => cm_app) a0 a1c0 a1c1c0 a1c1c1 i.1 i.2.1 i.2.2.1 i.2.2.2) (s15, s16, s17, s18)
theorem path_parts_path_walk_2_l2_cm {ι : Type} {ρ : ι → Type} (r_path_walk_2 : (∀ i, Option (ρ i)) → S_api_Step → V → (List S_api_Step) → V → V → Bool → Bool → Int → Option (Bool × Bool × Bool × Int)) (h_r_path_walk_2 : ∀ y0 y1 y2 y3 y4 y5 y6 y7, CM (fun G => r_path_walk_2 G y0 y1 y2 y3 y4 y5 y6 y7)) (a0 : V) (a1c0 : (List S_api_Step)) (a1c1c0 : V) (a1c1c1 : V) (s15 : Nat) (s16 : Bool) (s17 : Bool) (s18 : Int) : CM (fun G : (∀ i, Option (ρ i)) => path_parts_path_walk_2_l2 (r_path_walk_2 G) a0 a1c0 a1c1c0 a1c1c1 s15 s16 s17 s18) :=
 cm_fix (κ := (Nat × Bool × Bool × Int)) (τ := fun _ => (Bool × Bool × Int)) (Φ := fun G g i => path_parts_path_walk_2_l2b (r_path_walk_2 G) a0 a1c0 a1c1c0 a1c1c1 (fun s15 s16 s17 s18 => g (s15, s16, s17, s18)) i.1 i.2.1 i.2.2.1 i.2.2.2) (fun g i => path_parts_path_walk_2_l2b_cm r_path_walk_2 h_r_path_walk_2 (fun _ => (fun s15 s16 s17 s18 => g (s15, s16, s17, s18))) (fun _ _ _ _ => cm_const) a0 a1c0 a1c1c0 a1c1c1 i.1 i.2.1 i.2.2.1 i.2.2.2) (fun G i => path_parts_path_walk_2_l2b_cm (ι := (Nat × Bool × Bool × Int)) (ρ := fun _ => (Bool × Bool × Int)) (fun _ => r_path_walk_2 G) (fun _ _ _ _ _ _ _ _ => cm_const) (fun g => (fun s15 s16 s17 s18 => g (s15, s16, s17, s18))) (fun _ _ _ _ => cm_app) a0 a1c0 a1c1c0 a1c1c1 i.1 i.2.1 i.2.2.1 i.2.2.2) (s15, s16, s17, s18)
noncomputable def b_path_parts_path_walk_2 (r_path_walk_2 : S_api_Step → V → (List S_api_Step) → V → V → Bool → Bool → Int → Option (Bool × Bool × Bool × Int)) (r_path_parts_path_walk_2 : V → (List S_api_Step) → V → V → Bool → Bool → Int → Option (Bool × Bool × Int)) (r_path_walk_law24_MergeMade_1 : (List S_api_Step) → V → V → V → Bool → Option (Bool × Int × Bool)) (a0 : V) (a1c0 : (List S_api_Step)) (a1c1c0 : V) (a1c1c1 : V) (a1c1c2 : Bool) (a1c2 : Bool) (a1c3 : Int) : Option (Bool × Bool × Int) :=
 bif (a0).isList then (
  path_parts_path_walk_2_l2 r_path_walk_2 a0 a1c0 a1c1c0 a1c1c1 0 a1c1c2 a1c2 a1c3
 ) else (
  path_parts_path_walk_2_j1 r_path_walk_2 a0 a1c0 a1c1c0 a1c1c1 a1c1c2 a1c2 a1c3
 )
theorem b_path_parts_path_walk_2_cm {ι : Type} {ρ : ι → Type} (r_path_walk_2 : (∀ i, Option (ρ i)) → S_api_Step → V → (List S_api_Step) → V → V → Bool → Bool → Int → Option (Bool × Bool × Bool × Int)) (h_r_path_walk_2 : ∀ y0 y1 y2 y3 y4 y5 y6 y7, CM (fun G => r_path_walk_2 G y0 y1 y2 y3 y4 y5 y6 y7)) (r_path_parts_path_walk_2 : (∀ i, Option (ρ i)) → V → (List S_api_Step) → V → V → Bool → Bool → Int → Option (Bool × Bool × Int)) (h_r_path_parts_path_walk_2 : ∀ y0 y1 y2 y3 y4 y5 y6, CM (fun G => r_path_parts_path_walk_2 G y0 y1 y2 y3 y4 y5 y6)) (r_path_walk_law24_MergeMade_1 : (∀ i, Option (ρ i)) → (List S_api_Step) → V → V → V → Bool → Option (Bool × Int × Bool)) (h_r_path_walk_law24_MergeMade_1 : ∀ y0 y1 y2 y3 y4, CM (fun G => r_path_walk_law24_MergeMade_1 G y0 y1 y2 y3 y4)) (a0 : V) (a1c0 : (List S_api_Step)) (a1c1c0 : V) (a1c1c1 : V) (a1c1c2 : Bool) (a1c2 : Bool) (a1c3 : Int) : CM (fun G : (∀ i, Option (ρ i)) => b_path_parts_path_walk_2 (r_path_walk_2 G) (r_path_parts_path_walk_2 G) (r_path_walk_law24_MergeMade_1 G) a0 a1c0 a1c1c0 a1c1c1 a1c1c2 a1c2 a1c3) := by
 simp only [b_path_parts_path_walk_2]
 repeat (first | exact cm_const | exact h_r_path_walk_2 _ _ _ _ _ _ _ _ | exact h_r_path_parts_path_walk_2 _ _ _ _ _ _ _ | exact h_r_path_walk_law24_MergeMade_1 _ _ _ _ _ | apply path_parts_path_walk_2_j1_cm | apply path_parts_path_walk_2_l2_cm | refine cm_cond ?_ ?_ | refine cm_bind ?_ (fun _ => ?_) | intro _ | assumption)
noncomputable def b_path_walk_law24_MergeMade_1 (r_path_walk_2 : S_api_Step → V → (List S_api_Step) → V → V → Bool → Bool → Int → Option (Bool × Bool × Bool × Int)) (r_path_parts_path_walk_2 : V → (List S_api_Step) → V → V → Bool → Bool → Int → Option (Bool × Bool × Int)) (r_path_walk_law24_MergeMade_1 : (List S_api_Step) → V → V → V → Bool → Option (Bool × Int × Bool)) (a0 : (List S_api_Step)) (a1 : V) (a2c0 : V) (a2c1 : V) (a2c2 : Bool) : Option (Bool × Int × Bool) :=
 Option.bind (p_path_caught_path_walk_1 a2c0 a2c1 a2c2 a0 a1 0) fun x1 =>
 bif x1.1 then (
  some (false, 9, x1.2.1)
 ) else (
  bif (x1.2.2 == 0) then (
   Option.bind (r_path_parts_path_walk_2 a1 a0 a2c0 a2c1 x1.2.1 true 0) fun x4 =>
   some (x4.2.1, x4.2.2, x4.1)
  ) else (
   bif (x1.2.2 == 1) then (
    some (true, 0, x1.2.1)
   ) else (
    bif (x1.2.2 == 2) then (
     some (false, 0, x1.2.1)
    ) else (
     some (false, 43, x1.2.1)
    )
   )
  )
 )
theorem b_path_walk_law24_MergeMade_1_cm {ι : Type} {ρ : ι → Type} (r_path_walk_2 : (∀ i, Option (ρ i)) → S_api_Step → V → (List S_api_Step) → V → V → Bool → Bool → Int → Option (Bool × Bool × Bool × Int)) (h_r_path_walk_2 : ∀ y0 y1 y2 y3 y4 y5 y6 y7, CM (fun G => r_path_walk_2 G y0 y1 y2 y3 y4 y5 y6 y7)) (r_path_parts_path_walk_2 : (∀ i, Option (ρ i)) → V → (List S_api_Step) → V → V → Bool → Bool → Int → Option (Bool × Bool × Int)) (h_r_path_parts_path_walk_2 : ∀ y0 y1 y2 y3 y4 y5 y6, CM (fun G => r_path_parts_path_walk_2 G y0 y1 y2 y3 y4 y5 y6)) (r_path_walk_law24_MergeMade_1 : (∀ i, Option (ρ i)) → (List S_api_Step) → V → V → V → Bool → Option (Bool × Int × Bool)) (h_r_path_walk_law24_MergeMade_1 : ∀ y0 y1 y2 y3 y4, CM (fun G => r_path_walk_law24_MergeMade_1 G y0 y1 y2 y3 y4)) (a0 : (List S_api_Step)) (a1 : V) (a2c0 : V) (a2c1 : V) (a2c2 : Bool) : CM (fun G : (∀ i, Option (ρ i)) => b_path_walk_law24_MergeMade_1 (r_path_walk_2 G) (r_path_parts_path_walk_2 G) (r_path_walk_law24_MergeMade_1 G) a0 a1 a2c0 a2c1 a2c2) := by
 simp only [b_path_walk_law24_MergeMade_1]
 repeat (first | exact cm_const | exact h_r_path_walk_2 _ _ _ _ _ _ _ _ | exact h_r_path_parts_path_walk_2 _ _ _ _ _ _ _ | exact h_r_path_walk_law24_MergeMade_1 _ _ _ _ _ | refine cm_cond ?_ ?_ | refine cm_bind ?_ (fun _ => ?_))
inductive C_path_walk_2 where
 | k_path_walk_2 (a0 : S_api_Step) (a1 : V) (a2 : (List S_api_Step)) (a3c0 : V) (a3c1 : V) (a3c2 : Bool) (a4 : Bool) (a5 : Int)
 | k_path_parts_path_walk_2 (a0 : V) (a1c0 : (List S_api_Step)) (a1c1c0 : V) (a1c1c1 : V) (a1c1c2 : Bool) (a1c2 : Bool) (a1c3 : Int)
 | k_path_walk_law24_MergeMade_1 (a0 : (List S_api_Step)) (a1 : V) (a2c0 : V) (a2c1 : V) (a2c2 : Bool)
def C_path_walk_2.R : C_path_walk_2 → Type
 | .k_path_walk_2 _ _ _ _ _ _ _ _ => (Bool × Bool × Bool × Int)
 | .k_path_parts_path_walk_2 _ _ _ _ _ _ _ => (Bool × Bool × Int)
 | .k_path_walk_law24_MergeMade_1 _ _ _ _ _ => (Bool × Int × Bool)
noncomputable def C_path_walk_2.F (g : ∀ i : C_path_walk_2, Option i.R) : ∀ i : C_path_walk_2, Option i.R
 | .k_path_walk_2 a0 a1 a2 a3c0 a3c1 a3c2 a4 a5 => b_path_walk_2 (fun a0 a1 a2 a3c0 a3c1 a3c2 a4 a5 => g (.k_path_walk_2 a0 a1 a2 a3c0 a3c1 a3c2 a4 a5)) (fun a0 a1c0 a1c1c0 a1c1c1 a1c1c2 a1c2 a1c3 => g (.k_path_parts_path_walk_2 a0 a1c0 a1c1c0 a1c1c1 a1c1c2 a1c2 a1c3)) (fun a0 a1 a2c0 a2c1 a2c2 => g (.k_path_walk_law24_MergeMade_1 a0 a1 a2c0 a2c1 a2c2)) a0 a1 a2 a3c0 a3c1 a3c2 a4 a5
 | .k_path_parts_path_walk_2 a0 a1c0 a1c1c0 a1c1c1 a1c1c2 a1c2 a1c3 => b_path_parts_path_walk_2 (fun a0 a1 a2 a3c0 a3c1 a3c2 a4 a5 => g (.k_path_walk_2 a0 a1 a2 a3c0 a3c1 a3c2 a4 a5)) (fun a0 a1c0 a1c1c0 a1c1c1 a1c1c2 a1c2 a1c3 => g (.k_path_parts_path_walk_2 a0 a1c0 a1c1c0 a1c1c1 a1c1c2 a1c2 a1c3)) (fun a0 a1 a2c0 a2c1 a2c2 => g (.k_path_walk_law24_MergeMade_1 a0 a1 a2c0 a2c1 a2c2)) a0 a1c0 a1c1c0 a1c1c1 a1c1c2 a1c2 a1c3
 | .k_path_walk_law24_MergeMade_1 a0 a1 a2c0 a2c1 a2c2 => b_path_walk_law24_MergeMade_1 (fun a0 a1 a2 a3c0 a3c1 a3c2 a4 a5 => g (.k_path_walk_2 a0 a1 a2 a3c0 a3c1 a3c2 a4 a5)) (fun a0 a1c0 a1c1c0 a1c1c1 a1c1c2 a1c2 a1c3 => g (.k_path_parts_path_walk_2 a0 a1c0 a1c1c0 a1c1c1 a1c1c2 a1c2 a1c3)) (fun a0 a1 a2c0 a2c1 a2c2 => g (.k_path_walk_law24_MergeMade_1 a0 a1 a2c0 a2c1 a2c2)) a0 a1 a2c0 a2c1 a2c2
noncomputable def p_path_walk_2 (a0 : S_api_Step) (a1 : V) (a2 : (List S_api_Step)) (a3c0 : V) (a3c1 : V) (a3c2 : Bool) (a4 : Bool) (a5 : Int) : Option (Bool × Bool × Bool × Int) := fixO C_path_walk_2.F (.k_path_walk_2 a0 a1 a2 a3c0 a3c1 a3c2 a4 a5)
noncomputable def p_path_parts_path_walk_2 (a0 : V) (a1c0 : (List S_api_Step)) (a1c1c0 : V) (a1c1c1 : V) (a1c1c2 : Bool) (a1c2 : Bool) (a1c3 : Int) : Option (Bool × Bool × Int) := fixO C_path_walk_2.F (.k_path_parts_path_walk_2 a0 a1c0 a1c1c0 a1c1c1 a1c1c2 a1c2 a1c3)
noncomputable def p_path_walk_law24_MergeMade_1 (a0 : (List S_api_Step)) (a1 : V) (a2c0 : V) (a2c1 : V) (a2c2 : Bool) : Option (Bool × Int × Bool) := fixO C_path_walk_2.F (.k_path_walk_law24_MergeMade_1 a0 a1 a2c0 a2c1 a2c2)
theorem C_path_walk_2.cm (i : C_path_walk_2) : CM (fun g : (∀ i : C_path_walk_2, Option i.R) => C_path_walk_2.F g i) := by
 cases i with
 | k_path_walk_2 a0 a1 a2 a3c0 a3c1 a3c2 a4 a5 => exact b_path_walk_2_cm (fun (g : ∀ i : C_path_walk_2, Option i.R) a0 a1 a2 a3c0 a3c1 a3c2 a4 a5 => g (.k_path_walk_2 a0 a1 a2 a3c0 a3c1 a3c2 a4 a5)) (fun a0 a1 a2 a3c0 a3c1 a3c2 a4 a5 => cm_app (i := C_path_walk_2.k_path_walk_2 a0 a1 a2 a3c0 a3c1 a3c2 a4 a5)) (fun (g : ∀ i : C_path_walk_2, Option i.R) a0 a1c0 a1c1c0 a1c1c1 a1c1c2 a1c2 a1c3 => g (.k_path_parts_path_walk_2 a0 a1c0 a1c1c0 a1c1c1 a1c1c2 a1c2 a1c3)) (fun a0 a1c0 a1c1c0 a1c1c1 a1c1c2 a1c2 a1c3 => cm_app (i := C_path_walk_2.k_path_parts_path_walk_2 a0 a1c0 a1c1c0 a1c1c1 a1c1c2 a1c2 a1c3)) (fun (g : ∀ i : C_path_walk_2, Option i.R) a0 a1 a2c0 a2c1 a2c2 => g (.k_path_walk_law24_MergeMade_1 a0 a1 a2c0 a2c1 a2c2)) (fun a0 a1 a2c0 a2c1 a2c2 => cm_app (i := C_path_walk_2.k_path_walk_law24_MergeMade_1 a0 a1 a2c0 a2c1 a2c2)) a0 a1 a2 a3c0 a3c1 a3c2 a4 a5
 | k_path_parts_path_walk_2 a0 a1c0 a1c1c0 a1c1c1 a1c1c2 a1c2 a1c3 => exact b_path_parts_path_walk_2_cm (fun (g : ∀ i : C_path_walk_2, Option i.R) a0 a1 a2 a3c0 a3c1 a3c2 a4 a5 => g (.k_path_walk_2 a0 a1 a2 a3c0 a3c1 a3c2 a4 a5)) (fun a0 a1 a2 a3c0 a3c1 a3c2 a4 a5 => cm_app (i := C_path_walk_2.k_path_walk_2 a0 a1 a2 a3c0 a3c1 a3c2 a4 a5)) (fun (g : ∀ i : C_path_walk_2, Option i.R) a0 a1c0 a1c1c0 a1c1c1 a1c1c2 a1c2 a1c3 => g (.k_path_parts_path_walk_2 a0 a1c0 a1c1c0 a1c1c1 a1c1c2 a1c2 a1c3)) (fun a0 a1c0 a1c1c0 a1c1c1 a1c1c2 a1c2 a1c3 => cm_app (i := C_path_walk_2.k_path_parts_path_walk_2 a0 a1c0 a1c1c0 a1c1c1 a1c1c2 a1c2 a1c3)) (fun (g : ∀ i : C_path_walk_2, Option i.R) a0 a1 a2c0 a2c1 a2c2 => g (.k_path_walk_law24_MergeMade_1 a0 a1 a2c0 a2c1 a2c2)) (fun a0 a1 a2c0 a2c1 a2c2 => cm_app (i := C_path_walk_2.k_path_walk_law24_MergeMade_1 a0 a1 a2c0 a2c1 a2c2)) a0 a1c0 a1c1c0 a1c1c1 a1c1c2 a1c2 a1c3
 | k_path_walk_law24_MergeMade_1 a0 a1 a2c0 a2c1 a2c2 => exact b_path_walk_law24_MergeMade_1_cm (fun (g : ∀ i : C_path_walk_2, Option i.R) a0 a1 a2 a3c0 a3c1 a3c2 a4 a5 => g (.k_path_walk_2 a0 a1 a2 a3c0 a3c1 a3c2 a4 a5)) (fun a0 a1 a2 a3c0 a3c1 a3c2 a4 a5 => cm_app (i := C_path_walk_2.k_path_walk_2 a0 a1 a2 a3c0 a3c1 a3c2 a4 a5)) (fun (g : ∀ i : C_path_walk_2, Option i.R) a0 a1c0 a1c1c0 a1c1c1 a1c1c2 a1c2 a1c3 => g (.k_path_parts_path_walk_2 a0 a1c0 a1c1c0 a1c1c1 a1c1c2 a1c2 a1c3)) (fun a0 a1c0 a1c1c0 a1c1c1 a1c1c2 a1c2 a1c3 => cm_app (i := C_path_walk_2.k_path_parts_path_walk_2 a0 a1c0 a1c1c0 a1c1c1 a1c1c2 a1c2 a1c3)) (fun (g : ∀ i : C_path_walk_2, Option i.R) a0 a1 a2c0 a2c1 a2c2 => g (.k_path_walk_law24_MergeMade_1 a0 a1 a2c0 a2c1 a2c2)) (fun a0 a1 a2c0 a2c1 a2c2 => cm_app (i := C_path_walk_2.k_path_walk_law24_MergeMade_1 a0 a1 a2c0 a2c1 a2c2)) a0 a1 a2c0 a2c1 a2c2
theorem e_path_walk_2 (a0 : S_api_Step) (a1 : V) (a2 : (List S_api_Step)) (a3c0 : V) (a3c1 : V) (a3c2 : Bool) (a4 : Bool) (a5 : Int) : p_path_walk_2 a0 a1 a2 a3c0 a3c1 a3c2 a4 a5 = b_path_walk_2 p_path_walk_2 p_path_parts_path_walk_2 p_path_walk_law24_MergeMade_1 a0 a1 a2 a3c0 a3c1 a3c2 a4 a5 := fixO_eq C_path_walk_2.cm (.k_path_walk_2 a0 a1 a2 a3c0 a3c1 a3c2 a4 a5)
theorem e_path_parts_path_walk_2 (a0 : V) (a1c0 : (List S_api_Step)) (a1c1c0 : V) (a1c1c1 : V) (a1c1c2 : Bool) (a1c2 : Bool) (a1c3 : Int) : p_path_parts_path_walk_2 a0 a1c0 a1c1c0 a1c1c1 a1c1c2 a1c2 a1c3 = b_path_parts_path_walk_2 p_path_walk_2 p_path_parts_path_walk_2 p_path_walk_law24_MergeMade_1 a0 a1c0 a1c1c0 a1c1c1 a1c1c2 a1c2 a1c3 := fixO_eq C_path_walk_2.cm (.k_path_parts_path_walk_2 a0 a1c0 a1c1c0 a1c1c1 a1c1c2 a1c2 a1c3)
theorem e_path_walk_law24_MergeMade_1 (a0 : (List S_api_Step)) (a1 : V) (a2c0 : V) (a2c1 : V) (a2c2 : Bool) : p_path_walk_law24_MergeMade_1 a0 a1 a2c0 a2c1 a2c2 = b_path_walk_law24_MergeMade_1 p_path_walk_2 p_path_parts_path_walk_2 p_path_walk_law24_MergeMade_1 a0 a1 a2c0 a2c1 a2c2 := fixO_eq C_path_walk_2.cm (.k_path_walk_law24_MergeMade_1 a0 a1 a2c0 a2c1 a2c2)
def C_path_walk_2.Q : ∀ i : C_path_walk_2, i.R → Prop
 | .k_path_walk_2 a0 a1 a2 a3c0 a3c1 a3c2 a4 a5 => fun (r : (Bool × Bool × Bool × Int)) => MCalls Try.prog 49 [(of_api_Step a0), (ofV a1), (PV.pt 42 (PV.sl none 57 3 (List.map of_api_Step a2)) 0), (PV.rf 0 0), (PV.rf 2 0), (PV.rf 3 0)] [.box 53 [(PV.fn (.func 14) [] [(PV.pt 20 (ofV a3c0) 0), (PV.pt 20 (ofV a3c1) 0), (PV.rf 1 0)])], .box 4 [(BO a3c2)], .box 4 [(BO a4)], .box 33 [(I64 a5)]] (BO r.1) [.box 53 [(PV.fn (.func 14) [] [(PV.pt 20 (ofV a3c0) 0), (PV.pt 20 (ofV a3c1) 0), (PV.rf 1 0)])], .box 4 [(BO r.2.1)], .box 4 [(BO r.2.2.1)], .box 33 [(I64 r.2.2.2)]]
 | .k_path_parts_path_walk_2 a0 a1c0 a1c1c0 a1c1c1 a1c1c2 a1c2 a1c3 => fun (r : (Bool × Bool × Int)) => MCalls Try.prog 48 [(ofV a0), (PV.fn (.func 49) [] [(PV.pt 42 (PV.sl none 57 3 (List.map of_api_Step a1c0)) 0), (PV.rf 0 0), (PV.rf 2 0), (PV.rf 3 0)])] [.box 53 [(PV.fn (.func 14) [] [(PV.pt 20 (ofV a1c1c0) 0), (PV.pt 20 (ofV a1c1c1) 0), (PV.rf 1 0)])], .box 4 [(BO a1c1c2)], .box 4 [(BO a1c2)], .box 33 [(I64 a1c3)]] (PV.tup []) [.box 53 [(PV.fn (.func 14) [] [(PV.pt 20 (ofV a1c1c0) 0), (PV.pt 20 (ofV a1c1c1) 0), (PV.rf 1 0)])], .box 4 [(BO r.1)], .box 4 [(BO r.2.1)], .box 33 [(I64 r.2.2)]]
 | .k_path_walk_law24_MergeMade_1 a0 a1 a2c0 a2c1 a2c2 => fun (r : (Bool × Int × Bool)) => MCalls Try.prog 23 [(PV.sl none 57 3 (List.map of_api_Step a0)), (ofV a1), (PV.fn (.func 14) [] [(PV.pt 20 (ofV a2c0) 0), (PV.pt 20 (ofV a2c1) 0), (PV.rf 0 0)])] [.box 4 [(BO a2c2)]] (PV.tup [(BO r.1), (I64 r.2.1)]) [.box 4 [(BO r.2.2)]]
theorem t_path_walk_2 (r_path_walk_2 : S_api_Step → V → (List S_api_Step) → V → V → Bool → Bool → Int → Option (Bool × Bool × Bool × Int)) (c_path_walk_2 : ∀ (a0 : S_api_Step) (a1 : V) (a2 : (List S_api_Step)) (a3c0 : V) (a3c1 : V) (a3c2 : Bool) (a4 : Bool) (a5 : Int) r, r_path_walk_2 a0 a1 a2 a3c0 a3c1 a3c2 a4 a5 = some r → MCalls Try.prog 49 [(of_api_Step a0), (ofV a1), (PV.pt 42 (PV.sl none 57 3 (List.map of_api_Step a2)) 0), (PV.rf 0 0), (PV.rf 2 0), (PV.rf 3 0)] [.box 53 [(PV.fn (.func 14) [] [(PV.pt 20 (ofV a3c0) 0), (PV.pt 20 (ofV a3c1) 0), (PV.rf 1 0)])], .box 4 [(BO a3c2)], .box 4 [(BO a4)], .box 33 [(I64 a5)]] (BO r.1) [.box 53 [(PV.fn (.func 14) [] [(PV.pt 20 (ofV a3c0) 0), (PV.pt 20 (ofV a3c1) 0), (PV.rf 1 0)])], .box 4 [(BO r.2.1)], .box 4 [(BO r.2.2.1)], .box 33 [(I64 r.2.2.2)]]) (r_path_parts_path_walk_2 : V → (List S_api_Step) → V → V → Bool → Bool → Int → Option (Bool × Bool × Int)) (c_path_parts_path_walk_2 : ∀ (a0 : V) (a1c0 : (List S_api_Step)) (a1c1c0 : V) (a1c1c1 : V) (a1c1c2 : Bool) (a1c2 : Bool) (a1c3 : Int) r, r_path_parts_path_walk_2 a0 a1c0 a1c1c0 a1c1c1 a1c1c2 a1c2 a1c3 = some r → MCalls Try.prog 48 [(ofV a0), (PV.fn (.func 49) [] [(PV.pt 42 (PV.sl none 57 3 (List.map of_api_Step a1c0)) 0), (PV.rf 0 0), (PV.rf 2 0), (PV.rf 3 0)])] [.box 53 [(PV.fn (.func 14) [] [(PV.pt 20 (ofV a1c1c0) 0), (PV.pt 20 (ofV a1c1c1) 0), (PV.rf 1 0)])], .box 4 [(BO a1c1c2)], .box 4 [(BO a1c2)], .box 33 [(I64 a1c3)]] (PV.tup []) [.box 53 [(PV.fn (.func 14) [] [(PV.pt 20 (ofV a1c1c0) 0), (PV.pt 20 (ofV a1c1c1) 0), (PV.rf 1 0)])], .box 4 [(BO r.1)], .box 4 [(BO r.2.1)], .box 33 [(I64 r.2.2)]]) (r_path_walk_law24_MergeMade_1 : (List S_api_Step) → V → V → V → Bool → Option (Bool × Int × Bool)) (c_path_walk_law24_MergeMade_1 : ∀ (a0 : (List S_api_Step)) (a1 : V) (a2c0 : V) (a2c1 : V) (a2c2 : Bool) r, r_path_walk_law24_MergeMade_1 a0 a1 a2c0 a2c1 a2c2 = some r → MCalls Try.prog 23 [(PV.sl none 57 3 (List.map of_api_Step a0)), (ofV a1), (PV.fn (.func 14) [] [(PV.pt 20 (ofV a2c0) 0), (PV.pt 20 (ofV a2c1) 0), (PV.rf 0 0)])] [.box 4 [(BO a2c2)]] (PV.tup [(BO r.1), (I64 r.2.1)]) [.box 4 [(BO r.2.2)]]) (a0 : S_api_Step) (a1 : V) (a2 : (List S_api_Step)) (a3c0 : V) (a3c1 : V) (a3c2 : Bool) (a4 : Bool) (a5 : Int) (r : (Bool × Bool × Bool × Int)) (h : b_path_walk_2 r_path_walk_2 r_path_parts_path_walk_2 r_path_walk_law24_MergeMade_1 a0 a1 a2 a3c0 a3c1 a3c2 a4 a5 = some r) : MCalls Try.prog 49 [(of_api_Step a0), (ofV a1), (PV.pt 42 (PV.sl none 57 3 (List.map of_api_Step a2)) 0), (PV.rf 0 0), (PV.rf 2 0), (PV.rf 3 0)] [.box 53 [(PV.fn (.func 14) [] [(PV.pt 20 (ofV a3c0) 0), (PV.pt 20 (ofV a3c1) 0), (PV.rf 1 0)])], .box 4 [(BO a3c2)], .box 4 [(BO a4)], .box 33 [(I64 a5)]] (BO r.1) [.box 53 [(PV.fn (.func 14) [] [(PV.pt 20 (ofV a3c0) 0), (PV.pt 20 (ofV a3c1) 0), (PV.rf 1 0)])], .box 4 [(BO r.2.1)], .box 4 [(BO r.2.2.1)], .box 33 [(I64 r.2.2.2)]] := by
 unfold b_path_walk_2 at h
 refine acalls_of Try.func49 rfl Try.ntmps49 Try.results49 rfl (aw_of_bw ?_)
 change BW _ _ _ ⟨[(0, (of_api_Step a0)), (1, (ofV a1)), (2, (PV.pt 42 (PV.sl none 57 3 (List.map of_api_Step a2)) 0)), (3, (PV.rf 0 0)), (4, (PV.rf 2 0)), (5, (PV.rf 3 0))], [.box 53 [(PV.fn (.func 14) [] [(PV.pt 20 (ofV a3c0) 0), (PV.pt 20 (ofV a3c1) 0), (PV.rf 1 0)])], .box 4 [(BO a3c2)], .box 4 [(BO a4)], .box 33 [(I64 a5)]], _⟩ _
 refine bR ?_
 refine sS rfl rfl rfl (op1_box rfl rfl rfl) ?_
 refine sA rfl rfl rfl rfl rfl (ao_nil ?_)
 change BW _ _ _ _ _
 refine bw_seq (bw_tail 12 [1, 4, 7, 11] [0, 4] mo (by kernel_rfl) ?_)
 refine ac_go rfl rfl rfl rfl (fun H hp => op1_ldP (y := (PV.sl none 57 3 (List.map of_api_Step a2))) Try.underlying42 rfl rfl rfl rfl) ?_
 obtain ⟨x1, hx1, h⟩ := obind h
 refine ac_lgo rfl rfl rfl rfl (op1_ocall rfl en_50 rfl (.cons (Wk.refl _) .nil) ⟨(ids_slM ids_S_api_Step a2), trivial⟩ (s_slices_Clip_api_Step_api_Step a2 x1 hx1) (ren_ownrow (ids_map ids_S_api_Step _) rfl) rfl) ⟨rfl, ⟨rfl, trivial⟩⟩ ?_
 refine ac_go rfl rfl rfl rfl (fun H hp => (op1_ldRA inf_57 Try.underlying57 rfl rfl rfl (hp.at rfl rfl) rfl rfl)) ?_
 refine ac_go rfl rfl rfl rfl (fun H hp => (op1_bsliceH (xs := [(PV.agg [(ofStr a0.f_Name), (BO a0.f_At), (I64 a0.f_Index)])]) Try.underlying42 inf_57 rfl rfl rfl rfl rfl rfl ⟨Nat.le_of_ble_eq_true rfl, Nat.le_of_ble_eq_true rfl⟩ rfl).cast (y := (PV.sl none 57 3 (List.map of_api_Step ([a0] : (List S_api_Step))))) rfl rfl) ?_
 obtain ⟨x2, hx2, h⟩ := obind h
 refine ac_lgo rfl rfl rfl rfl (op1_appM Try.underlying42 inf_57 rfl Try.underlying42 rfl rfl rfl rfl csz_S_api_Step call1_S_api_Step hx2 rfl) ⟨rfl, ⟨rfl, trivial⟩⟩ ?_
 refine ac_go rfl rfl rfl rfl (fun H hp => op1_move rfl rfl) ?_
 refine ac_go rfl rfl rfl rfl (fun H hp => (op1_ldR Try.underlying53 rfl rfl rfl (hp.at rfl rfl) rfl)) ?_
 obtain ⟨x3, hx3, h⟩ := obind h
 refine ac_lgo rfl rfl rfl rfl (Op1.cast (y := (PV.tup [(BO x3.1), (I64 x3.2.1)])) (H'' := [.box 53 [(PV.fn (.func 14) [] [(PV.pt 20 (ofV a3c0) 0), (PV.pt 20 (ofV a3c1) 0), (PV.rf 1 0)])], .box 4 [(BO x3.2.2)], .box 4 [(BO a4)], .box 33 [(I64 a5)], .box 57 [(ofStr a0.f_Name), (BO a0.f_At), (I64 a0.f_Index)], .arr 57 (x2).length]) (op1_mcall [1] (.func rfl) en_23 rfl (.cons Wk.tok (.cons (Wk.refl _) (.cons (Wk.refl _) .nil))) rfl (.cons rfl (.box (.cons (.same rfl) .nil)) .nil) (.cons (.same (ids_slM ids_S_api_Step x2)) (.cons (.same (ids_V a1)) (.cons (.fn (.cons (.same (ids_ptC (ids_V a3c0))) (.cons (.same (ids_ptC (ids_V a3c1))) (.cons (.rf rfl) .nil)))) .nil))) (c_path_walk_law24_MergeMade_1 x2 a1 a3c0 a3c1 a3c2 x3 hx3) (.same (ids_tup_cons rfl (ids_tup_cons rfl ids_tup_nil))) (.cons (.box (.cons (.same rfl) .nil)) .nil) rfl) rfl rfl) ⟨rfl, ⟨rfl, trivial⟩⟩ ?_
 refine ac_go rfl rfl rfl rfl (fun H hp => op1_move rfl rfl) ?_
 refine ac_go rfl rfl rfl rfl (fun H hp => op1_ext rfl rfl rfl) ?_
 refine ac_go rfl rfl rfl rfl (fun H hp => op1_ext rfl rfl rfl) ?_
 refine ac_lgo0 rfl rfl rfl (op1_store inf_4 rfl rfl rfl rfl rfl rfl (Nat.le_of_ble_eq_true rfl) rfl) ⟨rfl, ⟨rfl, trivial⟩⟩ ?_
 refine ac_nil ?_
 change AO _ _ _ _ _
 refine ao_step0 rfl rfl (op1_store inf_33 rfl rfl rfl rfl rfl rfl (Nat.le_of_ble_eq_true rfl) rfl) ?_
 refine ao_nil ?_
 change BW _ _ _ _ _
 refine bR ?_
 refine sS rfl rfl rfl ((op1_ldR Try.underlying4 rfl rfl rfl rfl rfl)) ?_
 refine sA rfl rfl rfl rfl rfl (ao_nil ?_)
 change BW _ _ _ _ _
 refine bw_ret ?_
 change ∃ xs, _ = some xs ∧ EndOk _ _ _ _
 obtain rfl := Option.some.inj h
 exact ⟨_, rfl, endR (y := (BO x3.1)) 4 (Wk.refl _) rfl rfl (.same rfl) (.cons (.box (.cons (.fn (.cons (.same (ids_ptC (ids_V _))) (.cons (.same (ids_ptC (ids_V _))) (.cons (.rf rfl) .nil)))) .nil)) (.cons (.box (.cons (.same rfl) .nil)) (.cons (.box (.cons (.same rfl) .nil)) (.cons (.box (.cons (.same rfl) .nil)) .nil)))) ⟨rfl, rfl⟩⟩
theorem t_path_parts_path_walk_2 (r_path_walk_2 : S_api_Step → V → (List S_api_Step) → V → V → Bool → Bool → Int → Option (Bool × Bool × Bool × Int)) (c_path_walk_2 : ∀ (a0 : S_api_Step) (a1 : V) (a2 : (List S_api_Step)) (a3c0 : V) (a3c1 : V) (a3c2 : Bool) (a4 : Bool) (a5 : Int) r, r_path_walk_2 a0 a1 a2 a3c0 a3c1 a3c2 a4 a5 = some r → MCalls Try.prog 49 [(of_api_Step a0), (ofV a1), (PV.pt 42 (PV.sl none 57 3 (List.map of_api_Step a2)) 0), (PV.rf 0 0), (PV.rf 2 0), (PV.rf 3 0)] [.box 53 [(PV.fn (.func 14) [] [(PV.pt 20 (ofV a3c0) 0), (PV.pt 20 (ofV a3c1) 0), (PV.rf 1 0)])], .box 4 [(BO a3c2)], .box 4 [(BO a4)], .box 33 [(I64 a5)]] (BO r.1) [.box 53 [(PV.fn (.func 14) [] [(PV.pt 20 (ofV a3c0) 0), (PV.pt 20 (ofV a3c1) 0), (PV.rf 1 0)])], .box 4 [(BO r.2.1)], .box 4 [(BO r.2.2.1)], .box 33 [(I64 r.2.2.2)]]) (r_path_parts_path_walk_2 : V → (List S_api_Step) → V → V → Bool → Bool → Int → Option (Bool × Bool × Int)) (c_path_parts_path_walk_2 : ∀ (a0 : V) (a1c0 : (List S_api_Step)) (a1c1c0 : V) (a1c1c1 : V) (a1c1c2 : Bool) (a1c2 : Bool) (a1c3 : Int) r, r_path_parts_path_walk_2 a0 a1c0 a1c1c0 a1c1c1 a1c1c2 a1c2 a1c3 = some r → MCalls Try.prog 48 [(ofV a0), (PV.fn (.func 49) [] [(PV.pt 42 (PV.sl none 57 3 (List.map of_api_Step a1c0)) 0), (PV.rf 0 0), (PV.rf 2 0), (PV.rf 3 0)])] [.box 53 [(PV.fn (.func 14) [] [(PV.pt 20 (ofV a1c1c0) 0), (PV.pt 20 (ofV a1c1c1) 0), (PV.rf 1 0)])], .box 4 [(BO a1c1c2)], .box 4 [(BO a1c2)], .box 33 [(I64 a1c3)]] (PV.tup []) [.box 53 [(PV.fn (.func 14) [] [(PV.pt 20 (ofV a1c1c0) 0), (PV.pt 20 (ofV a1c1c1) 0), (PV.rf 1 0)])], .box 4 [(BO r.1)], .box 4 [(BO r.2.1)], .box 33 [(I64 r.2.2)]]) (r_path_walk_law24_MergeMade_1 : (List S_api_Step) → V → V → V → Bool → Option (Bool × Int × Bool)) (c_path_walk_law24_MergeMade_1 : ∀ (a0 : (List S_api_Step)) (a1 : V) (a2c0 : V) (a2c1 : V) (a2c2 : Bool) r, r_path_walk_law24_MergeMade_1 a0 a1 a2c0 a2c1 a2c2 = some r → MCalls Try.prog 23 [(PV.sl none 57 3 (List.map of_api_Step a0)), (ofV a1), (PV.fn (.func 14) [] [(PV.pt 20 (ofV a2c0) 0), (PV.pt 20 (ofV a2c1) 0), (PV.rf 0 0)])] [.box 4 [(BO a2c2)]] (PV.tup [(BO r.1), (I64 r.2.1)]) [.box 4 [(BO r.2.2)]]) (a0 : V) (a1c0 : (List S_api_Step)) (a1c1c0 : V) (a1c1c1 : V) (a1c1c2 : Bool) (a1c2 : Bool) (a1c3 : Int) (r : (Bool × Bool × Int)) (h : b_path_parts_path_walk_2 r_path_walk_2 r_path_parts_path_walk_2 r_path_walk_law24_MergeMade_1 a0 a1c0 a1c1c0 a1c1c1 a1c1c2 a1c2 a1c3 = some r) : MCalls Try.prog 48 [(ofV a0), (PV.fn (.func 49) [] [(PV.pt 42 (PV.sl none 57 3 (List.map of_api_Step a1c0)) 0), (PV.rf 0 0), (PV.rf 2 0), (PV.rf 3 0)])] [.box 53 [(PV.fn (.func 14) [] [(PV.pt 20 (ofV a1c1c0) 0), (PV.pt 20 (ofV a1c1c1) 0), (PV.rf 1 0)])], .box 4 [(BO a1c1c2)], .box 4 [(BO a1c2)], .box 33 [(I64 a1c3)]] (PV.tup []) [.box 53 [(PV.fn (.func 14) [] [(PV.pt 20 (ofV a1c1c0) 0), (PV.pt 20 (ofV a1c1c1) 0), (PV.rf 1 0)])], .box 4 [(BO r.1)], .box 4 [(BO r.2.1)], .box 33 [(I64 r.2.2)]] := by
 unfold b_path_parts_path_walk_2 at h
 refine acalls_of Try.func48 rfl Try.ntmps48 Try.results48 rfl (aw_of_bw ?_)
 change BW _ _ _ ⟨[(0, (ofV a0)), (1, (PV.fn (.func 49) [] [(PV.pt 42 (PV.sl none 57 3 (List.map of_api_Step a1c0)) 0), (PV.rf 0 0), (PV.rf 2 0), (PV.rf 3 0)]))], [.box 53 [(PV.fn (.func 14) [] [(PV.pt 20 (ofV a1c1c0) 0), (PV.pt 20 (ofV a1c1c1) 0), (PV.rf 1 0)])], .box 4 [(BO a1c1c2)], .box 4 [(BO a1c2)], .box 33 [(I64 a1c3)]], _⟩ _
 refine bw_seqJ (ι := (Bool × Bool × Int)) (fun i => path_parts_path_walk_2_j1 r_path_walk_2 a0 a1c0 a1c1c0 a1c1c1 i.1 i.2.1 i.2.2 = some r) (fun i => [(0, (ofV a0)), (1, (PV.fn (.func 49) [] [(PV.pt 42 (PV.sl none 57 3 (List.map of_api_Step a1c0)) 0), (PV.rf 0 0), (PV.rf 2 0), (PV.rf 3 0)]))]) (fun i => [.box 53 [(PV.fn (.func 14) [] [(PV.pt 20 (ofV a1c1c0) 0), (PV.pt 20 (ofV a1c1c1) 0), (PV.rf 1 0)])], .box 4 [(BO i.1)], .box 4 [(BO i.2.1)], .box 33 [(I64 i.2.2)]]) ?_ ?_ ?_
 ·intro i; exact ⟨Nat.le_of_ble_eq_true rfl, ⟨(il_nil (ids_V _)), ⟨(il_fn (ill_cons (il_nil (ids_ptC (ids_slM ids_S_api_Step a1c0))) (ill_cons (il_rf rfl) (ill_cons (il_rf rfl) (ill_cons (il_rf rfl) ill_nil))))), trivial⟩⟩, ⟨⟨(il_fn (ill_cons (il_nil (ids_ptC (ids_V a1c1c0))) (ill_cons (il_nil (ids_ptC (ids_V a1c1c1))) (ill_cons (il_rf rfl) ill_nil)))), trivial⟩, ⟨⟨(il_nil rfl), trivial⟩, ⟨⟨(il_nil rfl), trivial⟩, ⟨⟨(il_nil rfl), trivial⟩, trivial⟩⟩⟩⟩⟩
 ·rintro ⟨s1, s2, s3⟩ h; replace h : path_parts_path_walk_2_j1 r_path_walk_2 a0 a1c0 a1c1c0 a1c1c1 s1 s2 s3 = some r := h; unfold path_parts_path_walk_2_j1 at h
  change BW _ _ _ ⟨[(0, (ofV a0)), (1, (PV.fn (.func 49) [] [(PV.pt 42 (PV.sl none 57 3 (List.map of_api_Step a1c0)) 0), (PV.rf 0 0), (PV.rf 2 0), (PV.rf 3 0)]))], [.box 53 [(PV.fn (.func 14) [] [(PV.pt 20 (ofV a1c1c0) 0), (PV.pt 20 (ofV a1c1c1) 0), (PV.rf 1 0)])], .box 4 [(BO s1)], .box 4 [(BO s2)], .box 33 [(I64 s3)]], _⟩ _
  refine bR ?_
  refine sM rfl rfl rfl rfl rfl ?_
  obtain ⟨x4, hx4, h⟩ := obind h
  refine sS rfl rfl rfl (op1_pcall rfl en_63 rfl (.cons (Wk.refl _) .nil) ⟨(ids_V a0), trivial⟩ (s_path_fieldsOf a0 x4 hx4) (ids_tup_cons (ids_slM ids_Fld x4.1) (ids_tup_cons rfl ids_tup_nil))) ?_
  refine sM rfl rfl rfl rfl rfl ?_
  refine sS rfl rfl rfl (op1_ext rfl rfl rfl) ?_
  refine sS rfl rfl rfl (op1_ext rfl rfl rfl) ?_
  refine sA rfl rfl rfl rfl rfl ?_
  refine sA rfl rfl rfl rfl rfl (ao_nil ?_)
  change BW _ _ _ _ _
  refine bR ?_
  refine sM rfl rfl rfl rfl rfl ?_
  refine sS rfl rfl rfl (op1_lenM Try.underlying49 rfl rfl) ?_
  refine sM rfl rfl rfl rfl rfl (ao_nil ?_)
  change BW _ _ _ _ _
  refine bw_block ?_
  change BW _ _ _ _ _
  unfold path_parts_path_walk_2_l1 at h
  refine bw_loop (σ := (Nat × Bool × Bool × Int)) (fun i => [(1, (PV.fn (.func 49) [] [(PV.pt 42 (PV.sl none 57 3 (List.map of_api_Step a1c0)) 0), (PV.rf 0 0), (PV.rf 2 0), (PV.rf 3 0)])), (37, (PV.sl none 55 2 (List.map ofFld x4.1))), (38, (I64 ((((x4.1).length : Nat) : Int)))), (39, (I64 (((i.1 : Nat) : Int))))]) (fun i => [.box 53 [(PV.fn (.func 14) [] [(PV.pt 20 (ofV a1c1c0) 0), (PV.pt 20 (ofV a1c1c1) 0), (PV.rf 1 0)])], .box 4 [(BO i.2.1)], .box 4 [(BO i.2.2.1)], .box 33 [(I64 i.2.2.2)]]) (0, s1, s2, s3) h ?_ ?_ ?_
  ·intro i; exact ⟨Nat.le_of_ble_eq_true rfl, ⟨(il_fn (ill_cons (il_nil (ids_ptC (ids_slM ids_S_api_Step a1c0))) (ill_cons (il_rf rfl) (ill_cons (il_rf rfl) (ill_cons (il_rf rfl) ill_nil))))), ⟨(il_nil (ids_slM ids_Fld _)), ⟨(il_nil rfl), ⟨(il_nil rfl), trivial⟩⟩⟩⟩, ⟨⟨(il_fn (ill_cons (il_nil (ids_ptC (ids_V a1c1c0))) (ill_cons (il_nil (ids_ptC (ids_V a1c1c1))) (ill_cons (il_rf rfl) ill_nil)))), trivial⟩, ⟨⟨(il_nil rfl), trivial⟩, ⟨⟨(il_nil rfl), trivial⟩, ⟨⟨(il_nil rfl), trivial⟩, trivial⟩⟩⟩⟩⟩
  ·exact ⟨(.cons .same (.cons .same (.cons .same (.cons .same .nil)))), (sC rfl (sC rfl (sC rfl (sC rfl sub_nil))))⟩
  ·rintro g1_f ⟨s5, s6, s7, s8⟩ h; replace h : path_parts_path_walk_2_l1b r_path_walk_2 a1c0 a1c1c0 a1c1c1 x4 (fun y0 y1 y2 y3 => g1_f (y0, y1, y2, y3)) s5 s6 s7 s8 = some r := h; unfold path_parts_path_walk_2_l1b at h
   change BW _ _ _ ⟨[(1, (PV.fn (.func 49) [] [(PV.pt 42 (PV.sl none 57 3 (List.map of_api_Step a1c0)) 0), (PV.rf 0 0), (PV.rf 2 0), (PV.rf 3 0)])), (37, (PV.sl none 55 2 (List.map ofFld x4.1))), (38, (I64 ((((x4.1).length : Nat) : Int)))), (39, (I64 (((s5 : Nat) : Int))))], [.box 53 [(PV.fn (.func 14) [] [(PV.pt 20 (ofV a1c1c0) 0), (PV.pt 20 (ofV a1c1c1) 0), (PV.rf 1 0)])], .box 4 [(BO s6)], .box 4 [(BO s7)], .box 33 [(I64 s8)]], _⟩ _
   refine bR ?_
   refine sS rfl rfl rfl ((op1_cmp rfl rfl rfl rfl).cast (y := (BO ((decide (((s5 : Nat) : Int) < (((x4.1).length : Nat) : Int)))))) rfl rfl) (ao_nil ?_)
   change BW _ _ _ _ _
   refine bw_seq ?_
   refine bw_len (t := 37) rfl fun hb10 => ?_
   try rw [List.length_map] at hb10
   refine bw_cond rfl ?_ ?_
   ·intro hc9; replace h := ocond_t hc9 h
    have hc9_ := of_decide_eq_true hc9
    refine bw_skip ?_
    change BW _ _ _ _ _
    refine bw_seq ?_
    refine bw_block ?_
    change BW _ _ _ _ _
    refine bR ?_
    obtain ⟨x11, hx11, h⟩ := obind h
    refine sS rfl rfl rfl (op1_idxN (i := s5) Try.underlying49 inf_55 rfl rfl rfl hx11 rfl) ?_
    refine sS rfl rfl rfl (op1_ldPW inf_55 Try.underlying55 rfl rfl rfl rfl rfl) ?_
    refine sS rfl rfl rfl ((op1_alloc inf_55 rfl).cast (H'' := [.box 53 [(PV.fn (.func 14) [] [(PV.pt 20 (ofV a1c1c0) 0), (PV.pt 20 (ofV a1c1c1) 0), (PV.rf 1 0)])], .box 4 [(BO s6)], .box 4 [(BO s7)], .box 33 [(I64 s8)], .box 55 [(ofStr []), (ofV V.nil)]]) rfl (by simp only [mk_nil]; rfl)) ?_
    refine ao_step0 rfl rfl (op1_store inf_55 rfl rfl rfl rfl rfl rfl (Nat.le_of_ble_eq_true rfl) (by show List.all [(ofStr x11.1), (ofV x11.2)] one1 = true; simp only [List.all_cons, List.all_nil, one_V, one_RecP, Bool.and_true, Bool.true_and]; try rfl)) ?_
    refine ao_nil ?_
    change BW _ _ _ _ _
    refine bR ?_
    refine sM rfl rfl rfl rfl rfl ?_
    refine sS rfl rfl rfl (op1_faR st_55 (i := 0) rfl rfl rfl) ?_
    refine sS rfl rfl rfl ((op1_ldR Try.underlying9 rfl rfl rfl rfl rfl)) ?_
    refine sS rfl rfl rfl (op1_build (cs := [(ofStr x11.1), (BO false), (I64 0)]) st_57 inf_57 rfl rfl rfl rfl) ?_
    refine sS rfl rfl rfl (op1_faR st_55 (i := 1) rfl rfl rfl) ?_
    refine sS rfl rfl rfl ((op1_ldR Try.underlying20 rfl rfl rfl rfl rfl)) ?_
    obtain ⟨x12, hx12, h⟩ := obind h
    refine sS rfl rfl rfl (Op1.cast (y := (BO x12.1)) (H'' := [.box 53 [(PV.fn (.func 14) [] [(PV.pt 20 (ofV a1c1c0) 0), (PV.pt 20 (ofV a1c1c1) 0), (PV.rf 1 0)])], .box 4 [(BO x12.2.1)], .box 4 [(BO x12.2.2.1)], .box 33 [(I64 x12.2.2.2)], .box 55 [(ofStr x11.1), (ofV x11.2)]]) (op1_mcall [0, 1, 2, 3] (.held rfl rfl) en_49 rfl (.cons (Wk.refl _) (.cons (Wk.refl _) (.cons (Wk.refl _) (.cons (Wk.refl _) (.cons (Wk.refl _) (.cons (Wk.refl _) .nil)))))) rfl (.cons rfl (.box (.cons (.fn (.cons (.same (ids_ptC (ids_V _))) (.cons (.same (ids_ptC (ids_V _))) (.cons (.rf rfl) .nil)))) .nil)) (.cons rfl (.box (.cons (.same rfl) .nil)) (.cons rfl (.box (.cons (.same rfl) .nil)) (.cons rfl (.box (.cons (.same rfl) .nil)) .nil)))) (.cons (.same (ids_S_api_Step (S_api_Step.mk x11.1 false 0))) (.cons (.same (ids_V x11.2)) (.cons (.same (ids_ptC (ids_slM ids_S_api_Step a1c0))) (.cons (.rf rfl) (.cons (.rf rfl) (.cons (.rf rfl) .nil)))))) (c_path_walk_2 (S_api_Step.mk x11.1 false 0) x11.2 a1c0 a1c1c0 a1c1c1 s6 s7 s8 x12 hx12) (.same rfl) (.cons (.box (.cons (.fn (.cons (.same (ids_ptC (ids_V _))) (.cons (.same (ids_ptC (ids_V _))) (.cons (.rf rfl) .nil)))) .nil)) (.cons (.box (.cons (.same rfl) .nil)) (.cons (.box (.cons (.same rfl) .nil)) (.cons (.box (.cons (.same rfl) .nil)) .nil)))) rfl) rfl rfl) ?_
    refine sS rfl rfl rfl (op1_not rfl rfl) (ao_nil ?_)
    change BW _ _ _ _ _
    refine bw_cond rfl ?_ ?_
    ·intro hc13; replace h := ocond_t hc13 h
     refine bw_ret ?_
     change ∃ xs, _ = some xs ∧ EndOk _ _ _ _
     obtain rfl := Option.some.inj h
     exact ⟨_, rfl, endR (y := (PV.tup [])) 4 (Wk.refl _) rfl rfl (.tup .nil) (.cons (.box (.cons (.fn (.cons (.same (ids_ptC (ids_V _))) (.cons (.same (ids_ptC (ids_V _))) (.cons (.rf rfl) .nil)))) .nil)) (.cons (.box (.cons (.same rfl) .nil)) (.cons (.box (.cons (.same rfl) .nil)) (.cons (.box (.cons (.same rfl) .nil)) .nil)))) ⟨rfl, rfl⟩⟩
    ·intro hc13; replace h := ocond_f hc13 h
     refine bw_skip ?_
     change BW _ _ _ _ _
     refine bw_region ?_
     refine sS rfl rfl rfl (op1_incN (k := s5) (c := 1) rfl rfl rfl (by omega)) ?_
     refine sM rfl rfl rfl rfl rfl (ao_nil ?_)
     exact ⟨rfl, ((s5 + 1), x12.2.1, x12.2.2.1, x12.2.2.2), h, ⟨(.cons .same (.cons .same (.cons .same (.cons .same .nil)))), (sC rfl (sC rfl (sC rfl (sC rfl sub_nil))))⟩⟩
   ·intro hc9; replace h := ocond_f hc9 h
    refine bw_exit ?_
    change ∃ xs, _ = some xs ∧ EndOk _ _ _ _
    obtain rfl := Option.some.inj h
    exact ⟨_, rfl, endR (y := (PV.tup [])) 4 (Wk.refl _) rfl rfl (.tup .nil) (.cons (.box (.cons (.fn (.cons (.same (ids_ptC (ids_V _))) (.cons (.same (ids_ptC (ids_V _))) (.cons (.rf rfl) .nil)))) .nil)) (.cons (.box (.cons (.same rfl) .nil)) (.cons (.box (.cons (.same rfl) .nil)) (.cons (.box (.cons (.same rfl) .nil)) .nil)))) ⟨rfl, rfl⟩⟩
 ·refine bR ?_
  refine sM rfl rfl rfl rfl rfl ?_
  refine sS rfl rfl rfl (op1_taList rfl rfl) ?_
  refine sM rfl rfl rfl rfl rfl ?_
  refine sS rfl rfl rfl (op1_ext rfl rfl rfl) ?_
  refine sS rfl rfl rfl (op1_ext rfl rfl rfl) ?_
  refine sA rfl rfl rfl rfl rfl ?_
  refine sA rfl rfl rfl rfl rfl (ao_nil ?_)
  change BW _ _ _ _ _
  refine bR ?_
  refine sM rfl rfl rfl rfl rfl (ao_nil ?_)
  change BW _ _ _ _ _
  refine bw_cond rfl ?_ ?_
  ·intro hc14; replace h := ocond_t hc14 h
   refine bR ?_
   refine sM rfl rfl rfl rfl rfl ?_
   refine sS rfl rfl rfl (op1_lenM Try.underlying47 rfl rfl) ?_
   refine sM rfl rfl rfl rfl rfl (ao_nil ?_)
   change BW _ _ _ _ _
   refine bw_block ?_
   change BW _ _ _ _ _
   unfold path_parts_path_walk_2_l2 at h
   refine bw_loop (σ := (Nat × Bool × Bool × Int)) (fun i => [(0, (ofV a0)), (1, (PV.fn (.func 49) [] [(PV.pt 42 (PV.sl none 57 3 (List.map of_api_Step a1c0)) 0), (PV.rf 0 0), (PV.rf 2 0), (PV.rf 3 0)])), (18, (PV.sl none 20 1 (List.map ofV (a0).asList))), (19, (I64 (((((a0).asList).length : Nat) : Int)))), (20, (I64 (((i.1 : Nat) : Int))))]) (fun i => [.box 53 [(PV.fn (.func 14) [] [(PV.pt 20 (ofV a1c1c0) 0), (PV.pt 20 (ofV a1c1c1) 0), (PV.rf 1 0)])], .box 4 [(BO i.2.1)], .box 4 [(BO i.2.2.1)], .box 33 [(I64 i.2.2.2)]]) (0, a1c1c2, a1c2, a1c3) h ?_ ?_ ?_
   ·intro i; exact ⟨Nat.le_of_ble_eq_true rfl, ⟨(il_nil (ids_V _)), ⟨(il_fn (ill_cons (il_nil (ids_ptC (ids_slM ids_S_api_Step a1c0))) (ill_cons (il_rf rfl) (ill_cons (il_rf rfl) (ill_cons (il_rf rfl) ill_nil))))), ⟨(il_nil (ids_slM ids_V _)), ⟨(il_nil rfl), ⟨(il_nil rfl), trivial⟩⟩⟩⟩⟩, ⟨⟨(il_fn (ill_cons (il_nil (ids_ptC (ids_V a1c1c0))) (ill_cons (il_nil (ids_ptC (ids_V a1c1c1))) (ill_cons (il_rf rfl) ill_nil)))), trivial⟩, ⟨⟨(il_nil rfl), trivial⟩, ⟨⟨(il_nil rfl), trivial⟩, ⟨⟨(il_nil rfl), trivial⟩, trivial⟩⟩⟩⟩⟩
   ·exact ⟨(.cons .same (.cons .same (.cons .same (.cons .same .nil)))), (sC rfl (sC rfl (sC rfl (sC rfl (sC rfl sub_nil)))))⟩
   ·rintro g1_f ⟨s15, s16, s17, s18⟩ h; replace h : path_parts_path_walk_2_l2b r_path_walk_2 a0 a1c0 a1c1c0 a1c1c1 (fun y0 y1 y2 y3 => g1_f (y0, y1, y2, y3)) s15 s16 s17 s18 = some r := h; unfold path_parts_path_walk_2_l2b at h
    change BW _ _ _ ⟨[(0, (ofV a0)), (1, (PV.fn (.func 49) [] [(PV.pt 42 (PV.sl none 57 3 (List.map of_api_Step a1c0)) 0), (PV.rf 0 0), (PV.rf 2 0), (PV.rf 3 0)])), (18, (PV.sl none 20 1 (List.map ofV (a0).asList))), (19, (I64 (((((a0).asList).length : Nat) : Int)))), (20, (I64 (((s15 : Nat) : Int))))], [.box 53 [(PV.fn (.func 14) [] [(PV.pt 20 (ofV a1c1c0) 0), (PV.pt 20 (ofV a1c1c1) 0), (PV.rf 1 0)])], .box 4 [(BO s16)], .box 4 [(BO s17)], .box 33 [(I64 s18)]], _⟩ _
    refine bR ?_
    refine sS rfl rfl rfl ((op1_cmp rfl rfl rfl rfl).cast (y := (BO ((decide (((s15 : Nat) : Int) < ((((a0).asList).length : Nat) : Int)))))) rfl rfl) (ao_nil ?_)
    change BW _ _ _ _ _
    refine bw_seq ?_
    refine bw_len (t := 18) rfl fun hb20 => ?_
    try rw [List.length_map] at hb20
    refine bw_cond rfl ?_ ?_
    ·intro hc19; replace h := ocond_t hc19 h
     have hc19_ := of_decide_eq_true hc19
     refine bw_skip ?_
     change BW _ _ _ _ _
     refine bw_seq ?_
     refine bw_block ?_
     change BW _ _ _ _ _
     refine bR ?_
     refine sM rfl rfl rfl rfl rfl ?_
     obtain ⟨x21, hx21, h⟩ := obind h
     refine sS rfl rfl rfl (op1_idxN (i := s15) Try.underlying47 inf_20 rfl rfl rfl hx21 rfl) ?_
     refine sS rfl rfl rfl (op1_ldP (y := (ofV x21)) Try.underlying20 rfl rfl rfl (by rw [cells_V]; rfl)) ?_
     refine sA rfl rfl rfl rfl rfl ?_
     refine sA rfl rfl rfl rfl rfl (ao_nil ?_)
     change BW _ _ _ _ _
     refine bR ?_
     refine sM rfl rfl rfl rfl rfl ?_
     refine sM rfl rfl rfl rfl rfl ?_
     refine sS rfl rfl rfl (op1_build (cs := [(ofStr []), (BO true), (I64 (((s15 : Nat) : Int)))]) st_57 inf_57 rfl rfl rfl rfl) ?_
     refine sM rfl rfl rfl rfl rfl ?_
     obtain ⟨x22, hx22, h⟩ := obind h
     refine sS rfl rfl rfl (Op1.cast (y := (BO x22.1)) (H'' := [.box 53 [(PV.fn (.func 14) [] [(PV.pt 20 (ofV a1c1c0) 0), (PV.pt 20 (ofV a1c1c1) 0), (PV.rf 1 0)])], .box 4 [(BO x22.2.1)], .box 4 [(BO x22.2.2.1)], .box 33 [(I64 x22.2.2.2)]]) (op1_mcall [0, 1, 2, 3] (.held rfl rfl) en_49 rfl (.cons (Wk.refl _) (.cons (Wk.refl _) (.cons (Wk.refl _) (.cons (Wk.refl _) (.cons (Wk.refl _) (.cons (Wk.refl _) .nil)))))) rfl (.cons rfl (.box (.cons (.fn (.cons (.same (ids_ptC (ids_V _))) (.cons (.same (ids_ptC (ids_V _))) (.cons (.rf rfl) .nil)))) .nil)) (.cons rfl (.box (.cons (.same rfl) .nil)) (.cons rfl (.box (.cons (.same rfl) .nil)) (.cons rfl (.box (.cons (.same rfl) .nil)) .nil)))) (.cons (.same (ids_S_api_Step (S_api_Step.mk [] true ((s15 : Nat) : Int)))) (.cons (.same (ids_V x21)) (.cons (.same (ids_ptC (ids_slM ids_S_api_Step a1c0))) (.cons (.rf rfl) (.cons (.rf rfl) (.cons (.rf rfl) .nil)))))) (c_path_walk_2 (S_api_Step.mk [] true ((s15 : Nat) : Int)) x21 a1c0 a1c1c0 a1c1c1 s16 s17 s18 x22 hx22) (.same rfl) (.cons (.box (.cons (.fn (.cons (.same (ids_ptC (ids_V _))) (.cons (.same (ids_ptC (ids_V _))) (.cons (.rf rfl) .nil)))) .nil)) (.cons (.box (.cons (.same rfl) .nil)) (.cons (.box (.cons (.same rfl) .nil)) (.cons (.box (.cons (.same rfl) .nil)) .nil)))) rfl) rfl rfl) ?_
     refine sS rfl rfl rfl (op1_not rfl rfl) (ao_nil ?_)
     change BW _ _ _ _ _
     refine bw_cond rfl ?_ ?_
     ·intro hc23; replace h := ocond_t hc23 h
      refine bw_ret ?_
      change ∃ xs, _ = some xs ∧ EndOk _ _ _ _
      obtain rfl := Option.some.inj h
      exact ⟨_, rfl, endR (y := (PV.tup [])) 4 (Wk.refl _) rfl rfl (.tup .nil) (.cons (.box (.cons (.fn (.cons (.same (ids_ptC (ids_V _))) (.cons (.same (ids_ptC (ids_V _))) (.cons (.rf rfl) .nil)))) .nil)) (.cons (.box (.cons (.same rfl) .nil)) (.cons (.box (.cons (.same rfl) .nil)) (.cons (.box (.cons (.same rfl) .nil)) .nil)))) ⟨rfl, rfl⟩⟩
     ·intro hc23; replace h := ocond_f hc23 h
      refine bw_skip ?_
      change BW _ _ _ _ _
      refine bw_region ?_
      refine sS rfl rfl rfl (op1_incN (k := s15) (c := 1) rfl rfl rfl (by omega)) ?_
      refine sM rfl rfl rfl rfl rfl (ao_nil ?_)
      exact ⟨rfl, ((s15 + 1), x22.2.1, x22.2.2.1, x22.2.2.2), h, ⟨(.cons .same (.cons .same (.cons .same (.cons .same .nil)))), (sC rfl (sC rfl (sC rfl (sC rfl (sC rfl sub_nil)))))⟩⟩
    ·intro hc19; replace h := ocond_f hc19 h
     refine bw_exit ?_
     exact ⟨rfl, (s16, s17, s18), h, ⟨(.cons .same (.cons .same (.cons .same (.cons .same .nil)))), (sC rfl (sC rfl sub_nil))⟩⟩
  ·intro hc14; replace h := ocond_f hc14 h
   refine bw_skip ?_
   exact ⟨rfl, (a1c1c2, a1c2, a1c3), h, ⟨(.cons .same (.cons .same (.cons .same (.cons .same .nil)))), (sC rfl (sC rfl sub_nil))⟩⟩
theorem t_path_walk_law24_MergeMade_1 (r_path_walk_2 : S_api_Step → V → (List S_api_Step) → V → V → Bool → Bool → Int → Option (Bool × Bool × Bool × Int)) (c_path_walk_2 : ∀ (a0 : S_api_Step) (a1 : V) (a2 : (List S_api_Step)) (a3c0 : V) (a3c1 : V) (a3c2 : Bool) (a4 : Bool) (a5 : Int) r, r_path_walk_2 a0 a1 a2 a3c0 a3c1 a3c2 a4 a5 = some r → MCalls Try.prog 49 [(of_api_Step a0), (ofV a1), (PV.pt 42 (PV.sl none 57 3 (List.map of_api_Step a2)) 0), (PV.rf 0 0), (PV.rf 2 0), (PV.rf 3 0)] [.box 53 [(PV.fn (.func 14) [] [(PV.pt 20 (ofV a3c0) 0), (PV.pt 20 (ofV a3c1) 0), (PV.rf 1 0)])], .box 4 [(BO a3c2)], .box 4 [(BO a4)], .box 33 [(I64 a5)]] (BO r.1) [.box 53 [(PV.fn (.func 14) [] [(PV.pt 20 (ofV a3c0) 0), (PV.pt 20 (ofV a3c1) 0), (PV.rf 1 0)])], .box 4 [(BO r.2.1)], .box 4 [(BO r.2.2.1)], .box 33 [(I64 r.2.2.2)]]) (r_path_parts_path_walk_2 : V → (List S_api_Step) → V → V → Bool → Bool → Int → Option (Bool × Bool × Int)) (c_path_parts_path_walk_2 : ∀ (a0 : V) (a1c0 : (List S_api_Step)) (a1c1c0 : V) (a1c1c1 : V) (a1c1c2 : Bool) (a1c2 : Bool) (a1c3 : Int) r, r_path_parts_path_walk_2 a0 a1c0 a1c1c0 a1c1c1 a1c1c2 a1c2 a1c3 = some r → MCalls Try.prog 48 [(ofV a0), (PV.fn (.func 49) [] [(PV.pt 42 (PV.sl none 57 3 (List.map of_api_Step a1c0)) 0), (PV.rf 0 0), (PV.rf 2 0), (PV.rf 3 0)])] [.box 53 [(PV.fn (.func 14) [] [(PV.pt 20 (ofV a1c1c0) 0), (PV.pt 20 (ofV a1c1c1) 0), (PV.rf 1 0)])], .box 4 [(BO a1c1c2)], .box 4 [(BO a1c2)], .box 33 [(I64 a1c3)]] (PV.tup []) [.box 53 [(PV.fn (.func 14) [] [(PV.pt 20 (ofV a1c1c0) 0), (PV.pt 20 (ofV a1c1c1) 0), (PV.rf 1 0)])], .box 4 [(BO r.1)], .box 4 [(BO r.2.1)], .box 33 [(I64 r.2.2)]]) (r_path_walk_law24_MergeMade_1 : (List S_api_Step) → V → V → V → Bool → Option (Bool × Int × Bool)) (c_path_walk_law24_MergeMade_1 : ∀ (a0 : (List S_api_Step)) (a1 : V) (a2c0 : V) (a2c1 : V) (a2c2 : Bool) r, r_path_walk_law24_MergeMade_1 a0 a1 a2c0 a2c1 a2c2 = some r → MCalls Try.prog 23 [(PV.sl none 57 3 (List.map of_api_Step a0)), (ofV a1), (PV.fn (.func 14) [] [(PV.pt 20 (ofV a2c0) 0), (PV.pt 20 (ofV a2c1) 0), (PV.rf 0 0)])] [.box 4 [(BO a2c2)]] (PV.tup [(BO r.1), (I64 r.2.1)]) [.box 4 [(BO r.2.2)]]) (a0 : (List S_api_Step)) (a1 : V) (a2c0 : V) (a2c1 : V) (a2c2 : Bool) (r : (Bool × Int × Bool)) (h : b_path_walk_law24_MergeMade_1 r_path_walk_2 r_path_parts_path_walk_2 r_path_walk_law24_MergeMade_1 a0 a1 a2c0 a2c1 a2c2 = some r) : MCalls Try.prog 23 [(PV.sl none 57 3 (List.map of_api_Step a0)), (ofV a1), (PV.fn (.func 14) [] [(PV.pt 20 (ofV a2c0) 0), (PV.pt 20 (ofV a2c1) 0), (PV.rf 0 0)])] [.box 4 [(BO a2c2)]] (PV.tup [(BO r.1), (I64 r.2.1)]) [.box 4 [(BO r.2.2)]] := by
 unfold b_path_walk_law24_MergeMade_1 at h
 refine acalls_of Try.func23 rfl Try.ntmps23 Try.results23 rfl (aw_of_bw ?_)
 change BW _ _ _ ⟨[(0, (PV.sl none 57 3 (List.map of_api_Step a0))), (1, (ofV a1)), (2, (PV.fn (.func 14) [] [(PV.pt 20 (ofV a2c0) 0), (PV.pt 20 (ofV a2c1) 0), (PV.rf 0 0)]))], [.box 4 [(BO a2c2)]], _⟩ _
 refine bR ?_
 refine sS rfl rfl rfl (op1_box rfl rfl rfl) ?_
 refine sS rfl rfl rfl ((op1_box rfl rfl (cok_V _)).cast rfl (by rw [cells_V])) ?_
 refine sS rfl rfl rfl (op1_box rfl rfl rfl) ?_
 refine sS rfl rfl rfl (op1_alloc inf_4 rfl) ?_
 refine sS rfl rfl rfl (op1_alloc inf_33 rfl) (ao_nil ?_)
 change BW _ _ _ _ _
 refine bw_seq ?_
 refine bw_thaw 1 3 (y := (PV.pt 42 (PV.sl none 57 3 (List.map of_api_Step a0)) 0)) rfl rfl (Wk.pt (x := .agg [(PV.sl none 57 3 (List.map of_api_Step a0))]) (y := (PV.sl none 57 3 (List.map of_api_Step a0))) (.cons (Wk.refl _) .nil)) ?_
 refine bw_thaw 2 4 (y := (PV.pt 20 (ofV a1) 0)) rfl rfl (Wk.pt (x := .agg [(ofV a1)]) (y := (ofV a1)) (by rw [cells_V]; exact (.cons (Wk.refl _) .nil))) ?_
 refine bw_region ?_
 refine sS rfl rfl rfl (op1_alloc inf_3 rfl) ?_
 refine ao_step0 rfl rfl (op1_store inf_3 rfl rfl rfl rfl rfl rfl (Nat.le_of_ble_eq_true rfl) rfl) ?_
 refine ao_nil ?_
 change BW _ _ _ _ _
 refine bw_seq ?_
 refine bR ?_
 refine sS rfl rfl rfl (op1_fn rfl rfl rfl) ?_
 obtain ⟨x1, hx1, h⟩ := obind h
 refine sS rfl rfl rfl (Op1.cast (y := (BO x1.1)) (H'' := [.box 4 [(BO x1.2.1)], .dead, .dead, .box 53 [(PV.fn (.func 14) [] [(PV.pt 20 (ofV a2c0) 0), (PV.pt 20 (ofV a2c1) 0), (PV.rf 0 0)])], .box 4 [(BO false)], .box 33 [(I64 0)], .box 3 [(I64 x1.2.2)]]) (op1_mcall [3, 0, 6] (.func rfl) en_44 rfl (.cons (Wk.refl _) .nil) rfl (.cons rfl (.box (.cons (.fn (.cons (.same (ids_ptC (ids_V _))) (.cons (.same (ids_ptC (ids_V _))) (.cons (.rf rfl) .nil)))) .nil)) (.cons rfl (.box (.cons (.same rfl) .nil)) (.cons rfl (.box (.cons (.same rfl) .nil)) .nil))) (.cons (.fn (.cons (.rf rfl) (.cons (.same (ids_ptC (ids_slM ids_S_api_Step a0))) (.cons (.same (ids_ptC (ids_V a1))) (.cons (.rf rfl) .nil))))) .nil) (s_path_caught_path_walk_1 a2c0 a2c1 a2c2 a0 a1 0 x1 hx1) (.same rfl) (.cons (.box (.cons (.fn (.cons (.same (ids_ptC (ids_V _))) (.cons (.same (ids_ptC (ids_V _))) (.cons (.rf rfl) .nil)))) .nil)) (.cons (.box (.cons (.same rfl) .nil)) (.cons (.box (.cons (.same rfl) .nil)) .nil))) rfl) rfl rfl) (ao_nil ?_)
 change BW _ _ _ _ _
 refine bw_cond rfl ?_ ?_
 ·intro hc2; replace h := ocond_t hc2 h
  refine bR ?_
  refine ao_step0 rfl rfl (op1_store inf_4 rfl rfl rfl rfl rfl rfl (Nat.le_of_ble_eq_true rfl) rfl) ?_
  refine ao_step0 rfl rfl (op1_store inf_33 rfl rfl rfl rfl rfl rfl (Nat.le_of_ble_eq_true rfl) rfl) ?_
  refine ao_nil ?_
  change BW _ _ _ _ _
  refine bw_ret ?_
  change ∃ xs, _ = some xs ∧ EndOk _ _ _ _
  obtain rfl := Option.some.inj h
  exact ⟨_, rfl, endR (y := (PV.tup [(BO false), (I64 9)])) 1 (Wk.refl _) rfl rfl (.tup (.cons (.same rfl) (.cons (.same rfl) .nil))) (.cons (.box (.cons (.same rfl) .nil)) .nil) ⟨rfl, rfl⟩⟩
 ·intro hc2; replace h := ocond_f hc2 h
  refine bw_skip ?_
  change BW _ _ _ _ _
  refine bw_seq ?_
  refine bR ?_
  refine sS rfl rfl rfl ((op1_ldR Try.underlying3 rfl rfl rfl rfl rfl)) (ao_nil ?_)
  change BW _ _ _ _ _
  refine bw_block ?_
  change BW _ _ _ _ _
  refine bR ?_
  refine sS rfl rfl rfl ((op1_cmp rfl rfl rfl rfl).cast (y := (BO ((x1.2.2 == 0)))) rfl rfl) ?_
  refine sA rfl rfl rfl rfl rfl (ao_nil ?_)
  change BW _ _ _ _ _
  refine bw_cond rfl ?_ ?_
  ·intro hc3; replace h := ocond_t hc3 h
   refine bw_skip ?_
   change BW _ _ _ _ _
   refine bR ?_
   refine ao_step0 rfl rfl (op1_store inf_4 rfl rfl rfl rfl rfl rfl (Nat.le_of_ble_eq_true rfl) rfl) ?_
   refine ao_nil ?_
   change BW _ _ _ _ _
   refine bR ?_
   refine sS rfl rfl rfl (op1_ldP (y := (ofV a1)) Try.underlying20 rfl rfl rfl (by rw [cells_V]; rfl)) ?_
   refine sS rfl rfl rfl (op1_fn rfl rfl rfl) ?_
   obtain ⟨x4, hx4, h⟩ := obind h
   refine sS rfl rfl rfl (Op1.cast (y := (PV.tup [])) (H'' := [.box 4 [(BO x4.1)], .dead, .dead, .box 53 [(PV.fn (.func 14) [] [(PV.pt 20 (ofV a2c0) 0), (PV.pt 20 (ofV a2c1) 0), (PV.rf 0 0)])], .box 4 [(BO x4.2.1)], .box 33 [(I64 x4.2.2)], .box 3 [(I64 x1.2.2)]]) (op1_mcall [3, 0, 4, 5] (.func rfl) en_48 rfl (.cons (Wk.refl _) (.cons (Wk.refl _) .nil)) rfl (.cons rfl (.box (.cons (.fn (.cons (.same (ids_ptC (ids_V _))) (.cons (.same (ids_ptC (ids_V _))) (.cons (.rf rfl) .nil)))) .nil)) (.cons rfl (.box (.cons (.same rfl) .nil)) (.cons rfl (.box (.cons (.same rfl) .nil)) (.cons rfl (.box (.cons (.same rfl) .nil)) .nil)))) (.cons (.same (ids_V a1)) (.cons (.fn (.cons (.same (ids_ptC (ids_slM ids_S_api_Step a0))) (.cons (.rf rfl) (.cons (.rf rfl) (.cons (.rf rfl) .nil))))) .nil)) (c_path_parts_path_walk_2 a1 a0 a2c0 a2c1 x1.2.1 true 0 x4 hx4) (.same ids_tup_nil) (.cons (.box (.cons (.fn (.cons (.same (ids_ptC (ids_V _))) (.cons (.same (ids_ptC (ids_V _))) (.cons (.rf rfl) .nil)))) .nil)) (.cons (.box (.cons (.same rfl) .nil)) (.cons (.box (.cons (.same rfl) .nil)) (.cons (.box (.cons (.same rfl) .nil)) .nil)))) rfl) rfl rfl) (ao_nil ?_)
   change BW _ _ _ _ _
   refine bw_seq (bw_tail 3 [0, 2] [5] mo (by kernel_rfl) ?_)
   refine ac_lgo rfl rfl rfl rfl ((op1_ldR Try.underlying4 rfl rfl rfl rfl rfl)) ⟨rfl, trivial⟩ ?_
   refine ac_go rfl rfl rfl rfl (fun H hp => (op1_ldR Try.underlying33 rfl rfl rfl (hp.at rfl rfl) rfl)) ?_
   refine ac_lgo0 rfl rfl rfl (op1_store inf_4 rfl rfl rfl rfl rfl rfl (Nat.le_of_ble_eq_true rfl) rfl) ⟨rfl, trivial⟩ ?_
   refine ac_nil ?_
   change AO _ _ _ _ _
   refine ao_step0 rfl rfl (op1_store inf_33 rfl rfl rfl rfl rfl rfl (Nat.le_of_ble_eq_true rfl) rfl) ?_
   refine ao_nil ?_
   change BW _ _ _ _ _
   refine bw_ret ?_
   change ∃ xs, _ = some xs ∧ EndOk _ _ _ _
   obtain rfl := Option.some.inj h
   exact ⟨_, rfl, endR (y := (PV.tup [(BO x4.2.1), (I64 x4.2.2)])) 1 (Wk.refl _) rfl rfl (.tup (.cons (.same rfl) (.cons (.same rfl) .nil))) (.cons (.box (.cons (.same rfl) .nil)) .nil) ⟨rfl, rfl⟩⟩
  ·intro hc3; replace h := ocond_f hc3 h
   refine bR ?_
   refine sS rfl rfl rfl ((op1_cmp rfl rfl rfl rfl).cast (y := (BO ((x1.2.2 == 1)))) rfl rfl) ?_
   refine sA rfl rfl rfl rfl rfl (ao_nil ?_)
   change BW _ _ _ _ _
   refine bw_cond rfl ?_ ?_
   ·intro hc5; replace h := ocond_t hc5 h
    refine bR ?_
    refine ao_step0 rfl rfl (op1_store inf_4 rfl rfl rfl rfl rfl rfl (Nat.le_of_ble_eq_true rfl) rfl) ?_
    refine ao_step0 rfl rfl (op1_store inf_33 rfl rfl rfl rfl rfl rfl (Nat.le_of_ble_eq_true rfl) rfl) ?_
    refine ao_nil ?_
    change BW _ _ _ _ _
    refine bw_ret ?_
    change ∃ xs, _ = some xs ∧ EndOk _ _ _ _
    obtain rfl := Option.some.inj h
    exact ⟨_, rfl, endR (y := (PV.tup [(BO true), (I64 0)])) 1 (Wk.refl _) rfl rfl (.tup (.cons (.same rfl) (.cons (.same rfl) .nil))) (.cons (.box (.cons (.same rfl) .nil)) .nil) ⟨rfl, rfl⟩⟩
   ·intro hc5; replace h := ocond_f hc5 h
    refine bR ?_
    refine sS rfl rfl rfl ((op1_cmp rfl rfl rfl rfl).cast (y := (BO ((x1.2.2 == 2)))) rfl rfl) ?_
    refine sA rfl rfl rfl rfl rfl (ao_nil ?_)
    change BW _ _ _ _ _
    refine bw_cond rfl ?_ ?_
    ·intro hc6; replace h := ocond_t hc6 h
     refine bR ?_
     refine ao_step0 rfl rfl (op1_store inf_4 rfl rfl rfl rfl rfl rfl (Nat.le_of_ble_eq_true rfl) rfl) ?_
     refine ao_step0 rfl rfl (op1_store inf_33 rfl rfl rfl rfl rfl rfl (Nat.le_of_ble_eq_true rfl) rfl) ?_
     refine ao_nil ?_
     change BW _ _ _ _ _
     refine bw_ret ?_
     change ∃ xs, _ = some xs ∧ EndOk _ _ _ _
     obtain rfl := Option.some.inj h
     exact ⟨_, rfl, endR (y := (PV.tup [(BO false), (I64 0)])) 1 (Wk.refl _) rfl rfl (.tup (.cons (.same rfl) (.cons (.same rfl) .nil))) (.cons (.box (.cons (.same rfl) .nil)) .nil) ⟨rfl, rfl⟩⟩
    ·intro hc6; replace h := ocond_f hc6 h
     refine bR ?_
     refine ao_step0 rfl rfl (op1_store inf_4 rfl rfl rfl rfl rfl rfl (Nat.le_of_ble_eq_true rfl) rfl) ?_
     refine ao_step0 rfl rfl (op1_store inf_33 rfl rfl rfl rfl rfl rfl (Nat.le_of_ble_eq_true rfl) rfl) ?_
     refine ao_nil ?_
     change BW _ _ _ _ _
     refine bw_ret ?_
     change ∃ xs, _ = some xs ∧ EndOk _ _ _ _
     obtain rfl := Option.some.inj h
     exact ⟨_, rfl, endR (y := (PV.tup [(BO false), (I64 43)])) 1 (Wk.refl _) rfl rfl (.tup (.cons (.same rfl) (.cons (.same rfl) .nil))) (.cons (.box (.cons (.same rfl) .nil)) .nil) ⟨rfl, rfl⟩⟩
theorem C_path_walk_2.sound : ∀ (i : C_path_walk_2) (r : i.R), fixO C_path_walk_2.F i = some r → C_path_walk_2.Q i r := by
 refine fixO_ind (Φ := C_path_walk_2.F) (Q := C_path_walk_2.Q) ?_
 intro g hg i r h
 cases i with
 | k_path_walk_2 a0 a1 a2 a3c0 a3c1 a3c2 a4 a5 => exact t_path_walk_2 (fun a0 a1 a2 a3c0 a3c1 a3c2 a4 a5 => g (.k_path_walk_2 a0 a1 a2 a3c0 a3c1 a3c2 a4 a5)) (fun a0 a1 a2 a3c0 a3c1 a3c2 a4 a5 r hr => hg (.k_path_walk_2 a0 a1 a2 a3c0 a3c1 a3c2 a4 a5) r hr) (fun a0 a1c0 a1c1c0 a1c1c1 a1c1c2 a1c2 a1c3 => g (.k_path_parts_path_walk_2 a0 a1c0 a1c1c0 a1c1c1 a1c1c2 a1c2 a1c3)) (fun a0 a1c0 a1c1c0 a1c1c1 a1c1c2 a1c2 a1c3 r hr => hg (.k_path_parts_path_walk_2 a0 a1c0 a1c1c0 a1c1c1 a1c1c2 a1c2 a1c3) r hr) (fun a0 a1 a2c0 a2c1 a2c2 => g (.k_path_walk_law24_MergeMade_1 a0 a1 a2c0 a2c1 a2c2)) (fun a0 a1 a2c0 a2c1 a2c2 r hr => hg (.k_path_walk_law24_MergeMade_1 a0 a1 a2c0 a2c1 a2c2) r hr) a0 a1 a2 a3c0 a3c1 a3c2 a4 a5 r h
 | k_path_parts_path_walk_2 a0 a1c0 a1c1c0 a1c1c1 a1c1c2 a1c2 a1c3 => exact t_path_parts_path_walk_2 (fun a0 a1 a2 a3c0 a3c1 a3c2 a4 a5 => g (.k_path_walk_2 a0 a1 a2 a3c0 a3c1 a3c2 a4 a5)) (fun a0 a1 a2 a3c0 a3c1 a3c2 a4 a5 r hr => hg (.k_path_walk_2 a0 a1 a2 a3c0 a3c1 a3c2 a4 a5) r hr) (fun a0 a1c0 a1c1c0 a1c1c1 a1c1c2 a1c2 a1c3 => g (.k_path_parts_path_walk_2 a0 a1c0 a1c1c0 a1c1c1 a1c1c2 a1c2 a1c3)) (fun a0 a1c0 a1c1c0 a1c1c1 a1c1c2 a1c2 a1c3 r hr => hg (.k_path_parts_path_walk_2 a0 a1c0 a1c1c0 a1c1c1 a1c1c2 a1c2 a1c3) r hr) (fun a0 a1 a2c0 a2c1 a2c2 => g (.k_path_walk_law24_MergeMade_1 a0 a1 a2c0 a2c1 a2c2)) (fun a0 a1 a2c0 a2c1 a2c2 r hr => hg (.k_path_walk_law24_MergeMade_1 a0 a1 a2c0 a2c1 a2c2) r hr) a0 a1c0 a1c1c0 a1c1c1 a1c1c2 a1c2 a1c3 r h
 | k_path_walk_law24_MergeMade_1 a0 a1 a2c0 a2c1 a2c2 => exact t_path_walk_law24_MergeMade_1 (fun a0 a1 a2 a3c0 a3c1 a3c2 a4 a5 => g (.k_path_walk_2 a0 a1 a2 a3c0 a3c1 a3c2 a4 a5)) (fun a0 a1 a2 a3c0 a3c1 a3c2 a4 a5 r hr => hg (.k_path_walk_2 a0 a1 a2 a3c0 a3c1 a3c2 a4 a5) r hr) (fun a0 a1c0 a1c1c0 a1c1c1 a1c1c2 a1c2 a1c3 => g (.k_path_parts_path_walk_2 a0 a1c0 a1c1c0 a1c1c1 a1c1c2 a1c2 a1c3)) (fun a0 a1c0 a1c1c0 a1c1c1 a1c1c2 a1c2 a1c3 r hr => hg (.k_path_parts_path_walk_2 a0 a1c0 a1c1c0 a1c1c1 a1c1c2 a1c2 a1c3) r hr) (fun a0 a1 a2c0 a2c1 a2c2 => g (.k_path_walk_law24_MergeMade_1 a0 a1 a2c0 a2c1 a2c2)) (fun a0 a1 a2c0 a2c1 a2c2 r hr => hg (.k_path_walk_law24_MergeMade_1 a0 a1 a2c0 a2c1 a2c2) r hr) a0 a1 a2c0 a2c1 a2c2 r h
theorem s_path_walk_law24_MergeMade_1 (a0 : (List S_api_Step)) (a1 : V) (a2c0 : V) (a2c1 : V) (a2c2 : Bool) (r : (Bool × Int × Bool)) (h : p_path_walk_law24_MergeMade_1 a0 a1 a2c0 a2c1 a2c2 = some r) : MCalls Try.prog 23 [(PV.sl none 57 3 (List.map of_api_Step a0)), (ofV a1), (PV.fn (.func 14) [] [(PV.pt 20 (ofV a2c0) 0), (PV.pt 20 (ofV a2c1) 0), (PV.rf 0 0)])] [.box 4 [(BO a2c2)]] (PV.tup [(BO r.1), (I64 r.2.1)]) [.box 4 [(BO r.2.2)]] := C_path_walk_2.sound (.k_path_walk_law24_MergeMade_1 a0 a1 a2c0 a2c1 a2c2) r h
noncomputable def p_path_Walk_law24_MergeMade_1 (a0 : V) (a1c0 : V) (a1c1 : V) (a1c2 : Bool) : Option (Int × Bool) :=
 Option.bind (p_value_Check a0) fun x1 =>
 bif (x1.2 != 0) then (
  some (x1.2, a1c2)
 ) else (
  Option.bind (p_path_walk_law24_MergeMade_1 ([]) a0 a1c0 a1c1 a1c2) fun x3 =>
  some (x3.2.1, x3.2.2)
 )
theorem s_path_Walk_law24_MergeMade_1 (a0 : V) (a1c0 : V) (a1c1 : V) (a1c2 : Bool) (r : (Int × Bool)) (h : p_path_Walk_law24_MergeMade_1 a0 a1c0 a1c1 a1c2 = some r) : MCalls Try.prog 13 [(ofV a0), (PV.fn (.func 14) [] [(PV.pt 20 (ofV a1c0) 0), (PV.pt 20 (ofV a1c1) 0), (PV.rf 0 0)])] [.box 4 [(BO a1c2)]] (I64 r.1) [.box 4 [(BO r.2)]] := by
 unfold p_path_Walk_law24_MergeMade_1 at h
 refine acalls_of Try.func13 rfl Try.ntmps13 Try.results13 rfl (aw_of_bw ?_)
 change BW _ _ _ ⟨[(0, (ofV a0)), (1, (PV.fn (.func 14) [] [(PV.pt 20 (ofV a1c0) 0), (PV.pt 20 (ofV a1c1) 0), (PV.rf 0 0)]))], [.box 4 [(BO a1c2)]], _⟩ _
 refine bR ?_
 refine sA rfl rfl rfl rfl rfl (ao_nil ?_)
 change BW _ _ _ _ _
 refine bw_seq ?_
 refine bR ?_
 refine sM rfl rfl rfl rfl rfl ?_
 obtain ⟨x1, hx1, h⟩ := obind h
 refine sS rfl rfl rfl (op1_pcall rfl en_22 rfl (.cons (Wk.refl _) .nil) ⟨(ids_V a0), trivial⟩ (s_value_Check a0 x1 hx1) (ids_tup_cons rfl (ids_tup_cons rfl ids_tup_nil))) ?_
 refine sM rfl rfl rfl rfl rfl ?_
 refine sS rfl rfl rfl (op1_ext rfl rfl rfl) ?_
 refine sS rfl rfl rfl (op1_ext rfl rfl rfl) ?_
 refine sA rfl rfl rfl rfl rfl ?_
 refine sA rfl rfl rfl rfl rfl (ao_nil ?_)
 change BW _ _ _ _ _
 refine bR ?_
 refine sM rfl rfl rfl rfl rfl ?_
 refine sS rfl rfl rfl ((op1_cmp rfl rfl rfl rfl).cast (y := (BO ((x1.2 != 0)))) rfl rfl) (ao_nil ?_)
 change BW _ _ _ _ _
 refine bw_cond rfl ?_ ?_
 ·intro hc2; replace h := ocond_t hc2 h
  refine bR ?_
  refine sM rfl rfl rfl rfl rfl ?_
  refine sA rfl rfl rfl rfl rfl (ao_nil ?_)
  change BW _ _ _ _ _
  refine bw_ret ?_
  change ∃ xs, _ = some xs ∧ EndOk _ _ _ _
  obtain rfl := Option.some.inj h
  exact ⟨_, rfl, endR (y := (I64 x1.2)) 1 (Wk.refl _) rfl rfl (.same rfl) (.cons (.box (.cons (.same rfl) .nil)) .nil) ⟨rfl, rfl⟩⟩
 ·intro hc2; replace h := ocond_f hc2 h
  refine bw_skip ?_
  change BW _ _ _ _ _
  refine bw_seq ?_
  refine bR ?_
  refine sM rfl rfl rfl rfl rfl ?_
  refine sS rfl rfl rfl (op1_cmpF Try.underlying53 ⟨_, _, _, rfl⟩ rfl rfl rfl (.inl ⟨rfl, rfl⟩)) (ao_nil ?_)
  change BW _ _ _ _ _
  refine bw_condF rfl ?_
  refine bw_skip ?_
  change BW _ _ _ _ _
  refine bR ?_
  refine sM rfl rfl rfl rfl rfl ?_
  refine sM rfl rfl rfl rfl rfl ?_
  obtain ⟨x3, hx3, h⟩ := obind h
  refine sS rfl rfl rfl (Op1.cast (y := (PV.tup [(BO x3.1), (I64 x3.2.1)])) (H'' := [.box 4 [(BO x3.2.2)]]) (op1_mcall [0] (.func rfl) en_23 rfl (.cons Wk.nil (.cons (Wk.refl _) (.cons (Wk.refl _) .nil))) rfl (.cons rfl (.box (.cons (.same rfl) .nil)) .nil) (.cons (.same (ids_slM ids_S_api_Step ([]))) (.cons (.same (ids_V a0)) (.cons (.fn (.cons (.same (ids_ptC (ids_V a1c0))) (.cons (.same (ids_ptC (ids_V a1c1))) (.cons (.rf rfl) .nil)))) .nil))) (s_path_walk_law24_MergeMade_1 ([]) a0 a1c0 a1c1 a1c2 x3 hx3) (.same (ids_tup_cons rfl (ids_tup_cons rfl ids_tup_nil))) (.cons (.box (.cons (.same rfl) .nil)) .nil) rfl) rfl rfl) ?_
  refine sM rfl rfl rfl rfl rfl ?_
  refine sS rfl rfl rfl (op1_ext rfl rfl rfl) ?_
  refine sS rfl rfl rfl (op1_ext rfl rfl rfl) ?_
  refine sA rfl rfl rfl rfl rfl ?_
  refine sA rfl rfl rfl rfl rfl (ao_nil ?_)
  change BW _ _ _ _ _
  refine bR ?_
  refine sM rfl rfl rfl rfl rfl ?_
  refine sA rfl rfl rfl rfl rfl (ao_nil ?_)
  change BW _ _ _ _ _
  refine bw_ret ?_
  change ∃ xs, _ = some xs ∧ EndOk _ _ _ _
  obtain rfl := Option.some.inj h
  exact ⟨_, rfl, endR (y := (I64 x3.2.1)) 1 (Wk.refl _) rfl rfl (.same rfl) (.cons (.box (.cons (.same rfl) .nil)) .nil) ⟨rfl, rfl⟩⟩
noncomputable def law24_MergeMade_j1 (x4 : V) (x5 : V) (x6 : (V × (List S_api_Conflict) × Int)) (s7 : Bool) : Option Bool :=
 bif s7 then (
  bif (x6.2.2 == 0) then (
   some true
  ) else (
   some (x6.1).isNil
  )
 ) else (
  Option.bind (p_path_Walk_law24_MergeMade_1 x6.1 x4 x5 true) fun x10 =>
  some x10.2
 )
noncomputable def p_law24_MergeMade (a0 : Term) (a1 : Term) (a2 : Term) : Option Bool :=
 Option.bind (p_law24_lives) fun x1 =>
 bif (!x1) then (
  some false
 ) else (
  Option.bind (p_mk_Built a0) fun x3 =>
  Option.bind (p_mk_Built a1) fun x4 =>
  Option.bind (p_mk_Built a2) fun x5 =>
  Option.bind (p_merge_Threenil x3 x4 x5) fun x6 =>
  bif (x6.2.2 != 0) then (
   law24_MergeMade_j1 x4 x5 x6 true
  ) else (
   law24_MergeMade_j1 x4 x5 x6 (decide ((((x6.2.1).length : Nat) : Int) > 0))
  )
 )
theorem s_law24_MergeMade (a0 : Term) (a1 : Term) (a2 : Term) (r : Bool) (h : p_law24_MergeMade a0 a1 a2 = some r) : PCalls Try.prog 6 [(ofTermX a0), (ofTermX a1), (ofTermX a2)] (BO r) := by
 unfold p_law24_MergeMade at h
 refine acalls_of Try.func6 rfl Try.ntmps6 Try.results6 rfl (aw_of_bw ?_)
 change BW _ _ _ ⟨[(0, (ofTermX a0)), (1, (ofTermX a1)), (2, (ofTermX a2))], [], _⟩ _
 refine bR ?_
 refine sS rfl rfl rfl (op1_box rfl rfl rfl) ?_
 refine sS rfl rfl rfl (op1_box rfl rfl rfl) ?_
 refine sS rfl rfl rfl (op1_box rfl rfl rfl) ?_
 refine sA rfl rfl rfl rfl rfl (ao_nil ?_)
 change BW _ _ _ _ _
 refine bw_seq ?_
 refine bR ?_
 obtain ⟨x1, hx1, h⟩ := obind h
 refine sS rfl rfl rfl (op1_pcall rfl en_7 rfl .nil trivial (s_law24_lives  x1 hx1) rfl) ?_
 refine sS rfl rfl rfl (op1_not rfl rfl) (ao_nil ?_)
 change BW _ _ _ _ _
 refine bw_cond rfl ?_ ?_
 ·intro hc2; replace h := ocond_t hc2 h
  refine bR ?_
  refine sA rfl rfl rfl rfl rfl (ao_nil ?_)
  change BW _ _ _ _ _
  refine bw_ret ?_
  change ∃ xs, _ = some xs ∧ EndOk _ _ _ _
  obtain rfl := Option.some.inj h
  exact ⟨_, rfl, endOk0 (y := (BO false)) (Wk.refl _) rfl ⟨rfl, rfl⟩⟩
 ·intro hc2; replace h := ocond_f hc2 h
  refine bw_skip ?_
  change BW _ _ _ _ _
  refine bw_seq ?_
  refine bw_place 20 ?_
  refine bw_place 20 ?_
  refine bw_fills [(6, 3, .box 20 [(PV.v .nilIface)]), (7, 4, .box 20 [(PV.v .nilIface)])] [9, 10] [0, 1, 2] mo (by kernel_rfl) rfl ?_
  refine ad_go rfl rfl rfl rfl rfl (fun H hp => (op1_ldRA inf_29 Try.underlying29 rfl rfl rfl (hp.at rfl rfl) rfl rfl)) ?_
  obtain ⟨x3, hx3, h⟩ := obind h
  refine ad_go rfl rfl rfl rfl rfl (fun H hp => op1_pcall rfl en_8 rfl (.cons (Wk.refl _) .nil) ⟨(ids_TermX a0), trivial⟩ (s_mk_Built a0 x3 hx3) (ids_V x3)) ?_
  refine ad_go rfl rfl rfl rfl rfl (fun H hp => (op1_ldRA inf_29 Try.underlying29 rfl rfl rfl (hp.at rfl rfl) rfl rfl)) ?_
  obtain ⟨x4, hx4, h⟩ := obind h
  refine ad_go rfl rfl rfl rfl rfl (fun H hp => op1_pcall rfl en_8 rfl (.cons (Wk.refl _) .nil) ⟨(ids_TermX a1), trivial⟩ (s_mk_Built a1 x4 hx4) (ids_V x4)) ?_
  refine ad_go rfl rfl rfl rfl rfl (fun H hp => (op1_ldRA inf_29 Try.underlying29 rfl rfl rfl (hp.at rfl rfl) rfl rfl)) ?_
  obtain ⟨x5, hx5, h⟩ := obind h
  refine ad_go rfl rfl rfl rfl rfl (fun H hp => op1_pcall rfl en_8 rfl (.cons (Wk.refl _) .nil) ⟨(ids_TermX a2), trivial⟩ (s_mk_Built a2 x5 hx5) (ids_V x5)) ?_
  refine ad_fill (i := 3) rfl rfl rfl rfl rfl inf_20 rfl rfl ?_
  refine ad_fill (i := 4) rfl rfl rfl rfl rfl inf_20 rfl rfl ?_
  refine ad_go rfl rfl rfl rfl rfl (fun H hp => op1_assign rfl rfl) ?_
  refine ad_lgo0 rfl rfl rfl rfl ((op1_store inf_20 rfl rfl rfl rfl (cok_V _) (csz_V _) (Nat.le_of_ble_eq_true rfl) (call1_V _)).cast (H'' := [.box 29 [(I64 a0.kind), (BO a0.bool), (I64 a0.int), (PV.v (.float .f64 a0.float)), (ofStr a0.text), (PV.sl none 5 1 (List.map ofB a0.bytes)), (PV.v (.int .u64 a0.ref)), (PV.sl none 29 11 (List.map ofTerm a0.list)), (PV.sl none 71 12 (List.map ofEntry a0.fields)), (ofStr a0.cls), (I64 a0.ver)], .box 29 [(I64 a1.kind), (BO a1.bool), (I64 a1.int), (PV.v (.float .f64 a1.float)), (ofStr a1.text), (PV.sl none 5 1 (List.map ofB a1.bytes)), (PV.v (.int .u64 a1.ref)), (PV.sl none 29 11 (List.map ofTerm a1.list)), (PV.sl none 71 12 (List.map ofEntry a1.fields)), (ofStr a1.cls), (I64 a1.ver)], .box 29 [(I64 a2.kind), (BO a2.bool), (I64 a2.int), (PV.v (.float .f64 a2.float)), (ofStr a2.text), (PV.sl none 5 1 (List.map ofB a2.bytes)), (PV.v (.int .u64 a2.ref)), (PV.sl none 29 11 (List.map ofTerm a2.list)), (PV.sl none 71 12 (List.map ofEntry a2.fields)), (ofStr a2.cls), (I64 a2.ver)], .box 20 [(ofV x4)], .box 20 [(PV.v .nilIface)]]) rfl (by rw [cells_V]; rfl)) ⟨rfl, ⟨rfl, ⟨rfl, trivial⟩⟩⟩ ?_
  refine ad_lgo0 rfl rfl rfl rfl ((op1_store inf_20 rfl rfl rfl rfl (cok_V _) (csz_V _) (Nat.le_of_ble_eq_true rfl) (call1_V _)).cast (H'' := [.box 29 [(I64 a0.kind), (BO a0.bool), (I64 a0.int), (PV.v (.float .f64 a0.float)), (ofStr a0.text), (PV.sl none 5 1 (List.map ofB a0.bytes)), (PV.v (.int .u64 a0.ref)), (PV.sl none 29 11 (List.map ofTerm a0.list)), (PV.sl none 71 12 (List.map ofEntry a0.fields)), (ofStr a0.cls), (I64 a0.ver)], .box 29 [(I64 a1.kind), (BO a1.bool), (I64 a1.int), (PV.v (.float .f64 a1.float)), (ofStr a1.text), (PV.sl none 5 1 (List.map ofB a1.bytes)), (PV.v (.int .u64 a1.ref)), (PV.sl none 29 11 (List.map ofTerm a1.list)), (PV.sl none 71 12 (List.map ofEntry a1.fields)), (ofStr a1.cls), (I64 a1.ver)], .box 29 [(I64 a2.kind), (BO a2.bool), (I64 a2.int), (PV.v (.float .f64 a2.float)), (ofStr a2.text), (PV.sl none 5 1 (List.map ofB a2.bytes)), (PV.v (.int .u64 a2.ref)), (PV.sl none 29 11 (List.map ofTerm a2.list)), (PV.sl none 71 12 (List.map ofEntry a2.fields)), (ofStr a2.cls), (I64 a2.ver)], .box 20 [(ofV x4)], .box 20 [(ofV x5)]]) rfl (by rw [cells_V]; rfl)) ⟨rfl, ⟨rfl, ⟨rfl, trivial⟩⟩⟩ ?_
  refine ad_nil ?_
  change BW _ _ _ _ _
  refine bR ?_
  refine sM rfl rfl rfl rfl rfl ?_
  refine sS rfl rfl rfl ((op1_ldR Try.underlying20 rfl rfl rfl rfl rfl)) ?_
  refine sS rfl rfl rfl ((op1_ldR Try.underlying20 rfl rfl rfl rfl rfl)) ?_
  obtain ⟨x6, hx6, h⟩ := obind h
  refine sS rfl rfl rfl (op1_pcall rfl en_9 rfl (.cons (Wk.refl _) (.cons (Wk.refl _) (.cons (Wk.refl _) (.cons (Wk.refl _) .nil)))) ⟨(ids_V x3), ⟨(ids_V x4), ⟨(ids_V x5), ⟨rfl, trivial⟩⟩⟩⟩ (s_merge_Threenil x3 x4 x5 x6 hx6) (ids_tup_cons (ids_V x6.1) (ids_tup_cons (ids_slM ids_S_api_Conflict x6.2.1) (ids_tup_cons rfl ids_tup_nil)))) ?_
  refine sM rfl rfl rfl rfl rfl ?_
  refine sS rfl rfl rfl (op1_ext rfl rfl rfl) ?_
  refine sS rfl rfl rfl (op1_ext rfl rfl rfl) ?_
  refine sS rfl rfl rfl (op1_ext rfl rfl rfl) ?_
  refine sA rfl rfl rfl rfl rfl ?_
  refine sA rfl rfl rfl rfl rfl ?_
  refine sA rfl rfl rfl rfl rfl (ao_nil ?_)
  change BW _ _ _ _ _
  refine bw_seq ?_
  refine bw_seqJ (ι := Bool) (fun i => law24_MergeMade_j1 x4 x5 x6 i = some r) (fun i => [(8, (PV.rf 3 0)), (9, (PV.rf 4 0)), (10, (ofV x6.1)), (12, (I64 x6.2.2)), (36, (BO i))]) (fun i => [.dead, .dead, .dead, .box 20 [(ofV x4)], .box 20 [(ofV x5)]]) ?_ ?_ ?_
  ·intro i; exact ⟨Nat.le_of_ble_eq_true rfl, ⟨(il_rf rfl), ⟨(il_rf rfl), ⟨(il_nil (ids_V _)), ⟨(il_nil rfl), ⟨(il_nil rfl), trivial⟩⟩⟩⟩⟩, ⟨⟨(il_nil (ids_V _)), trivial⟩, ⟨⟨(il_nil (ids_V _)), trivial⟩, trivial⟩⟩⟩
  ·rintro s7 h; replace h : law24_MergeMade_j1 x4 x5 x6 s7 = some r := h; unfold law24_MergeMade_j1 at h
   change BW _ _ _ ⟨[(8, (PV.rf 3 0)), (9, (PV.rf 4 0)), (10, (ofV x6.1)), (12, (I64 x6.2.2)), (36, (BO s7))], [.dead, .dead, .dead, .box 20 [(ofV x4)], .box 20 [(ofV x5)]], _⟩ _
   refine bw_cond rfl ?_ ?_
   ·intro hc8; replace h := ocond_t hc8 h
    refine bR ?_
    refine sM rfl rfl rfl rfl rfl ?_
    refine sS rfl rfl rfl ((op1_cmp rfl rfl rfl rfl).cast (y := (BO ((x6.2.2 == 0)))) rfl rfl) ?_
    refine sM rfl rfl rfl rfl rfl ?_
    refine ao_cases (t := 39) rfl ?_ ?_
    ·intro hb9; replace h := ocond_t hb9 h
     refine ao_no rfl rfl rfl rfl rfl rfl ?_
     refine ao_no rfl rfl rfl rfl rfl rfl ?_
     refine sS rfl rfl rfl (op1_pickT rfl rfl rfl) ?_
     refine sA rfl rfl rfl rfl rfl (ao_nil ?_)
     change BW _ _ _ _ _
     refine bw_ret ?_
     change ∃ xs, _ = some xs ∧ EndOk _ _ _ _
     obtain rfl := Option.some.inj h
     exact ⟨_, rfl, endOk0 (y := (BO true)) (Wk.refl _) rfl ⟨rfl, rfl⟩⟩
    ·intro hb9; replace h := ocond_f hb9 h
     refine ao_yes rfl rfl rfl rfl rfl rfl (op1_move rfl rfl) ?_
     refine ao_yes rfl rfl rfl rfl rfl rfl (op1_vEqNil Try.underlying20 rfl rfl) ?_
     refine sS rfl rfl rfl (op1_pickF rfl rfl rfl) ?_
     refine sA rfl rfl rfl rfl rfl (ao_nil ?_)
     change BW _ _ _ _ _
     refine bw_ret ?_
     change ∃ xs, _ = some xs ∧ EndOk _ _ _ _
     obtain rfl := Option.some.inj h
     exact ⟨_, rfl, endOk0 (y := (BO ((x6.1).isNil))) (Wk.refl _) rfl ⟨rfl, rfl⟩⟩
   ·intro hc8; replace h := ocond_f hc8 h
    refine bw_skip ?_
    change BW _ _ _ _ _
    refine bR ?_
    refine sS rfl rfl rfl (op1_alloc inf_4 rfl) ?_
    refine ao_step0 rfl rfl (op1_store inf_4 rfl rfl rfl rfl rfl rfl (Nat.le_of_ble_eq_true rfl) rfl) ?_
    refine ao_nil ?_
    change BW _ _ _ _ _
    refine bw_seq ?_
    refine bw_thaw 3 8 (y := (PV.pt 20 (ofV x4) 0)) rfl rfl (Wk.pt (x := .agg [(ofV x4)]) (y := (ofV x4)) (by rw [cells_V]; exact (.cons (Wk.refl _) .nil))) ?_
    refine bw_thaw 4 9 (y := (PV.pt 20 (ofV x5) 0)) rfl rfl (Wk.pt (x := .agg [(ofV x5)]) (y := (ofV x5)) (by rw [cells_V]; exact (.cons (Wk.refl _) .nil))) ?_
    refine bw_region ?_
    refine sM rfl rfl rfl rfl rfl ?_
    refine sS rfl rfl rfl (op1_fn rfl rfl rfl) ?_
    obtain ⟨x10, hx10, h⟩ := obind h
    refine sS rfl rfl rfl (Op1.cast (y := (I64 x10.1)) (H'' := [.dead, .dead, .dead, .dead, .dead, .box 4 [(BO x10.2)]]) (op1_mcall [5] (.func rfl) en_13 rfl (.cons (Wk.refl _) (.cons (Wk.refl _) .nil)) rfl (.cons rfl (.box (.cons (.same rfl) .nil)) .nil) (.cons (.same (ids_V x6.1)) (.cons (.fn (.cons (.same (ids_ptC (ids_V x4))) (.cons (.same (ids_ptC (ids_V x5))) (.cons (.rf rfl) .nil)))) .nil)) (s_path_Walk_law24_MergeMade_1 x6.1 x4 x5 true x10 hx10) (.same rfl) (.cons (.box (.cons (.same rfl) .nil)) .nil) rfl) rfl rfl) (ao_nil ?_)
    change BW _ _ _ _ _
    refine bR ?_
    refine sS rfl rfl rfl ((op1_ldR Try.underlying4 rfl rfl rfl rfl rfl)) ?_
    refine sA rfl rfl rfl rfl rfl (ao_nil ?_)
    change BW _ _ _ _ _
    refine bw_ret ?_
    change ∃ xs, _ = some xs ∧ EndOk _ _ _ _
    obtain rfl := Option.some.inj h
    exact ⟨_, rfl, endOk0 (y := (BO x10.2)) (Wk.refl _) rfl ⟨rfl, rfl⟩⟩
  ·refine bw_region ?_
   refine sM rfl rfl rfl rfl rfl ?_
   refine sS rfl rfl rfl ((op1_cmp rfl rfl rfl rfl).cast (y := (BO ((x6.2.2 != 0)))) rfl rfl) ?_
   refine sM rfl rfl rfl rfl rfl ?_
   refine ao_cases (t := 32) rfl ?_ ?_
   ·intro hb11; replace h := ocond_t hb11 h
    refine ao_no rfl rfl rfl rfl rfl rfl ?_
    refine ao_no rfl rfl rfl rfl rfl rfl ?_
    refine ao_no rfl rfl rfl rfl rfl rfl ?_
    refine sS rfl rfl rfl (op1_pickT rfl rfl rfl) (ao_nil ?_)
    exact ⟨rfl, true, h, ⟨(.cons .dead (.cons .dead (.cons .dead (.cons .same (.cons .same .nil))))), (sC rfl (sC rfl (sC rfl (sC rfl (sC rfl sub_nil)))))⟩⟩
   ·intro hb11; replace h := ocond_f hb11 h
    refine ao_yes rfl rfl rfl rfl rfl rfl (op1_move rfl rfl) ?_
    refine ao_yes rfl rfl rfl rfl rfl rfl (op1_lenM Try.underlying32 rfl rfl) ?_
    refine ao_yes rfl rfl rfl rfl rfl rfl ((op1_cmp rfl rfl rfl rfl).cast (y := (BO ((decide ((((x6.2.1).length : Nat) : Int) > 0))))) rfl rfl) ?_
    refine sS rfl rfl rfl (op1_pickF rfl rfl rfl) (ao_nil ?_)
    exact ⟨rfl, (decide ((((x6.2.1).length : Nat) : Int) > 0)), h, ⟨(.cons .dead (.cons .dead (.cons .dead (.cons .same (.cons .same .nil))))), (sC rfl (sC rfl (sC rfl (sC rfl (sC rfl sub_nil)))))⟩⟩
end Go.Proofs.Ytkmhecgagibgjaa
