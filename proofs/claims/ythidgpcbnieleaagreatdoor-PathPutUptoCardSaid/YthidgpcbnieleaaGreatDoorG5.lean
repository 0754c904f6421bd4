/- Pure functions, and that calls answer as they say. -/
import Derived.Test.YthidgpcbnieleaaGreatDoorG4
namespace Go.Proofs.YthidgpcbnieleaaGreatDoor
open Go Aw
set_option linter.unusedVariables false
set_option linter.unusedSimpArgs false
set_option maxRecDepth 20000
set_option maxHeartbeats 2000000
variable {ι : Type} {ρ : ι → Type}
noncomputable def z49 (a0 : (List S_api_Step)) (a2 : V) (g3 : Int → (List S_api_Edit) → Option (List S_api_Edit)) (s17 : Int) (s18 : (List S_api_Edit)) : Option (List S_api_Edit) :=
 bif (decide (s17 < ((((a2).asList).length : Nat) : Int))) then (
 (z9x (S_api_Step.mk [] true s17) a0).bind fun x20 =>
 (z5s ((a2).asList) s17).bind fun x21 =>
 (zcp 2 x20 x21 s18).bind fun x22 =>
 g3 (IntKind.i64.wrap (s17 + 1)) x22
 ) else (
 some s18
 )
theorem zlg (g3 : OF ρ → Int → (List S_api_Edit) → Option (List S_api_Edit)) (h_g3 : ∀ y0 y1, CM (fun G => g3 G y0 y1)) (a0 : (List S_api_Step)) (a2 : V) (s17 : Int) (s18 : (List S_api_Edit)) : CM (fun G : OF ρ => z49 a0 a2 (g3 G) s17 s18) := by
 simp only [z49]
 repeat (first | exact z0e | exact h_g3 _ _ | refine z13 ?_ ?_ | refine z14 ?_ (fun _ => ?_))
noncomputable def zbi (a0 : (List S_api_Step)) (a2 : V) (s17 : Int) (s18 : (List S_api_Edit)) : Option (List S_api_Edit) :=
 z3r (ι := (Int × (List S_api_Edit))) (ρ := fun _ => (List S_api_Edit)) (fun g i => z49 a0 a2 (fun s17 s18 => g (s17, s18)) i.1 i.2) (s17, s18)
theorem z8p (a0 : (List S_api_Step)) (a2 : V) (s17 : Int) (s18 : (List S_api_Edit)) : zbi a0 a2 s17 s18 = z49 a0 a2 (zbi a0 a2) s17 s18 :=
 z1f (ι := (Int × (List S_api_Edit))) (ρ := fun _ => (List S_api_Edit)) (Φ := fun g i => z49 a0 a2 (fun s17 s18 => g (s17, s18)) i.1 i.2) (fun i => zlg (ι := (Int × (List S_api_Edit))) (ρ := fun _ => (List S_api_Edit)) (fun g => (fun s17 s18 => g (s17, s18))) (fun _ _ => z1h) a0 a2 i.1 i.2) (s17, s18)
noncomputable def z4a (a0 : (List S_api_Step)) (a1 a2 : V) (g2 : Int → (List S_api_Edit) → Option (List S_api_Edit)) (s12 : Int) (s13 : (List S_api_Edit)) : Option (List S_api_Edit) :=
 bif (decide (s12 ≥ ((((a2).asList).length : Nat) : Int))) then (
 (z9x (S_api_Step.mk [] true s12) a0).bind fun x15 =>
 (zcp 3 x15 V.nil s13).bind fun x16 =>
 g2 (IntKind.i64.wrap (s12 - 1)) x16
 ) else (
 zbi a0 a2 ((((a1).asList).length : Nat) : Int) s13
 )
theorem zlh (g2 : OF ρ → Int → (List S_api_Edit) → Option (List S_api_Edit)) (h_g2 : ∀ y0 y1, CM (fun G => g2 G y0 y1)) (a0 : (List S_api_Step)) (a1 a2 : V) (s12 : Int) (s13 : (List S_api_Edit)) : CM (fun G : OF ρ => z4a a0 a1 a2 (g2 G) s12 s13) := by
 simp only [z4a]
 repeat (first | exact z0e | exact h_g2 _ _ | apply q0a_l3_cm | refine z13 ?_ ?_ | refine z14 ?_ (fun _ => ?_) | intro _ | assumption)
noncomputable def zbj (a0 : (List S_api_Step)) (a1 a2 : V) (s12 : Int) (s13 : (List S_api_Edit)) : Option (List S_api_Edit) :=
 z3r (ι := (Int × (List S_api_Edit))) (ρ := fun _ => (List S_api_Edit)) (fun g i => z4a a0 a1 a2 (fun s12 s13 => g (s12, s13)) i.1 i.2) (s12, s13)
theorem z8q (a0 : (List S_api_Step)) (a1 a2 : V) (s12 : Int) (s13 : (List S_api_Edit)) : zbj a0 a1 a2 s12 s13 = z4a a0 a1 a2 (zbj a0 a1 a2) s12 s13 :=
 z1f (ι := (Int × (List S_api_Edit))) (ρ := fun _ => (List S_api_Edit)) (Φ := fun g i => z4a a0 a1 a2 (fun s12 s13 => g (s12, s13)) i.1 i.2) (fun i => zlh (ι := (Int × (List S_api_Edit))) (ρ := fun _ => (List S_api_Edit)) (fun g => (fun s12 s13 => g (s12, s13))) (fun _ _ => z1h) a0 a1 a2 i.1 i.2) (s12, s13)
noncomputable def z3i (r_q0a : (List S_api_Step) → V → V → (List S_api_Edit) → Option (List S_api_Edit)) (a0 : (List S_api_Step)) (a1 a2 : V) (g1 : Int → (List S_api_Edit) → Option (List S_api_Edit)) (s5 : Int) (s6 : (List S_api_Edit)) : Option (List S_api_Edit) :=
 bif (decide (s5 < (if ((((a2).asList).length : Nat) : Int) < ((((a1).asList).length : Nat) : Int) then ((((a2).asList).length : Nat) : Int) else ((((a1).asList).length : Nat) : Int)))) then (
 (z9x (S_api_Step.mk [] true s5) a0).bind fun x8 =>
 (z5s ((a1).asList) s5).bind fun x9 =>
 (z5s ((a2).asList) s5).bind fun x10 =>
 (r_q0a x8 x9 x10 s6).bind fun x11 =>
 g1 (IntKind.i64.wrap (s5 + 1)) x11
 ) else (
 zbj a0 a1 a2 (IntKind.i64.wrap (((((a1).asList).length : Nat) : Int) - 1)) s6
 )
theorem z9t (r_q0a : OF ρ → (List S_api_Step) → V → V → (List S_api_Edit) → Option (List S_api_Edit)) (h_r_q0a : ∀ y0 y1 y2 y3, CM (fun G => r_q0a G y0 y1 y2 y3)) (g1 : OF ρ → Int → (List S_api_Edit) → Option (List S_api_Edit)) (h_g1 : ∀ y0 y1, CM (fun G => g1 G y0 y1)) (a0 : (List S_api_Step)) (a1 a2 : V) (s5 : Int) (s6 : (List S_api_Edit)) : CM (fun G : OF ρ => z3i (r_q0a G) a0 a1 a2 (g1 G) s5 s6) := by
 simp only [z3i]
 repeat (first | exact z0e | exact h_r_q0a _ _ _ _ | exact h_g1 _ _ | apply q0a_l2_cm | refine z13 ?_ ?_ | refine z14 ?_ (fun _ => ?_) | intro _ | assumption)
noncomputable def zad (r_q0a : (List S_api_Step) → V → V → (List S_api_Edit) → Option (List S_api_Edit)) (a0 : (List S_api_Step)) (a1 a2 : V) (s5 : Int) (s6 : (List S_api_Edit)) : Option (List S_api_Edit) :=
 z3r (ι := (Int × (List S_api_Edit))) (ρ := fun _ => (List S_api_Edit)) (fun g i => z3i r_q0a a0 a1 a2 (fun s5 s6 => g (s5, s6)) i.1 i.2) (s5, s6)
theorem z6o (r_q0a : (List S_api_Step) → V → V → (List S_api_Edit) → Option (List S_api_Edit)) (a0 : (List S_api_Step)) (a1 a2 : V) (s5 : Int) (s6 : (List S_api_Edit)) : zad r_q0a a0 a1 a2 s5 s6 = z3i r_q0a a0 a1 a2 (zad r_q0a a0 a1 a2) s5 s6 :=
 z1f (ι := (Int × (List S_api_Edit))) (ρ := fun _ => (List S_api_Edit)) (Φ := fun g i => z3i r_q0a a0 a1 a2 (fun s5 s6 => g (s5, s6)) i.1 i.2) (fun i => z9t (ι := (Int × (List S_api_Edit))) (ρ := fun _ => (List S_api_Edit)) (fun _ => r_q0a) (fun _ _ _ _ => z0e) (fun g => (fun s5 s6 => g (s5, s6))) (fun _ _ => z1h) a0 a1 a2 i.1 i.2) (s5, s6)
theorem znu (r_q0a : OF ρ → (List S_api_Step) → V → V → (List S_api_Edit) → Option (List S_api_Edit)) (h_r_q0a : ∀ y0 y1 y2 y3, CM (fun G => r_q0a G y0 y1 y2 y3)) (a0 : (List S_api_Step)) (a1 a2 : V) (s5 : Int) (s6 : (List S_api_Edit)) : CM (fun G : OF ρ => zad (r_q0a G) a0 a1 a2 s5 s6) :=
 z7r (κ := (Int × (List S_api_Edit))) (τ := fun _ => (List S_api_Edit)) (Φ := fun G g i => z3i (r_q0a G) a0 a1 a2 (fun s5 s6 => g (s5, s6)) i.1 i.2) (fun g i => z9t r_q0a h_r_q0a (fun _ => (fun s5 s6 => g (s5, s6))) (fun _ _ => z0e) a0 a1 a2 i.1 i.2) (fun G i => z9t (ι := (Int × (List S_api_Edit))) (ρ := fun _ => (List S_api_Edit)) (fun _ => r_q0a G) (fun _ _ _ _ => z0e) (fun g => (fun s5 s6 => g (s5, s6))) (fun _ _ => z1h) a0 a1 a2 i.1 i.2) (s5, s6)
noncomputable def zbk (r_q0a : (List S_api_Step) → V → V → (List S_api_Edit) → Option (List S_api_Edit)) (g1 : Int → Int → (List S_api_Edit) → Option (List S_api_Edit)) (a0 : (List S_api_Step)) (x23 : ((List (Str × V)) × (List (Str × V)) × Bool)) (s26 s27 : Int) (s28 : (List S_api_Edit)) (s36 : Bool) : Option (List S_api_Edit) :=
 bif s36 then (
 (z5s x23.2.1 s27).bind fun x38 =>
 (z9x (S_api_Step.mk x38.1 false 0) a0).bind fun x39 =>
 (z5s x23.2.1 s27).bind fun x40 =>
 (zcp 2 x39 x40.2 s28).bind fun x41 =>
 g1 s26 (IntKind.i64.wrap (s27 + 1)) x41
 ) else (
 (z5s x23.2.1 s27).bind fun x42 =>
 (z9x (S_api_Step.mk x42.1 false 0) a0).bind fun x43 =>
 (z5s x23.1 s26).bind fun x44 =>
 (z5s x23.2.1 s27).bind fun x45 =>
 (r_q0a x43 x44.2 x45.2 s28).bind fun x46 =>
 g1 (IntKind.i64.wrap (s26 + 1)) (IntKind.i64.wrap (s27 + 1)) x46
 )
theorem znv (r_q0a : OF ρ → (List S_api_Step) → V → V → (List S_api_Edit) → Option (List S_api_Edit)) (h_r_q0a : ∀ y0 y1 y2 y3, CM (fun G => r_q0a G y0 y1 y2 y3)) (g1 : OF ρ → Int → Int → (List S_api_Edit) → Option (List S_api_Edit)) (h_g1 : ∀ y0 y1 y2, CM (fun G => g1 G y0 y1 y2)) (a0 : (List S_api_Step)) (x23 : ((List (Str × V)) × (List (Str × V)) × Bool)) (s26 s27 : Int) (s28 : (List S_api_Edit)) (s36 : Bool) : CM (fun G : OF ρ => zbk (r_q0a G) (g1 G) a0 x23 s26 s27 s28 s36) := by
 simp only [zbk]
 repeat (first | exact z0e | exact h_r_q0a _ _ _ _ | exact h_g1 _ _ _ | refine z13 ?_ ?_ | refine z14 ?_ (fun _ => ?_))
noncomputable def zae (r_q0a : (List S_api_Step) → V → V → (List S_api_Edit) → Option (List S_api_Edit)) (g1 : Int → Int → (List S_api_Edit) → Option (List S_api_Edit)) (a0 : (List S_api_Step)) (x23 : ((List (Str × V)) × (List (Str × V)) × Bool)) (s26 s27 : Int) (s28 : (List S_api_Edit)) (s31 : Bool) : Option (List S_api_Edit) :=
 bif s31 then (
 (z5s x23.1 s26).bind fun x33 =>
 (z9x (S_api_Step.mk x33.1 false 0) a0).bind fun x34 =>
 (zcp 3 x34 V.nil s28).bind fun x35 =>
 g1 (IntKind.i64.wrap (s26 + 1)) s27 x35
 ) else (
 bif (s26 == (((x23.1).length : Nat) : Int)) then (
 zbk r_q0a g1 a0 x23 s26 s27 s28 true
 ) else (
 (z5s x23.2.1 s27).bind fun x48 =>
 (z5s x23.1 s26).bind fun x49 =>
 zbk r_q0a g1 a0 x23 s26 s27 s28 (Op.bytesLess x48.1 x49.1)
 )
 )
theorem znw (r_q0a : OF ρ → (List S_api_Step) → V → V → (List S_api_Edit) → Option (List S_api_Edit)) (h_r_q0a : ∀ y0 y1 y2 y3, CM (fun G => r_q0a G y0 y1 y2 y3)) (g1 : OF ρ → Int → Int → (List S_api_Edit) → Option (List S_api_Edit)) (h_g1 : ∀ y0 y1 y2, CM (fun G => g1 G y0 y1 y2)) (a0 : (List S_api_Step)) (x23 : ((List (Str × V)) × (List (Str × V)) × Bool)) (s26 s27 : Int) (s28 : (List S_api_Edit)) (s31 : Bool) : CM (fun G : OF ρ => zae (r_q0a G) (g1 G) a0 x23 s26 s27 s28 s31) := by
 simp only [zae]
 repeat (first | exact z0e | exact h_r_q0a _ _ _ _ | exact h_g1 _ _ _ | apply znv | refine z13 ?_ ?_ | refine z14 ?_ (fun _ => ?_) | intro _ | assumption)
noncomputable def zbl (r_q0a : (List S_api_Step) → V → V → (List S_api_Edit) → Option (List S_api_Edit)) (g1 : Int → Int → (List S_api_Edit) → Option (List S_api_Edit)) (a0 : (List S_api_Step)) (x23 : ((List (Str × V)) × (List (Str × V)) × Bool)) (s26 s27 : Int) (s28 : (List S_api_Edit)) (s29 : Bool) : Option (List S_api_Edit) :=
 bif s29 then (
 bif (s27 == (((x23.2.1).length : Nat) : Int)) then (
 zae r_q0a g1 a0 x23 s26 s27 s28 true
 ) else (
 bif (decide (s26 < (((x23.1).length : Nat) : Int))) then (
 (z5s x23.1 s26).bind fun x52 =>
 (z5s x23.2.1 s27).bind fun x53 =>
 zae r_q0a g1 a0 x23 s26 s27 s28 (Op.bytesLess x52.1 x53.1)
 ) else (
 zae r_q0a g1 a0 x23 s26 s27 s28 false
 )
 )
 ) else (
 some s28
 )
theorem znx (r_q0a : OF ρ → (List S_api_Step) → V → V → (List S_api_Edit) → Option (List S_api_Edit)) (h_r_q0a : ∀ y0 y1 y2 y3, CM (fun G => r_q0a G y0 y1 y2 y3)) (g1 : OF ρ → Int → Int → (List S_api_Edit) → Option (List S_api_Edit)) (h_g1 : ∀ y0 y1 y2, CM (fun G => g1 G y0 y1 y2)) (a0 : (List S_api_Step)) (x23 : ((List (Str × V)) × (List (Str × V)) × Bool)) (s26 s27 : Int) (s28 : (List S_api_Edit)) (s29 : Bool) : CM (fun G : OF ρ => zbl (r_q0a G) (g1 G) a0 x23 s26 s27 s28 s29) := by
 simp only [zbl]
 repeat (first | exact z0e | exact h_r_q0a _ _ _ _ | exact h_g1 _ _ _ | apply znw | refine z13 ?_ ?_ | refine z14 ?_ (fun _ => ?_) | intro _ | assumption)
noncomputable def z55 (r_q0a : (List S_api_Step) → V → V → (List S_api_Edit) → Option (List S_api_Edit)) (a0 : (List S_api_Step)) (x23 : ((List (Str × V)) × (List (Str × V)) × Bool)) (g1 : Int → Int → (List S_api_Edit) → Option (List S_api_Edit)) (s26 s27 : Int) (s28 : (List S_api_Edit)) : Option (List S_api_Edit) :=
 bif (decide (s26 < (((x23.1).length : Nat) : Int))) then (
 zbl r_q0a g1 a0 x23 s26 s27 s28 true
 ) else (
 zbl r_q0a g1 a0 x23 s26 s27 s28 (decide (s27 < (((x23.2.1).length : Nat) : Int)))
 )
theorem z9s (r_q0a : OF ρ → (List S_api_Step) → V → V → (List S_api_Edit) → Option (List S_api_Edit)) (h_r_q0a : ∀ y0 y1 y2 y3, CM (fun G => r_q0a G y0 y1 y2 y3)) (g1 : OF ρ → Int → Int → (List S_api_Edit) → Option (List S_api_Edit)) (h_g1 : ∀ y0 y1 y2, CM (fun G => g1 G y0 y1 y2)) (a0 : (List S_api_Step)) (x23 : ((List (Str × V)) × (List (Str × V)) × Bool)) (s26 s27 : Int) (s28 : (List S_api_Edit)) : CM (fun G : OF ρ => z55 (r_q0a G) a0 x23 (g1 G) s26 s27 s28) := by
 simp only [z55]
 repeat (first | exact z0e | exact h_r_q0a _ _ _ _ | exact h_g1 _ _ _ | apply znx | refine z13 ?_ ?_ | refine z14 ?_ (fun _ => ?_) | intro _ | assumption)
noncomputable def zdc (r_q0a : (List S_api_Step) → V → V → (List S_api_Edit) → Option (List S_api_Edit)) (a0 : (List S_api_Step)) (x23 : ((List (Str × V)) × (List (Str × V)) × Bool)) (s26 s27 : Int) (s28 : (List S_api_Edit)) : Option (List S_api_Edit) :=
 z3r (ι := (Int × Int × (List S_api_Edit))) (ρ := fun _ => (List S_api_Edit)) (fun g i => z55 r_q0a a0 x23 (fun s26 s27 s28 => g (s26, s27, s28)) i.1 i.2.1 i.2.2) (s26, s27, s28)
theorem zg7 (r_q0a : (List S_api_Step) → V → V → (List S_api_Edit) → Option (List S_api_Edit)) (a0 : (List S_api_Step)) (x23 : ((List (Str × V)) × (List (Str × V)) × Bool)) (s26 s27 : Int) (s28 : (List S_api_Edit)) : zdc r_q0a a0 x23 s26 s27 s28 = z55 r_q0a a0 x23 (zdc r_q0a a0 x23) s26 s27 s28 :=
 z1f (ι := (Int × Int × (List S_api_Edit))) (ρ := fun _ => (List S_api_Edit)) (Φ := fun g i => z55 r_q0a a0 x23 (fun s26 s27 s28 => g (s26, s27, s28)) i.1 i.2.1 i.2.2) (fun i => z9s (ι := (Int × Int × (List S_api_Edit))) (ρ := fun _ => (List S_api_Edit)) (fun _ => r_q0a) (fun _ _ _ _ => z0e) (fun g => (fun s26 s27 s28 => g (s26, s27, s28))) (fun _ _ _ => z1h) a0 x23 i.1 i.2.1 i.2.2) (s26, s27, s28)
theorem znt (r_q0a : OF ρ → (List S_api_Step) → V → V → (List S_api_Edit) → Option (List S_api_Edit)) (h_r_q0a : ∀ y0 y1 y2 y3, CM (fun G => r_q0a G y0 y1 y2 y3)) (a0 : (List S_api_Step)) (x23 : ((List (Str × V)) × (List (Str × V)) × Bool)) (s26 s27 : Int) (s28 : (List S_api_Edit)) : CM (fun G : OF ρ => zdc (r_q0a G) a0 x23 s26 s27 s28) :=
 z7r (κ := (Int × Int × (List S_api_Edit))) (τ := fun _ => (List S_api_Edit)) (Φ := fun G g i => z55 (r_q0a G) a0 x23 (fun s26 s27 s28 => g (s26, s27, s28)) i.1 i.2.1 i.2.2) (fun g i => z9s r_q0a h_r_q0a (fun _ => (fun s26 s27 s28 => g (s26, s27, s28))) (fun _ _ _ => z0e) a0 x23 i.1 i.2.1 i.2.2) (fun G i => z9s (ι := (Int × Int × (List S_api_Edit))) (ρ := fun _ => (List S_api_Edit)) (fun _ => r_q0a G) (fun _ _ _ _ => z0e) (fun g => (fun s26 s27 s28 => g (s26, s27, s28))) (fun _ _ _ => z1h) a0 x23 i.1 i.2.1 i.2.2) (s26, s27, s28)
noncomputable def zbm (r_q0a : (List S_api_Step) → V → V → (List S_api_Edit) → Option (List S_api_Edit)) (a0 : (List S_api_Step)) (a1 a2 : V) (a3c0 : (List S_api_Edit)) (s3 : Bool) : Option (List S_api_Edit) :=
 bif s3 then (
 zad r_q0a a0 a1 a2 0 a3c0
 ) else (
 (zvt a1 a2).bind fun x23 =>
 bif (!x23.2.2) then (
 (zcp 1 a0 a2 a3c0).bind fun x25 =>
 some x25
 ) else (
 zdc r_q0a a0 x23 0 0 a3c0
 )
 )
theorem zny (r_q0a : OF ρ → (List S_api_Step) → V → V → (List S_api_Edit) → Option (List S_api_Edit)) (h_r_q0a : ∀ y0 y1 y2 y3, CM (fun G => r_q0a G y0 y1 y2 y3)) (a0 : (List S_api_Step)) (a1 a2 : V) (a3c0 : (List S_api_Edit)) (s3 : Bool) : CM (fun G : OF ρ => zbm (r_q0a G) a0 a1 a2 a3c0 s3) := by
 simp only [zbm]
 repeat (first | exact z0e | exact h_r_q0a _ _ _ _ | apply znu | apply znt | refine z13 ?_ ?_ | refine z14 ?_ (fun _ => ?_) | intro _ | assumption)
noncomputable def zct (r_q0a : (List S_api_Step) → V → V → (List S_api_Edit) → Option (List S_api_Edit)) (a0 : (List S_api_Step)) (a1 a2 : V) (a3c0 : (List S_api_Edit)) : Option (List S_api_Edit) :=
 (zco a1 a2).bind fun x1 =>
 bif x1 then (
 some a3c0
 ) else (
 bif (a1).isList then (
 zbm r_q0a a0 a1 a2 a3c0 ((a2).isList)
 ) else (
 zbm r_q0a a0 a1 a2 a3c0 false
 )
 )
theorem ztn (r_q0a : OF ρ → (List S_api_Step) → V → V → (List S_api_Edit) → Option (List S_api_Edit)) (h_r_q0a : ∀ y0 y1 y2 y3, CM (fun G => r_q0a G y0 y1 y2 y3)) (a0 : (List S_api_Step)) (a1 a2 : V) (a3c0 : (List S_api_Edit)) : CM (fun G : OF ρ => zct (r_q0a G) a0 a1 a2 a3c0) := by
 simp only [zct]
 repeat (first | exact z0e | exact h_r_q0a _ _ _ _ | apply zny | refine z13 ?_ ?_ | refine z14 ?_ (fun _ => ?_) | intro _ | assumption)
inductive C_q0a where
 | k_q0a (a0 : (List S_api_Step)) (a1 : V) (a2 : V) (a3c0 : (List S_api_Edit))
def C_q0a.R : C_q0a → Type
 | .k_q0a _ _ _ _ => (List S_api_Edit)
noncomputable def C_q0a.F (g : ∀ i : C_q0a, Option i.R) : ∀ i : C_q0a, Option i.R
 | .k_q0a a0 a1 a2 a3c0 => zct (fun a0 a1 a2 a3c0 => g (.k_q0a a0 a1 a2 a3c0)) a0 a1 a2 a3c0
noncomputable def zaj (a0 : (List S_api_Step)) (a1 a2 : V) (a3c0 : (List S_api_Edit)) : Option (List S_api_Edit) := z3r C_q0a.F (.k_q0a a0 a1 a2 a3c0)
abbrev Z4c := fun (g : ∀ i : C_q0a, Option i.R) a0 a1 a2 a3c0 => g (.k_q0a a0 a1 a2 a3c0)
theorem Z49 (a0 a1 a2 a3c0 : _) : CM (ρ := C_q0a.R) (fun g => g (C_q0a.k_q0a a0 a1 a2 a3c0)) := z1h
theorem C_q0a.cm (i : C_q0a) : CM (fun g : (∀ i : C_q0a, Option i.R) => C_q0a.F g i) := by
 cases i with
 | k_q0a a0 a1 a2 a3c0 => exact ztn Z4c Z49 a0 a1 a2 a3c0
theorem zsy (a0 : (List S_api_Step)) (a1 a2 : V) (a3c0 : (List S_api_Edit)) : zaj a0 a1 a2 a3c0 = zct zaj a0 a1 a2 a3c0 := z1f C_q0a.cm (.k_q0a a0 a1 a2 a3c0)
def C_q0a.Q : ∀ i : C_q0a, i.R → Prop
 | .k_q0a a0 a1 a2 a3c0 => fun (r : (List S_api_Edit)) => z7a Tryz.prog 45 [(PV.sl none 83 3 (List.map z02 a0)), (ofV a1), (ofV a2), (PV.fn (.func 46) [] [(PV.rf 0 0)])] [.box 46 [(PV.sl (some 1) 53 3 (List.map z0g a3c0))], .arr 53 (a3c0).length] (PV.tup []) [.box 46 [(PV.sl (some 1) 53 3 (List.map z0g r))], .arr 53 (r).length]
theorem z4u (r_q0a : (List S_api_Step) → V → V → (List S_api_Edit) → Option (List S_api_Edit)) (c_q0a : ∀ (a0 : (List S_api_Step)) (a1 : V) (a2 : V) (a3c0 : (List S_api_Edit)) r, r_q0a a0 a1 a2 a3c0 = some r → z7a Tryz.prog 45 [(PV.sl none 83 3 (List.map z02 a0)), (ofV a1), (ofV a2), (PV.fn (.func 46) [] [(PV.rf 0 0)])] [.box 46 [(PV.sl (some 1) 53 3 (List.map z0g a3c0))], .arr 53 (a3c0).length] (PV.tup []) [.box 46 [(PV.sl (some 1) 53 3 (List.map z0g r))], .arr 53 (r).length]) (a0 : (List S_api_Step)) (a1 a2 : V) (a3c0 r : (List S_api_Edit)) (h : zct r_q0a a0 a1 a2 a3c0 = some r) : z7a Tryz.prog 45 [(PV.sl none 83 3 (List.map z02 a0)), (ofV a1), (ofV a2), (PV.fn (.func 46) [] [(PV.rf 0 0)])] [.box 46 [(PV.sl (some 1) 53 3 (List.map z0g a3c0))], .arr 53 (a3c0).length] (PV.tup []) [.box 46 [(PV.sl (some 1) 53 3 (List.map z0g r))], .arr 53 (r).length] := by
 unfold zct at h
 refine z0c Tryz.func45 rfl Tryz.ntmps45 Tryz.results45 rfl (z0i ?_)
 change BW _ _ _ ⟨[(0, (PV.sl none 83 3 (List.map z02 a0))), (1, (ofV a1)), (2, (ofV a2)), (3, (PV.fn (.func 46) [] [(PV.rf 0 0)]))], [.box 46 [(PV.sl (some 1) 53 3 (List.map z0g a3c0))], .arr 53 (a3c0).length], _⟩ _
 refine bR ?_
 refine eX ?_
 refine z09 ?_
 refine z09 ?_
 refine z87 2 4 (y := (PV.pt 30 (PV.sl none 83 3 (List.map z02 a0)) 0)) rfl rfl (Wk.pt (x := .agg [(PV.sl none 83 3 (List.map z02 a0))]) (y := (PV.sl none 83 3 (List.map z02 a0))) (wkr .nil)) ?_
 refine z0f ?_
 iterate 2 refine sX ?_
 obtain ⟨x1, hx1, h⟩ := obind h
 refine sS rfl rfl rfl (z05 rfl zmg rfl (wkr (wkr .nil)) ⟨(ids_V a1), ⟨(ids_V a2), trivial⟩⟩ (zl3 a1 a2 x1 hx1) rfl) (z0b ?_)
 refine cBx ?_
 refine cX h rfl ?_ ?_
 intro hc2 h
 obtain rfl := eI h; exact z04 ⟨_, rfl, endR (y := (PV.tup [])) 2 (Wk.refl _) rfl rfl (.tup .nil) (.cons (.box (.cons (.row rfl (z17 z0d a3c0)) .nil)) (.cons .arr .nil)) ⟨rfl, rfl⟩⟩
 intro hc2 h
 refine z08 ?_
 refine cBx ?_
 refine bR ?_
 refine sS rfl rfl rfl (zjq rfl rfl rfl) ?_
 refine eX ?_
 refine bR ?_
 refine sX ?_
 refine sS rfl rfl rfl (z27 rfl rfl) ?_
 iterate 4 refine sX ?_
 refine eX ?_
 refine bR ?_
 refine sX ?_
 refine sS rfl rfl rfl (z27 rfl rfl) ?_
 iterate 4 refine sX ?_
 refine eX ?_
 refine z09 ?_
 refine z2h (ι := Bool) (fun i => zbm r_q0a a0 a1 a2 a3c0 i = some r) (fun i => [(1, (ofV a1)), (2, (ofV a2)), (3, (PV.fn (.func 46) [] [(PV.rf 0 0)])), (4, (PV.pt 30 (PV.sl none 83 3 (List.map z02 a0)) 0)), (8, (PV.fn (.func 79) [] [(PV.pt 30 (PV.sl none 83 3 (List.map z02 a0)) 0)])), (9, (PV.sl none 20 1 (List.map ofV (a1).asList))), (11, (PV.sl none 20 1 (List.map ofV (a2).asList))), (38, (BO i))]) (fun i => [.box 46 [(PV.sl (some 1) 53 3 (List.map z0g a3c0))], .arr 53 (a3c0).length]) ?_ ?_ ?_
 intro i; exact ⟨lbE rfl, ⟨(z0a (ids_V _)), ⟨(z0a (ids_V _)), ⟨(il_fn (z4q (il_rf rfl) z6y)), ⟨(z0a (z70 (z06 z01 _))), ⟨(z0a (z3z (z3y (z06 (e := 83) (sz := 3) z01 a0) rfl))), ⟨(z0a (z06 ids_V _)), ⟨(z0a (z06 ids_V _)), ⟨(z0a rfl), trivial⟩⟩⟩⟩⟩⟩⟩⟩, ⟨⟨(z4r rfl (z17 z0d _)), trivial⟩, trivial⟩⟩
 rintro s3 h; replace h : zbm r_q0a a0 a1 a2 a3c0 s3 = some r := h; unfold zbm at h
 change BW _ _ _ ⟨[(1, (ofV a1)), (2, (ofV a2)), (3, (PV.fn (.func 46) [] [(PV.rf 0 0)])), (4, (PV.pt 30 (PV.sl none 83 3 (List.map z02 a0)) 0)), (8, (PV.fn (.func 79) [] [(PV.pt 30 (PV.sl none 83 3 (List.map z02 a0)) 0)])), (9, (PV.sl none 20 1 (List.map ofV (a1).asList))), (11, (PV.sl none 20 1 (List.map ofV (a2).asList))), (38, (BO s3))], [.box 46 [(PV.sl (some 1) 53 3 (List.map z0g a3c0))], .arr 53 (a3c0).length], _⟩ _
 refine cX h rfl ?_ ?_
 intro hc4 h
 refine z09 ?_
 refine bR ?_
 iterate 4 refine sX ?_
 refine sS rfl rfl rfl (zru (args := []) rfl rfl rfl) ?_
 refine eX ?_
 refine z0j ?_
 refine cBx ?_
 unfold zad at h
 refine z3n (σ := (Int × (List S_api_Edit))) (fun i => [(3, (PV.fn (.func 46) [] [(PV.rf 0 0)])), (8, (PV.fn (.func 79) [] [(PV.pt 30 (PV.sl none 83 3 (List.map z02 a0)) 0)])), (9, (PV.sl none 20 1 (List.map ofV (a1).asList))), (11, (PV.sl none 20 1 (List.map ofV (a2).asList))), (43, (I64 ((if ((((a2).asList).length : Nat) : Int) < ((((a1).asList).length : Nat) : Int) then ((((a2).asList).length : Nat) : Int) else ((((a1).asList).length : Nat) : Int))))), (44, (I64 i.1))]) (fun i => [.box 46 [(PV.sl (some 1) 53 3 (List.map z0g i.2))], .arr 53 (i.2).length]) (0, a3c0) h ?_ ?_ ?_
 intro i; exact ⟨lbE rfl, ⟨(il_fn (z4q (il_rf rfl) z6y)), ⟨(z0a (z3z (z3y (z06 (e := 83) (sz := 3) z01 a0) rfl))), ⟨(z0a (z06 ids_V _)), ⟨(z0a (z06 ids_V _)), ⟨(z0a rfl), ⟨(z0a rfl), trivial⟩⟩⟩⟩⟩⟩, ⟨⟨(z4r rfl (z17 z0d _)), trivial⟩, trivial⟩⟩
 exact jN
 rintro g1_f ⟨s5, s6⟩ h; replace h : z3i r_q0a a0 a1 a2 (fun y0 y1 => g1_f (y0, y1)) s5 s6 = some r := h; unfold z3i at h
 change BW _ _ _ ⟨[(3, (PV.fn (.func 46) [] [(PV.rf 0 0)])), (8, (PV.fn (.func 79) [] [(PV.pt 30 (PV.sl none 83 3 (List.map z02 a0)) 0)])), (9, (PV.sl none 20 1 (List.map ofV (a1).asList))), (11, (PV.sl none 20 1 (List.map ofV (a2).asList))), (43, (I64 ((if ((((a2).asList).length : Nat) : Int) < ((((a1).asList).length : Nat) : Int) then ((((a2).asList).length : Nat) : Int) else ((((a1).asList).length : Nat) : Int))))), (44, (I64 s5))], [.box 46 [(PV.sl (some 1) 53 3 (List.map z0g s6))], .arr 53 (s6).length], _⟩ _
 refine bR ?_
 refine eX ?_
 refine z09 ?_
 refine cX h rfl ?_ ?_
 intro hc7 h
 refine z08 ?_
 refine cBx ?_
 refine z09 ?_
 refine z0j ?_
 refine cBx ?_
 refine bR ?_
 refine sX ?_
 refine eX ?_
 refine z1t 13 [] [] mo (by kernel_rfl) ?_
 iterate 2 refine gX ?_
 refine z1m rfl rfl rfl rfl (fun H hp => z1k (cs := [(z0k []), (BO true), (I64 s5)]) zcl z19 rfl rfl rfl rfl) ?_
 obtain ⟨x8, hx8, h⟩ := obind h
 refine z1m rfl rfl rfl rfl (fun H hp => z2u rfl rfl zmf rfl (wkr (wkr .nil)) ⟨(z01 (S_api_Step.mk [] true s5)), ⟨(z70 (z06 z01 a0)), trivial⟩⟩ (zl4 (S_api_Step.mk [] true s5) a0 x8 hx8) (z06 z01 x8)) ?_
 iterate 2 refine gX ?_
 obtain ⟨x9, hx9, h⟩ := obind h
 refine z1m rfl rfl rfl rfl (fun H hp => z1w Tryz.underlying67 z23 rfl rfl rfl hx9 rfl) ?_
 refine z1m rfl rfl rfl rfl (fun H hp => z3x (y := (ofV x9)) Tryz.underlying20 rfl rfl rfl (by rw [z11]; rfl)) ?_
 iterate 2 refine gX ?_
 obtain ⟨x10, hx10, h⟩ := obind h
 refine z1m rfl rfl rfl rfl (fun H hp => z1w Tryz.underlying67 z23 rfl rfl rfl hx10 rfl) ?_
 refine z1m rfl rfl rfl rfl (fun H hp => z3x (y := (ofV x10)) Tryz.underlying20 rfl rfl rfl (by rw [z11]; rfl)) ?_
 refine gX ?_
 refine z1y ?_
 change AO _ _ _ _ _
 obtain ⟨x11, hx11, h⟩ := obind h
 refine sS rfl rfl rfl (Op1.cast (y := (PV.tup [])) (H'' := [.box 46 [(PV.sl (some 1) 53 3 (List.map z0g x11))], .arr 53 (x11).length]) (z3t [0, 1] (.func rfl) zwz rfl (wkr (wkr (wkr (wkr .nil)))) rfl (.cons rfl (.box (.cons (.row rfl (z17 z0d s6)) .nil)) (.cons rfl .arr .nil)) (.cons (.same (z06 z01 x8)) (.cons (.same (ids_V x9)) (.cons (.same (ids_V x10)) (.cons (.fn (.cons (.rf rfl) .nil)) .nil)))) (c_q0a x8 x9 x10 s6 x11 hx11) (.same z03) (.cons (.box (.cons (.row rfl (z17 z0d x11)) .nil)) (.cons .arr .nil)) rfl) rfl rfl) (z0b ?_)
 refine cBx ?_
 refine z0f ?_
 refine sX ?_
 refine sX (z0b ?_)
 exact ⟨rfl, ((IntKind.i64.wrap (s5 + 1)), x11), h, jN⟩
 intro hc7 h
 refine z2b ?_
 refine cBx ?_
 refine z09 ?_
 refine bR ?_
 iterate 2 refine sX ?_
 refine sS rfl rfl rfl (zej rfl rfl rfl) ?_
 refine eX ?_
 refine z0j ?_
 refine cBx ?_
 unfold zbj at h
 refine z3n (σ := (Int × (List S_api_Edit))) (fun i => [(3, (PV.fn (.func 46) [] [(PV.rf 0 0)])), (8, (PV.fn (.func 79) [] [(PV.pt 30 (PV.sl none 83 3 (List.map z02 a0)) 0)])), (9, (PV.sl none 20 1 (List.map ofV (a1).asList))), (11, (PV.sl none 20 1 (List.map ofV (a2).asList))), (14, (I64 i.1))]) (fun i => [.box 46 [(PV.sl (some 1) 53 3 (List.map z0g i.2))], .arr 53 (i.2).length]) ((IntKind.i64.wrap (((((a1).asList).length : Nat) : Int) - 1)), s6) h ?_ ?_ ?_
 intro i; exact ⟨lbE rfl, ⟨(il_fn (z4q (il_rf rfl) z6y)), ⟨(z0a (z3z (z3y (z06 (e := 83) (sz := 3) z01 a0) rfl))), ⟨(z0a (z06 ids_V _)), ⟨(z0a (z06 ids_V _)), ⟨(z0a rfl), trivial⟩⟩⟩⟩⟩, ⟨⟨(z4r rfl (z17 z0d _)), trivial⟩, trivial⟩⟩
 exact jN
 rintro g2_f ⟨s12, s13⟩ h; replace h : z4a a0 a1 a2 (fun y0 y1 => g2_f (y0, y1)) s12 s13 = some r := h; unfold z4a at h
 change BW _ _ _ ⟨[(3, (PV.fn (.func 46) [] [(PV.rf 0 0)])), (8, (PV.fn (.func 79) [] [(PV.pt 30 (PV.sl none 83 3 (List.map z02 a0)) 0)])), (9, (PV.sl none 20 1 (List.map ofV (a1).asList))), (11, (PV.sl none 20 1 (List.map ofV (a2).asList))), (14, (I64 s12))], [.box 46 [(PV.sl (some 1) 53 3 (List.map z0g s13))], .arr 53 (s13).length], _⟩ _
 refine z09 ?_
 refine bR ?_
 iterate 3 refine sX ?_
 refine eX ?_
 refine cX h rfl ?_ ?_
 intro hc14 h
 refine z08 ?_
 refine cBx ?_
 refine z09 ?_
 refine z0j ?_
 refine cBx ?_
 refine z0f ?_
 iterate 3 refine sX ?_
 refine sS rfl rfl rfl (z1k (cs := [(z0k []), (BO true), (I64 s12)]) zcl z19 rfl rfl rfl rfl) ?_
 obtain ⟨x15, hx15, h⟩ := obind h
 refine sS rfl rfl rfl (z2u rfl rfl zmf rfl (wkr (wkr .nil)) ⟨(z01 (S_api_Step.mk [] true s12)), ⟨(z70 (z06 z01 a0)), trivial⟩⟩ (zl4 (S_api_Step.mk [] true s12) a0 x15 hx15) (z06 z01 x15)) ?_
 obtain ⟨x16, hx16, h⟩ := obind h
 refine sS rfl rfl rfl (Op1.cast (y := (PV.tup [])) (H'' := [.box 46 [(PV.sl (some 1) 53 3 (List.map z0g x16))], .arr 53 (x16).length]) (z3t [0, 1] (.held rfl rfl) zpy rfl (wkr (wkr (.cons (Wk.eq mk_nil.symm) (wkr .nil)))) rfl (.cons rfl (.box (.cons (.row rfl (z17 z0d s13)) .nil)) (.cons rfl .arr .nil)) (.cons (.same rfl) (.cons (.same (z06 z01 x15)) (.cons (.same (ids_V V.nil)) (.cons (.rf rfl) .nil)))) (zn7 3 x15 V.nil s13 x16 hx16) (.same z03) (.cons (.box (.cons (.row rfl (z17 z0d x16)) .nil)) (.cons .arr .nil)) rfl) rfl rfl) (z0b ?_)
 refine cBx ?_
 refine z0f ?_
 refine sX ?_
 refine sS rfl rfl rfl (zej rfl rfl rfl) ?_
 refine sX (z0b ?_)
 exact ⟨rfl, ((IntKind.i64.wrap (s12 - 1)), x16), h, jN⟩
 intro hc14 h
 refine z2b ?_
 refine cBx ?_
 refine z09 ?_
 refine bR ?_
 iterate 2 refine sX ?_
 refine eX ?_
 refine z0j ?_
 refine cBx ?_
 unfold zbi at h
 refine z3n (σ := (Int × (List S_api_Edit))) (fun i => [(3, (PV.fn (.func 46) [] [(PV.rf 0 0)])), (8, (PV.fn (.func 79) [] [(PV.pt 30 (PV.sl none 83 3 (List.map z02 a0)) 0)])), (11, (PV.sl none 20 1 (List.map ofV (a2).asList))), (15, (I64 i.1))]) (fun i => [.box 46 [(PV.sl (some 1) 53 3 (List.map z0g i.2))], .arr 53 (i.2).length]) (((((a1).asList).length : Nat) : Int), s13) h ?_ ?_ ?_
 intro i; exact ⟨lbE rfl, ⟨(il_fn (z4q (il_rf rfl) z6y)), ⟨(z0a (z3z (z3y (z06 (e := 83) (sz := 3) z01 a0) rfl))), ⟨(z0a (z06 ids_V _)), ⟨(z0a rfl), trivial⟩⟩⟩⟩, ⟨⟨(z4r rfl (z17 z0d _)), trivial⟩, trivial⟩⟩
 exact jN
 rintro g3_f ⟨s17, s18⟩ h; replace h : z49 a0 a2 (fun y0 y1 => g3_f (y0, y1)) s17 s18 = some r := h; unfold z49 at h
 change BW _ _ _ ⟨[(3, (PV.fn (.func 46) [] [(PV.rf 0 0)])), (8, (PV.fn (.func 79) [] [(PV.pt 30 (PV.sl none 83 3 (List.map z02 a0)) 0)])), (11, (PV.sl none 20 1 (List.map ofV (a2).asList))), (15, (I64 s17))], [.box 46 [(PV.sl (some 1) 53 3 (List.map z0g s18))], .arr 53 (s18).length], _⟩ _
 refine z09 ?_
 refine bR ?_
 iterate 3 refine sX ?_
 refine eX ?_
 refine cX h rfl ?_ ?_
 intro hc19 h
 refine z08 ?_
 refine cBx ?_
 refine z09 ?_
 refine z0j ?_
 refine cBx ?_
 refine z1t 9 [] [] mo (by kernel_rfl) ?_
 iterate 3 refine gX ?_
 refine z1m rfl rfl rfl rfl (fun H hp => z1k (cs := [(z0k []), (BO true), (I64 s17)]) zcl z19 rfl rfl rfl rfl) ?_
 obtain ⟨x20, hx20, h⟩ := obind h
 refine z1m rfl rfl rfl rfl (fun H hp => z2u rfl rfl zmf rfl (wkr (wkr .nil)) ⟨(z01 (S_api_Step.mk [] true s17)), ⟨(z70 (z06 z01 a0)), trivial⟩⟩ (zl4 (S_api_Step.mk [] true s17) a0 x20 hx20) (z06 z01 x20)) ?_
 iterate 2 refine gX ?_
 obtain ⟨x21, hx21, h⟩ := obind h
 refine z1m rfl rfl rfl rfl (fun H hp => z1w Tryz.underlying67 z23 rfl rfl rfl hx21 rfl) ?_
 refine z1m rfl rfl rfl rfl (fun H hp => z3x (y := (ofV x21)) Tryz.underlying20 rfl rfl rfl (by rw [z11]; rfl)) ?_
 refine z1y ?_
 change AO _ _ _ _ _
 obtain ⟨x22, hx22, h⟩ := obind h
 refine sS rfl rfl rfl (Op1.cast (y := (PV.tup [])) (H'' := [.box 46 [(PV.sl (some 1) 53 3 (List.map z0g x22))], .arr 53 (x22).length]) (z3t [0, 1] (.held rfl rfl) zpy rfl (wkr (wkr (wkr (wkr .nil)))) rfl (.cons rfl (.box (.cons (.row rfl (z17 z0d s18)) .nil)) (.cons rfl .arr .nil)) (.cons (.same rfl) (.cons (.same (z06 z01 x20)) (.cons (.same (ids_V x21)) (.cons (.rf rfl) .nil)))) (zn7 2 x20 x21 s18 x22 hx22) (.same z03) (.cons (.box (.cons (.row rfl (z17 z0d x22)) .nil)) (.cons .arr .nil)) rfl) rfl rfl) (z0b ?_)
 refine cBx ?_
 refine z0f ?_
 iterate 2 refine sX ?_
 refine sX (z0b ?_)
 exact ⟨rfl, ((IntKind.i64.wrap (s17 + 1)), x22), h, jN⟩
 intro hc19 h
 refine z2b ?_
 refine cBx ?_
 obtain rfl := eI h; exact z04 ⟨_, rfl, endR (y := (PV.tup [])) 2 (Wk.refl _) rfl rfl (.tup .nil) (.cons (.box (.cons (.row rfl (z17 z0d s18)) .nil)) (.cons .arr .nil)) ⟨rfl, rfl⟩⟩
 intro hc4 h
 refine z08 ?_
 refine cBx ?_
 refine bR ?_
 iterate 2 refine sX ?_
 obtain ⟨x23, hx23, h⟩ := obind h
 refine sS rfl rfl rfl (z05 rfl Z28 rfl (wkr (wkr .nil)) ⟨(ids_V a1), ⟨(ids_V a2), trivial⟩⟩ (Z10 a1 a2 x23 hx23) (z00 (z06 z0q x23.1) (z00 (z06 z0q x23.2.1) (z00 rfl z03)))) ?_
 iterate 6 refine sX ?_
 refine eX ?_
 refine z09 ?_
 refine bR ?_
 refine sX ?_
 refine eX ?_
 refine cX h rfl ?_ ?_
 intro hc24 h
 refine bR ?_
 iterate 3 refine sX ?_
 obtain ⟨x25, hx25, h⟩ := obind h
 refine sS rfl rfl rfl (Op1.cast (y := (PV.tup [])) (H'' := [.box 46 [(PV.sl (some 1) 53 3 (List.map z0g x25))], .arr 53 (x25).length]) (z3t [0, 1] (.held rfl rfl) zpy rfl (wkr (wkr (wkr (wkr .nil)))) rfl (.cons rfl (.box (.cons (.row rfl (z17 z0d a3c0)) .nil)) (.cons rfl .arr .nil)) (.cons (.same rfl) (.cons (.same (z06 z01 a0)) (.cons (.same (ids_V a2)) (.cons (.rf rfl) .nil)))) (zn7 1 a0 a2 a3c0 x25 hx25) (.same z03) (.cons (.box (.cons (.row rfl (z17 z0d x25)) .nil)) (.cons .arr .nil)) rfl) rfl rfl) (z0b ?_)
 refine cBx ?_
 obtain rfl := eI h; exact z04 ⟨_, rfl, endR (y := (PV.tup [])) 2 (Wk.refl _) rfl rfl (.tup .nil) (.cons (.box (.cons (.row rfl (z17 z0d x25)) .nil)) (.cons .arr .nil)) ⟨rfl, rfl⟩⟩
 intro hc24 h
 refine z08 ?_
 refine cBx ?_
 refine bR ?_
 refine sX ?_
 refine eX ?_
 refine z0j ?_
 refine cBx ?_
 unfold zdc at h
 refine z3n (σ := (Int × Int × (List S_api_Edit))) (fun i => [(3, (PV.fn (.func 46) [] [(PV.rf 0 0)])), (8, (PV.fn (.func 79) [] [(PV.pt 30 (PV.sl none 83 3 (List.map z02 a0)) 0)])), (16, (PV.sl none 69 2 (List.map ofFld x23.1))), (17, (PV.sl none 69 2 (List.map ofFld x23.2.1))), (19, (I64 i.1)), (20, (I64 i.2.1))]) (fun i => [.box 46 [(PV.sl (some 1) 53 3 (List.map z0g i.2.2))], .arr 53 (i.2.2).length]) (0, 0, a3c0) h ?_ ?_ ?_
 intro i; exact ⟨lbE rfl, ⟨(il_fn (z4q (il_rf rfl) z6y)), ⟨(z0a (z3z (z3y (z06 (e := 83) (sz := 3) z01 a0) rfl))), ⟨(z0a (z06 z0q _)), ⟨(z0a (z06 z0q _)), ⟨(z0a rfl), ⟨(z0a rfl), trivial⟩⟩⟩⟩⟩⟩, ⟨⟨(z4r rfl (z17 z0d _)), trivial⟩, trivial⟩⟩
 exact jN
 rintro g1_f ⟨s26, s27, s28⟩ h; replace h : z55 r_q0a a0 x23 (fun y0 y1 y2 => g1_f (y0, y1, y2)) s26 s27 s28 = some r := h; unfold z55 at h
 change BW _ _ _ ⟨[(3, (PV.fn (.func 46) [] [(PV.rf 0 0)])), (8, (PV.fn (.func 79) [] [(PV.pt 30 (PV.sl none 83 3 (List.map z02 a0)) 0)])), (16, (PV.sl none 69 2 (List.map ofFld x23.1))), (17, (PV.sl none 69 2 (List.map ofFld x23.2.1))), (19, (I64 s26)), (20, (I64 s27))], [.box 46 [(PV.sl (some 1) 53 3 (List.map z0g s28))], .arr 53 (s28).length], _⟩ _
 refine z09 ?_
 refine z2h (ι := Bool) (fun i => zbl r_q0a (fun y0 y1 y2 => g1_f (y0, y1, y2)) a0 x23 s26 s27 s28 i = some r) (fun i => [(3, (PV.fn (.func 46) [] [(PV.rf 0 0)])), (8, (PV.fn (.func 79) [] [(PV.pt 30 (PV.sl none 83 3 (List.map z02 a0)) 0)])), (16, (PV.sl none 69 2 (List.map ofFld x23.1))), (17, (PV.sl none 69 2 (List.map ofFld x23.2.1))), (19, (I64 s26)), (20, (I64 s27)), (117, (BO i))]) (fun i => [.box 46 [(PV.sl (some 1) 53 3 (List.map z0g s28))], .arr 53 (s28).length]) ?_ ?_ ?_
 intro i; exact ⟨lbE rfl, ⟨(il_fn (z4q (il_rf rfl) z6y)), ⟨(z0a (z3z (z3y (z06 (e := 83) (sz := 3) z01 a0) rfl))), ⟨(z0a (z06 z0q _)), ⟨(z0a (z06 z0q _)), ⟨(z0a rfl), ⟨(z0a rfl), ⟨(z0a rfl), trivial⟩⟩⟩⟩⟩⟩⟩, ⟨⟨(z4r rfl (z17 z0d _)), trivial⟩, trivial⟩⟩
 rintro s29 h; replace h : zbl r_q0a (fun y0 y1 y2 => g1_f (y0, y1, y2)) a0 x23 s26 s27 s28 s29 = some r := h; unfold zbl at h
 change BW _ _ _ ⟨[(3, (PV.fn (.func 46) [] [(PV.rf 0 0)])), (8, (PV.fn (.func 79) [] [(PV.pt 30 (PV.sl none 83 3 (List.map z02 a0)) 0)])), (16, (PV.sl none 69 2 (List.map ofFld x23.1))), (17, (PV.sl none 69 2 (List.map ofFld x23.2.1))), (19, (I64 s26)), (20, (I64 s27)), (117, (BO s29))], [.box 46 [(PV.sl (some 1) 53 3 (List.map z0g s28))], .arr 53 (s28).length], _⟩ _
 refine cX h rfl ?_ ?_
 intro hc30 h
 refine z08 ?_
 refine cBx ?_
 refine z0j ?_
 refine cBx ?_
 refine z0j ?_
 refine cBx ?_
 refine z2h (ι := Bool) (fun i => zae r_q0a (fun y0 y1 y2 => g1_f (y0, y1, y2)) a0 x23 s26 s27 s28 i = some r) (fun i => [(3, (PV.fn (.func 46) [] [(PV.rf 0 0)])), (8, (PV.fn (.func 79) [] [(PV.pt 30 (PV.sl none 83 3 (List.map z02 a0)) 0)])), (16, (PV.sl none 69 2 (List.map ofFld x23.1))), (17, (PV.sl none 69 2 (List.map ofFld x23.2.1))), (19, (I64 s26)), (20, (I64 s27)), (142, (BO i))]) (fun i => [.box 46 [(PV.sl (some 1) 53 3 (List.map z0g s28))], .arr 53 (s28).length]) ?_ ?_ ?_
 intro i; exact ⟨lbE rfl, ⟨(il_fn (z4q (il_rf rfl) z6y)), ⟨(z0a (z3z (z3y (z06 (e := 83) (sz := 3) z01 a0) rfl))), ⟨(z0a (z06 z0q _)), ⟨(z0a (z06 z0q _)), ⟨(z0a rfl), ⟨(z0a rfl), ⟨(z0a rfl), trivial⟩⟩⟩⟩⟩⟩⟩, ⟨⟨(z4r rfl (z17 z0d _)), trivial⟩, trivial⟩⟩
 rintro s31 h; replace h : zae r_q0a (fun y0 y1 y2 => g1_f (y0, y1, y2)) a0 x23 s26 s27 s28 s31 = some r := h; unfold zae at h
 change BW _ _ _ ⟨[(3, (PV.fn (.func 46) [] [(PV.rf 0 0)])), (8, (PV.fn (.func 79) [] [(PV.pt 30 (PV.sl none 83 3 (List.map z02 a0)) 0)])), (16, (PV.sl none 69 2 (List.map ofFld x23.1))), (17, (PV.sl none 69 2 (List.map ofFld x23.2.1))), (19, (I64 s26)), (20, (I64 s27)), (142, (BO s31))], [.box 46 [(PV.sl (some 1) 53 3 (List.map z0g s28))], .arr 53 (s28).length], _⟩ _
 refine cX h rfl ?_ ?_
 intro hc32 h
 refine bR ?_
 iterate 4 refine sX ?_
 obtain ⟨x33, hx33, h⟩ := obind h
 refine sS rfl rfl rfl (z1w Tryz.underlying71 z0w rfl rfl rfl hx33 rfl) ?_
 iterate 2 refine sX ?_
 refine sS rfl rfl rfl (z1k (cs := [(z0k x33.1), (BO false), (I64 0)]) zcl z19 rfl rfl rfl rfl) ?_
 obtain ⟨x34, hx34, h⟩ := obind h
 refine sS rfl rfl rfl (z2u rfl rfl zmf rfl (wkr (wkr .nil)) ⟨(z01 (S_api_Step.mk x33.1 false 0)), ⟨(z70 (z06 z01 a0)), trivial⟩⟩ (zl4 (S_api_Step.mk x33.1 false 0) a0 x34 hx34) (z06 z01 x34)) ?_
 obtain ⟨x35, hx35, h⟩ := obind h
 refine sS rfl rfl rfl (Op1.cast (y := (PV.tup [])) (H'' := [.box 46 [(PV.sl (some 1) 53 3 (List.map z0g x35))], .arr 53 (x35).length]) (z3t [0, 1] (.held rfl rfl) zpy rfl (wkr (wkr (.cons (Wk.eq mk_nil.symm) (wkr .nil)))) rfl (.cons rfl (.box (.cons (.row rfl (z17 z0d s28)) .nil)) (.cons rfl .arr .nil)) (.cons (.same rfl) (.cons (.same (z06 z01 x34)) (.cons (.same (ids_V V.nil)) (.cons (.rf rfl) .nil)))) (zn7 3 x34 V.nil s28 x35 hx35) (.same z03) (.cons (.box (.cons (.row rfl (z17 z0d x35)) .nil)) (.cons .arr .nil)) rfl) rfl rfl) (z0b ?_)
 refine cBx ?_
 refine z0f ?_
 iterate 2 refine sX ?_
 refine sX (z0b ?_)
 exact ⟨rfl, ((IntKind.i64.wrap (s26 + 1)), s27, x35), h, jN⟩
 intro hc32 h
 refine z2h (ι := Bool) (fun i => zbk r_q0a (fun y0 y1 y2 => g1_f (y0, y1, y2)) a0 x23 s26 s27 s28 i = some r) (fun i => [(3, (PV.fn (.func 46) [] [(PV.rf 0 0)])), (8, (PV.fn (.func 79) [] [(PV.pt 30 (PV.sl none 83 3 (List.map z02 a0)) 0)])), (16, (PV.sl none 69 2 (List.map ofFld x23.1))), (17, (PV.sl none 69 2 (List.map ofFld x23.2.1))), (19, (I64 s26)), (20, (I64 s27)), (178, (BO i))]) (fun i => [.box 46 [(PV.sl (some 1) 53 3 (List.map z0g s28))], .arr 53 (s28).length]) ?_ ?_ ?_
 intro i; exact ⟨lbE rfl, ⟨(il_fn (z4q (il_rf rfl) z6y)), ⟨(z0a (z3z (z3y (z06 (e := 83) (sz := 3) z01 a0) rfl))), ⟨(z0a (z06 z0q _)), ⟨(z0a (z06 z0q _)), ⟨(z0a rfl), ⟨(z0a rfl), ⟨(z0a rfl), trivial⟩⟩⟩⟩⟩⟩⟩, ⟨⟨(z4r rfl (z17 z0d _)), trivial⟩, trivial⟩⟩
 rintro s36 h; replace h : zbk r_q0a (fun y0 y1 y2 => g1_f (y0, y1, y2)) a0 x23 s26 s27 s28 s36 = some r := h; unfold zbk at h
 change BW _ _ _ ⟨[(3, (PV.fn (.func 46) [] [(PV.rf 0 0)])), (8, (PV.fn (.func 79) [] [(PV.pt 30 (PV.sl none 83 3 (List.map z02 a0)) 0)])), (16, (PV.sl none 69 2 (List.map ofFld x23.1))), (17, (PV.sl none 69 2 (List.map ofFld x23.2.1))), (19, (I64 s26)), (20, (I64 s27)), (178, (BO s36))], [.box 46 [(PV.sl (some 1) 53 3 (List.map z0g s28))], .arr 53 (s28).length], _⟩ _
 refine cX h rfl ?_ ?_
 intro hc37 h
 refine z09 (z1t 14 [] [] mo (by kernel_rfl) ?_)
 iterate 4 refine gX ?_
 obtain ⟨x38, hx38, h⟩ := obind h
 refine z1m rfl rfl rfl rfl (fun H hp => z1w Tryz.underlying71 z0w rfl rfl rfl hx38 rfl) ?_
 iterate 2 refine gX ?_
 refine z1m rfl rfl rfl rfl (fun H hp => z1k (cs := [(z0k x38.1), (BO false), (I64 0)]) zcl z19 rfl rfl rfl rfl) ?_
 obtain ⟨x39, hx39, h⟩ := obind h
 refine z1m rfl rfl rfl rfl (fun H hp => z2u rfl rfl zmf rfl (wkr (wkr .nil)) ⟨(z01 (S_api_Step.mk x38.1 false 0)), ⟨(z70 (z06 z01 a0)), trivial⟩⟩ (zl4 (S_api_Step.mk x38.1 false 0) a0 x39 hx39) (z06 z01 x39)) ?_
 iterate 2 refine gX ?_
 obtain ⟨x40, hx40, h⟩ := obind h
 refine z1m rfl rfl rfl rfl (fun H hp => z1w Tryz.underlying71 z0w rfl rfl rfl hx40 rfl) ?_
 iterate 2 refine gX ?_
 refine z1y ?_
 change AO _ _ _ _ _
 obtain ⟨x41, hx41, h⟩ := obind h
 refine sS rfl rfl rfl (Op1.cast (y := (PV.tup [])) (H'' := [.box 46 [(PV.sl (some 1) 53 3 (List.map z0g x41))], .arr 53 (x41).length]) (z3t [0, 1] (.held rfl rfl) zpy rfl (wkr (wkr (wkr (wkr .nil)))) rfl (.cons rfl (.box (.cons (.row rfl (z17 z0d s28)) .nil)) (.cons rfl .arr .nil)) (.cons (.same rfl) (.cons (.same (z06 z01 x39)) (.cons (.same (ids_V x40.2)) (.cons (.rf rfl) .nil)))) (zn7 2 x39 x40.2 s28 x41 hx41) (.same z03) (.cons (.box (.cons (.row rfl (z17 z0d x41)) .nil)) (.cons .arr .nil)) rfl) rfl rfl) (z0b ?_)
 refine cBx ?_
 refine z0f ?_
 iterate 2 refine sX ?_
 refine sX (z0b ?_)
 exact ⟨rfl, (s26, (IntKind.i64.wrap (s27 + 1)), x41), h, jN⟩
 intro hc37 h
 refine z09 (z1t 19 [] [] mo (by kernel_rfl) ?_)
 iterate 3 refine gX ?_
 obtain ⟨x42, hx42, h⟩ := obind h
 refine z1m rfl rfl rfl rfl (fun H hp => z1w Tryz.underlying71 z0w rfl rfl rfl hx42 rfl) ?_
 iterate 2 refine gX ?_
 refine z1m rfl rfl rfl rfl (fun H hp => z1k (cs := [(z0k x42.1), (BO false), (I64 0)]) zcl z19 rfl rfl rfl rfl) ?_
 obtain ⟨x43, hx43, h⟩ := obind h
 refine z1m rfl rfl rfl rfl (fun H hp => z2u rfl rfl zmf rfl (wkr (wkr .nil)) ⟨(z01 (S_api_Step.mk x42.1 false 0)), ⟨(z70 (z06 z01 a0)), trivial⟩⟩ (zl4 (S_api_Step.mk x42.1 false 0) a0 x43 hx43) (z06 z01 x43)) ?_
 iterate 2 refine gX ?_
 obtain ⟨x44, hx44, h⟩ := obind h
 refine z1m rfl rfl rfl rfl (fun H hp => z1w Tryz.underlying71 z0w rfl rfl rfl hx44 rfl) ?_
 iterate 4 refine gX ?_
 obtain ⟨x45, hx45, h⟩ := obind h
 refine z1m rfl rfl rfl rfl (fun H hp => z1w Tryz.underlying71 z0w rfl rfl rfl hx45 rfl) ?_
 iterate 3 refine gX ?_
 refine z1y ?_
 change AO _ _ _ _ _
 obtain ⟨x46, hx46, h⟩ := obind h
 refine sS rfl rfl rfl (Op1.cast (y := (PV.tup [])) (H'' := [.box 46 [(PV.sl (some 1) 53 3 (List.map z0g x46))], .arr 53 (x46).length]) (z3t [0, 1] (.func rfl) zwz rfl (wkr (wkr (wkr (wkr .nil)))) rfl (.cons rfl (.box (.cons (.row rfl (z17 z0d s28)) .nil)) (.cons rfl .arr .nil)) (.cons (.same (z06 z01 x43)) (.cons (.same (ids_V x44.2)) (.cons (.same (ids_V x45.2)) (.cons (.fn (.cons (.rf rfl) .nil)) .nil)))) (c_q0a x43 x44.2 x45.2 s28 x46 hx46) (.same z03) (.cons (.box (.cons (.row rfl (z17 z0d x46)) .nil)) (.cons .arr .nil)) rfl) rfl rfl) (z0b ?_)
 refine cBx ?_
 refine bR ?_
 iterate 2 refine sX ?_
 refine eX ?_
 refine z0f ?_
 iterate 2 refine sX ?_
 refine sX (z0b ?_)
 exact ⟨rfl, ((IntKind.i64.wrap (s26 + 1)), (IntKind.i64.wrap (s27 + 1)), x46), h, jN⟩
 refine z1t 15 [] [] mo (by kernel_rfl) ?_
 iterate 5 refine gX ?_
 refine z6d 183 rfl ?_ ?_
 intro hb47; replace h := z0r hb47 h
 iterate 10 refine mX ?_
 refine z1y ?_
 change AO _ _ _ _ _
 refine nX ?_
 refine sX ?_
 refine sX (z0b ?_)
 exact ⟨rfl, true, h, jN⟩
 intro hb47; replace h := z0s hb47 h
 iterate 2 refine wX ?_
 obtain ⟨x48, hx48, h⟩ := obind h
 refine z6f rfl rfl rfl rfl rfl rfl rfl (fun H hp => z1w Tryz.underlying71 z0w rfl rfl rfl hx48 rfl) ?_
 iterate 4 refine wX ?_
 obtain ⟨x49, hx49, h⟩ := obind h
 refine z6f rfl rfl rfl rfl rfl rfl rfl (fun H hp => z1w Tryz.underlying71 z0w rfl rfl rfl hx49 rfl) ?_
 iterate 2 refine wX ?_
 refine z1y ?_
 change AO _ _ _ _ _
 refine z1i rfl rfl rfl rfl rfl rfl ((z2e (a := x48.1) (b := x49.1) rfl rfl rfl rfl).cast (y := (BO ((Op.bytesLess x48.1 x49.1)))) rfl rfl) ?_
 refine sX ?_
 refine sX (z0b ?_)
 exact ⟨rfl, (Op.bytesLess x48.1 x49.1), h, jN⟩
 refine z1t 20 [] [] mo (by kernel_rfl) ?_
 iterate 5 refine gX ?_
 refine z6d 147 rfl ?_ ?_
 intro hb50; replace h := z0r hb50 h
 iterate 15 refine mX ?_
 refine z1y ?_
 change AO _ _ _ _ _
 iterate 2 refine nX ?_
 refine sX ?_
 refine sX (z0b ?_)
 exact ⟨rfl, true, h, jN⟩
 intro hb50; replace h := z0s hb50 h
 iterate 5 refine wX ?_
 refine z6d 152 rfl ?_ ?_
 intro hb51; replace h := z0r hb51 h
 iterate 2 refine wX ?_
 obtain ⟨x52, hx52, h⟩ := obind h
 refine z6f rfl rfl rfl rfl rfl rfl rfl (fun H hp => z1w Tryz.underlying71 z0w rfl rfl rfl hx52 rfl) ?_
 iterate 4 refine wX ?_
 obtain ⟨x53, hx53, h⟩ := obind h
 refine z6f rfl rfl rfl rfl rfl rfl rfl (fun H hp => z1w Tryz.underlying71 z0w rfl rfl rfl hx53 rfl) ?_
 iterate 2 refine wX ?_
 refine z1y ?_
 change AO _ _ _ _ _
 refine z1i rfl rfl rfl rfl rfl rfl ((z2e (a := x52.1) (b := x53.1) rfl rfl rfl rfl).cast (y := (BO ((Op.bytesLess x52.1 x53.1)))) rfl rfl) ?_
 refine yX ?_
 refine sX ?_
 refine sX (z0b ?_)
 exact ⟨rfl, (Op.bytesLess x52.1 x53.1), h, jN⟩
 intro hb51; replace h := z0s hb51 h
 iterate 10 refine mX ?_
 refine z1y ?_
 change AO _ _ _ _ _
 refine nX ?_
 refine yX ?_
 refine sX ?_
 refine sX (z0b ?_)
 exact ⟨rfl, false, h, jN⟩
 intro hc30 h
 refine z2b ?_
 change ∃ xs, _ = some xs ∧ EndOk _ _ _ _
 obtain rfl := Option.some.inj h
 exact ⟨_, rfl, endR (y := (PV.tup [])) 2 (Wk.refl _) rfl rfl (.tup .nil) (.cons (.box (.cons (.row rfl (z17 z0d s28)) .nil)) (.cons .arr .nil)) ⟨rfl, rfl⟩⟩
 refine z0f ?_
 iterate 5 refine sX ?_
 refine z0p (t := 112) rfl ?_ ?_
 intro hb54; replace h := z0r hb54 h
 iterate 4 refine nX ?_
 refine sX (z0b ?_)
 exact ⟨rfl, true, h, jN⟩
 intro hb54; replace h := z0s hb54 h
 iterate 4 refine yX ?_
 refine sX (z0b ?_)
 exact ⟨rfl, (decide (s27 < (((x23.2.1).length : Nat) : Int))), h, jN⟩
 refine z0f ?_
 iterate 2 refine sX ?_
 refine z0p (t := 36) rfl ?_ ?_
 intro hb55; replace h := z0r hb55 h
 refine yX ?_
 refine sX (z0b ?_)
 exact ⟨rfl, (a2).isList, h, jN⟩
 intro hb55; replace h := z0s hb55 h
 refine nX ?_
 refine sX (z0b ?_)
 exact ⟨rfl, false, h, jN⟩
theorem C_q0a.sound : ∀ (i : C_q0a) (r : i.R), z3r C_q0a.F i = some r → C_q0a.Q i r := by
 refine z6a (Φ := C_q0a.F) (Q := C_q0a.Q) ?_
 intro g hg i r h
 cases i with
 | k_q0a a0 a1 a2 a3c0 => exact z4u (fun a0 a1 a2 a3c0 => g (.k_q0a a0 a1 a2 a3c0)) (fun a0 a1 a2 a3c0 r hr => hg (.k_q0a a0 a1 a2 a3c0) r hr) a0 a1 a2 a3c0 r h
theorem Z1f (a0 : (List S_api_Step)) (a1 a2 : V) (a3c0 r : (List S_api_Edit)) (h : zaj a0 a1 a2 a3c0 = some r) : z7a Tryz.prog 45 [(PV.sl none 83 3 (List.map z02 a0)), (ofV a1), (ofV a2), (PV.fn (.func 46) [] [(PV.rf 0 0)])] [.box 46 [(PV.sl (some 1) 53 3 (List.map z0g a3c0))], .arr 53 (a3c0).length] (PV.tup []) [.box 46 [(PV.sl (some 1) 53 3 (List.map z0g r))], .arr 53 (r).length] := C_q0a.sound (.k_q0a a0 a1 a2 a3c0) r h
noncomputable def zoe (a0 a1 : V) : Option ((List S_api_Edit) × Int) :=
 (zgi a0).bind fun x1 =>
 bif (x1.2 != 0) then (
 some ([], x1.2)
 ) else (
 (zgi a1).bind fun x3 =>
 bif (x3.2 != 0) then (
 some ([], x3.2)
 ) else (
 (zaj ([]) a0 a1 ([] : (List S_api_Edit))).bind fun x5 =>
 some (x5, 0)
 )
 )
theorem Z0v (a0 a1 : V) (r : ((List S_api_Edit) × Int)) (h : zoe a0 a1 = some r) : z0l Tryz.prog 19 [(ofV a0), (ofV a1)] (PV.tup [(PV.sl none 53 3 (List.map z0g r.1)), (I64 r.2)]) := by
 unfold zoe at h
 refine z0c Tryz.func19 rfl Tryz.ntmps19 Tryz.results19 rfl (z0i ?_)
 change BW _ _ _ ⟨[(0, (ofV a0)), (1, (ofV a1))], [], _⟩ _
 refine bR ?_
 refine sX ?_
 refine eX ?_
 refine z09 ?_
 refine bR ?_
 refine sX ?_
 obtain ⟨x1, hx1, h⟩ := obind h
 refine sS rfl rfl rfl (z05 rfl zsw rfl (wkr .nil) ⟨(ids_V a0), trivial⟩ (zqu a0 x1 hx1) (z00 rfl (z00 rfl z03))) ?_
 iterate 4 refine sX ?_
 refine eX ?_
 refine bR ?_
 refine sX ?_
 refine eX ?_
 refine cX h rfl ?_ ?_
 intro hc2 h
 refine bR ?_
 iterate 2 refine sX ?_
 refine eX ?_
 obtain rfl := eI h; exact z04 ⟨_, rfl, z0n (y := (PV.tup [(PV.sl none 53 3 (List.map z0g [])), (I64 x1.2)])) (Wk.tup (.cons Wk.nil (wkr .nil))) (z00 (z06 z0d ([])) (z00 rfl z03)) ⟨rfl, rfl⟩⟩
 intro hc2 h
 refine z08 ?_
 refine cBx ?_
 refine z09 ?_
 refine bR ?_
 refine sX ?_
 obtain ⟨x3, hx3, h⟩ := obind h
 refine sS rfl rfl rfl (z05 rfl zsw rfl (wkr .nil) ⟨(ids_V a1), trivial⟩ (zqu a1 x3 hx3) (z00 rfl (z00 rfl z03))) ?_
 iterate 4 refine sX ?_
 refine eX ?_
 refine bR ?_
 refine sX ?_
 refine eX ?_
 refine cX h rfl ?_ ?_
 intro hc4 h
 refine bR ?_
 iterate 2 refine sX ?_
 refine eX ?_
 obtain rfl := eI h; exact z04 ⟨_, rfl, z0n (y := (PV.tup [(PV.sl none 53 3 (List.map z0g [])), (I64 x3.2)])) (Wk.tup (.cons Wk.nil (wkr .nil))) (z00 (z06 z0d ([])) (z00 rfl z03)) ⟨rfl, rfl⟩⟩
 intro hc4 h
 refine z08 ?_
 refine cBx ?_
 refine bR ?_
 refine sS rfl rfl rfl (z28 zud rfl) (z0b ?_)
 refine cBx ?_
 refine z09 ?_
 refine zqd (s := ⟨_, _, _⟩) 0 0 53 (sz := 3) rfl rfl rfl ?_
 refine z0f ?_
 iterate 2 refine sX ?_
 refine sS rfl rfl rfl (zjq rfl rfl rfl) ?_
 obtain ⟨x5, hx5, h⟩ := obind h
 refine sS rfl rfl rfl (Op1.cast (y := (PV.tup [])) (H'' := [.box 46 [(PV.sl (some 1) 53 3 (List.map z0g x5))], .arr 53 (x5).length]) (z3t [0, 1] (.func rfl) zwz rfl (.cons Wk.nil (wkr (wkr (wkr .nil)))) rfl (.cons rfl (.box (.cons (.row rfl (z17 z0d ([] : (List S_api_Edit)))) .nil)) (.cons rfl .arr .nil)) (.cons (.same (z06 z01 ([]))) (.cons (.same (ids_V a0)) (.cons (.same (ids_V a1)) (.cons (.fn (.cons (.rf rfl) .nil)) .nil)))) (Z1f ([]) a0 a1 ([] : (List S_api_Edit)) x5 hx5) (.same z03) (.cons (.box (.cons (.row rfl (z17 z0d x5)) .nil)) (.cons .arr .nil)) rfl) rfl rfl) (z0b ?_)
 refine cBx ?_
 refine bR ?_
 iterate 2 refine sX ?_
 refine eX ?_
 obtain rfl := eI h; exact z04 ⟨_, rfl, z0n (y := (PV.tup [(PV.sl none 53 3 (List.map z0g x5)), (I64 0)])) (Wk.tup (.cons Wk.tok (wkr .nil))) (z00 (z06 z0d x5) (z00 rfl z03)) ⟨rfl, rfl⟩⟩
noncomputable def zlq (a0 : (List (Str × V))) (a1 : S_api_Step) : Option (List (Str × V)) :=
 (zi0 a0 a1.f_Name).bind fun x1 =>
 (zlx a0).bind fun x2 =>
 (zx3 x2 x1.1 (IntKind.i64.wrap (x1.1 + 1))).bind fun x3 =>
 some x3
theorem zyg (a0 : (List (Str × V))) (a1 : S_api_Step) (r : (List (Str × V))) (h : zlq a0 a1 = some r) : z0l Tryz.prog 91 [(PV.sl none 69 2 (List.map ofFld a0)), (PV.pt 83 (z02 a1) 0)] (PV.sl none 69 2 (List.map ofFld r)) := by
 unfold zlq at h
 refine z0c Tryz.func91 rfl Tryz.ntmps91 Tryz.results91 rfl (z0i ?_)
 change BW _ _ _ ⟨[(0, (PV.sl none 69 2 (List.map ofFld a0))), (1, (PV.pt 83 (z02 a1) 0))], [], _⟩ _
 refine bR ?_
 refine sS rfl rfl rfl ((z7h (e := 69) (sz := 2) (.inl rfl) rfl).cast (y := (PV.rs 0 0 (([] : (List (Str × V)))).length 69 2)) (H'' := [rowM ofFld 69 ([] : (List (Str × V)))]) rfl rfl) (z0b ?_)
 refine cBx ?_
 refine bR ?_
 iterate 3 refine sX ?_
 obtain ⟨x1, hx1, h⟩ := obind h
 refine sS rfl rfl rfl (z05 rfl zwt rfl (wkr (wkr .nil)) ⟨(z06 z0q a0), ⟨rfl, trivial⟩⟩ (zv9 a0 a1.f_Name x1 hx1) (z00 rfl (z00 rfl z03))) ?_
 iterate 4 refine sX ?_
 refine eX ?_
 refine bR ?_
 refine sX ?_
 obtain ⟨x2, hx2, h⟩ := obind h
 refine sS rfl rfl rfl (z6s rfl zzw rfl (wkr .nil) ⟨(z06 z0q a0), trivial⟩ (zyk a0 x2 hx2) zqw (zef (z4s z0q) (zjh))) ?_
 iterate 3 refine sX ?_
 obtain ⟨x3, hx3, h⟩ := obind h
 refine sS rfl rfl rfl (zjo (f := ofFld) (l := x2) Z0b Z26 rfl rfl rfl rfl rfl rfl z74 z79 rfl hx3) ?_
 refine eX ?_
 obtain rfl := eI h; exact z04 ⟨_, rfl, z0n (y := (PV.sl none 69 2 (List.map ofFld x3))) (Wk.refl _) (z06 z0q x3) ⟨rfl, rfl⟩⟩
noncomputable def zgj (a0 : V) (a1 : S_api_Step) : Option V :=
 bif (a0).isList then (
 (zlw ((a0).asList)).bind fun x2 =>
 (zx3 x2 a1.f_Index (IntKind.i64.wrap (a1.f_Index + 1))).bind fun x3 =>
 some (V.list x3)
 ) else (
 bif (a0).isDict then (
 (zlq ((a0).asDict) a1).bind fun x5 =>
 some (V.dict x5)
 ) else (
 bif (a0).isRec then (
 ((a0).asRec).bind fun x7 =>
 (zlq x7.fields a1).bind fun x8 =>
 some (V.record x7.cls x7.ver x8)
 ) else (
 some a0
 )
 )
 )
theorem Z16 (a0 : V) (a1 : S_api_Step) (r : V) (h : zgj a0 a1 = some r) : z0l Tryz.prog 53 [(ofV a0), (z02 a1)] (ofV r) := by
 unfold zgj at h
 refine z0c Tryz.func53 rfl Tryz.ntmps53 Tryz.results53 rfl (z0i ?_)
 change BW _ _ _ ⟨[(0, (ofV a0)), (1, (z02 a1))], [], _⟩ _
 refine bR ?_
 refine sX ?_
 refine eX ?_
 refine z09 ?_
 refine z87 0 3 (y := (PV.pt 83 (z02 a1) 0)) rfl rfl (Wk.pt (x := .agg [(z0k a1.f_Name), (BO a1.f_At), (I64 a1.f_Index)]) (y := (z02 a1)) (wkr (wkr (wkr .nil)))) ?_
 refine z0f ?_
 refine sS rfl rfl rfl (zjq rfl rfl rfl) ?_
 refine eX ?_
 refine z09 ?_
 refine bR ?_
 refine eX ?_
 refine z0j ?_
 refine cBx ?_
 refine bR ?_
 refine sS rfl rfl rfl (z27 rfl rfl) ?_
 refine sX ?_
 refine eX ?_
 refine cX h rfl ?_ ?_
 intro hc1 h
 refine bR ?_
 refine eX ?_
 refine z09 (z1t 7 [1] [] mo (by kernel_rfl) ?_)
 refine gX ?_
 obtain ⟨x2, hx2, h⟩ := obind h
 refine zhn rfl rfl rfl rfl (z6s rfl Z05 rfl (wkr .nil) ⟨(z06 ids_V ((a0).asList)), trivial⟩ (zyj ((a0).asList) x2 hx2) zqw (zef (z4s ids_V) (zjh))) trivial ?_
 iterate 5 refine gX ?_
 refine z1y ?_
 change AO _ _ _ _ _
 obtain ⟨x3, hx3, h⟩ := obind h
 refine sS rfl rfl rfl (zjo (f := ofV) (l := x2) Z0a Z25 rfl rfl rfl rfl rfl rfl csz_V z86 rfl hx3) ?_
 refine sS rfl rfl rfl ((z0z Tryz.underlying67 rfl rfl rfl).wk ((Wk.iface (Wk.refl _)).trans (Wk.eq (z7y _).symm))) ?_
 refine eX ?_
 obtain rfl := eI h; exact z04 ⟨_, rfl, z0n (y := (ofV (V.list x3))) (Wk.refl _) (ids_V (V.list x3)) ⟨rfl, rfl⟩⟩
 intro hc1 h
 refine bR ?_
 refine sS rfl rfl rfl (z2m rfl rfl) ?_
 refine sX ?_
 refine eX ?_
 refine cX h rfl ?_ ?_
 intro hc4 h
 refine bR ?_
 refine eX ?_
 refine bR ?_
 iterate 2 refine sX ?_
 obtain ⟨x5, hx5, h⟩ := obind h
 refine sS rfl rfl rfl (z2u rfl rfl zzx rfl (wkr (wkr .nil)) ⟨(z06 z0q ((a0).asDict)), ⟨(z01 a1), trivial⟩⟩ (zyg ((a0).asDict) a1 x5 hx5) (z06 z0q x5)) ?_
 refine sS rfl rfl rfl ((z0z Tryz.underlying71 rfl rfl rfl).wk ((Wk.iface (Wk.refl _)).trans (Wk.eq (z59 _).symm))) ?_
 refine eX ?_
 obtain rfl := eI h; exact z04 ⟨_, rfl, z0n (y := (ofV (V.dict x5))) (Wk.refl _) (ids_V (V.dict x5)) ⟨rfl, rfl⟩⟩
 intro hc4 h
 refine bR ?_
 refine sS rfl rfl rfl (z32 rfl rfl) ?_
 refine sX ?_
 refine eX ?_
 refine cX h rfl ?_ ?_
 intro hc6 h
 refine bR ?_
 refine eX ?_
 refine z09 (z1t 14 [] [] mo (by kernel_rfl) ?_)
 refine gX ?_
 obtain ⟨x7, hx7, h⟩ := obind h
 refine z1m rfl rfl rfl rfl (fun H hp => z1e rfl rfl hx7) ?_
 iterate 3 refine gX ?_
 refine z1m rfl rfl rfl rfl (fun H hp => z1e rfl rfl hx7) ?_
 iterate 4 refine gX ?_
 refine z1m rfl rfl rfl rfl (fun H hp => z1e rfl rfl hx7) ?_
 iterate 2 refine gX ?_
 obtain ⟨x8, hx8, h⟩ := obind h
 refine z1m rfl rfl rfl rfl (fun H hp => z2u rfl rfl zzx rfl (wkr (wkr .nil)) ⟨(z06 z0q x7.fields), ⟨(z01 a1), trivial⟩⟩ (zyg x7.fields a1 x8 hx8) (z06 z0q x8)) ?_
 refine z1y ?_
 change AO _ _ _ _ _
 refine sS rfl rfl rfl (z1k (cs := [(z0k x7.cls), (I64 x7.ver), (PV.sl none 69 2 (List.map ofFld x8))]) zl0 zh3 rfl rfl rfl rfl) ?_
 refine sX ?_
 refine sS rfl rfl rfl (z0z Tryz.underlying73 rfl rfl rfl) ?_
 refine eX ?_
 refine z87 1 4 (y := (ofV (V.record x7.cls x7.ver x8))) rfl rfl ((Wk.iface (Wk.pt (x := .agg [(z0k x7.cls), (I64 x7.ver), (PV.sl none 69 2 (List.map ofFld x8))]) (y := zgs (Rec.mk x7.cls x7.ver x8)) (wkr (wkr (wkr .nil))))).trans (Wk.eq (zgu (some (Rec.mk x7.cls x7.ver x8))).symm)) ?_
 obtain rfl := eI h; exact z04 ⟨_, rfl, z0n (y := (ofV (V.record x7.cls x7.ver x8))) (Wk.refl _) (ids_V (V.record x7.cls x7.ver x8)) ⟨rfl, rfl⟩⟩
 intro hc6 h
 refine z08 ?_
 refine cBx ?_
 refine bR ?_
 refine sX ?_
 refine eX ?_
 obtain rfl := eI h; exact z04 ⟨_, rfl, z0n (y := (ofV a0)) (Wk.refl _) (ids_V a0) ⟨rfl, rfl⟩⟩
end Go.Proofs.YthidgpcbnieleaaGreatDoor
