/- Pure functions, and that calls answer as they say. -/
import Derived.Test.YthidgpcbnieleaaGreatDoorG4
namespace Go.Proofs.YthidgpcbnieleaaGreatDoor
open Go Aw
set_option linter.unusedVariables false
set_option linter.unusedSimpArgs false
set_option maxRecDepth 20000
set_option maxHeartbeats 2000000
variable {ι : Type} {ρ : ι → Type}
noncomputable def z4h (a0 : (List S_api_Step)) (a2 : V) (g3 : Int → (List S_api_Edit) → Option (List S_api_Edit)) (s17 : Int) (s18 : (List S_api_Edit)) : Option (List S_api_Edit) :=
 bif (decide (s17 < ((((a2).asList).length : Nat) : Int))) then (
 (za9 (S_api_Step.mk [] true s17) a0).bind fun x20 =>
 (z6n ((a2).asList) s17).bind fun x21 =>
 (zd4 2 x20 x21 s18).bind fun x22 =>
 g3 (IntKind.i64.wrap (s17 + 1)) x22
 ) else (
 some s18
 )
theorem zm6 (g3 : OF ρ → Int → (List S_api_Edit) → Option (List S_api_Edit)) (h_g3 : ∀ y0 y1, CM (fun G => g3 G y0 y1)) (a0 : (List S_api_Step)) (a2 : V) (s17 : Int) (s18 : (List S_api_Edit)) : CM (fun G : OF ρ => z4h a0 a2 (g3 G) s17 s18) := by
 simp only [z4h]
 repeat (first | exact z0h | exact h_g3 _ _ | refine z14 ?_ ?_ | refine z15 ?_ (fun _ => ?_))
noncomputable def zc4 (a0 : (List S_api_Step)) (a2 : V) (s17 : Int) (s18 : (List S_api_Edit)) : Option (List S_api_Edit) :=
 z3n (ι := (Int × (List S_api_Edit))) (ρ := fun _ => (List S_api_Edit)) (fun g i => z4h a0 a2 (fun s17 s18 => g (s17, s18)) i.1 i.2) (s17, s18)
theorem z90 (a0 : (List S_api_Step)) (a2 : V) (s17 : Int) (s18 : (List S_api_Edit)) : zc4 a0 a2 s17 s18 = z4h a0 a2 (zc4 a0 a2) s17 s18 :=
 z1f (ι := (Int × (List S_api_Edit))) (ρ := fun _ => (List S_api_Edit)) (Φ := fun g i => z4h a0 a2 (fun s17 s18 => g (s17, s18)) i.1 i.2) (fun i => zm6 (ι := (Int × (List S_api_Edit))) (ρ := fun _ => (List S_api_Edit)) (fun g => (fun s17 s18 => g (s17, s18))) (fun _ _ => z1j) a0 a2 i.1 i.2) (s17, s18)
noncomputable def z4i (a0 : (List S_api_Step)) (a1 a2 : V) (g2 : Int → (List S_api_Edit) → Option (List S_api_Edit)) (s12 : Int) (s13 : (List S_api_Edit)) : Option (List S_api_Edit) :=
 bif (decide (s12 ≥ ((((a2).asList).length : Nat) : Int))) then (
 (za9 (S_api_Step.mk [] true s12) a0).bind fun x15 =>
 (zd4 3 x15 V.nil s13).bind fun x16 =>
 g2 (IntKind.i64.wrap (s12 - 1)) x16
 ) else (
 zc4 a0 a2 ((((a1).asList).length : Nat) : Int) s13
 )
theorem zm7 (g2 : OF ρ → Int → (List S_api_Edit) → Option (List S_api_Edit)) (h_g2 : ∀ y0 y1, CM (fun G => g2 G y0 y1)) (a0 : (List S_api_Step)) (a1 a2 : V) (s12 : Int) (s13 : (List S_api_Edit)) : CM (fun G : OF ρ => z4i a0 a1 a2 (g2 G) s12 s13) := by
 simp only [z4i]
 repeat (first | exact z0h | exact h_g2 _ _ | apply q0c_l3_cm | refine z14 ?_ ?_ | refine z15 ?_ (fun _ => ?_) | intro _ | assumption)
noncomputable def zc5 (a0 : (List S_api_Step)) (a1 a2 : V) (s12 : Int) (s13 : (List S_api_Edit)) : Option (List S_api_Edit) :=
 z3n (ι := (Int × (List S_api_Edit))) (ρ := fun _ => (List S_api_Edit)) (fun g i => z4i a0 a1 a2 (fun s12 s13 => g (s12, s13)) i.1 i.2) (s12, s13)
theorem z91 (a0 : (List S_api_Step)) (a1 a2 : V) (s12 : Int) (s13 : (List S_api_Edit)) : zc5 a0 a1 a2 s12 s13 = z4i a0 a1 a2 (zc5 a0 a1 a2) s12 s13 :=
 z1f (ι := (Int × (List S_api_Edit))) (ρ := fun _ => (List S_api_Edit)) (Φ := fun g i => z4i a0 a1 a2 (fun s12 s13 => g (s12, s13)) i.1 i.2) (fun i => zm7 (ι := (Int × (List S_api_Edit))) (ρ := fun _ => (List S_api_Edit)) (fun g => (fun s12 s13 => g (s12, s13))) (fun _ _ => z1j) a0 a1 a2 i.1 i.2) (s12, s13)
noncomputable def z3s (r_q0c : (List S_api_Step) → V → V → (List S_api_Edit) → Option (List S_api_Edit)) (a0 : (List S_api_Step)) (a1 a2 : V) (g1 : Int → (List S_api_Edit) → Option (List S_api_Edit)) (s5 : Int) (s6 : (List S_api_Edit)) : Option (List S_api_Edit) :=
 bif (decide (s5 < (if ((((a2).asList).length : Nat) : Int) < ((((a1).asList).length : Nat) : Int) then ((((a2).asList).length : Nat) : Int) else ((((a1).asList).length : Nat) : Int)))) then (
 (za9 (S_api_Step.mk [] true s5) a0).bind fun x8 =>
 (z6n ((a1).asList) s5).bind fun x9 =>
 (z6n ((a2).asList) s5).bind fun x10 =>
 (r_q0c x8 x9 x10 s6).bind fun x11 =>
 g1 (IntKind.i64.wrap (s5 + 1)) x11
 ) else (
 zc5 a0 a1 a2 (IntKind.i64.wrap (((((a1).asList).length : Nat) : Int) - 1)) s6
 )
theorem za6 (r_q0c : OF ρ → (List S_api_Step) → V → V → (List S_api_Edit) → Option (List S_api_Edit)) (h_r_q0c : ∀ y0 y1 y2 y3, CM (fun G => r_q0c G y0 y1 y2 y3)) (g1 : OF ρ → Int → (List S_api_Edit) → Option (List S_api_Edit)) (h_g1 : ∀ y0 y1, CM (fun G => g1 G y0 y1)) (a0 : (List S_api_Step)) (a1 a2 : V) (s5 : Int) (s6 : (List S_api_Edit)) : CM (fun G : OF ρ => z3s (r_q0c G) a0 a1 a2 (g1 G) s5 s6) := by
 simp only [z3s]
 repeat (first | exact z0h | exact h_r_q0c _ _ _ _ | exact h_g1 _ _ | apply q0c_l2_cm | refine z14 ?_ ?_ | refine z15 ?_ (fun _ => ?_) | intro _ | assumption)
noncomputable def zar (r_q0c : (List S_api_Step) → V → V → (List S_api_Edit) → Option (List S_api_Edit)) (a0 : (List S_api_Step)) (a1 a2 : V) (s5 : Int) (s6 : (List S_api_Edit)) : Option (List S_api_Edit) :=
 z3n (ι := (Int × (List S_api_Edit))) (ρ := fun _ => (List S_api_Edit)) (fun g i => z3s r_q0c a0 a1 a2 (fun s5 s6 => g (s5, s6)) i.1 i.2) (s5, s6)
theorem z71 (r_q0c : (List S_api_Step) → V → V → (List S_api_Edit) → Option (List S_api_Edit)) (a0 : (List S_api_Step)) (a1 a2 : V) (s5 : Int) (s6 : (List S_api_Edit)) : zar r_q0c a0 a1 a2 s5 s6 = z3s r_q0c a0 a1 a2 (zar r_q0c a0 a1 a2) s5 s6 :=
 z1f (ι := (Int × (List S_api_Edit))) (ρ := fun _ => (List S_api_Edit)) (Φ := fun g i => z3s r_q0c a0 a1 a2 (fun s5 s6 => g (s5, s6)) i.1 i.2) (fun i => za6 (ι := (Int × (List S_api_Edit))) (ρ := fun _ => (List S_api_Edit)) (fun _ => r_q0c) (fun _ _ _ _ => z0h) (fun g => (fun s5 s6 => g (s5, s6))) (fun _ _ => z1j) a0 a1 a2 i.1 i.2) (s5, s6)
theorem zog (r_q0c : OF ρ → (List S_api_Step) → V → V → (List S_api_Edit) → Option (List S_api_Edit)) (h_r_q0c : ∀ y0 y1 y2 y3, CM (fun G => r_q0c G y0 y1 y2 y3)) (a0 : (List S_api_Step)) (a1 a2 : V) (s5 : Int) (s6 : (List S_api_Edit)) : CM (fun G : OF ρ => zar (r_q0c G) a0 a1 a2 s5 s6) :=
 z87 (κ := (Int × (List S_api_Edit))) (τ := fun _ => (List S_api_Edit)) (Φ := fun G g i => z3s (r_q0c G) a0 a1 a2 (fun s5 s6 => g (s5, s6)) i.1 i.2) (fun g i => za6 r_q0c h_r_q0c (fun _ => (fun s5 s6 => g (s5, s6))) (fun _ _ => z0h) a0 a1 a2 i.1 i.2) (fun G i => za6 (ι := (Int × (List S_api_Edit))) (ρ := fun _ => (List S_api_Edit)) (fun _ => r_q0c G) (fun _ _ _ _ => z0h) (fun g => (fun s5 s6 => g (s5, s6))) (fun _ _ => z1j) a0 a1 a2 i.1 i.2) (s5, s6)
noncomputable def zc6 (r_q0c : (List S_api_Step) → V → V → (List S_api_Edit) → Option (List S_api_Edit)) (g1 : Int → Int → (List S_api_Edit) → Option (List S_api_Edit)) (a0 : (List S_api_Step)) (x23 : ((List (Str × V)) × (List (Str × V)) × Bool)) (s26 s27 : Int) (s28 : (List S_api_Edit)) (s36 : Bool) : Option (List S_api_Edit) :=
 bif s36 then (
 (z6n x23.2.1 s27).bind fun x38 =>
 (za9 (S_api_Step.mk x38.1 false 0) a0).bind fun x39 =>
 (z6n x23.2.1 s27).bind fun x40 =>
 (zd4 2 x39 x40.2 s28).bind fun x41 =>
 g1 s26 (IntKind.i64.wrap (s27 + 1)) x41
 ) else (
 (z6n x23.2.1 s27).bind fun x42 =>
 (za9 (S_api_Step.mk x42.1 false 0) a0).bind fun x43 =>
 (z6n x23.1 s26).bind fun x44 =>
 (z6n x23.2.1 s27).bind fun x45 =>
 (r_q0c x43 x44.2 x45.2 s28).bind fun x46 =>
 g1 (IntKind.i64.wrap (s26 + 1)) (IntKind.i64.wrap (s27 + 1)) x46
 )
theorem zoh (r_q0c : OF ρ → (List S_api_Step) → V → V → (List S_api_Edit) → Option (List S_api_Edit)) (h_r_q0c : ∀ y0 y1 y2 y3, CM (fun G => r_q0c G y0 y1 y2 y3)) (g1 : OF ρ → Int → Int → (List S_api_Edit) → Option (List S_api_Edit)) (h_g1 : ∀ y0 y1 y2, CM (fun G => g1 G y0 y1 y2)) (a0 : (List S_api_Step)) (x23 : ((List (Str × V)) × (List (Str × V)) × Bool)) (s26 s27 : Int) (s28 : (List S_api_Edit)) (s36 : Bool) : CM (fun G : OF ρ => zc6 (r_q0c G) (g1 G) a0 x23 s26 s27 s28 s36) := by
 simp only [zc6]
 repeat (first | exact z0h | exact h_r_q0c _ _ _ _ | exact h_g1 _ _ _ | refine z14 ?_ ?_ | refine z15 ?_ (fun _ => ?_))
noncomputable def zas (r_q0c : (List S_api_Step) → V → V → (List S_api_Edit) → Option (List S_api_Edit)) (g1 : Int → Int → (List S_api_Edit) → Option (List S_api_Edit)) (a0 : (List S_api_Step)) (x23 : ((List (Str × V)) × (List (Str × V)) × Bool)) (s26 s27 : Int) (s28 : (List S_api_Edit)) (s31 : Bool) : Option (List S_api_Edit) :=
 bif s31 then (
 (z6n x23.1 s26).bind fun x33 =>
 (za9 (S_api_Step.mk x33.1 false 0) a0).bind fun x34 =>
 (zd4 3 x34 V.nil s28).bind fun x35 =>
 g1 (IntKind.i64.wrap (s26 + 1)) s27 x35
 ) else (
 bif (s26 == (((x23.1).length : Nat) : Int)) then (
 zc6 r_q0c g1 a0 x23 s26 s27 s28 true
 ) else (
 (z6n x23.2.1 s27).bind fun x48 =>
 (z6n x23.1 s26).bind fun x49 =>
 zc6 r_q0c g1 a0 x23 s26 s27 s28 (Op.bytesLess x48.1 x49.1)
 )
 )
theorem zoi (r_q0c : OF ρ → (List S_api_Step) → V → V → (List S_api_Edit) → Option (List S_api_Edit)) (h_r_q0c : ∀ y0 y1 y2 y3, CM (fun G => r_q0c G y0 y1 y2 y3)) (g1 : OF ρ → Int → Int → (List S_api_Edit) → Option (List S_api_Edit)) (h_g1 : ∀ y0 y1 y2, CM (fun G => g1 G y0 y1 y2)) (a0 : (List S_api_Step)) (x23 : ((List (Str × V)) × (List (Str × V)) × Bool)) (s26 s27 : Int) (s28 : (List S_api_Edit)) (s31 : Bool) : CM (fun G : OF ρ => zas (r_q0c G) (g1 G) a0 x23 s26 s27 s28 s31) := by
 simp only [zas]
 repeat (first | exact z0h | exact h_r_q0c _ _ _ _ | exact h_g1 _ _ _ | apply zoh | refine z14 ?_ ?_ | refine z15 ?_ (fun _ => ?_) | intro _ | assumption)
noncomputable def zc7 (r_q0c : (List S_api_Step) → V → V → (List S_api_Edit) → Option (List S_api_Edit)) (g1 : Int → Int → (List S_api_Edit) → Option (List S_api_Edit)) (a0 : (List S_api_Step)) (x23 : ((List (Str × V)) × (List (Str × V)) × Bool)) (s26 s27 : Int) (s28 : (List S_api_Edit)) (s29 : Bool) : Option (List S_api_Edit) :=
 bif s29 then (
 bif (s27 == (((x23.2.1).length : Nat) : Int)) then (
 zas r_q0c g1 a0 x23 s26 s27 s28 true
 ) else (
 bif (decide (s26 < (((x23.1).length : Nat) : Int))) then (
 (z6n x23.1 s26).bind fun x52 =>
 (z6n x23.2.1 s27).bind fun x53 =>
 zas r_q0c g1 a0 x23 s26 s27 s28 (Op.bytesLess x52.1 x53.1)
 ) else (
 zas r_q0c g1 a0 x23 s26 s27 s28 false
 )
 )
 ) else (
 some s28
 )
theorem zoj (r_q0c : OF ρ → (List S_api_Step) → V → V → (List S_api_Edit) → Option (List S_api_Edit)) (h_r_q0c : ∀ y0 y1 y2 y3, CM (fun G => r_q0c G y0 y1 y2 y3)) (g1 : OF ρ → Int → Int → (List S_api_Edit) → Option (List S_api_Edit)) (h_g1 : ∀ y0 y1 y2, CM (fun G => g1 G y0 y1 y2)) (a0 : (List S_api_Step)) (x23 : ((List (Str × V)) × (List (Str × V)) × Bool)) (s26 s27 : Int) (s28 : (List S_api_Edit)) (s29 : Bool) : CM (fun G : OF ρ => zc7 (r_q0c G) (g1 G) a0 x23 s26 s27 s28 s29) := by
 simp only [zc7]
 repeat (first | exact z0h | exact h_r_q0c _ _ _ _ | exact h_g1 _ _ _ | apply zoi | refine z14 ?_ ?_ | refine z15 ?_ (fun _ => ?_) | intro _ | assumption)
noncomputable def z5i (r_q0c : (List S_api_Step) → V → V → (List S_api_Edit) → Option (List S_api_Edit)) (a0 : (List S_api_Step)) (x23 : ((List (Str × V)) × (List (Str × V)) × Bool)) (g1 : Int → Int → (List S_api_Edit) → Option (List S_api_Edit)) (s26 s27 : Int) (s28 : (List S_api_Edit)) : Option (List S_api_Edit) :=
 bif (decide (s26 < (((x23.1).length : Nat) : Int))) then (
 zc7 r_q0c g1 a0 x23 s26 s27 s28 true
 ) else (
 zc7 r_q0c g1 a0 x23 s26 s27 s28 (decide (s27 < (((x23.2.1).length : Nat) : Int)))
 )
theorem za5 (r_q0c : OF ρ → (List S_api_Step) → V → V → (List S_api_Edit) → Option (List S_api_Edit)) (h_r_q0c : ∀ y0 y1 y2 y3, CM (fun G => r_q0c G y0 y1 y2 y3)) (g1 : OF ρ → Int → Int → (List S_api_Edit) → Option (List S_api_Edit)) (h_g1 : ∀ y0 y1 y2, CM (fun G => g1 G y0 y1 y2)) (a0 : (List S_api_Step)) (x23 : ((List (Str × V)) × (List (Str × V)) × Bool)) (s26 s27 : Int) (s28 : (List S_api_Edit)) : CM (fun G : OF ρ => z5i (r_q0c G) a0 x23 (g1 G) s26 s27 s28) := by
 simp only [z5i]
 repeat (first | exact z0h | exact h_r_q0c _ _ _ _ | exact h_g1 _ _ _ | apply zoj | refine z14 ?_ ?_ | refine z15 ?_ (fun _ => ?_) | intro _ | assumption)
noncomputable def zdp (r_q0c : (List S_api_Step) → V → V → (List S_api_Edit) → Option (List S_api_Edit)) (a0 : (List S_api_Step)) (x23 : ((List (Str × V)) × (List (Str × V)) × Bool)) (s26 s27 : Int) (s28 : (List S_api_Edit)) : Option (List S_api_Edit) :=
 z3n (ι := (Int × Int × (List S_api_Edit))) (ρ := fun _ => (List S_api_Edit)) (fun g i => z5i r_q0c a0 x23 (fun s26 s27 s28 => g (s26, s27, s28)) i.1 i.2.1 i.2.2) (s26, s27, s28)
theorem zgl (r_q0c : (List S_api_Step) → V → V → (List S_api_Edit) → Option (List S_api_Edit)) (a0 : (List S_api_Step)) (x23 : ((List (Str × V)) × (List (Str × V)) × Bool)) (s26 s27 : Int) (s28 : (List S_api_Edit)) : zdp r_q0c a0 x23 s26 s27 s28 = z5i r_q0c a0 x23 (zdp r_q0c a0 x23) s26 s27 s28 :=
 z1f (ι := (Int × Int × (List S_api_Edit))) (ρ := fun _ => (List S_api_Edit)) (Φ := fun g i => z5i r_q0c a0 x23 (fun s26 s27 s28 => g (s26, s27, s28)) i.1 i.2.1 i.2.2) (fun i => za5 (ι := (Int × Int × (List S_api_Edit))) (ρ := fun _ => (List S_api_Edit)) (fun _ => r_q0c) (fun _ _ _ _ => z0h) (fun g => (fun s26 s27 s28 => g (s26, s27, s28))) (fun _ _ _ => z1j) a0 x23 i.1 i.2.1 i.2.2) (s26, s27, s28)
theorem zof (r_q0c : OF ρ → (List S_api_Step) → V → V → (List S_api_Edit) → Option (List S_api_Edit)) (h_r_q0c : ∀ y0 y1 y2 y3, CM (fun G => r_q0c G y0 y1 y2 y3)) (a0 : (List S_api_Step)) (x23 : ((List (Str × V)) × (List (Str × V)) × Bool)) (s26 s27 : Int) (s28 : (List S_api_Edit)) : CM (fun G : OF ρ => zdp (r_q0c G) a0 x23 s26 s27 s28) :=
 z87 (κ := (Int × Int × (List S_api_Edit))) (τ := fun _ => (List S_api_Edit)) (Φ := fun G g i => z5i (r_q0c G) a0 x23 (fun s26 s27 s28 => g (s26, s27, s28)) i.1 i.2.1 i.2.2) (fun g i => za5 r_q0c h_r_q0c (fun _ => (fun s26 s27 s28 => g (s26, s27, s28))) (fun _ _ _ => z0h) a0 x23 i.1 i.2.1 i.2.2) (fun G i => za5 (ι := (Int × Int × (List S_api_Edit))) (ρ := fun _ => (List S_api_Edit)) (fun _ => r_q0c G) (fun _ _ _ _ => z0h) (fun g => (fun s26 s27 s28 => g (s26, s27, s28))) (fun _ _ _ => z1j) a0 x23 i.1 i.2.1 i.2.2) (s26, s27, s28)
noncomputable def zc8 (r_q0c : (List S_api_Step) → V → V → (List S_api_Edit) → Option (List S_api_Edit)) (a0 : (List S_api_Step)) (a1 a2 : V) (a3c0 : (List S_api_Edit)) (s3 : Bool) : Option (List S_api_Edit) :=
 bif s3 then (
 zar r_q0c a0 a1 a2 0 a3c0
 ) else (
 (zwq a1 a2).bind fun x23 =>
 bif (!x23.2.2) then (
 (zd4 1 a0 a2 a3c0).bind fun x25 =>
 some x25
 ) else (
 zdp r_q0c a0 x23 0 0 a3c0
 )
 )
theorem zok (r_q0c : OF ρ → (List S_api_Step) → V → V → (List S_api_Edit) → Option (List S_api_Edit)) (h_r_q0c : ∀ y0 y1 y2 y3, CM (fun G => r_q0c G y0 y1 y2 y3)) (a0 : (List S_api_Step)) (a1 a2 : V) (a3c0 : (List S_api_Edit)) (s3 : Bool) : CM (fun G : OF ρ => zc8 (r_q0c G) a0 a1 a2 a3c0 s3) := by
 simp only [zc8]
 repeat (first | exact z0h | exact h_r_q0c _ _ _ _ | apply zog | apply zof | refine z14 ?_ ?_ | refine z15 ?_ (fun _ => ?_) | intro _ | assumption)
noncomputable def zd9 (r_q0c : (List S_api_Step) → V → V → (List S_api_Edit) → Option (List S_api_Edit)) (a0 : (List S_api_Step)) (a1 a2 : V) (a3c0 : (List S_api_Edit)) : Option (List S_api_Edit) :=
 (zgx a1 a2).bind fun x1 =>
 bif x1 then (
 some a3c0
 ) else (
 bif (a1).isList then (
 zc8 r_q0c a0 a1 a2 a3c0 ((a2).isList)
 ) else (
 zc8 r_q0c a0 a1 a2 a3c0 false
 )
 )
theorem zuh (r_q0c : OF ρ → (List S_api_Step) → V → V → (List S_api_Edit) → Option (List S_api_Edit)) (h_r_q0c : ∀ y0 y1 y2 y3, CM (fun G => r_q0c G y0 y1 y2 y3)) (a0 : (List S_api_Step)) (a1 a2 : V) (a3c0 : (List S_api_Edit)) : CM (fun G : OF ρ => zd9 (r_q0c G) a0 a1 a2 a3c0) := by
 simp only [zd9]
 repeat (first | exact z0h | exact h_r_q0c _ _ _ _ | apply zok | refine z14 ?_ ?_ | refine z15 ?_ (fun _ => ?_) | intro _ | assumption)
inductive C_q0c where
 | k_q0c (a0 : (List S_api_Step)) (a1 : V) (a2 : V) (a3c0 : (List S_api_Edit))
def C_q0c.R : C_q0c → Type
 | .k_q0c _ _ _ _ => (List S_api_Edit)
noncomputable def C_q0c.F (g : ∀ i : C_q0c, Option i.R) : ∀ i : C_q0c, Option i.R
 | .k_q0c a0 a1 a2 a3c0 => zd9 (fun a0 a1 a2 a3c0 => g (.k_q0c a0 a1 a2 a3c0)) a0 a1 a2 a3c0
noncomputable def zaz (a0 : (List S_api_Step)) (a1 a2 : V) (a3c0 : (List S_api_Edit)) : Option (List S_api_Edit) := z3n C_q0c.F (.k_q0c a0 a1 a2 a3c0)
abbrev Z5s := fun (g : ∀ i : C_q0c, Option i.R) a0 a1 a2 a3c0 => g (.k_q0c a0 a1 a2 a3c0)
theorem Z5n (a0 a1 a2 a3c0 : _) : CM (ρ := C_q0c.R) (fun g => g (C_q0c.k_q0c a0 a1 a2 a3c0)) := z1j
theorem C_q0c.cm (i : C_q0c) : CM (fun g : (∀ i : C_q0c, Option i.R) => C_q0c.F g i) := by
 cases i with
 | k_q0c a0 a1 a2 a3c0 => exact zuh Z5s Z5n a0 a1 a2 a3c0
theorem ztt (a0 : (List S_api_Step)) (a1 a2 : V) (a3c0 : (List S_api_Edit)) : zaz a0 a1 a2 a3c0 = zd9 zaz a0 a1 a2 a3c0 := z1f C_q0c.cm (.k_q0c a0 a1 a2 a3c0)
def C_q0c.Q : ∀ i : C_q0c, i.R → Prop
 | .k_q0c a0 a1 a2 a3c0 => fun (r : (List S_api_Edit)) => z7n Tryz.prog 45 [(PV.sl none 83 3 (List.map z03 a0)), (ofV a1), (ofV a2), (PV.fn (.func 46) [] [(PV.rf 0 0)])] [.box 46 [(PV.sl (some 1) 53 3 (List.map z06 a3c0))], .arr 53 (a3c0).length] (PV.tup []) [.box 46 [(PV.sl (some 1) 53 3 (List.map z06 r))], .arr 53 (r).length]
theorem z59 (r_q0c : (List S_api_Step) → V → V → (List S_api_Edit) → Option (List S_api_Edit)) (c_q0c : ∀ (a0 : (List S_api_Step)) (a1 : V) (a2 : V) (a3c0 : (List S_api_Edit)) r, r_q0c a0 a1 a2 a3c0 = some r → z7n Tryz.prog 45 [(PV.sl none 83 3 (List.map z03 a0)), (ofV a1), (ofV a2), (PV.fn (.func 46) [] [(PV.rf 0 0)])] [.box 46 [(PV.sl (some 1) 53 3 (List.map z06 a3c0))], .arr 53 (a3c0).length] (PV.tup []) [.box 46 [(PV.sl (some 1) 53 3 (List.map z06 r))], .arr 53 (r).length]) (a0 : (List S_api_Step)) (a1 a2 : V) (a3c0 r : (List S_api_Edit)) (h : zd9 r_q0c a0 a1 a2 a3c0 = some r) : z7n Tryz.prog 45 [(PV.sl none 83 3 (List.map z03 a0)), (ofV a1), (ofV a2), (PV.fn (.func 46) [] [(PV.rf 0 0)])] [.box 46 [(PV.sl (some 1) 53 3 (List.map z06 a3c0))], .arr 53 (a3c0).length] (PV.tup []) [.box 46 [(PV.sl (some 1) 53 3 (List.map z06 r))], .arr 53 (r).length] := by
 unfold zd9 at h
 refine z0e Tryz.func45 rfl Tryz.ntmps45 Tryz.results45 rfl (z0i ?_)
 change BW _ _ _ ⟨[(0, (PV.sl none 83 3 (List.map z03 a0))), (1, (ofV a1)), (2, (ofV a2)), (3, (PV.fn (.func 46) [] [(PV.rf 0 0)]))], [.box 46 [(PV.sl (some 1) 53 3 (List.map z06 a3c0))], .arr 53 (a3c0).length], _⟩ _
 refine bR ?_
 refine eX ?_
 refine z0b ?_
 refine z0b ?_
 refine z7m 2 4 (y := (PV.pt 30 (PV.sl none 83 3 (List.map z03 a0)) 0)) rfl rfl (Wk.pt (x := .agg [(PV.sl none 83 3 (List.map z03 a0))]) (y := (PV.sl none 83 3 (List.map z03 a0))) (wkr .nil)) ?_
 refine z0g ?_
 iterate 2 refine sX ?_
 obtain ⟨x1, hx1, h⟩ := obind h
 refine sS rfl rfl rfl (z05 rfl ztr rfl (wkr (wkr .nil)) ⟨(ids_V a1), ⟨(ids_V a2), trivial⟩⟩ (zro a1 a2 x1 hx1) rfl) (z0d ?_)
 refine cBx ?_
 refine cX h rfl ?_ ?_
 intro hc2 h
 obtain rfl := eI h; exact z04 ⟨_, rfl, endR (y := (PV.tup [])) 2 (Wk.refl _) rfl rfl (.tup .nil) (.cons (.box (.cons (.row rfl (z1a z08 a3c0)) .nil)) (.cons .arr .nil)) ⟨rfl, rfl⟩⟩
 intro hc2 h
 refine z09 ?_
 refine cBx ?_
 refine bR ?_
 refine sS rfl rfl rfl (zdv rfl rfl rfl) ?_
 refine eX ?_
 refine bR ?_
 refine sX ?_
 refine sS rfl rfl rfl (z1u rfl rfl) ?_
 iterate 4 refine sX ?_
 refine eX ?_
 refine bR ?_
 refine sX ?_
 refine sS rfl rfl rfl (z1u rfl rfl) ?_
 iterate 4 refine sX ?_
 refine eX ?_
 refine z0b ?_
 refine z2b (ι := Bool) (fun i => zc8 r_q0c a0 a1 a2 a3c0 i = some r) (fun i => [(1, (ofV a1)), (2, (ofV a2)), (3, (PV.fn (.func 46) [] [(PV.rf 0 0)])), (4, (PV.pt 30 (PV.sl none 83 3 (List.map z03 a0)) 0)), (8, (PV.fn (.func 79) [] [(PV.pt 30 (PV.sl none 83 3 (List.map z03 a0)) 0)])), (9, (PV.sl none 20 1 (List.map ofV (a1).asList))), (11, (PV.sl none 20 1 (List.map ofV (a2).asList))), (38, (BO i))]) (fun i => [.box 46 [(PV.sl (some 1) 53 3 (List.map z06 a3c0))], .arr 53 (a3c0).length]) ?_ ?_ ?_
 intro i; exact ⟨lbE rfl, ⟨(z0c (ids_V _)), ⟨(z0c (ids_V _)), ⟨(il_fn (z55 (il_rf rfl) z7e)), ⟨(z0c (z7g (z07 z01 _))), ⟨(z0c (z2l (z2k (z07 (e := 83) (sz := 3) z01 a0) rfl))), ⟨(z0c (z07 ids_V _)), ⟨(z0c (z07 ids_V _)), ⟨(z0c rfl), trivial⟩⟩⟩⟩⟩⟩⟩⟩, ⟨⟨(z4o rfl (z1a z08 _)), trivial⟩, trivial⟩⟩
 rintro s3 h; replace h : zc8 r_q0c a0 a1 a2 a3c0 s3 = some r := h; unfold zc8 at h
 change BW _ _ _ ⟨[(1, (ofV a1)), (2, (ofV a2)), (3, (PV.fn (.func 46) [] [(PV.rf 0 0)])), (4, (PV.pt 30 (PV.sl none 83 3 (List.map z03 a0)) 0)), (8, (PV.fn (.func 79) [] [(PV.pt 30 (PV.sl none 83 3 (List.map z03 a0)) 0)])), (9, (PV.sl none 20 1 (List.map ofV (a1).asList))), (11, (PV.sl none 20 1 (List.map ofV (a2).asList))), (38, (BO s3))], [.box 46 [(PV.sl (some 1) 53 3 (List.map z06 a3c0))], .arr 53 (a3c0).length], _⟩ _
 refine cX h rfl ?_ ?_
 intro hc4 h
 refine z0b ?_
 refine bR ?_
 iterate 4 refine sX ?_
 refine sS rfl rfl rfl (zsr (args := []) rfl rfl rfl) ?_
 refine eX ?_
 refine z0m ?_
 refine cBx ?_
 unfold zar at h
 refine z3o (σ := (Int × (List S_api_Edit))) (fun i => [(3, (PV.fn (.func 46) [] [(PV.rf 0 0)])), (8, (PV.fn (.func 79) [] [(PV.pt 30 (PV.sl none 83 3 (List.map z03 a0)) 0)])), (9, (PV.sl none 20 1 (List.map ofV (a1).asList))), (11, (PV.sl none 20 1 (List.map ofV (a2).asList))), (43, (I64 ((if ((((a2).asList).length : Nat) : Int) < ((((a1).asList).length : Nat) : Int) then ((((a2).asList).length : Nat) : Int) else ((((a1).asList).length : Nat) : Int))))), (44, (I64 i.1))]) (fun i => [.box 46 [(PV.sl (some 1) 53 3 (List.map z06 i.2))], .arr 53 (i.2).length]) (0, a3c0) h ?_ ?_ ?_
 intro i; exact ⟨lbE rfl, ⟨(il_fn (z55 (il_rf rfl) z7e)), ⟨(z0c (z2l (z2k (z07 (e := 83) (sz := 3) z01 a0) rfl))), ⟨(z0c (z07 ids_V _)), ⟨(z0c (z07 ids_V _)), ⟨(z0c rfl), ⟨(z0c rfl), trivial⟩⟩⟩⟩⟩⟩, ⟨⟨(z4o rfl (z1a z08 _)), trivial⟩, trivial⟩⟩
 exact jN
 rintro g1_f ⟨s5, s6⟩ h; replace h : z3s r_q0c a0 a1 a2 (fun y0 y1 => g1_f (y0, y1)) s5 s6 = some r := h; unfold z3s at h
 change BW _ _ _ ⟨[(3, (PV.fn (.func 46) [] [(PV.rf 0 0)])), (8, (PV.fn (.func 79) [] [(PV.pt 30 (PV.sl none 83 3 (List.map z03 a0)) 0)])), (9, (PV.sl none 20 1 (List.map ofV (a1).asList))), (11, (PV.sl none 20 1 (List.map ofV (a2).asList))), (43, (I64 ((if ((((a2).asList).length : Nat) : Int) < ((((a1).asList).length : Nat) : Int) then ((((a2).asList).length : Nat) : Int) else ((((a1).asList).length : Nat) : Int))))), (44, (I64 s5))], [.box 46 [(PV.sl (some 1) 53 3 (List.map z06 s6))], .arr 53 (s6).length], _⟩ _
 refine bR ?_
 refine eX ?_
 refine z0b ?_
 refine cX h rfl ?_ ?_
 intro hc7 h
 refine z09 ?_
 refine cBx ?_
 refine z0b ?_
 refine z0m ?_
 refine cBx ?_
 refine bR ?_
 refine sX ?_
 refine eX ?_
 refine z1z 13 [] [] mo (by kernel_rfl) ?_
 iterate 2 refine gX ?_
 refine z1o rfl rfl rfl rfl (fun H hp => z1i (cs := [(z0n []), (BO true), (I64 s5)]) zd3 z13 rfl rfl rfl rfl) ?_
 obtain ⟨x8, hx8, h⟩ := obind h
 refine z1o rfl rfl rfl rfl (fun H hp => z2j rfl rfl zn6 rfl (wkr (wkr .nil)) ⟨(z01 (S_api_Step.mk [] true s5)), ⟨(z7g (z07 z01 a0)), trivial⟩⟩ (zls (S_api_Step.mk [] true s5) a0 x8 hx8) (z07 z01 x8)) ?_
 iterate 2 refine gX ?_
 obtain ⟨x9, hx9, h⟩ := obind h
 refine z1o rfl rfl rfl rfl (fun H hp => z26 Tryz.underlying67 z29 rfl rfl rfl hx9 rfl) ?_
 refine z1o rfl rfl rfl rfl (fun H hp => z44 (y := (ofV x9)) Tryz.underlying20 rfl rfl rfl (by rw [z0x]; rfl)) ?_
 iterate 2 refine gX ?_
 obtain ⟨x10, hx10, h⟩ := obind h
 refine z1o rfl rfl rfl rfl (fun H hp => z26 Tryz.underlying67 z29 rfl rfl rfl hx10 rfl) ?_
 refine z1o rfl rfl rfl rfl (fun H hp => z44 (y := (ofV x10)) Tryz.underlying20 rfl rfl rfl (by rw [z0x]; rfl)) ?_
 refine gX ?_
 refine z24 ?_
 change AO _ _ _ _ _
 obtain ⟨x11, hx11, h⟩ := obind h
 refine sS rfl rfl rfl (Op1.cast (y := (PV.tup [])) (H'' := [.box 46 [(PV.sl (some 1) 53 3 (List.map z06 x11))], .arr 53 (x11).length]) (z41 [0, 1] (.func rfl) zxv rfl (wkr (wkr (wkr (wkr .nil)))) rfl (.cons rfl (.box (.cons (.row rfl (z1a z08 s6)) .nil)) (.cons rfl .arr .nil)) (.cons (.same (z07 z01 x8)) (.cons (.same (ids_V x9)) (.cons (.same (ids_V x10)) (.cons (.fn (.cons (.rf rfl) .nil)) .nil)))) (c_q0c x8 x9 x10 s6 x11 hx11) (.same z02) (.cons (.box (.cons (.row rfl (z1a z08 x11)) .nil)) (.cons .arr .nil)) rfl) rfl rfl) (z0d ?_)
 refine cBx ?_
 refine z0g ?_
 refine sX ?_
 refine sX (z0d ?_)
 exact ⟨rfl, ((IntKind.i64.wrap (s5 + 1)), x11), h, jN⟩
 intro hc7 h
 refine z2c ?_
 refine cBx ?_
 refine z0b ?_
 refine bR ?_
 iterate 2 refine sX ?_
 refine sS rfl rfl rfl (z7t rfl rfl rfl) ?_
 refine eX ?_
 refine z0m ?_
 refine cBx ?_
 unfold zc5 at h
 refine z3o (σ := (Int × (List S_api_Edit))) (fun i => [(3, (PV.fn (.func 46) [] [(PV.rf 0 0)])), (8, (PV.fn (.func 79) [] [(PV.pt 30 (PV.sl none 83 3 (List.map z03 a0)) 0)])), (9, (PV.sl none 20 1 (List.map ofV (a1).asList))), (11, (PV.sl none 20 1 (List.map ofV (a2).asList))), (14, (I64 i.1))]) (fun i => [.box 46 [(PV.sl (some 1) 53 3 (List.map z06 i.2))], .arr 53 (i.2).length]) ((IntKind.i64.wrap (((((a1).asList).length : Nat) : Int) - 1)), s6) h ?_ ?_ ?_
 intro i; exact ⟨lbE rfl, ⟨(il_fn (z55 (il_rf rfl) z7e)), ⟨(z0c (z2l (z2k (z07 (e := 83) (sz := 3) z01 a0) rfl))), ⟨(z0c (z07 ids_V _)), ⟨(z0c (z07 ids_V _)), ⟨(z0c rfl), trivial⟩⟩⟩⟩⟩, ⟨⟨(z4o rfl (z1a z08 _)), trivial⟩, trivial⟩⟩
 exact jN
 rintro g2_f ⟨s12, s13⟩ h; replace h : z4i a0 a1 a2 (fun y0 y1 => g2_f (y0, y1)) s12 s13 = some r := h; unfold z4i at h
 change BW _ _ _ ⟨[(3, (PV.fn (.func 46) [] [(PV.rf 0 0)])), (8, (PV.fn (.func 79) [] [(PV.pt 30 (PV.sl none 83 3 (List.map z03 a0)) 0)])), (9, (PV.sl none 20 1 (List.map ofV (a1).asList))), (11, (PV.sl none 20 1 (List.map ofV (a2).asList))), (14, (I64 s12))], [.box 46 [(PV.sl (some 1) 53 3 (List.map z06 s13))], .arr 53 (s13).length], _⟩ _
 refine z0b ?_
 refine bR ?_
 iterate 3 refine sX ?_
 refine eX ?_
 refine cX h rfl ?_ ?_
 intro hc14 h
 refine z09 ?_
 refine cBx ?_
 refine z0b ?_
 refine z0m ?_
 refine cBx ?_
 refine z0g ?_
 iterate 3 refine sX ?_
 refine sS rfl rfl rfl (z1i (cs := [(z0n []), (BO true), (I64 s12)]) zd3 z13 rfl rfl rfl rfl) ?_
 obtain ⟨x15, hx15, h⟩ := obind h
 refine sS rfl rfl rfl (z2j rfl rfl zn6 rfl (wkr (wkr .nil)) ⟨(z01 (S_api_Step.mk [] true s12)), ⟨(z7g (z07 z01 a0)), trivial⟩⟩ (zls (S_api_Step.mk [] true s12) a0 x15 hx15) (z07 z01 x15)) ?_
 obtain ⟨x16, hx16, h⟩ := obind h
 refine sS rfl rfl rfl (Op1.cast (y := (PV.tup [])) (H'' := [.box 46 [(PV.sl (some 1) 53 3 (List.map z06 x16))], .arr 53 (x16).length]) (z41 [0, 1] (.held rfl rfl) zqm rfl (wkr (wkr (.cons (Wk.eq mk_nil.symm) (wkr .nil)))) rfl (.cons rfl (.box (.cons (.row rfl (z1a z08 s13)) .nil)) (.cons rfl .arr .nil)) (.cons (.same rfl) (.cons (.same (z07 z01 x15)) (.cons (.same (ids_V V.nil)) (.cons (.rf rfl) .nil)))) (znx 3 x15 V.nil s13 x16 hx16) (.same z02) (.cons (.box (.cons (.row rfl (z1a z08 x16)) .nil)) (.cons .arr .nil)) rfl) rfl rfl) (z0d ?_)
 refine cBx ?_
 refine z0g ?_
 refine sX ?_
 refine sS rfl rfl rfl (z7t rfl rfl rfl) ?_
 refine sX (z0d ?_)
 exact ⟨rfl, ((IntKind.i64.wrap (s12 - 1)), x16), h, jN⟩
 intro hc14 h
 refine z2c ?_
 refine cBx ?_
 refine z0b ?_
 refine bR ?_
 iterate 2 refine sX ?_
 refine eX ?_
 refine z0m ?_
 refine cBx ?_
 unfold zc4 at h
 refine z3o (σ := (Int × (List S_api_Edit))) (fun i => [(3, (PV.fn (.func 46) [] [(PV.rf 0 0)])), (8, (PV.fn (.func 79) [] [(PV.pt 30 (PV.sl none 83 3 (List.map z03 a0)) 0)])), (11, (PV.sl none 20 1 (List.map ofV (a2).asList))), (15, (I64 i.1))]) (fun i => [.box 46 [(PV.sl (some 1) 53 3 (List.map z06 i.2))], .arr 53 (i.2).length]) (((((a1).asList).length : Nat) : Int), s13) h ?_ ?_ ?_
 intro i; exact ⟨lbE rfl, ⟨(il_fn (z55 (il_rf rfl) z7e)), ⟨(z0c (z2l (z2k (z07 (e := 83) (sz := 3) z01 a0) rfl))), ⟨(z0c (z07 ids_V _)), ⟨(z0c rfl), trivial⟩⟩⟩⟩, ⟨⟨(z4o rfl (z1a z08 _)), trivial⟩, trivial⟩⟩
 exact jN
 rintro g3_f ⟨s17, s18⟩ h; replace h : z4h a0 a2 (fun y0 y1 => g3_f (y0, y1)) s17 s18 = some r := h; unfold z4h at h
 change BW _ _ _ ⟨[(3, (PV.fn (.func 46) [] [(PV.rf 0 0)])), (8, (PV.fn (.func 79) [] [(PV.pt 30 (PV.sl none 83 3 (List.map z03 a0)) 0)])), (11, (PV.sl none 20 1 (List.map ofV (a2).asList))), (15, (I64 s17))], [.box 46 [(PV.sl (some 1) 53 3 (List.map z06 s18))], .arr 53 (s18).length], _⟩ _
 refine z0b ?_
 refine bR ?_
 iterate 3 refine sX ?_
 refine eX ?_
 refine cX h rfl ?_ ?_
 intro hc19 h
 refine z09 ?_
 refine cBx ?_
 refine z0b ?_
 refine z0m ?_
 refine cBx ?_
 refine z1z 9 [] [] mo (by kernel_rfl) ?_
 iterate 3 refine gX ?_
 refine z1o rfl rfl rfl rfl (fun H hp => z1i (cs := [(z0n []), (BO true), (I64 s17)]) zd3 z13 rfl rfl rfl rfl) ?_
 obtain ⟨x20, hx20, h⟩ := obind h
 refine z1o rfl rfl rfl rfl (fun H hp => z2j rfl rfl zn6 rfl (wkr (wkr .nil)) ⟨(z01 (S_api_Step.mk [] true s17)), ⟨(z7g (z07 z01 a0)), trivial⟩⟩ (zls (S_api_Step.mk [] true s17) a0 x20 hx20) (z07 z01 x20)) ?_
 iterate 2 refine gX ?_
 obtain ⟨x21, hx21, h⟩ := obind h
 refine z1o rfl rfl rfl rfl (fun H hp => z26 Tryz.underlying67 z29 rfl rfl rfl hx21 rfl) ?_
 refine z1o rfl rfl rfl rfl (fun H hp => z44 (y := (ofV x21)) Tryz.underlying20 rfl rfl rfl (by rw [z0x]; rfl)) ?_
 refine z24 ?_
 change AO _ _ _ _ _
 obtain ⟨x22, hx22, h⟩ := obind h
 refine sS rfl rfl rfl (Op1.cast (y := (PV.tup [])) (H'' := [.box 46 [(PV.sl (some 1) 53 3 (List.map z06 x22))], .arr 53 (x22).length]) (z41 [0, 1] (.held rfl rfl) zqm rfl (wkr (wkr (wkr (wkr .nil)))) rfl (.cons rfl (.box (.cons (.row rfl (z1a z08 s18)) .nil)) (.cons rfl .arr .nil)) (.cons (.same rfl) (.cons (.same (z07 z01 x20)) (.cons (.same (ids_V x21)) (.cons (.rf rfl) .nil)))) (znx 2 x20 x21 s18 x22 hx22) (.same z02) (.cons (.box (.cons (.row rfl (z1a z08 x22)) .nil)) (.cons .arr .nil)) rfl) rfl rfl) (z0d ?_)
 refine cBx ?_
 refine z0g ?_
 iterate 2 refine sX ?_
 refine sX (z0d ?_)
 exact ⟨rfl, ((IntKind.i64.wrap (s17 + 1)), x22), h, jN⟩
 intro hc19 h
 refine z2c ?_
 refine cBx ?_
 obtain rfl := eI h; exact z04 ⟨_, rfl, endR (y := (PV.tup [])) 2 (Wk.refl _) rfl rfl (.tup .nil) (.cons (.box (.cons (.row rfl (z1a z08 s18)) .nil)) (.cons .arr .nil)) ⟨rfl, rfl⟩⟩
 intro hc4 h
 refine z09 ?_
 refine cBx ?_
 refine bR ?_
 iterate 2 refine sX ?_
 obtain ⟨x23, hx23, h⟩ := obind h
 refine sS rfl rfl rfl (z05 rfl Z3e rfl (wkr (wkr .nil)) ⟨(ids_V a1), ⟨(ids_V a2), trivial⟩⟩ (Z21 a1 a2 x23 hx23) (z00 (z07 z0s x23.1) (z00 (z07 z0s x23.2.1) (z00 rfl z02)))) ?_
 iterate 6 refine sX ?_
 refine eX ?_
 refine z0b ?_
 refine bR ?_
 refine sX ?_
 refine eX ?_
 refine cX h rfl ?_ ?_
 intro hc24 h
 refine bR ?_
 iterate 3 refine sX ?_
 obtain ⟨x25, hx25, h⟩ := obind h
 refine sS rfl rfl rfl (Op1.cast (y := (PV.tup [])) (H'' := [.box 46 [(PV.sl (some 1) 53 3 (List.map z06 x25))], .arr 53 (x25).length]) (z41 [0, 1] (.held rfl rfl) zqm rfl (wkr (wkr (wkr (wkr .nil)))) rfl (.cons rfl (.box (.cons (.row rfl (z1a z08 a3c0)) .nil)) (.cons rfl .arr .nil)) (.cons (.same rfl) (.cons (.same (z07 z01 a0)) (.cons (.same (ids_V a2)) (.cons (.rf rfl) .nil)))) (znx 1 a0 a2 a3c0 x25 hx25) (.same z02) (.cons (.box (.cons (.row rfl (z1a z08 x25)) .nil)) (.cons .arr .nil)) rfl) rfl rfl) (z0d ?_)
 refine cBx ?_
 obtain rfl := eI h; exact z04 ⟨_, rfl, endR (y := (PV.tup [])) 2 (Wk.refl _) rfl rfl (.tup .nil) (.cons (.box (.cons (.row rfl (z1a z08 x25)) .nil)) (.cons .arr .nil)) ⟨rfl, rfl⟩⟩
 intro hc24 h
 refine z09 ?_
 refine cBx ?_
 refine bR ?_
 refine sX ?_
 refine eX ?_
 refine z0m ?_
 refine cBx ?_
 unfold zdp at h
 refine z3o (σ := (Int × Int × (List S_api_Edit))) (fun i => [(3, (PV.fn (.func 46) [] [(PV.rf 0 0)])), (8, (PV.fn (.func 79) [] [(PV.pt 30 (PV.sl none 83 3 (List.map z03 a0)) 0)])), (16, (PV.sl none 69 2 (List.map ofFld x23.1))), (17, (PV.sl none 69 2 (List.map ofFld x23.2.1))), (19, (I64 i.1)), (20, (I64 i.2.1))]) (fun i => [.box 46 [(PV.sl (some 1) 53 3 (List.map z06 i.2.2))], .arr 53 (i.2.2).length]) (0, 0, a3c0) h ?_ ?_ ?_
 intro i; exact ⟨lbE rfl, ⟨(il_fn (z55 (il_rf rfl) z7e)), ⟨(z0c (z2l (z2k (z07 (e := 83) (sz := 3) z01 a0) rfl))), ⟨(z0c (z07 z0s _)), ⟨(z0c (z07 z0s _)), ⟨(z0c rfl), ⟨(z0c rfl), trivial⟩⟩⟩⟩⟩⟩, ⟨⟨(z4o rfl (z1a z08 _)), trivial⟩, trivial⟩⟩
 exact jN
 rintro g1_f ⟨s26, s27, s28⟩ h; replace h : z5i r_q0c a0 x23 (fun y0 y1 y2 => g1_f (y0, y1, y2)) s26 s27 s28 = some r := h; unfold z5i at h
 change BW _ _ _ ⟨[(3, (PV.fn (.func 46) [] [(PV.rf 0 0)])), (8, (PV.fn (.func 79) [] [(PV.pt 30 (PV.sl none 83 3 (List.map z03 a0)) 0)])), (16, (PV.sl none 69 2 (List.map ofFld x23.1))), (17, (PV.sl none 69 2 (List.map ofFld x23.2.1))), (19, (I64 s26)), (20, (I64 s27))], [.box 46 [(PV.sl (some 1) 53 3 (List.map z06 s28))], .arr 53 (s28).length], _⟩ _
 refine z0b ?_
 refine z2b (ι := Bool) (fun i => zc7 r_q0c (fun y0 y1 y2 => g1_f (y0, y1, y2)) a0 x23 s26 s27 s28 i = some r) (fun i => [(3, (PV.fn (.func 46) [] [(PV.rf 0 0)])), (8, (PV.fn (.func 79) [] [(PV.pt 30 (PV.sl none 83 3 (List.map z03 a0)) 0)])), (16, (PV.sl none 69 2 (List.map ofFld x23.1))), (17, (PV.sl none 69 2 (List.map ofFld x23.2.1))), (19, (I64 s26)), (20, (I64 s27)), (117, (BO i))]) (fun i => [.box 46 [(PV.sl (some 1) 53 3 (List.map z06 s28))], .arr 53 (s28).length]) ?_ ?_ ?_
 intro i; exact ⟨lbE rfl, ⟨(il_fn (z55 (il_rf rfl) z7e)), ⟨(z0c (z2l (z2k (z07 (e := 83) (sz := 3) z01 a0) rfl))), ⟨(z0c (z07 z0s _)), ⟨(z0c (z07 z0s _)), ⟨(z0c rfl), ⟨(z0c rfl), ⟨(z0c rfl), trivial⟩⟩⟩⟩⟩⟩⟩, ⟨⟨(z4o rfl (z1a z08 _)), trivial⟩, trivial⟩⟩
 rintro s29 h; replace h : zc7 r_q0c (fun y0 y1 y2 => g1_f (y0, y1, y2)) a0 x23 s26 s27 s28 s29 = some r := h; unfold zc7 at h
 change BW _ _ _ ⟨[(3, (PV.fn (.func 46) [] [(PV.rf 0 0)])), (8, (PV.fn (.func 79) [] [(PV.pt 30 (PV.sl none 83 3 (List.map z03 a0)) 0)])), (16, (PV.sl none 69 2 (List.map ofFld x23.1))), (17, (PV.sl none 69 2 (List.map ofFld x23.2.1))), (19, (I64 s26)), (20, (I64 s27)), (117, (BO s29))], [.box 46 [(PV.sl (some 1) 53 3 (List.map z06 s28))], .arr 53 (s28).length], _⟩ _
 refine cX h rfl ?_ ?_
 intro hc30 h
 refine z09 ?_
 refine cBx ?_
 refine z0m ?_
 refine cBx ?_
 refine z0m ?_
 refine cBx ?_
 refine z2b (ι := Bool) (fun i => zas r_q0c (fun y0 y1 y2 => g1_f (y0, y1, y2)) a0 x23 s26 s27 s28 i = some r) (fun i => [(3, (PV.fn (.func 46) [] [(PV.rf 0 0)])), (8, (PV.fn (.func 79) [] [(PV.pt 30 (PV.sl none 83 3 (List.map z03 a0)) 0)])), (16, (PV.sl none 69 2 (List.map ofFld x23.1))), (17, (PV.sl none 69 2 (List.map ofFld x23.2.1))), (19, (I64 s26)), (20, (I64 s27)), (142, (BO i))]) (fun i => [.box 46 [(PV.sl (some 1) 53 3 (List.map z06 s28))], .arr 53 (s28).length]) ?_ ?_ ?_
 intro i; exact ⟨lbE rfl, ⟨(il_fn (z55 (il_rf rfl) z7e)), ⟨(z0c (z2l (z2k (z07 (e := 83) (sz := 3) z01 a0) rfl))), ⟨(z0c (z07 z0s _)), ⟨(z0c (z07 z0s _)), ⟨(z0c rfl), ⟨(z0c rfl), ⟨(z0c rfl), trivial⟩⟩⟩⟩⟩⟩⟩, ⟨⟨(z4o rfl (z1a z08 _)), trivial⟩, trivial⟩⟩
 rintro s31 h; replace h : zas r_q0c (fun y0 y1 y2 => g1_f (y0, y1, y2)) a0 x23 s26 s27 s28 s31 = some r := h; unfold zas at h
 change BW _ _ _ ⟨[(3, (PV.fn (.func 46) [] [(PV.rf 0 0)])), (8, (PV.fn (.func 79) [] [(PV.pt 30 (PV.sl none 83 3 (List.map z03 a0)) 0)])), (16, (PV.sl none 69 2 (List.map ofFld x23.1))), (17, (PV.sl none 69 2 (List.map ofFld x23.2.1))), (19, (I64 s26)), (20, (I64 s27)), (142, (BO s31))], [.box 46 [(PV.sl (some 1) 53 3 (List.map z06 s28))], .arr 53 (s28).length], _⟩ _
 refine cX h rfl ?_ ?_
 intro hc32 h
 refine bR ?_
 iterate 4 refine sX ?_
 obtain ⟨x33, hx33, h⟩ := obind h
 refine sS rfl rfl rfl (z26 Tryz.underlying71 z0v rfl rfl rfl hx33 rfl) ?_
 iterate 2 refine sX ?_
 refine sS rfl rfl rfl (z1i (cs := [(z0n x33.1), (BO false), (I64 0)]) zd3 z13 rfl rfl rfl rfl) ?_
 obtain ⟨x34, hx34, h⟩ := obind h
 refine sS rfl rfl rfl (z2j rfl rfl zn6 rfl (wkr (wkr .nil)) ⟨(z01 (S_api_Step.mk x33.1 false 0)), ⟨(z7g (z07 z01 a0)), trivial⟩⟩ (zls (S_api_Step.mk x33.1 false 0) a0 x34 hx34) (z07 z01 x34)) ?_
 obtain ⟨x35, hx35, h⟩ := obind h
 refine sS rfl rfl rfl (Op1.cast (y := (PV.tup [])) (H'' := [.box 46 [(PV.sl (some 1) 53 3 (List.map z06 x35))], .arr 53 (x35).length]) (z41 [0, 1] (.held rfl rfl) zqm rfl (wkr (wkr (.cons (Wk.eq mk_nil.symm) (wkr .nil)))) rfl (.cons rfl (.box (.cons (.row rfl (z1a z08 s28)) .nil)) (.cons rfl .arr .nil)) (.cons (.same rfl) (.cons (.same (z07 z01 x34)) (.cons (.same (ids_V V.nil)) (.cons (.rf rfl) .nil)))) (znx 3 x34 V.nil s28 x35 hx35) (.same z02) (.cons (.box (.cons (.row rfl (z1a z08 x35)) .nil)) (.cons .arr .nil)) rfl) rfl rfl) (z0d ?_)
 refine cBx ?_
 refine z0g ?_
 iterate 2 refine sX ?_
 refine sX (z0d ?_)
 exact ⟨rfl, ((IntKind.i64.wrap (s26 + 1)), s27, x35), h, jN⟩
 intro hc32 h
 refine z2b (ι := Bool) (fun i => zc6 r_q0c (fun y0 y1 y2 => g1_f (y0, y1, y2)) a0 x23 s26 s27 s28 i = some r) (fun i => [(3, (PV.fn (.func 46) [] [(PV.rf 0 0)])), (8, (PV.fn (.func 79) [] [(PV.pt 30 (PV.sl none 83 3 (List.map z03 a0)) 0)])), (16, (PV.sl none 69 2 (List.map ofFld x23.1))), (17, (PV.sl none 69 2 (List.map ofFld x23.2.1))), (19, (I64 s26)), (20, (I64 s27)), (178, (BO i))]) (fun i => [.box 46 [(PV.sl (some 1) 53 3 (List.map z06 s28))], .arr 53 (s28).length]) ?_ ?_ ?_
 intro i; exact ⟨lbE rfl, ⟨(il_fn (z55 (il_rf rfl) z7e)), ⟨(z0c (z2l (z2k (z07 (e := 83) (sz := 3) z01 a0) rfl))), ⟨(z0c (z07 z0s _)), ⟨(z0c (z07 z0s _)), ⟨(z0c rfl), ⟨(z0c rfl), ⟨(z0c rfl), trivial⟩⟩⟩⟩⟩⟩⟩, ⟨⟨(z4o rfl (z1a z08 _)), trivial⟩, trivial⟩⟩
 rintro s36 h; replace h : zc6 r_q0c (fun y0 y1 y2 => g1_f (y0, y1, y2)) a0 x23 s26 s27 s28 s36 = some r := h; unfold zc6 at h
 change BW _ _ _ ⟨[(3, (PV.fn (.func 46) [] [(PV.rf 0 0)])), (8, (PV.fn (.func 79) [] [(PV.pt 30 (PV.sl none 83 3 (List.map z03 a0)) 0)])), (16, (PV.sl none 69 2 (List.map ofFld x23.1))), (17, (PV.sl none 69 2 (List.map ofFld x23.2.1))), (19, (I64 s26)), (20, (I64 s27)), (178, (BO s36))], [.box 46 [(PV.sl (some 1) 53 3 (List.map z06 s28))], .arr 53 (s28).length], _⟩ _
 refine cX h rfl ?_ ?_
 intro hc37 h
 refine z0b (z1z 14 [] [] mo (by kernel_rfl) ?_)
 iterate 4 refine gX ?_
 obtain ⟨x38, hx38, h⟩ := obind h
 refine z1o rfl rfl rfl rfl (fun H hp => z26 Tryz.underlying71 z0v rfl rfl rfl hx38 rfl) ?_
 iterate 2 refine gX ?_
 refine z1o rfl rfl rfl rfl (fun H hp => z1i (cs := [(z0n x38.1), (BO false), (I64 0)]) zd3 z13 rfl rfl rfl rfl) ?_
 obtain ⟨x39, hx39, h⟩ := obind h
 refine z1o rfl rfl rfl rfl (fun H hp => z2j rfl rfl zn6 rfl (wkr (wkr .nil)) ⟨(z01 (S_api_Step.mk x38.1 false 0)), ⟨(z7g (z07 z01 a0)), trivial⟩⟩ (zls (S_api_Step.mk x38.1 false 0) a0 x39 hx39) (z07 z01 x39)) ?_
 iterate 2 refine gX ?_
 obtain ⟨x40, hx40, h⟩ := obind h
 refine z1o rfl rfl rfl rfl (fun H hp => z26 Tryz.underlying71 z0v rfl rfl rfl hx40 rfl) ?_
 iterate 2 refine gX ?_
 refine z24 ?_
 change AO _ _ _ _ _
 obtain ⟨x41, hx41, h⟩ := obind h
 refine sS rfl rfl rfl (Op1.cast (y := (PV.tup [])) (H'' := [.box 46 [(PV.sl (some 1) 53 3 (List.map z06 x41))], .arr 53 (x41).length]) (z41 [0, 1] (.held rfl rfl) zqm rfl (wkr (wkr (wkr (wkr .nil)))) rfl (.cons rfl (.box (.cons (.row rfl (z1a z08 s28)) .nil)) (.cons rfl .arr .nil)) (.cons (.same rfl) (.cons (.same (z07 z01 x39)) (.cons (.same (ids_V x40.2)) (.cons (.rf rfl) .nil)))) (znx 2 x39 x40.2 s28 x41 hx41) (.same z02) (.cons (.box (.cons (.row rfl (z1a z08 x41)) .nil)) (.cons .arr .nil)) rfl) rfl rfl) (z0d ?_)
 refine cBx ?_
 refine z0g ?_
 iterate 2 refine sX ?_
 refine sX (z0d ?_)
 exact ⟨rfl, (s26, (IntKind.i64.wrap (s27 + 1)), x41), h, jN⟩
 intro hc37 h
 refine z0b (z1z 19 [] [] mo (by kernel_rfl) ?_)
 iterate 3 refine gX ?_
 obtain ⟨x42, hx42, h⟩ := obind h
 refine z1o rfl rfl rfl rfl (fun H hp => z26 Tryz.underlying71 z0v rfl rfl rfl hx42 rfl) ?_
 iterate 2 refine gX ?_
 refine z1o rfl rfl rfl rfl (fun H hp => z1i (cs := [(z0n x42.1), (BO false), (I64 0)]) zd3 z13 rfl rfl rfl rfl) ?_
 obtain ⟨x43, hx43, h⟩ := obind h
 refine z1o rfl rfl rfl rfl (fun H hp => z2j rfl rfl zn6 rfl (wkr (wkr .nil)) ⟨(z01 (S_api_Step.mk x42.1 false 0)), ⟨(z7g (z07 z01 a0)), trivial⟩⟩ (zls (S_api_Step.mk x42.1 false 0) a0 x43 hx43) (z07 z01 x43)) ?_
 iterate 2 refine gX ?_
 obtain ⟨x44, hx44, h⟩ := obind h
 refine z1o rfl rfl rfl rfl (fun H hp => z26 Tryz.underlying71 z0v rfl rfl rfl hx44 rfl) ?_
 iterate 4 refine gX ?_
 obtain ⟨x45, hx45, h⟩ := obind h
 refine z1o rfl rfl rfl rfl (fun H hp => z26 Tryz.underlying71 z0v rfl rfl rfl hx45 rfl) ?_
 iterate 3 refine gX ?_
 refine z24 ?_
 change AO _ _ _ _ _
 obtain ⟨x46, hx46, h⟩ := obind h
 refine sS rfl rfl rfl (Op1.cast (y := (PV.tup [])) (H'' := [.box 46 [(PV.sl (some 1) 53 3 (List.map z06 x46))], .arr 53 (x46).length]) (z41 [0, 1] (.func rfl) zxv rfl (wkr (wkr (wkr (wkr .nil)))) rfl (.cons rfl (.box (.cons (.row rfl (z1a z08 s28)) .nil)) (.cons rfl .arr .nil)) (.cons (.same (z07 z01 x43)) (.cons (.same (ids_V x44.2)) (.cons (.same (ids_V x45.2)) (.cons (.fn (.cons (.rf rfl) .nil)) .nil)))) (c_q0c x43 x44.2 x45.2 s28 x46 hx46) (.same z02) (.cons (.box (.cons (.row rfl (z1a z08 x46)) .nil)) (.cons .arr .nil)) rfl) rfl rfl) (z0d ?_)
 refine cBx ?_
 refine bR ?_
 iterate 2 refine sX ?_
 refine eX ?_
 refine z0g ?_
 iterate 2 refine sX ?_
 refine sX (z0d ?_)
 exact ⟨rfl, ((IntKind.i64.wrap (s26 + 1)), (IntKind.i64.wrap (s27 + 1)), x46), h, jN⟩
 refine z1z 15 [] [] mo (by kernel_rfl) ?_
 iterate 5 refine gX ?_
 refine z6r 183 rfl ?_ ?_
 intro hb47; replace h := z0o hb47 h
 iterate 10 refine mX ?_
 refine z24 ?_
 change AO _ _ _ _ _
 refine nX ?_
 refine sX ?_
 refine sX (z0d ?_)
 exact ⟨rfl, true, h, jN⟩
 intro hb47; replace h := z0p hb47 h
 iterate 2 refine wX ?_
 obtain ⟨x48, hx48, h⟩ := obind h
 refine z6t rfl rfl rfl rfl rfl rfl rfl (fun H hp => z26 Tryz.underlying71 z0v rfl rfl rfl hx48 rfl) ?_
 iterate 4 refine wX ?_
 obtain ⟨x49, hx49, h⟩ := obind h
 refine z6t rfl rfl rfl rfl rfl rfl rfl (fun H hp => z26 Tryz.underlying71 z0v rfl rfl rfl hx49 rfl) ?_
 iterate 2 refine wX ?_
 refine z24 ?_
 change AO _ _ _ _ _
 refine z1h rfl rfl rfl rfl rfl rfl ((z2h (a := x48.1) (b := x49.1) rfl rfl rfl rfl).cast (y := (BO ((Op.bytesLess x48.1 x49.1)))) rfl rfl) ?_
 refine sX ?_
 refine sX (z0d ?_)
 exact ⟨rfl, (Op.bytesLess x48.1 x49.1), h, jN⟩
 refine z1z 20 [] [] mo (by kernel_rfl) ?_
 iterate 5 refine gX ?_
 refine z6r 147 rfl ?_ ?_
 intro hb50; replace h := z0o hb50 h
 iterate 15 refine mX ?_
 refine z24 ?_
 change AO _ _ _ _ _
 iterate 2 refine nX ?_
 refine sX ?_
 refine sX (z0d ?_)
 exact ⟨rfl, true, h, jN⟩
 intro hb50; replace h := z0p hb50 h
 iterate 5 refine wX ?_
 refine z6r 152 rfl ?_ ?_
 intro hb51; replace h := z0o hb51 h
 iterate 2 refine wX ?_
 obtain ⟨x52, hx52, h⟩ := obind h
 refine z6t rfl rfl rfl rfl rfl rfl rfl (fun H hp => z26 Tryz.underlying71 z0v rfl rfl rfl hx52 rfl) ?_
 iterate 4 refine wX ?_
 obtain ⟨x53, hx53, h⟩ := obind h
 refine z6t rfl rfl rfl rfl rfl rfl rfl (fun H hp => z26 Tryz.underlying71 z0v rfl rfl rfl hx53 rfl) ?_
 iterate 2 refine wX ?_
 refine z24 ?_
 change AO _ _ _ _ _
 refine z1h rfl rfl rfl rfl rfl rfl ((z2h (a := x52.1) (b := x53.1) rfl rfl rfl rfl).cast (y := (BO ((Op.bytesLess x52.1 x53.1)))) rfl rfl) ?_
 refine yX ?_
 refine sX ?_
 refine sX (z0d ?_)
 exact ⟨rfl, (Op.bytesLess x52.1 x53.1), h, jN⟩
 intro hb51; replace h := z0p hb51 h
 iterate 10 refine mX ?_
 refine z24 ?_
 change AO _ _ _ _ _
 refine nX ?_
 refine yX ?_
 refine sX ?_
 refine sX (z0d ?_)
 exact ⟨rfl, false, h, jN⟩
 intro hc30 h
 refine z2c ?_
 change ∃ xs, _ = some xs ∧ EndOk _ _ _ _
 obtain rfl := Option.some.inj h
 exact ⟨_, rfl, endR (y := (PV.tup [])) 2 (Wk.refl _) rfl rfl (.tup .nil) (.cons (.box (.cons (.row rfl (z1a z08 s28)) .nil)) (.cons .arr .nil)) ⟨rfl, rfl⟩⟩
 refine z0g ?_
 iterate 5 refine sX ?_
 refine z0j (t := 112) rfl ?_ ?_
 intro hb54; replace h := z0o hb54 h
 iterate 4 refine nX ?_
 refine sX (z0d ?_)
 exact ⟨rfl, true, h, jN⟩
 intro hb54; replace h := z0p hb54 h
 iterate 4 refine yX ?_
 refine sX (z0d ?_)
 exact ⟨rfl, (decide (s27 < (((x23.2.1).length : Nat) : Int))), h, jN⟩
 refine z0g ?_
 iterate 2 refine sX ?_
 refine z0j (t := 36) rfl ?_ ?_
 intro hb55; replace h := z0o hb55 h
 refine yX ?_
 refine sX (z0d ?_)
 exact ⟨rfl, (a2).isList, h, jN⟩
 intro hb55; replace h := z0p hb55 h
 refine nX ?_
 refine sX (z0d ?_)
 exact ⟨rfl, false, h, jN⟩
theorem C_q0c.sound : ∀ (i : C_q0c) (r : i.R), z3n C_q0c.F i = some r → C_q0c.Q i r := by
 refine z4b (Φ := C_q0c.F) (Q := C_q0c.Q) ?_
 intro g hg i r h
 cases i with
 | k_q0c a0 a1 a2 a3c0 => exact z59 (fun a0 a1 a2 a3c0 => g (.k_q0c a0 a1 a2 a3c0)) (fun a0 a1 a2 a3c0 r hr => hg (.k_q0c a0 a1 a2 a3c0) r hr) a0 a1 a2 a3c0 r h
theorem Z2l (a0 : (List S_api_Step)) (a1 a2 : V) (a3c0 r : (List S_api_Edit)) (h : zaz a0 a1 a2 a3c0 = some r) : z7n Tryz.prog 45 [(PV.sl none 83 3 (List.map z03 a0)), (ofV a1), (ofV a2), (PV.fn (.func 46) [] [(PV.rf 0 0)])] [.box 46 [(PV.sl (some 1) 53 3 (List.map z06 a3c0))], .arr 53 (a3c0).length] (PV.tup []) [.box 46 [(PV.sl (some 1) 53 3 (List.map z06 r))], .arr 53 (r).length] := C_q0c.sound (.k_q0c a0 a1 a2 a3c0) r h
noncomputable def zp1 (a0 a1 : V) : Option ((List S_api_Edit) × Int) :=
 (zd5 a0).bind fun x1 =>
 bif (x1.2 != 0) then (
 some ([], x1.2)
 ) else (
 (zd5 a1).bind fun x3 =>
 bif (x3.2 != 0) then (
 some ([], x3.2)
 ) else (
 (zaz ([]) a0 a1 ([] : (List S_api_Edit))).bind fun x5 =>
 some (x5, 0)
 )
 )
theorem Z1x (a0 a1 : V) (r : ((List S_api_Edit) × Int)) (h : zp1 a0 a1 = some r) : z0k Tryz.prog 19 [(ofV a0), (ofV a1)] (PV.tup [(PV.sl none 53 3 (List.map z06 r.1)), (I64 r.2)]) := by
 unfold zp1 at h
 refine z0e Tryz.func19 rfl Tryz.ntmps19 Tryz.results19 rfl (z0i ?_)
 change BW _ _ _ ⟨[(0, (ofV a0)), (1, (ofV a1))], [], _⟩ _
 refine bR ?_
 refine sX ?_
 refine eX ?_
 refine z0b ?_
 refine bR ?_
 refine sX ?_
 obtain ⟨x1, hx1, h⟩ := obind h
 refine sS rfl rfl rfl (z05 rfl zn8 rfl (wkr .nil) ⟨(ids_V a0), trivial⟩ (zlr a0 x1 hx1) (z00 rfl (z00 rfl z02))) ?_
 iterate 4 refine sX ?_
 refine eX ?_
 refine bR ?_
 refine sX ?_
 refine eX ?_
 refine cX h rfl ?_ ?_
 intro hc2 h
 refine bR ?_
 iterate 2 refine sX ?_
 refine eX ?_
 obtain rfl := eI h; exact z04 ⟨_, rfl, z0f (y := (PV.tup [(PV.sl none 53 3 (List.map z06 [])), (I64 x1.2)])) (Wk.tup (.cons Wk.nil (wkr .nil))) (z00 (z07 z08 ([])) (z00 rfl z02)) ⟨rfl, rfl⟩⟩
 intro hc2 h
 refine z09 ?_
 refine cBx ?_
 refine z0b ?_
 refine bR ?_
 refine sX ?_
 obtain ⟨x3, hx3, h⟩ := obind h
 refine sS rfl rfl rfl (z05 rfl zn8 rfl (wkr .nil) ⟨(ids_V a1), trivial⟩ (zlr a1 x3 hx3) (z00 rfl (z00 rfl z02))) ?_
 iterate 4 refine sX ?_
 refine eX ?_
 refine bR ?_
 refine sX ?_
 refine eX ?_
 refine cX h rfl ?_ ?_
 intro hc4 h
 refine bR ?_
 iterate 2 refine sX ?_
 refine eX ?_
 obtain rfl := eI h; exact z04 ⟨_, rfl, z0f (y := (PV.tup [(PV.sl none 53 3 (List.map z06 [])), (I64 x3.2)])) (Wk.tup (.cons Wk.nil (wkr .nil))) (z00 (z07 z08 ([])) (z00 rfl z02)) ⟨rfl, rfl⟩⟩
 intro hc4 h
 refine z09 ?_
 refine cBx ?_
 refine bR ?_
 refine sS rfl rfl rfl (z1t zvd rfl) (z0d ?_)
 refine cBx ?_
 refine z0b ?_
 refine zr3 (s := ⟨_, _, _⟩) 0 0 53 (sz := 3) rfl rfl rfl ?_
 refine z0g ?_
 iterate 2 refine sX ?_
 refine sS rfl rfl rfl (zdv rfl rfl rfl) ?_
 obtain ⟨x5, hx5, h⟩ := obind h
 refine sS rfl rfl rfl (Op1.cast (y := (PV.tup [])) (H'' := [.box 46 [(PV.sl (some 1) 53 3 (List.map z06 x5))], .arr 53 (x5).length]) (z41 [0, 1] (.func rfl) zxv rfl (.cons Wk.nil (wkr (wkr (wkr .nil)))) rfl (.cons rfl (.box (.cons (.row rfl (z1a z08 ([] : (List S_api_Edit)))) .nil)) (.cons rfl .arr .nil)) (.cons (.same (z07 z01 ([]))) (.cons (.same (ids_V a0)) (.cons (.same (ids_V a1)) (.cons (.fn (.cons (.rf rfl) .nil)) .nil)))) (Z2l ([]) a0 a1 ([] : (List S_api_Edit)) x5 hx5) (.same z02) (.cons (.box (.cons (.row rfl (z1a z08 x5)) .nil)) (.cons .arr .nil)) rfl) rfl rfl) (z0d ?_)
 refine cBx ?_
 refine bR ?_
 iterate 2 refine sX ?_
 refine eX ?_
 obtain rfl := eI h; exact z04 ⟨_, rfl, z0f (y := (PV.tup [(PV.sl none 53 3 (List.map z06 x5)), (I64 0)])) (Wk.tup (.cons Wk.tok (wkr .nil))) (z00 (z07 z08 x5) (z00 rfl z02)) ⟨rfl, rfl⟩⟩
noncomputable def zmi (a0 : (List (Str × V))) (a1 : S_api_Step) : Option (List (Str × V)) :=
 (zin a0 a1.f_Name).bind fun x1 =>
 (zmp a0).bind fun x2 =>
 (zy0 x2 x1.1 (IntKind.i64.wrap (x1.1 + 1))).bind fun x3 =>
 some x3
theorem zzb (a0 : (List (Str × V))) (a1 : S_api_Step) (r : (List (Str × V))) (h : zmi a0 a1 = some r) : z0k Tryz.prog 91 [(PV.sl none 69 2 (List.map ofFld a0)), (PV.pt 83 (z03 a1) 0)] (PV.sl none 69 2 (List.map ofFld r)) := by
 unfold zmi at h
 refine z0e Tryz.func91 rfl Tryz.ntmps91 Tryz.results91 rfl (z0i ?_)
 change BW _ _ _ ⟨[(0, (PV.sl none 69 2 (List.map ofFld a0))), (1, (PV.pt 83 (z03 a1) 0))], [], _⟩ _
 refine bR ?_
 refine sS rfl rfl rfl ((z7u (e := 69) (sz := 2) (.inl rfl) rfl).cast (y := (PV.rs 0 0 (([] : (List (Str × V)))).length 69 2)) (H'' := [rowM ofFld 69 ([] : (List (Str × V)))]) rfl rfl) (z0d ?_)
 refine cBx ?_
 refine bR ?_
 iterate 3 refine sX ?_
 obtain ⟨x1, hx1, h⟩ := obind h
 refine sS rfl rfl rfl (z05 rfl zxp rfl (wkr (wkr .nil)) ⟨(z07 z0s a0), ⟨rfl, trivial⟩⟩ (zw6 a0 a1.f_Name x1 hx1) (z00 rfl (z00 rfl z02))) ?_
 iterate 4 refine sX ?_
 refine eX ?_
 refine bR ?_
 refine sX ?_
 obtain ⟨x2, hx2, h⟩ := obind h
 refine sS rfl rfl rfl (z78 rfl Z0t rfl (wkr .nil) ⟨(z07 z0s a0), trivial⟩ (zzg a0 x2 hx2) zrr (zet (z56 z0s) (zk4))) ?_
 iterate 3 refine sX ?_
 obtain ⟨x3, hx3, h⟩ := obind h
 refine sS rfl rfl rfl (zka (f := ofFld) (l := x2) Z18 Z3c rfl rfl rfl rfl rfl rfl z7i z7l rfl hx3) ?_
 refine eX ?_
 obtain rfl := eI h; exact z04 ⟨_, rfl, z0f (y := (PV.sl none 69 2 (List.map ofFld x3))) (Wk.refl _) (z07 z0s x3) ⟨rfl, rfl⟩⟩
noncomputable def zgz (a0 : V) (a1 : S_api_Step) : Option V :=
 bif (a0).isList then (
 (zmo ((a0).asList)).bind fun x2 =>
 (zy0 x2 a1.f_Index (IntKind.i64.wrap (a1.f_Index + 1))).bind fun x3 =>
 some (V.list x3)
 ) else (
 bif (a0).isDict then (
 (zmi ((a0).asDict) a1).bind fun x5 =>
 some (V.dict x5)
 ) else (
 bif (a0).isRec then (
 ((a0).asRec).bind fun x7 =>
 (zmi x7.fields a1).bind fun x8 =>
 some (V.record x7.cls x7.ver x8)
 ) else (
 some a0
 )
 )
 )
theorem Z2a (a0 : V) (a1 : S_api_Step) (r : V) (h : zgz a0 a1 = some r) : z0k Tryz.prog 53 [(ofV a0), (z03 a1)] (ofV r) := by
 unfold zgz at h
 refine z0e Tryz.func53 rfl Tryz.ntmps53 Tryz.results53 rfl (z0i ?_)
 change BW _ _ _ ⟨[(0, (ofV a0)), (1, (z03 a1))], [], _⟩ _
 refine bR ?_
 refine sX ?_
 refine eX ?_
 refine z0b ?_
 refine z7m 0 3 (y := (PV.pt 83 (z03 a1) 0)) rfl rfl (Wk.pt (x := .agg [(z0n a1.f_Name), (BO a1.f_At), (I64 a1.f_Index)]) (y := (z03 a1)) (wkr (wkr (wkr .nil)))) ?_
 refine z0g ?_
 refine sS rfl rfl rfl (zdv rfl rfl rfl) ?_
 refine eX ?_
 refine z0b ?_
 refine bR ?_
 refine eX ?_
 refine z0m ?_
 refine cBx ?_
 refine bR ?_
 refine sS rfl rfl rfl (z1u rfl rfl) ?_
 refine sX ?_
 refine eX ?_
 refine cX h rfl ?_ ?_
 intro hc1 h
 refine bR ?_
 refine eX ?_
 refine z0b (z1z 7 [1] [] mo (by kernel_rfl) ?_)
 refine gX ?_
 obtain ⟨x2, hx2, h⟩ := obind h
 refine z9o rfl rfl rfl rfl (z78 rfl Z11 rfl (wkr .nil) ⟨(z07 ids_V ((a0).asList)), trivial⟩ (zzf ((a0).asList) x2 hx2) zrr (zet (z56 ids_V) (zk4))) trivial ?_
 iterate 5 refine gX ?_
 refine z24 ?_
 change AO _ _ _ _ _
 obtain ⟨x3, hx3, h⟩ := obind h
 refine sS rfl rfl rfl (zka (f := ofV) (l := x2) Z17 Z3b rfl rfl rfl rfl rfl rfl csz_V z8l rfl hx3) ?_
 refine sS rfl rfl rfl ((z10 Tryz.underlying67 rfl rfl rfl).wk ((Wk.iface (Wk.refl _)).trans (Wk.eq (z8d _).symm))) ?_
 refine eX ?_
 obtain rfl := eI h; exact z04 ⟨_, rfl, z0f (y := (ofV (V.list x3))) (Wk.refl _) (ids_V (V.list x3)) ⟨rfl, rfl⟩⟩
 intro hc1 h
 refine bR ?_
 refine sS rfl rfl rfl (z2r rfl rfl) ?_
 refine sX ?_
 refine eX ?_
 refine cX h rfl ?_ ?_
 intro hc4 h
 refine bR ?_
 refine eX ?_
 refine bR ?_
 iterate 2 refine sX ?_
 obtain ⟨x5, hx5, h⟩ := obind h
 refine sS rfl rfl rfl (z2j rfl rfl Z0u rfl (wkr (wkr .nil)) ⟨(z07 z0s ((a0).asDict)), ⟨(z01 a1), trivial⟩⟩ (zzb ((a0).asDict) a1 x5 hx5) (z07 z0s x5)) ?_
 refine sS rfl rfl rfl ((z10 Tryz.underlying71 rfl rfl rfl).wk ((Wk.iface (Wk.refl _)).trans (Wk.eq (z5n _).symm))) ?_
 refine eX ?_
 obtain rfl := eI h; exact z04 ⟨_, rfl, z0f (y := (ofV (V.dict x5))) (Wk.refl _) (ids_V (V.dict x5)) ⟨rfl, rfl⟩⟩
 intro hc4 h
 refine bR ?_
 refine sS rfl rfl rfl (z39 rfl rfl) ?_
 refine sX ?_
 refine eX ?_
 refine cX h rfl ?_ ?_
 intro hc6 h
 refine bR ?_
 refine eX ?_
 refine z0b (z1z 14 [] [] mo (by kernel_rfl) ?_)
 refine gX ?_
 obtain ⟨x7, hx7, h⟩ := obind h
 refine z1o rfl rfl rfl rfl (fun H hp => z1k rfl rfl hx7) ?_
 iterate 3 refine gX ?_
 refine z1o rfl rfl rfl rfl (fun H hp => z1k rfl rfl hx7) ?_
 iterate 4 refine gX ?_
 refine z1o rfl rfl rfl rfl (fun H hp => z1k rfl rfl hx7) ?_
 iterate 2 refine gX ?_
 obtain ⟨x8, hx8, h⟩ := obind h
 refine z1o rfl rfl rfl rfl (fun H hp => z2j rfl rfl Z0u rfl (wkr (wkr .nil)) ⟨(z07 z0s x7.fields), ⟨(z01 a1), trivial⟩⟩ (zzb x7.fields a1 x8 hx8) (z07 z0s x8)) ?_
 refine z24 ?_
 change AO _ _ _ _ _
 refine sS rfl rfl rfl (z1i (cs := [(z0n x7.cls), (I64 x7.ver), (PV.sl none 69 2 (List.map ofFld x8))]) zlo zhl rfl rfl rfl rfl) ?_
 refine sX ?_
 refine sS rfl rfl rfl (z10 Tryz.underlying73 rfl rfl rfl) ?_
 refine eX ?_
 refine z7m 1 4 (y := (ofV (V.record x7.cls x7.ver x8))) rfl rfl ((Wk.iface (Wk.pt (x := .agg [(z0n x7.cls), (I64 x7.ver), (PV.sl none 69 2 (List.map ofFld x8))]) (y := zh8 (Rec.mk x7.cls x7.ver x8)) (wkr (wkr (wkr .nil))))).trans (Wk.eq (zhb (some (Rec.mk x7.cls x7.ver x8))).symm)) ?_
 obtain rfl := eI h; exact z04 ⟨_, rfl, z0f (y := (ofV (V.record x7.cls x7.ver x8))) (Wk.refl _) (ids_V (V.record x7.cls x7.ver x8)) ⟨rfl, rfl⟩⟩
 intro hc6 h
 refine z09 ?_
 refine cBx ?_
 refine bR ?_
 refine sX ?_
 refine eX ?_
 obtain rfl := eI h; exact z04 ⟨_, rfl, z0f (y := (ofV a0)) (Wk.refl _) (ids_V a0) ⟨rfl, rfl⟩⟩
end Go.Proofs.YthidgpcbnieleaaGreatDoor
