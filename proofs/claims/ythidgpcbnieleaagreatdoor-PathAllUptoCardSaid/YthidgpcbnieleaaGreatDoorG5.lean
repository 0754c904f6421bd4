/- Pure functions, and that calls answer as they say. -/
import Derived.Test.YthidgpcbnieleaaGreatDoorG4
namespace Go.Proofs.YthidgpcbnieleaaGreatDoor
open Go Aw
set_option linter.unusedVariables false
set_option linter.unusedSimpArgs false
set_option maxRecDepth 20000
set_option maxHeartbeats 2000000
variable {ι : Type} {ρ : ι → Type}
noncomputable def z4w (a0 : (List S_api_Step)) (a2 : V) (g3 : Int → (List S_api_Edit) → Option (List S_api_Edit)) (s17 : Int) (s18 : (List S_api_Edit)) : Option (List S_api_Edit) :=
 bif (decide (s17 < ((((a2).asList).length : Nat) : Int))) then (
 (zb2 (S_api_Step.mk [] true s17) a0).bind fun x20 =>
 (z7g ((a2).asList) s17).bind fun x21 =>
 (zdw 2 x20 x21 s18).bind fun x22 =>
 g3 (IntKind.i64.wrap (s17 + 1)) x22
 ) else (
 some s18
 )
theorem znp (g3 : OF ρ → Int → (List S_api_Edit) → Option (List S_api_Edit)) (h_g3 : ∀ y0 y1, CM (fun G => g3 G y0 y1)) (a0 : (List S_api_Step)) (a2 : V) (s17 : Int) (s18 : (List S_api_Edit)) : CM (fun G : OF ρ => z4w a0 a2 (g3 G) s17 s18) := by
 simp only [z4w]
 repeat (first | exact z0c | exact h_g3 _ _ | refine z11 ?_ ?_ | refine z12 ?_ (fun _ => ?_))
noncomputable def zcu (a0 : (List S_api_Step)) (a2 : V) (s17 : Int) (s18 : (List S_api_Edit)) : Option (List S_api_Edit) :=
 z2w (ι := (Int × (List S_api_Edit))) (ρ := fun _ => (List S_api_Edit)) (fun g i => z4w a0 a2 (fun s17 s18 => g (s17, s18)) i.1 i.2) (s17, s18)
theorem z9g (a0 : (List S_api_Step)) (a2 : V) (s17 : Int) (s18 : (List S_api_Edit)) : zcu a0 a2 s17 s18 = z4w a0 a2 (zcu a0 a2) s17 s18 :=
 z19 (ι := (Int × (List S_api_Edit))) (ρ := fun _ => (List S_api_Edit)) (Φ := fun g i => z4w a0 a2 (fun s17 s18 => g (s17, s18)) i.1 i.2) (fun i => znp (ι := (Int × (List S_api_Edit))) (ρ := fun _ => (List S_api_Edit)) (fun g => (fun s17 s18 => g (s17, s18))) (fun _ _ => z17) a0 a2 i.1 i.2) (s17, s18)
noncomputable def z4x (a0 : (List S_api_Step)) (a1 a2 : V) (g2 : Int → (List S_api_Edit) → Option (List S_api_Edit)) (s12 : Int) (s13 : (List S_api_Edit)) : Option (List S_api_Edit) :=
 bif (decide (s12 ≥ ((((a2).asList).length : Nat) : Int))) then (
 (zb2 (S_api_Step.mk [] true s12) a0).bind fun x15 =>
 (zdw 3 x15 V.nil s13).bind fun x16 =>
 g2 (IntKind.i64.wrap (s12 - 1)) x16
 ) else (
 zcu a0 a2 ((((a1).asList).length : Nat) : Int) s13
 )
theorem znq (g2 : OF ρ → Int → (List S_api_Edit) → Option (List S_api_Edit)) (h_g2 : ∀ y0 y1, CM (fun G => g2 G y0 y1)) (a0 : (List S_api_Step)) (a1 a2 : V) (s12 : Int) (s13 : (List S_api_Edit)) : CM (fun G : OF ρ => z4x a0 a1 a2 (g2 G) s12 s13) := by
 simp only [z4x]
 repeat (first | exact z0c | exact h_g2 _ _ | apply q0k_l3_cm | refine z11 ?_ ?_ | refine z12 ?_ (fun _ => ?_) | intro _ | assumption)
noncomputable def zcv (a0 : (List S_api_Step)) (a1 a2 : V) (s12 : Int) (s13 : (List S_api_Edit)) : Option (List S_api_Edit) :=
 z2w (ι := (Int × (List S_api_Edit))) (ρ := fun _ => (List S_api_Edit)) (fun g i => z4x a0 a1 a2 (fun s12 s13 => g (s12, s13)) i.1 i.2) (s12, s13)
theorem z9h (a0 : (List S_api_Step)) (a1 a2 : V) (s12 : Int) (s13 : (List S_api_Edit)) : zcv a0 a1 a2 s12 s13 = z4x a0 a1 a2 (zcv a0 a1 a2) s12 s13 :=
 z19 (ι := (Int × (List S_api_Edit))) (ρ := fun _ => (List S_api_Edit)) (Φ := fun g i => z4x a0 a1 a2 (fun s12 s13 => g (s12, s13)) i.1 i.2) (fun i => znq (ι := (Int × (List S_api_Edit))) (ρ := fun _ => (List S_api_Edit)) (fun g => (fun s12 s13 => g (s12, s13))) (fun _ _ => z17) a0 a1 a2 i.1 i.2) (s12, s13)
noncomputable def z43 (r_q0k : (List S_api_Step) → V → V → (List S_api_Edit) → Option (List S_api_Edit)) (a0 : (List S_api_Step)) (a1 a2 : V) (g1 : Int → (List S_api_Edit) → Option (List S_api_Edit)) (s5 : Int) (s6 : (List S_api_Edit)) : Option (List S_api_Edit) :=
 bif (decide (s5 < (if ((((a2).asList).length : Nat) : Int) < ((((a1).asList).length : Nat) : Int) then ((((a2).asList).length : Nat) : Int) else ((((a1).asList).length : Nat) : Int)))) then (
 (zb2 (S_api_Step.mk [] true s5) a0).bind fun x8 =>
 (z7g ((a1).asList) s5).bind fun x9 =>
 (z7g ((a2).asList) s5).bind fun x10 =>
 (r_q0k x8 x9 x10 s6).bind fun x11 =>
 g1 (IntKind.i64.wrap (s5 + 1)) x11
 ) else (
 zcv a0 a1 a2 (IntKind.i64.wrap (((((a1).asList).length : Nat) : Int) - 1)) s6
 )
theorem zav (r_q0k : OF ρ → (List S_api_Step) → V → V → (List S_api_Edit) → Option (List S_api_Edit)) (h_r_q0k : ∀ y0 y1 y2 y3, CM (fun G => r_q0k G y0 y1 y2 y3)) (g1 : OF ρ → Int → (List S_api_Edit) → Option (List S_api_Edit)) (h_g1 : ∀ y0 y1, CM (fun G => g1 G y0 y1)) (a0 : (List S_api_Step)) (a1 a2 : V) (s5 : Int) (s6 : (List S_api_Edit)) : CM (fun G : OF ρ => z43 (r_q0k G) a0 a1 a2 (g1 G) s5 s6) := by
 simp only [z43]
 repeat (first | exact z0c | exact h_r_q0k _ _ _ _ | exact h_g1 _ _ | apply q0k_l2_cm | refine z11 ?_ ?_ | refine z12 ?_ (fun _ => ?_) | intro _ | assumption)
noncomputable def zbl (r_q0k : (List S_api_Step) → V → V → (List S_api_Edit) → Option (List S_api_Edit)) (a0 : (List S_api_Step)) (a1 a2 : V) (s5 : Int) (s6 : (List S_api_Edit)) : Option (List S_api_Edit) :=
 z2w (ι := (Int × (List S_api_Edit))) (ρ := fun _ => (List S_api_Edit)) (fun g i => z43 r_q0k a0 a1 a2 (fun s5 s6 => g (s5, s6)) i.1 i.2) (s5, s6)
theorem z7r (r_q0k : (List S_api_Step) → V → V → (List S_api_Edit) → Option (List S_api_Edit)) (a0 : (List S_api_Step)) (a1 a2 : V) (s5 : Int) (s6 : (List S_api_Edit)) : zbl r_q0k a0 a1 a2 s5 s6 = z43 r_q0k a0 a1 a2 (zbl r_q0k a0 a1 a2) s5 s6 :=
 z19 (ι := (Int × (List S_api_Edit))) (ρ := fun _ => (List S_api_Edit)) (Φ := fun g i => z43 r_q0k a0 a1 a2 (fun s5 s6 => g (s5, s6)) i.1 i.2) (fun i => zav (ι := (Int × (List S_api_Edit))) (ρ := fun _ => (List S_api_Edit)) (fun _ => r_q0k) (fun _ _ _ _ => z0c) (fun g => (fun s5 s6 => g (s5, s6))) (fun _ _ => z17) a0 a1 a2 i.1 i.2) (s5, s6)
theorem zpx (r_q0k : OF ρ → (List S_api_Step) → V → V → (List S_api_Edit) → Option (List S_api_Edit)) (h_r_q0k : ∀ y0 y1 y2 y3, CM (fun G => r_q0k G y0 y1 y2 y3)) (a0 : (List S_api_Step)) (a1 a2 : V) (s5 : Int) (s6 : (List S_api_Edit)) : CM (fun G : OF ρ => zbl (r_q0k G) a0 a1 a2 s5 s6) :=
 z40 (κ := (Int × (List S_api_Edit))) (τ := fun _ => (List S_api_Edit)) (Φ := fun G g i => z43 (r_q0k G) a0 a1 a2 (fun s5 s6 => g (s5, s6)) i.1 i.2) (fun g i => zav r_q0k h_r_q0k (fun _ => (fun s5 s6 => g (s5, s6))) (fun _ _ => z0c) a0 a1 a2 i.1 i.2) (fun G i => zav (ι := (Int × (List S_api_Edit))) (ρ := fun _ => (List S_api_Edit)) (fun _ => r_q0k G) (fun _ _ _ _ => z0c) (fun g => (fun s5 s6 => g (s5, s6))) (fun _ _ => z17) a0 a1 a2 i.1 i.2) (s5, s6)
noncomputable def zcw (r_q0k : (List S_api_Step) → V → V → (List S_api_Edit) → Option (List S_api_Edit)) (g1 : Int → Int → (List S_api_Edit) → Option (List S_api_Edit)) (a0 : (List S_api_Step)) (x23 : ((List (Str × V)) × (List (Str × V)) × Bool)) (s26 s27 : Int) (s28 : (List S_api_Edit)) (s36 : Bool) : Option (List S_api_Edit) :=
 bif s36 then (
 (z7g x23.2.1 s27).bind fun x38 =>
 (zb2 (S_api_Step.mk x38.1 false 0) a0).bind fun x39 =>
 (z7g x23.2.1 s27).bind fun x40 =>
 (zdw 2 x39 x40.2 s28).bind fun x41 =>
 g1 s26 (IntKind.i64.wrap (s27 + 1)) x41
 ) else (
 (z7g x23.2.1 s27).bind fun x42 =>
 (zb2 (S_api_Step.mk x42.1 false 0) a0).bind fun x43 =>
 (z7g x23.1 s26).bind fun x44 =>
 (z7g x23.2.1 s27).bind fun x45 =>
 (r_q0k x43 x44.2 x45.2 s28).bind fun x46 =>
 g1 (IntKind.i64.wrap (s26 + 1)) (IntKind.i64.wrap (s27 + 1)) x46
 )
theorem zpy (r_q0k : OF ρ → (List S_api_Step) → V → V → (List S_api_Edit) → Option (List S_api_Edit)) (h_r_q0k : ∀ y0 y1 y2 y3, CM (fun G => r_q0k G y0 y1 y2 y3)) (g1 : OF ρ → Int → Int → (List S_api_Edit) → Option (List S_api_Edit)) (h_g1 : ∀ y0 y1 y2, CM (fun G => g1 G y0 y1 y2)) (a0 : (List S_api_Step)) (x23 : ((List (Str × V)) × (List (Str × V)) × Bool)) (s26 s27 : Int) (s28 : (List S_api_Edit)) (s36 : Bool) : CM (fun G : OF ρ => zcw (r_q0k G) (g1 G) a0 x23 s26 s27 s28 s36) := by
 simp only [zcw]
 repeat (first | exact z0c | exact h_r_q0k _ _ _ _ | exact h_g1 _ _ _ | refine z11 ?_ ?_ | refine z12 ?_ (fun _ => ?_))
noncomputable def zbm (r_q0k : (List S_api_Step) → V → V → (List S_api_Edit) → Option (List S_api_Edit)) (g1 : Int → Int → (List S_api_Edit) → Option (List S_api_Edit)) (a0 : (List S_api_Step)) (x23 : ((List (Str × V)) × (List (Str × V)) × Bool)) (s26 s27 : Int) (s28 : (List S_api_Edit)) (s31 : Bool) : Option (List S_api_Edit) :=
 bif s31 then (
 (z7g x23.1 s26).bind fun x33 =>
 (zb2 (S_api_Step.mk x33.1 false 0) a0).bind fun x34 =>
 (zdw 3 x34 V.nil s28).bind fun x35 =>
 g1 (IntKind.i64.wrap (s26 + 1)) s27 x35
 ) else (
 bif (s26 == (((x23.1).length : Nat) : Int)) then (
 zcw r_q0k g1 a0 x23 s26 s27 s28 true
 ) else (
 (z7g x23.2.1 s27).bind fun x48 =>
 (z7g x23.1 s26).bind fun x49 =>
 zcw r_q0k g1 a0 x23 s26 s27 s28 (Op.bytesLess x48.1 x49.1)
 )
 )
theorem zpz (r_q0k : OF ρ → (List S_api_Step) → V → V → (List S_api_Edit) → Option (List S_api_Edit)) (h_r_q0k : ∀ y0 y1 y2 y3, CM (fun G => r_q0k G y0 y1 y2 y3)) (g1 : OF ρ → Int → Int → (List S_api_Edit) → Option (List S_api_Edit)) (h_g1 : ∀ y0 y1 y2, CM (fun G => g1 G y0 y1 y2)) (a0 : (List S_api_Step)) (x23 : ((List (Str × V)) × (List (Str × V)) × Bool)) (s26 s27 : Int) (s28 : (List S_api_Edit)) (s31 : Bool) : CM (fun G : OF ρ => zbm (r_q0k G) (g1 G) a0 x23 s26 s27 s28 s31) := by
 simp only [zbm]
 repeat (first | exact z0c | exact h_r_q0k _ _ _ _ | exact h_g1 _ _ _ | apply zpy | refine z11 ?_ ?_ | refine z12 ?_ (fun _ => ?_) | intro _ | assumption)
noncomputable def zcx (r_q0k : (List S_api_Step) → V → V → (List S_api_Edit) → Option (List S_api_Edit)) (g1 : Int → Int → (List S_api_Edit) → Option (List S_api_Edit)) (a0 : (List S_api_Step)) (x23 : ((List (Str × V)) × (List (Str × V)) × Bool)) (s26 s27 : Int) (s28 : (List S_api_Edit)) (s29 : Bool) : Option (List S_api_Edit) :=
 bif s29 then (
 bif (s27 == (((x23.2.1).length : Nat) : Int)) then (
 zbm r_q0k g1 a0 x23 s26 s27 s28 true
 ) else (
 bif (decide (s26 < (((x23.1).length : Nat) : Int))) then (
 (z7g x23.1 s26).bind fun x52 =>
 (z7g x23.2.1 s27).bind fun x53 =>
 zbm r_q0k g1 a0 x23 s26 s27 s28 (Op.bytesLess x52.1 x53.1)
 ) else (
 zbm r_q0k g1 a0 x23 s26 s27 s28 false
 )
 )
 ) else (
 some s28
 )
theorem zq0 (r_q0k : OF ρ → (List S_api_Step) → V → V → (List S_api_Edit) → Option (List S_api_Edit)) (h_r_q0k : ∀ y0 y1 y2 y3, CM (fun G => r_q0k G y0 y1 y2 y3)) (g1 : OF ρ → Int → Int → (List S_api_Edit) → Option (List S_api_Edit)) (h_g1 : ∀ y0 y1 y2, CM (fun G => g1 G y0 y1 y2)) (a0 : (List S_api_Step)) (x23 : ((List (Str × V)) × (List (Str × V)) × Bool)) (s26 s27 : Int) (s28 : (List S_api_Edit)) (s29 : Bool) : CM (fun G : OF ρ => zcx (r_q0k G) (g1 G) a0 x23 s26 s27 s28 s29) := by
 simp only [zcx]
 repeat (first | exact z0c | exact h_r_q0k _ _ _ _ | exact h_g1 _ _ _ | apply zpz | refine z11 ?_ ?_ | refine z12 ?_ (fun _ => ?_) | intro _ | assumption)
noncomputable def z5s (r_q0k : (List S_api_Step) → V → V → (List S_api_Edit) → Option (List S_api_Edit)) (a0 : (List S_api_Step)) (x23 : ((List (Str × V)) × (List (Str × V)) × Bool)) (g1 : Int → Int → (List S_api_Edit) → Option (List S_api_Edit)) (s26 s27 : Int) (s28 : (List S_api_Edit)) : Option (List S_api_Edit) :=
 bif (decide (s26 < (((x23.1).length : Nat) : Int))) then (
 zcx r_q0k g1 a0 x23 s26 s27 s28 true
 ) else (
 zcx r_q0k g1 a0 x23 s26 s27 s28 (decide (s27 < (((x23.2.1).length : Nat) : Int)))
 )
theorem zau (r_q0k : OF ρ → (List S_api_Step) → V → V → (List S_api_Edit) → Option (List S_api_Edit)) (h_r_q0k : ∀ y0 y1 y2 y3, CM (fun G => r_q0k G y0 y1 y2 y3)) (g1 : OF ρ → Int → Int → (List S_api_Edit) → Option (List S_api_Edit)) (h_g1 : ∀ y0 y1 y2, CM (fun G => g1 G y0 y1 y2)) (a0 : (List S_api_Step)) (x23 : ((List (Str × V)) × (List (Str × V)) × Bool)) (s26 s27 : Int) (s28 : (List S_api_Edit)) : CM (fun G : OF ρ => z5s (r_q0k G) a0 x23 (g1 G) s26 s27 s28) := by
 simp only [z5s]
 repeat (first | exact z0c | exact h_r_q0k _ _ _ _ | exact h_g1 _ _ _ | apply zq0 | refine z11 ?_ ?_ | refine z12 ?_ (fun _ => ?_) | intro _ | assumption)
noncomputable def zej (r_q0k : (List S_api_Step) → V → V → (List S_api_Edit) → Option (List S_api_Edit)) (a0 : (List S_api_Step)) (x23 : ((List (Str × V)) × (List (Str × V)) × Bool)) (s26 s27 : Int) (s28 : (List S_api_Edit)) : Option (List S_api_Edit) :=
 z2w (ι := (Int × Int × (List S_api_Edit))) (ρ := fun _ => (List S_api_Edit)) (fun g i => z5s r_q0k a0 x23 (fun s26 s27 s28 => g (s26, s27, s28)) i.1 i.2.1 i.2.2) (s26, s27, s28)
theorem zhp (r_q0k : (List S_api_Step) → V → V → (List S_api_Edit) → Option (List S_api_Edit)) (a0 : (List S_api_Step)) (x23 : ((List (Str × V)) × (List (Str × V)) × Bool)) (s26 s27 : Int) (s28 : (List S_api_Edit)) : zej r_q0k a0 x23 s26 s27 s28 = z5s r_q0k a0 x23 (zej r_q0k a0 x23) s26 s27 s28 :=
 z19 (ι := (Int × Int × (List S_api_Edit))) (ρ := fun _ => (List S_api_Edit)) (Φ := fun g i => z5s r_q0k a0 x23 (fun s26 s27 s28 => g (s26, s27, s28)) i.1 i.2.1 i.2.2) (fun i => zau (ι := (Int × Int × (List S_api_Edit))) (ρ := fun _ => (List S_api_Edit)) (fun _ => r_q0k) (fun _ _ _ _ => z0c) (fun g => (fun s26 s27 s28 => g (s26, s27, s28))) (fun _ _ _ => z17) a0 x23 i.1 i.2.1 i.2.2) (s26, s27, s28)
theorem zpw (r_q0k : OF ρ → (List S_api_Step) → V → V → (List S_api_Edit) → Option (List S_api_Edit)) (h_r_q0k : ∀ y0 y1 y2 y3, CM (fun G => r_q0k G y0 y1 y2 y3)) (a0 : (List S_api_Step)) (x23 : ((List (Str × V)) × (List (Str × V)) × Bool)) (s26 s27 : Int) (s28 : (List S_api_Edit)) : CM (fun G : OF ρ => zej (r_q0k G) a0 x23 s26 s27 s28) :=
 z40 (κ := (Int × Int × (List S_api_Edit))) (τ := fun _ => (List S_api_Edit)) (Φ := fun G g i => z5s (r_q0k G) a0 x23 (fun s26 s27 s28 => g (s26, s27, s28)) i.1 i.2.1 i.2.2) (fun g i => zau r_q0k h_r_q0k (fun _ => (fun s26 s27 s28 => g (s26, s27, s28))) (fun _ _ _ => z0c) a0 x23 i.1 i.2.1 i.2.2) (fun G i => zau (ι := (Int × Int × (List S_api_Edit))) (ρ := fun _ => (List S_api_Edit)) (fun _ => r_q0k G) (fun _ _ _ _ => z0c) (fun g => (fun s26 s27 s28 => g (s26, s27, s28))) (fun _ _ _ => z17) a0 x23 i.1 i.2.1 i.2.2) (s26, s27, s28)
noncomputable def zcy (r_q0k : (List S_api_Step) → V → V → (List S_api_Edit) → Option (List S_api_Edit)) (a0 : (List S_api_Step)) (a1 a2 : V) (a3c0 : (List S_api_Edit)) (s3 : Bool) : Option (List S_api_Edit) :=
 bif s3 then (
 zbl r_q0k a0 a1 a2 0 a3c0
 ) else (
 (zz0 a1 a2).bind fun x23 =>
 bif (!x23.2.2) then (
 (zdw 1 a0 a2 a3c0).bind fun x25 =>
 some x25
 ) else (
 zej r_q0k a0 x23 0 0 a3c0
 )
 )
theorem zq1 (r_q0k : OF ρ → (List S_api_Step) → V → V → (List S_api_Edit) → Option (List S_api_Edit)) (h_r_q0k : ∀ y0 y1 y2 y3, CM (fun G => r_q0k G y0 y1 y2 y3)) (a0 : (List S_api_Step)) (a1 a2 : V) (a3c0 : (List S_api_Edit)) (s3 : Bool) : CM (fun G : OF ρ => zcy (r_q0k G) a0 a1 a2 a3c0 s3) := by
 simp only [zcy]
 repeat (first | exact z0c | exact h_r_q0k _ _ _ _ | apply zpx | apply zpw | refine z11 ?_ ?_ | refine z12 ?_ (fun _ => ?_) | intro _ | assumption)
noncomputable def ze1 (r_q0k : (List S_api_Step) → V → V → (List S_api_Edit) → Option (List S_api_Edit)) (a0 : (List S_api_Step)) (a1 a2 : V) (a3c0 : (List S_api_Edit)) : Option (List S_api_Edit) :=
 (zdv a1 a2).bind fun x1 =>
 bif x1 then (
 some a3c0
 ) else (
 bif (a1).isList then (
 zcy r_q0k a0 a1 a2 a3c0 ((a2).isList)
 ) else (
 zcy r_q0k a0 a1 a2 a3c0 false
 )
 )
theorem zwj (r_q0k : OF ρ → (List S_api_Step) → V → V → (List S_api_Edit) → Option (List S_api_Edit)) (h_r_q0k : ∀ y0 y1 y2 y3, CM (fun G => r_q0k G y0 y1 y2 y3)) (a0 : (List S_api_Step)) (a1 a2 : V) (a3c0 : (List S_api_Edit)) : CM (fun G : OF ρ => ze1 (r_q0k G) a0 a1 a2 a3c0) := by
 simp only [ze1]
 repeat (first | exact z0c | exact h_r_q0k _ _ _ _ | apply zq1 | refine z11 ?_ ?_ | refine z12 ?_ (fun _ => ?_) | intro _ | assumption)
inductive C_q0k where
 | k_q0k (a0 : (List S_api_Step)) (a1 : V) (a2 : V) (a3c0 : (List S_api_Edit))
def C_q0k.R : C_q0k → Type
 | .k_q0k _ _ _ _ => (List S_api_Edit)
noncomputable def C_q0k.F (g : ∀ i : C_q0k, Option i.R) : ∀ i : C_q0k, Option i.R
 | .k_q0k a0 a1 a2 a3c0 => ze1 (fun a0 a1 a2 a3c0 => g (.k_q0k a0 a1 a2 a3c0)) a0 a1 a2 a3c0
noncomputable def zbr (a0 : (List S_api_Step)) (a1 a2 : V) (a3c0 : (List S_api_Edit)) : Option (List S_api_Edit) := z2w C_q0k.F (.k_q0k a0 a1 a2 a3c0)
abbrev Z9o := fun (g : ∀ i : C_q0k, Option i.R) a0 a1 a2 a3c0 => g (.k_q0k a0 a1 a2 a3c0)
theorem Z9l (a0 a1 a2 a3c0 : _) : CM (ρ := C_q0k.R) (fun g => g (C_q0k.k_q0k a0 a1 a2 a3c0)) := z17
theorem C_q0k.cm (i : C_q0k) : CM (fun g : (∀ i : C_q0k, Option i.R) => C_q0k.F g i) := by
 cases i with
 | k_q0k a0 a1 a2 a3c0 => exact zwj Z9o Z9l a0 a1 a2 a3c0
theorem zvq (a0 : (List S_api_Step)) (a1 a2 : V) (a3c0 : (List S_api_Edit)) : zbr a0 a1 a2 a3c0 = ze1 zbr a0 a1 a2 a3c0 := z19 C_q0k.cm (.k_q0k a0 a1 a2 a3c0)
def C_q0k.Q : ∀ i : C_q0k, i.R → Prop
 | .k_q0k a0 a1 a2 a3c0 => fun (r : (List S_api_Edit)) => z18 Tryz.prog 45 [(PV.sl none 83 3 (List.map z00 a0)), (ofV a1), (ofV a2), (PV.fn (.func 46) [] [(PV.rf 0 0)])] [.box 46 [(PV.sl (some 1) 53 3 (List.map z0l a3c0))], .arr 53 (a3c0).length] (PV.tup []) [.box 46 [(PV.sl (some 1) 53 3 (List.map z0l r))], .arr 53 (r).length]
theorem z5f (r_q0k : (List S_api_Step) → V → V → (List S_api_Edit) → Option (List S_api_Edit)) (c_q0k : ∀ (a0 : (List S_api_Step)) (a1 : V) (a2 : V) (a3c0 : (List S_api_Edit)) r, r_q0k a0 a1 a2 a3c0 = some r → z18 Tryz.prog 45 [(PV.sl none 83 3 (List.map z00 a0)), (ofV a1), (ofV a2), (PV.fn (.func 46) [] [(PV.rf 0 0)])] [.box 46 [(PV.sl (some 1) 53 3 (List.map z0l a3c0))], .arr 53 (a3c0).length] (PV.tup []) [.box 46 [(PV.sl (some 1) 53 3 (List.map z0l r))], .arr 53 (r).length]) (a0 : (List S_api_Step)) (a1 a2 : V) (a3c0 r : (List S_api_Edit)) (h : ze1 r_q0k a0 a1 a2 a3c0 = some r) : z18 Tryz.prog 45 [(PV.sl none 83 3 (List.map z00 a0)), (ofV a1), (ofV a2), (PV.fn (.func 46) [] [(PV.rf 0 0)])] [.box 46 [(PV.sl (some 1) 53 3 (List.map z0l a3c0))], .arr 53 (a3c0).length] (PV.tup []) [.box 46 [(PV.sl (some 1) 53 3 (List.map z0l r))], .arr 53 (r).length] := by
 unfold ze1 at h
 refine z0d Tryz.func45 rfl Tryz.ntmps45 Tryz.results45 rfl (z0g ?_)
 change BW _ _ _ ⟨[(0, (PV.sl none 83 3 (List.map z00 a0))), (1, (ofV a1)), (2, (ofV a2)), (3, (PV.fn (.func 46) [] [(PV.rf 0 0)]))], [.box 46 [(PV.sl (some 1) 53 3 (List.map z0l a3c0))], .arr 53 (a3c0).length], _⟩ _
 refine bR ?_
 refine eX ?_
 refine z08 ?_
 refine z08 ?_
 refine z3p 2 4 (y := (PV.pt 30 (PV.sl none 83 3 (List.map z00 a0)) 0)) rfl rfl (Wk.pt (x := .agg [(PV.sl none 83 3 (List.map z00 a0))]) (y := (PV.sl none 83 3 (List.map z00 a0))) (wkr .nil)) ?_
 refine z0f ?_
 iterate 2 refine sX ?_
 obtain ⟨x1, hx1, h⟩ := obind h
 refine sS rfl rfl rfl (z06 rfl zop rfl (wkr (wkr .nil)) ⟨(ids_V a1), ⟨(ids_V a2), trivial⟩⟩ (znd a1 a2 x1 hx1) rfl) (z0a ?_)
 refine cBx ?_
 refine cX h rfl ?_ ?_
 intro hc2 h
 obtain rfl := eI h; exact z05 ⟨_, rfl, endR (y := (PV.tup [])) 2 (Wk.refl _) rfl rfl (.tup .nil) (.cons (.box (.cons (.row rfl (z0u z0k a3c0)) .nil)) (.cons .arr .nil)) ⟨rfl, rfl⟩⟩
 intro hc2 h
 refine z07 ?_
 refine cBx ?_
 refine bR ?_
 refine sS rfl rfl rfl (z69 rfl rfl rfl) ?_
 refine eX ?_
 refine bR ?_
 refine sX ?_
 refine sS rfl rfl rfl (z1w rfl rfl) ?_
 iterate 4 refine sX ?_
 refine eX ?_
 refine bR ?_
 refine sX ?_
 refine sS rfl rfl rfl (z1w rfl rfl) ?_
 iterate 4 refine sX ?_
 refine eX ?_
 refine z08 ?_
 refine z2t (ι := Bool) (fun i => zcy r_q0k a0 a1 a2 a3c0 i = some r) (fun i => [(1, (ofV a1)), (2, (ofV a2)), (3, (PV.fn (.func 46) [] [(PV.rf 0 0)])), (4, (PV.pt 30 (PV.sl none 83 3 (List.map z00 a0)) 0)), (8, (PV.fn (.func 79) [] [(PV.pt 30 (PV.sl none 83 3 (List.map z00 a0)) 0)])), (9, (PV.sl none 20 1 (List.map ofV (a1).asList))), (11, (PV.sl none 20 1 (List.map ofV (a2).asList))), (38, (BO i))]) (fun i => [.box 46 [(PV.sl (some 1) 53 3 (List.map z0l a3c0))], .arr 53 (a3c0).length]) ?_ ?_ ?_
 intro i; exact ⟨lbE rfl, ⟨(z09 (ids_V _)), ⟨(z09 (ids_V _)), ⟨(il_fn (z0s (il_rf rfl) z24)), ⟨(z09 (z13 (z03 z02 _))), ⟨(z09 (z4h (z4g (z03 (e := 83) (sz := 3) z02 a0) rfl))), ⟨(z09 (z03 ids_V _)), ⟨(z09 (z03 ids_V _)), ⟨(z09 rfl), trivial⟩⟩⟩⟩⟩⟩⟩⟩, ⟨⟨(z3r rfl (z0u z0k _)), trivial⟩, trivial⟩⟩
 rintro s3 h; replace h : zcy r_q0k a0 a1 a2 a3c0 s3 = some r := h; unfold zcy at h
 change BW _ _ _ ⟨[(1, (ofV a1)), (2, (ofV a2)), (3, (PV.fn (.func 46) [] [(PV.rf 0 0)])), (4, (PV.pt 30 (PV.sl none 83 3 (List.map z00 a0)) 0)), (8, (PV.fn (.func 79) [] [(PV.pt 30 (PV.sl none 83 3 (List.map z00 a0)) 0)])), (9, (PV.sl none 20 1 (List.map ofV (a1).asList))), (11, (PV.sl none 20 1 (List.map ofV (a2).asList))), (38, (BO s3))], [.box 46 [(PV.sl (some 1) 53 3 (List.map z0l a3c0))], .arr 53 (a3c0).length], _⟩ _
 refine cX h rfl ?_ ?_
 intro hc4 h
 refine z08 ?_
 refine bR ?_
 iterate 4 refine sX ?_
 refine sS rfl rfl rfl (zul (args := []) rfl rfl rfl) ?_
 refine eX ?_
 refine z0h ?_
 refine cBx ?_
 unfold zbl at h
 refine z2u (σ := (Int × (List S_api_Edit))) (fun i => [(3, (PV.fn (.func 46) [] [(PV.rf 0 0)])), (8, (PV.fn (.func 79) [] [(PV.pt 30 (PV.sl none 83 3 (List.map z00 a0)) 0)])), (9, (PV.sl none 20 1 (List.map ofV (a1).asList))), (11, (PV.sl none 20 1 (List.map ofV (a2).asList))), (43, (I64 ((if ((((a2).asList).length : Nat) : Int) < ((((a1).asList).length : Nat) : Int) then ((((a2).asList).length : Nat) : Int) else ((((a1).asList).length : Nat) : Int))))), (44, (I64 i.1))]) (fun i => [.box 46 [(PV.sl (some 1) 53 3 (List.map z0l i.2))], .arr 53 (i.2).length]) (0, a3c0) h ?_ ?_ ?_
 intro i; exact ⟨lbE rfl, ⟨(il_fn (z0s (il_rf rfl) z24)), ⟨(z09 (z4h (z4g (z03 (e := 83) (sz := 3) z02 a0) rfl))), ⟨(z09 (z03 ids_V _)), ⟨(z09 (z03 ids_V _)), ⟨(z09 rfl), ⟨(z09 rfl), trivial⟩⟩⟩⟩⟩⟩, ⟨⟨(z3r rfl (z0u z0k _)), trivial⟩, trivial⟩⟩
 exact jN
 rintro g1_f ⟨s5, s6⟩ h; replace h : z43 r_q0k a0 a1 a2 (fun y0 y1 => g1_f (y0, y1)) s5 s6 = some r := h; unfold z43 at h
 change BW _ _ _ ⟨[(3, (PV.fn (.func 46) [] [(PV.rf 0 0)])), (8, (PV.fn (.func 79) [] [(PV.pt 30 (PV.sl none 83 3 (List.map z00 a0)) 0)])), (9, (PV.sl none 20 1 (List.map ofV (a1).asList))), (11, (PV.sl none 20 1 (List.map ofV (a2).asList))), (43, (I64 ((if ((((a2).asList).length : Nat) : Int) < ((((a1).asList).length : Nat) : Int) then ((((a2).asList).length : Nat) : Int) else ((((a1).asList).length : Nat) : Int))))), (44, (I64 s5))], [.box 46 [(PV.sl (some 1) 53 3 (List.map z0l s6))], .arr 53 (s6).length], _⟩ _
 refine bR ?_
 refine eX ?_
 refine z08 ?_
 refine cX h rfl ?_ ?_
 intro hc7 h
 refine z07 ?_
 refine cBx ?_
 refine z08 ?_
 refine z0h ?_
 refine cBx ?_
 refine bR ?_
 refine sX ?_
 refine eX ?_
 refine z1l 13 [] [] mo (by kernel_rfl) ?_
 iterate 2 refine gX ?_
 refine z1p rfl rfl rfl rfl (fun H hp => z1g (cs := [(z0i []), (BO true), (I64 s5)]) z8e z1h rfl rfl rfl rfl) ?_
 obtain ⟨x8, hx8, h⟩ := obind h
 refine z1p rfl rfl rfl rfl (fun H hp => z39 rfl rfl zoo rfl (wkr (wkr .nil)) ⟨(z02 (S_api_Step.mk [] true s5)), ⟨(z13 (z03 z02 a0)), trivial⟩⟩ (zne (S_api_Step.mk [] true s5) a0 x8 hx8) (z03 z02 x8)) ?_
 iterate 2 refine gX ?_
 obtain ⟨x9, hx9, h⟩ := obind h
 refine z1p rfl rfl rfl rfl (fun H hp => z2h Tryz.underlying67 z1t rfl rfl rfl hx9 rfl) ?_
 refine z1p rfl rfl rfl rfl (fun H hp => z1y (y := (ofV x9)) Tryz.underlying20 rfl rfl rfl (by rw [z0t]; rfl)) ?_
 iterate 2 refine gX ?_
 obtain ⟨x10, hx10, h⟩ := obind h
 refine z1p rfl rfl rfl rfl (fun H hp => z2h Tryz.underlying67 z1t rfl rfl rfl hx10 rfl) ?_
 refine z1p rfl rfl rfl rfl (fun H hp => z1y (y := (ofV x10)) Tryz.underlying20 rfl rfl rfl (by rw [z0t]; rfl)) ?_
 refine gX ?_
 refine z1u ?_
 change AO _ _ _ _ _
 obtain ⟨x11, hx11, h⟩ := obind h
 refine sS rfl rfl rfl (Op1.cast (y := (PV.tup [])) (H'' := [.box 46 [(PV.sl (some 1) 53 3 (List.map z0l x11))], .arr 53 (x11).length]) (z1b [0, 1] (.func rfl) Z08 rfl (wkr (wkr (wkr (wkr .nil)))) rfl (.cons rfl (.box (.cons (.row rfl (z0u z0k s6)) .nil)) (.cons rfl .arr .nil)) (.cons (.same (z03 z02 x8)) (.cons (.same (ids_V x9)) (.cons (.same (ids_V x10)) (.cons (.fn (.cons (.rf rfl) .nil)) .nil)))) (c_q0k x8 x9 x10 s6 x11 hx11) (.same z04) (.cons (.box (.cons (.row rfl (z0u z0k x11)) .nil)) (.cons .arr .nil)) rfl) rfl rfl) (z0a ?_)
 refine cBx ?_
 refine z0f ?_
 refine sX ?_
 refine sX (z0a ?_)
 exact ⟨rfl, ((IntKind.i64.wrap (s5 + 1)), x11), h, jN⟩
 intro hc7 h
 refine z1z ?_
 refine cBx ?_
 refine z08 ?_
 refine bR ?_
 iterate 2 refine sX ?_
 refine sS rfl rfl rfl (zfu rfl rfl rfl) ?_
 refine eX ?_
 refine z0h ?_
 refine cBx ?_
 unfold zcv at h
 refine z2u (σ := (Int × (List S_api_Edit))) (fun i => [(3, (PV.fn (.func 46) [] [(PV.rf 0 0)])), (8, (PV.fn (.func 79) [] [(PV.pt 30 (PV.sl none 83 3 (List.map z00 a0)) 0)])), (9, (PV.sl none 20 1 (List.map ofV (a1).asList))), (11, (PV.sl none 20 1 (List.map ofV (a2).asList))), (14, (I64 i.1))]) (fun i => [.box 46 [(PV.sl (some 1) 53 3 (List.map z0l i.2))], .arr 53 (i.2).length]) ((IntKind.i64.wrap (((((a1).asList).length : Nat) : Int) - 1)), s6) h ?_ ?_ ?_
 intro i; exact ⟨lbE rfl, ⟨(il_fn (z0s (il_rf rfl) z24)), ⟨(z09 (z4h (z4g (z03 (e := 83) (sz := 3) z02 a0) rfl))), ⟨(z09 (z03 ids_V _)), ⟨(z09 (z03 ids_V _)), ⟨(z09 rfl), trivial⟩⟩⟩⟩⟩, ⟨⟨(z3r rfl (z0u z0k _)), trivial⟩, trivial⟩⟩
 exact jN
 rintro g2_f ⟨s12, s13⟩ h; replace h : z4x a0 a1 a2 (fun y0 y1 => g2_f (y0, y1)) s12 s13 = some r := h; unfold z4x at h
 change BW _ _ _ ⟨[(3, (PV.fn (.func 46) [] [(PV.rf 0 0)])), (8, (PV.fn (.func 79) [] [(PV.pt 30 (PV.sl none 83 3 (List.map z00 a0)) 0)])), (9, (PV.sl none 20 1 (List.map ofV (a1).asList))), (11, (PV.sl none 20 1 (List.map ofV (a2).asList))), (14, (I64 s12))], [.box 46 [(PV.sl (some 1) 53 3 (List.map z0l s13))], .arr 53 (s13).length], _⟩ _
 refine z08 ?_
 refine bR ?_
 iterate 3 refine sX ?_
 refine eX ?_
 refine cX h rfl ?_ ?_
 intro hc14 h
 refine z07 ?_
 refine cBx ?_
 refine z08 ?_
 refine z0h ?_
 refine cBx ?_
 refine z0f ?_
 iterate 3 refine sX ?_
 refine sS rfl rfl rfl (z1g (cs := [(z0i []), (BO true), (I64 s12)]) z8e z1h rfl rfl rfl rfl) ?_
 obtain ⟨x15, hx15, h⟩ := obind h
 refine sS rfl rfl rfl (z39 rfl rfl zoo rfl (wkr (wkr .nil)) ⟨(z02 (S_api_Step.mk [] true s12)), ⟨(z13 (z03 z02 a0)), trivial⟩⟩ (zne (S_api_Step.mk [] true s12) a0 x15 hx15) (z03 z02 x15)) ?_
 obtain ⟨x16, hx16, h⟩ := obind h
 refine sS rfl rfl rfl (Op1.cast (y := (PV.tup [])) (H'' := [.box 46 [(PV.sl (some 1) 53 3 (List.map z0l x16))], .arr 53 (x16).length]) (z1b [0, 1] (.held rfl rfl) zse rfl (wkr (wkr (.cons (Wk.eq mk_nil.symm) (wkr .nil)))) rfl (.cons rfl (.box (.cons (.row rfl (z0u z0k s13)) .nil)) (.cons rfl .arr .nil)) (.cons (.same rfl) (.cons (.same (z03 z02 x15)) (.cons (.same (ids_V V.nil)) (.cons (.rf rfl) .nil)))) (zpa 3 x15 V.nil s13 x16 hx16) (.same z04) (.cons (.box (.cons (.row rfl (z0u z0k x16)) .nil)) (.cons .arr .nil)) rfl) rfl rfl) (z0a ?_)
 refine cBx ?_
 refine z0f ?_
 refine sX ?_
 refine sS rfl rfl rfl (zfu rfl rfl rfl) ?_
 refine sX (z0a ?_)
 exact ⟨rfl, ((IntKind.i64.wrap (s12 - 1)), x16), h, jN⟩
 intro hc14 h
 refine z1z ?_
 refine cBx ?_
 refine z08 ?_
 refine bR ?_
 iterate 2 refine sX ?_
 refine eX ?_
 refine z0h ?_
 refine cBx ?_
 unfold zcu at h
 refine z2u (σ := (Int × (List S_api_Edit))) (fun i => [(3, (PV.fn (.func 46) [] [(PV.rf 0 0)])), (8, (PV.fn (.func 79) [] [(PV.pt 30 (PV.sl none 83 3 (List.map z00 a0)) 0)])), (11, (PV.sl none 20 1 (List.map ofV (a2).asList))), (15, (I64 i.1))]) (fun i => [.box 46 [(PV.sl (some 1) 53 3 (List.map z0l i.2))], .arr 53 (i.2).length]) (((((a1).asList).length : Nat) : Int), s13) h ?_ ?_ ?_
 intro i; exact ⟨lbE rfl, ⟨(il_fn (z0s (il_rf rfl) z24)), ⟨(z09 (z4h (z4g (z03 (e := 83) (sz := 3) z02 a0) rfl))), ⟨(z09 (z03 ids_V _)), ⟨(z09 rfl), trivial⟩⟩⟩⟩, ⟨⟨(z3r rfl (z0u z0k _)), trivial⟩, trivial⟩⟩
 exact jN
 rintro g3_f ⟨s17, s18⟩ h; replace h : z4w a0 a2 (fun y0 y1 => g3_f (y0, y1)) s17 s18 = some r := h; unfold z4w at h
 change BW _ _ _ ⟨[(3, (PV.fn (.func 46) [] [(PV.rf 0 0)])), (8, (PV.fn (.func 79) [] [(PV.pt 30 (PV.sl none 83 3 (List.map z00 a0)) 0)])), (11, (PV.sl none 20 1 (List.map ofV (a2).asList))), (15, (I64 s17))], [.box 46 [(PV.sl (some 1) 53 3 (List.map z0l s18))], .arr 53 (s18).length], _⟩ _
 refine z08 ?_
 refine bR ?_
 iterate 3 refine sX ?_
 refine eX ?_
 refine cX h rfl ?_ ?_
 intro hc19 h
 refine z07 ?_
 refine cBx ?_
 refine z08 ?_
 refine z0h ?_
 refine cBx ?_
 refine z1l 9 [] [] mo (by kernel_rfl) ?_
 iterate 3 refine gX ?_
 refine z1p rfl rfl rfl rfl (fun H hp => z1g (cs := [(z0i []), (BO true), (I64 s17)]) z8e z1h rfl rfl rfl rfl) ?_
 obtain ⟨x20, hx20, h⟩ := obind h
 refine z1p rfl rfl rfl rfl (fun H hp => z39 rfl rfl zoo rfl (wkr (wkr .nil)) ⟨(z02 (S_api_Step.mk [] true s17)), ⟨(z13 (z03 z02 a0)), trivial⟩⟩ (zne (S_api_Step.mk [] true s17) a0 x20 hx20) (z03 z02 x20)) ?_
 iterate 2 refine gX ?_
 obtain ⟨x21, hx21, h⟩ := obind h
 refine z1p rfl rfl rfl rfl (fun H hp => z2h Tryz.underlying67 z1t rfl rfl rfl hx21 rfl) ?_
 refine z1p rfl rfl rfl rfl (fun H hp => z1y (y := (ofV x21)) Tryz.underlying20 rfl rfl rfl (by rw [z0t]; rfl)) ?_
 refine z1u ?_
 change AO _ _ _ _ _
 obtain ⟨x22, hx22, h⟩ := obind h
 refine sS rfl rfl rfl (Op1.cast (y := (PV.tup [])) (H'' := [.box 46 [(PV.sl (some 1) 53 3 (List.map z0l x22))], .arr 53 (x22).length]) (z1b [0, 1] (.held rfl rfl) zse rfl (wkr (wkr (wkr (wkr .nil)))) rfl (.cons rfl (.box (.cons (.row rfl (z0u z0k s18)) .nil)) (.cons rfl .arr .nil)) (.cons (.same rfl) (.cons (.same (z03 z02 x20)) (.cons (.same (ids_V x21)) (.cons (.rf rfl) .nil)))) (zpa 2 x20 x21 s18 x22 hx22) (.same z04) (.cons (.box (.cons (.row rfl (z0u z0k x22)) .nil)) (.cons .arr .nil)) rfl) rfl rfl) (z0a ?_)
 refine cBx ?_
 refine z0f ?_
 iterate 2 refine sX ?_
 refine sX (z0a ?_)
 exact ⟨rfl, ((IntKind.i64.wrap (s17 + 1)), x22), h, jN⟩
 intro hc19 h
 refine z1z ?_
 refine cBx ?_
 obtain rfl := eI h; exact z05 ⟨_, rfl, endR (y := (PV.tup [])) 2 (Wk.refl _) rfl rfl (.tup .nil) (.cons (.box (.cons (.row rfl (z0u z0k s18)) .nil)) (.cons .arr .nil)) ⟨rfl, rfl⟩⟩
 intro hc4 h
 refine z07 ?_
 refine cBx ?_
 refine bR ?_
 iterate 2 refine sX ?_
 obtain ⟨x23, hx23, h⟩ := obind h
 refine sS rfl rfl rfl (z06 rfl Z6z rfl (wkr (wkr .nil)) ⟨(ids_V a1), ⟨(ids_V a2), trivial⟩⟩ (Z4r a1 a2 x23 hx23) (z01 (z03 z0r x23.1) (z01 (z03 z0r x23.2.1) (z01 rfl z04)))) ?_
 iterate 6 refine sX ?_
 refine eX ?_
 refine z08 ?_
 refine bR ?_
 refine sX ?_
 refine eX ?_
 refine cX h rfl ?_ ?_
 intro hc24 h
 refine bR ?_
 iterate 3 refine sX ?_
 obtain ⟨x25, hx25, h⟩ := obind h
 refine sS rfl rfl rfl (Op1.cast (y := (PV.tup [])) (H'' := [.box 46 [(PV.sl (some 1) 53 3 (List.map z0l x25))], .arr 53 (x25).length]) (z1b [0, 1] (.held rfl rfl) zse rfl (wkr (wkr (wkr (wkr .nil)))) rfl (.cons rfl (.box (.cons (.row rfl (z0u z0k a3c0)) .nil)) (.cons rfl .arr .nil)) (.cons (.same rfl) (.cons (.same (z03 z02 a0)) (.cons (.same (ids_V a2)) (.cons (.rf rfl) .nil)))) (zpa 1 a0 a2 a3c0 x25 hx25) (.same z04) (.cons (.box (.cons (.row rfl (z0u z0k x25)) .nil)) (.cons .arr .nil)) rfl) rfl rfl) (z0a ?_)
 refine cBx ?_
 obtain rfl := eI h; exact z05 ⟨_, rfl, endR (y := (PV.tup [])) 2 (Wk.refl _) rfl rfl (.tup .nil) (.cons (.box (.cons (.row rfl (z0u z0k x25)) .nil)) (.cons .arr .nil)) ⟨rfl, rfl⟩⟩
 intro hc24 h
 refine z07 ?_
 refine cBx ?_
 refine bR ?_
 refine sX ?_
 refine eX ?_
 refine z0h ?_
 refine cBx ?_
 unfold zej at h
 refine z2u (σ := (Int × Int × (List S_api_Edit))) (fun i => [(3, (PV.fn (.func 46) [] [(PV.rf 0 0)])), (8, (PV.fn (.func 79) [] [(PV.pt 30 (PV.sl none 83 3 (List.map z00 a0)) 0)])), (16, (PV.sl none 69 2 (List.map ofFld x23.1))), (17, (PV.sl none 69 2 (List.map ofFld x23.2.1))), (19, (I64 i.1)), (20, (I64 i.2.1))]) (fun i => [.box 46 [(PV.sl (some 1) 53 3 (List.map z0l i.2.2))], .arr 53 (i.2.2).length]) (0, 0, a3c0) h ?_ ?_ ?_
 intro i; exact ⟨lbE rfl, ⟨(il_fn (z0s (il_rf rfl) z24)), ⟨(z09 (z4h (z4g (z03 (e := 83) (sz := 3) z02 a0) rfl))), ⟨(z09 (z03 z0r _)), ⟨(z09 (z03 z0r _)), ⟨(z09 rfl), ⟨(z09 rfl), trivial⟩⟩⟩⟩⟩⟩, ⟨⟨(z3r rfl (z0u z0k _)), trivial⟩, trivial⟩⟩
 exact jN
 rintro g1_f ⟨s26, s27, s28⟩ h; replace h : z5s r_q0k a0 x23 (fun y0 y1 y2 => g1_f (y0, y1, y2)) s26 s27 s28 = some r := h; unfold z5s at h
 change BW _ _ _ ⟨[(3, (PV.fn (.func 46) [] [(PV.rf 0 0)])), (8, (PV.fn (.func 79) [] [(PV.pt 30 (PV.sl none 83 3 (List.map z00 a0)) 0)])), (16, (PV.sl none 69 2 (List.map ofFld x23.1))), (17, (PV.sl none 69 2 (List.map ofFld x23.2.1))), (19, (I64 s26)), (20, (I64 s27))], [.box 46 [(PV.sl (some 1) 53 3 (List.map z0l s28))], .arr 53 (s28).length], _⟩ _
 refine z08 ?_
 refine z2t (ι := Bool) (fun i => zcx r_q0k (fun y0 y1 y2 => g1_f (y0, y1, y2)) a0 x23 s26 s27 s28 i = some r) (fun i => [(3, (PV.fn (.func 46) [] [(PV.rf 0 0)])), (8, (PV.fn (.func 79) [] [(PV.pt 30 (PV.sl none 83 3 (List.map z00 a0)) 0)])), (16, (PV.sl none 69 2 (List.map ofFld x23.1))), (17, (PV.sl none 69 2 (List.map ofFld x23.2.1))), (19, (I64 s26)), (20, (I64 s27)), (117, (BO i))]) (fun i => [.box 46 [(PV.sl (some 1) 53 3 (List.map z0l s28))], .arr 53 (s28).length]) ?_ ?_ ?_
 intro i; exact ⟨lbE rfl, ⟨(il_fn (z0s (il_rf rfl) z24)), ⟨(z09 (z4h (z4g (z03 (e := 83) (sz := 3) z02 a0) rfl))), ⟨(z09 (z03 z0r _)), ⟨(z09 (z03 z0r _)), ⟨(z09 rfl), ⟨(z09 rfl), ⟨(z09 rfl), trivial⟩⟩⟩⟩⟩⟩⟩, ⟨⟨(z3r rfl (z0u z0k _)), trivial⟩, trivial⟩⟩
 rintro s29 h; replace h : zcx r_q0k (fun y0 y1 y2 => g1_f (y0, y1, y2)) a0 x23 s26 s27 s28 s29 = some r := h; unfold zcx at h
 change BW _ _ _ ⟨[(3, (PV.fn (.func 46) [] [(PV.rf 0 0)])), (8, (PV.fn (.func 79) [] [(PV.pt 30 (PV.sl none 83 3 (List.map z00 a0)) 0)])), (16, (PV.sl none 69 2 (List.map ofFld x23.1))), (17, (PV.sl none 69 2 (List.map ofFld x23.2.1))), (19, (I64 s26)), (20, (I64 s27)), (117, (BO s29))], [.box 46 [(PV.sl (some 1) 53 3 (List.map z0l s28))], .arr 53 (s28).length], _⟩ _
 refine cX h rfl ?_ ?_
 intro hc30 h
 refine z07 ?_
 refine cBx ?_
 refine z0h ?_
 refine cBx ?_
 refine z0h ?_
 refine cBx ?_
 refine z2t (ι := Bool) (fun i => zbm r_q0k (fun y0 y1 y2 => g1_f (y0, y1, y2)) a0 x23 s26 s27 s28 i = some r) (fun i => [(3, (PV.fn (.func 46) [] [(PV.rf 0 0)])), (8, (PV.fn (.func 79) [] [(PV.pt 30 (PV.sl none 83 3 (List.map z00 a0)) 0)])), (16, (PV.sl none 69 2 (List.map ofFld x23.1))), (17, (PV.sl none 69 2 (List.map ofFld x23.2.1))), (19, (I64 s26)), (20, (I64 s27)), (142, (BO i))]) (fun i => [.box 46 [(PV.sl (some 1) 53 3 (List.map z0l s28))], .arr 53 (s28).length]) ?_ ?_ ?_
 intro i; exact ⟨lbE rfl, ⟨(il_fn (z0s (il_rf rfl) z24)), ⟨(z09 (z4h (z4g (z03 (e := 83) (sz := 3) z02 a0) rfl))), ⟨(z09 (z03 z0r _)), ⟨(z09 (z03 z0r _)), ⟨(z09 rfl), ⟨(z09 rfl), ⟨(z09 rfl), trivial⟩⟩⟩⟩⟩⟩⟩, ⟨⟨(z3r rfl (z0u z0k _)), trivial⟩, trivial⟩⟩
 rintro s31 h; replace h : zbm r_q0k (fun y0 y1 y2 => g1_f (y0, y1, y2)) a0 x23 s26 s27 s28 s31 = some r := h; unfold zbm at h
 change BW _ _ _ ⟨[(3, (PV.fn (.func 46) [] [(PV.rf 0 0)])), (8, (PV.fn (.func 79) [] [(PV.pt 30 (PV.sl none 83 3 (List.map z00 a0)) 0)])), (16, (PV.sl none 69 2 (List.map ofFld x23.1))), (17, (PV.sl none 69 2 (List.map ofFld x23.2.1))), (19, (I64 s26)), (20, (I64 s27)), (142, (BO s31))], [.box 46 [(PV.sl (some 1) 53 3 (List.map z0l s28))], .arr 53 (s28).length], _⟩ _
 refine cX h rfl ?_ ?_
 intro hc32 h
 refine bR ?_
 iterate 4 refine sX ?_
 obtain ⟨x33, hx33, h⟩ := obind h
 refine sS rfl rfl rfl (z2h Tryz.underlying71 z0z rfl rfl rfl hx33 rfl) ?_
 iterate 2 refine sX ?_
 refine sS rfl rfl rfl (z1g (cs := [(z0i x33.1), (BO false), (I64 0)]) z8e z1h rfl rfl rfl rfl) ?_
 obtain ⟨x34, hx34, h⟩ := obind h
 refine sS rfl rfl rfl (z39 rfl rfl zoo rfl (wkr (wkr .nil)) ⟨(z02 (S_api_Step.mk x33.1 false 0)), ⟨(z13 (z03 z02 a0)), trivial⟩⟩ (zne (S_api_Step.mk x33.1 false 0) a0 x34 hx34) (z03 z02 x34)) ?_
 obtain ⟨x35, hx35, h⟩ := obind h
 refine sS rfl rfl rfl (Op1.cast (y := (PV.tup [])) (H'' := [.box 46 [(PV.sl (some 1) 53 3 (List.map z0l x35))], .arr 53 (x35).length]) (z1b [0, 1] (.held rfl rfl) zse rfl (wkr (wkr (.cons (Wk.eq mk_nil.symm) (wkr .nil)))) rfl (.cons rfl (.box (.cons (.row rfl (z0u z0k s28)) .nil)) (.cons rfl .arr .nil)) (.cons (.same rfl) (.cons (.same (z03 z02 x34)) (.cons (.same (ids_V V.nil)) (.cons (.rf rfl) .nil)))) (zpa 3 x34 V.nil s28 x35 hx35) (.same z04) (.cons (.box (.cons (.row rfl (z0u z0k x35)) .nil)) (.cons .arr .nil)) rfl) rfl rfl) (z0a ?_)
 refine cBx ?_
 refine z0f ?_
 iterate 2 refine sX ?_
 refine sX (z0a ?_)
 exact ⟨rfl, ((IntKind.i64.wrap (s26 + 1)), s27, x35), h, jN⟩
 intro hc32 h
 refine z2t (ι := Bool) (fun i => zcw r_q0k (fun y0 y1 y2 => g1_f (y0, y1, y2)) a0 x23 s26 s27 s28 i = some r) (fun i => [(3, (PV.fn (.func 46) [] [(PV.rf 0 0)])), (8, (PV.fn (.func 79) [] [(PV.pt 30 (PV.sl none 83 3 (List.map z00 a0)) 0)])), (16, (PV.sl none 69 2 (List.map ofFld x23.1))), (17, (PV.sl none 69 2 (List.map ofFld x23.2.1))), (19, (I64 s26)), (20, (I64 s27)), (178, (BO i))]) (fun i => [.box 46 [(PV.sl (some 1) 53 3 (List.map z0l s28))], .arr 53 (s28).length]) ?_ ?_ ?_
 intro i; exact ⟨lbE rfl, ⟨(il_fn (z0s (il_rf rfl) z24)), ⟨(z09 (z4h (z4g (z03 (e := 83) (sz := 3) z02 a0) rfl))), ⟨(z09 (z03 z0r _)), ⟨(z09 (z03 z0r _)), ⟨(z09 rfl), ⟨(z09 rfl), ⟨(z09 rfl), trivial⟩⟩⟩⟩⟩⟩⟩, ⟨⟨(z3r rfl (z0u z0k _)), trivial⟩, trivial⟩⟩
 rintro s36 h; replace h : zcw r_q0k (fun y0 y1 y2 => g1_f (y0, y1, y2)) a0 x23 s26 s27 s28 s36 = some r := h; unfold zcw at h
 change BW _ _ _ ⟨[(3, (PV.fn (.func 46) [] [(PV.rf 0 0)])), (8, (PV.fn (.func 79) [] [(PV.pt 30 (PV.sl none 83 3 (List.map z00 a0)) 0)])), (16, (PV.sl none 69 2 (List.map ofFld x23.1))), (17, (PV.sl none 69 2 (List.map ofFld x23.2.1))), (19, (I64 s26)), (20, (I64 s27)), (178, (BO s36))], [.box 46 [(PV.sl (some 1) 53 3 (List.map z0l s28))], .arr 53 (s28).length], _⟩ _
 refine cX h rfl ?_ ?_
 intro hc37 h
 refine z08 (z1l 14 [] [] mo (by kernel_rfl) ?_)
 iterate 4 refine gX ?_
 obtain ⟨x38, hx38, h⟩ := obind h
 refine z1p rfl rfl rfl rfl (fun H hp => z2h Tryz.underlying71 z0z rfl rfl rfl hx38 rfl) ?_
 iterate 2 refine gX ?_
 refine z1p rfl rfl rfl rfl (fun H hp => z1g (cs := [(z0i x38.1), (BO false), (I64 0)]) z8e z1h rfl rfl rfl rfl) ?_
 obtain ⟨x39, hx39, h⟩ := obind h
 refine z1p rfl rfl rfl rfl (fun H hp => z39 rfl rfl zoo rfl (wkr (wkr .nil)) ⟨(z02 (S_api_Step.mk x38.1 false 0)), ⟨(z13 (z03 z02 a0)), trivial⟩⟩ (zne (S_api_Step.mk x38.1 false 0) a0 x39 hx39) (z03 z02 x39)) ?_
 iterate 2 refine gX ?_
 obtain ⟨x40, hx40, h⟩ := obind h
 refine z1p rfl rfl rfl rfl (fun H hp => z2h Tryz.underlying71 z0z rfl rfl rfl hx40 rfl) ?_
 iterate 2 refine gX ?_
 refine z1u ?_
 change AO _ _ _ _ _
 obtain ⟨x41, hx41, h⟩ := obind h
 refine sS rfl rfl rfl (Op1.cast (y := (PV.tup [])) (H'' := [.box 46 [(PV.sl (some 1) 53 3 (List.map z0l x41))], .arr 53 (x41).length]) (z1b [0, 1] (.held rfl rfl) zse rfl (wkr (wkr (wkr (wkr .nil)))) rfl (.cons rfl (.box (.cons (.row rfl (z0u z0k s28)) .nil)) (.cons rfl .arr .nil)) (.cons (.same rfl) (.cons (.same (z03 z02 x39)) (.cons (.same (ids_V x40.2)) (.cons (.rf rfl) .nil)))) (zpa 2 x39 x40.2 s28 x41 hx41) (.same z04) (.cons (.box (.cons (.row rfl (z0u z0k x41)) .nil)) (.cons .arr .nil)) rfl) rfl rfl) (z0a ?_)
 refine cBx ?_
 refine z0f ?_
 iterate 2 refine sX ?_
 refine sX (z0a ?_)
 exact ⟨rfl, (s26, (IntKind.i64.wrap (s27 + 1)), x41), h, jN⟩
 intro hc37 h
 refine z08 (z1l 19 [] [] mo (by kernel_rfl) ?_)
 iterate 3 refine gX ?_
 obtain ⟨x42, hx42, h⟩ := obind h
 refine z1p rfl rfl rfl rfl (fun H hp => z2h Tryz.underlying71 z0z rfl rfl rfl hx42 rfl) ?_
 iterate 2 refine gX ?_
 refine z1p rfl rfl rfl rfl (fun H hp => z1g (cs := [(z0i x42.1), (BO false), (I64 0)]) z8e z1h rfl rfl rfl rfl) ?_
 obtain ⟨x43, hx43, h⟩ := obind h
 refine z1p rfl rfl rfl rfl (fun H hp => z39 rfl rfl zoo rfl (wkr (wkr .nil)) ⟨(z02 (S_api_Step.mk x42.1 false 0)), ⟨(z13 (z03 z02 a0)), trivial⟩⟩ (zne (S_api_Step.mk x42.1 false 0) a0 x43 hx43) (z03 z02 x43)) ?_
 iterate 2 refine gX ?_
 obtain ⟨x44, hx44, h⟩ := obind h
 refine z1p rfl rfl rfl rfl (fun H hp => z2h Tryz.underlying71 z0z rfl rfl rfl hx44 rfl) ?_
 iterate 4 refine gX ?_
 obtain ⟨x45, hx45, h⟩ := obind h
 refine z1p rfl rfl rfl rfl (fun H hp => z2h Tryz.underlying71 z0z rfl rfl rfl hx45 rfl) ?_
 iterate 3 refine gX ?_
 refine z1u ?_
 change AO _ _ _ _ _
 obtain ⟨x46, hx46, h⟩ := obind h
 refine sS rfl rfl rfl (Op1.cast (y := (PV.tup [])) (H'' := [.box 46 [(PV.sl (some 1) 53 3 (List.map z0l x46))], .arr 53 (x46).length]) (z1b [0, 1] (.func rfl) Z08 rfl (wkr (wkr (wkr (wkr .nil)))) rfl (.cons rfl (.box (.cons (.row rfl (z0u z0k s28)) .nil)) (.cons rfl .arr .nil)) (.cons (.same (z03 z02 x43)) (.cons (.same (ids_V x44.2)) (.cons (.same (ids_V x45.2)) (.cons (.fn (.cons (.rf rfl) .nil)) .nil)))) (c_q0k x43 x44.2 x45.2 s28 x46 hx46) (.same z04) (.cons (.box (.cons (.row rfl (z0u z0k x46)) .nil)) (.cons .arr .nil)) rfl) rfl rfl) (z0a ?_)
 refine cBx ?_
 refine bR ?_
 iterate 2 refine sX ?_
 refine eX ?_
 refine z0f ?_
 iterate 2 refine sX ?_
 refine sX (z0a ?_)
 exact ⟨rfl, ((IntKind.i64.wrap (s26 + 1)), (IntKind.i64.wrap (s27 + 1)), x46), h, jN⟩
 refine z1l 15 [] [] mo (by kernel_rfl) ?_
 iterate 5 refine gX ?_
 refine z7e 183 rfl ?_ ?_
 intro hb47; replace h := z0x hb47 h
 iterate 10 refine mX ?_
 refine z1u ?_
 change AO _ _ _ _ _
 refine nX ?_
 refine sX ?_
 refine sX (z0a ?_)
 exact ⟨rfl, true, h, jN⟩
 intro hb47; replace h := z0y hb47 h
 iterate 2 refine wX ?_
 obtain ⟨x48, hx48, h⟩ := obind h
 refine z7h rfl rfl rfl rfl rfl rfl rfl (fun H hp => z2h Tryz.underlying71 z0z rfl rfl rfl hx48 rfl) ?_
 iterate 4 refine wX ?_
 obtain ⟨x49, hx49, h⟩ := obind h
 refine z7h rfl rfl rfl rfl rfl rfl rfl (fun H hp => z2h Tryz.underlying71 z0z rfl rfl rfl hx49 rfl) ?_
 iterate 2 refine wX ?_
 refine z1u ?_
 change AO _ _ _ _ _
 refine z1q rfl rfl rfl rfl rfl rfl ((z2p (a := x48.1) (b := x49.1) rfl rfl rfl rfl).cast (y := (BO ((Op.bytesLess x48.1 x49.1)))) rfl rfl) ?_
 refine sX ?_
 refine sX (z0a ?_)
 exact ⟨rfl, (Op.bytesLess x48.1 x49.1), h, jN⟩
 refine z1l 20 [] [] mo (by kernel_rfl) ?_
 iterate 5 refine gX ?_
 refine z7e 147 rfl ?_ ?_
 intro hb50; replace h := z0x hb50 h
 iterate 15 refine mX ?_
 refine z1u ?_
 change AO _ _ _ _ _
 iterate 2 refine nX ?_
 refine sX ?_
 refine sX (z0a ?_)
 exact ⟨rfl, true, h, jN⟩
 intro hb50; replace h := z0y hb50 h
 iterate 5 refine wX ?_
 refine z7e 152 rfl ?_ ?_
 intro hb51; replace h := z0x hb51 h
 iterate 2 refine wX ?_
 obtain ⟨x52, hx52, h⟩ := obind h
 refine z7h rfl rfl rfl rfl rfl rfl rfl (fun H hp => z2h Tryz.underlying71 z0z rfl rfl rfl hx52 rfl) ?_
 iterate 4 refine wX ?_
 obtain ⟨x53, hx53, h⟩ := obind h
 refine z7h rfl rfl rfl rfl rfl rfl rfl (fun H hp => z2h Tryz.underlying71 z0z rfl rfl rfl hx53 rfl) ?_
 iterate 2 refine wX ?_
 refine z1u ?_
 change AO _ _ _ _ _
 refine z1q rfl rfl rfl rfl rfl rfl ((z2p (a := x52.1) (b := x53.1) rfl rfl rfl rfl).cast (y := (BO ((Op.bytesLess x52.1 x53.1)))) rfl rfl) ?_
 refine yX ?_
 refine sX ?_
 refine sX (z0a ?_)
 exact ⟨rfl, (Op.bytesLess x52.1 x53.1), h, jN⟩
 intro hb51; replace h := z0y hb51 h
 iterate 10 refine mX ?_
 refine z1u ?_
 change AO _ _ _ _ _
 refine nX ?_
 refine yX ?_
 refine sX ?_
 refine sX (z0a ?_)
 exact ⟨rfl, false, h, jN⟩
 intro hc30 h
 refine z1z ?_
 change ∃ xs, _ = some xs ∧ EndOk _ _ _ _
 obtain rfl := Option.some.inj h
 exact ⟨_, rfl, endR (y := (PV.tup [])) 2 (Wk.refl _) rfl rfl (.tup .nil) (.cons (.box (.cons (.row rfl (z0u z0k s28)) .nil)) (.cons .arr .nil)) ⟨rfl, rfl⟩⟩
 refine z0f ?_
 iterate 5 refine sX ?_
 refine z0q (t := 112) rfl ?_ ?_
 intro hb54; replace h := z0x hb54 h
 iterate 4 refine nX ?_
 refine sX (z0a ?_)
 exact ⟨rfl, true, h, jN⟩
 intro hb54; replace h := z0y hb54 h
 iterate 4 refine yX ?_
 refine sX (z0a ?_)
 exact ⟨rfl, (decide (s27 < (((x23.2.1).length : Nat) : Int))), h, jN⟩
 refine z0f ?_
 iterate 2 refine sX ?_
 refine z0q (t := 36) rfl ?_ ?_
 intro hb55; replace h := z0x hb55 h
 refine yX ?_
 refine sX (z0a ?_)
 exact ⟨rfl, (a2).isList, h, jN⟩
 intro hb55; replace h := z0y hb55 h
 refine nX ?_
 refine sX (z0a ?_)
 exact ⟨rfl, false, h, jN⟩
theorem C_q0k.sound : ∀ (i : C_q0k) (r : i.R), z2w C_q0k.F i = some r → C_q0k.Q i r := by
 refine z3z (Φ := C_q0k.F) (Q := C_q0k.Q) ?_
 intro g hg i r h
 cases i with
 | k_q0k a0 a1 a2 a3c0 => exact z5f (fun a0 a1 a2 a3c0 => g (.k_q0k a0 a1 a2 a3c0)) (fun a0 a1 a2 a3c0 r hr => hg (.k_q0k a0 a1 a2 a3c0) r hr) a0 a1 a2 a3c0 r h
theorem Z5f (a0 : (List S_api_Step)) (a1 a2 : V) (a3c0 r : (List S_api_Edit)) (h : zbr a0 a1 a2 a3c0 = some r) : z18 Tryz.prog 45 [(PV.sl none 83 3 (List.map z00 a0)), (ofV a1), (ofV a2), (PV.fn (.func 46) [] [(PV.rf 0 0)])] [.box 46 [(PV.sl (some 1) 53 3 (List.map z0l a3c0))], .arr 53 (a3c0).length] (PV.tup []) [.box 46 [(PV.sl (some 1) 53 3 (List.map z0l r))], .arr 53 (r).length] := C_q0k.sound (.k_q0k a0 a1 a2 a3c0) r h
noncomputable def zqk (a0 a1 : V) : Option ((List S_api_Edit) × Int) :=
 (zd3 a0).bind fun x1 =>
 bif (x1.2 != 0) then (
 some ([], x1.2)
 ) else (
 (zd3 a1).bind fun x3 =>
 bif (x3.2 != 0) then (
 some ([], x3.2)
 ) else (
 (zbr ([]) a0 a1 ([] : (List S_api_Edit))).bind fun x5 =>
 some (x5, 0)
 )
 )
theorem Z4n (a0 a1 : V) (r : ((List S_api_Edit) × Int)) (h : zqk a0 a1 = some r) : z0m Tryz.prog 19 [(ofV a0), (ofV a1)] (PV.tup [(PV.sl none 53 3 (List.map z0l r.1)), (I64 r.2)]) := by
 unfold zqk at h
 refine z0d Tryz.func19 rfl Tryz.ntmps19 Tryz.results19 rfl (z0g ?_)
 change BW _ _ _ ⟨[(0, (ofV a0)), (1, (ofV a1))], [], _⟩ _
 refine bR ?_
 refine sX ?_
 refine eX ?_
 refine z08 ?_
 refine bR ?_
 refine sX ?_
 obtain ⟨x1, hx1, h⟩ := obind h
 refine sS rfl rfl rfl (z06 rfl zki rfl (wkr .nil) ⟨(ids_V a0), trivial⟩ (zji a0 x1 hx1) (z01 rfl (z01 rfl z04))) ?_
 iterate 4 refine sX ?_
 refine eX ?_
 refine bR ?_
 refine sX ?_
 refine eX ?_
 refine cX h rfl ?_ ?_
 intro hc2 h
 refine bR ?_
 iterate 2 refine sX ?_
 refine eX ?_
 obtain rfl := eI h; exact z05 ⟨_, rfl, z0p (y := (PV.tup [(PV.sl none 53 3 (List.map z0l [])), (I64 x1.2)])) (Wk.tup (.cons Wk.nil (wkr .nil))) (z01 (z03 z0k ([])) (z01 rfl z04)) ⟨rfl, rfl⟩⟩
 intro hc2 h
 refine z07 ?_
 refine cBx ?_
 refine z08 ?_
 refine bR ?_
 refine sX ?_
 obtain ⟨x3, hx3, h⟩ := obind h
 refine sS rfl rfl rfl (z06 rfl zki rfl (wkr .nil) ⟨(ids_V a1), trivial⟩ (zji a1 x3 hx3) (z01 rfl (z01 rfl z04))) ?_
 iterate 4 refine sX ?_
 refine eX ?_
 refine bR ?_
 refine sX ?_
 refine eX ?_
 refine cX h rfl ?_ ?_
 intro hc4 h
 refine bR ?_
 iterate 2 refine sX ?_
 refine eX ?_
 obtain rfl := eI h; exact z05 ⟨_, rfl, z0p (y := (PV.tup [(PV.sl none 53 3 (List.map z0l [])), (I64 x3.2)])) (Wk.tup (.cons Wk.nil (wkr .nil))) (z01 (z03 z0k ([])) (z01 rfl z04)) ⟨rfl, rfl⟩⟩
 intro hc4 h
 refine z07 ?_
 refine cBx ?_
 refine bR ?_
 refine sS rfl rfl rfl (z14 zxg rfl) (z0a ?_)
 refine cBx ?_
 refine z08 ?_
 refine zj3 (s := ⟨_, _, _⟩) 0 0 53 (sz := 3) rfl rfl rfl ?_
 refine z0f ?_
 iterate 2 refine sX ?_
 refine sS rfl rfl rfl (z69 rfl rfl rfl) ?_
 obtain ⟨x5, hx5, h⟩ := obind h
 refine sS rfl rfl rfl (Op1.cast (y := (PV.tup [])) (H'' := [.box 46 [(PV.sl (some 1) 53 3 (List.map z0l x5))], .arr 53 (x5).length]) (z1b [0, 1] (.func rfl) Z08 rfl (.cons Wk.nil (wkr (wkr (wkr .nil)))) rfl (.cons rfl (.box (.cons (.row rfl (z0u z0k ([] : (List S_api_Edit)))) .nil)) (.cons rfl .arr .nil)) (.cons (.same (z03 z02 ([]))) (.cons (.same (ids_V a0)) (.cons (.same (ids_V a1)) (.cons (.fn (.cons (.rf rfl) .nil)) .nil)))) (Z5f ([]) a0 a1 ([] : (List S_api_Edit)) x5 hx5) (.same z04) (.cons (.box (.cons (.row rfl (z0u z0k x5)) .nil)) (.cons .arr .nil)) rfl) rfl rfl) (z0a ?_)
 refine cBx ?_
 refine bR ?_
 iterate 2 refine sX ?_
 refine eX ?_
 obtain rfl := eI h; exact z05 ⟨_, rfl, z0p (y := (PV.tup [(PV.sl none 53 3 (List.map z0l x5)), (I64 0)])) (Wk.tup (.cons Wk.tok (wkr .nil))) (z01 (z03 z0k x5) (z01 rfl z04)) ⟨rfl, rfl⟩⟩
noncomputable def zo0 (a0 : (List (Str × V))) (a1 : S_api_Step) : Option (List (Str × V)) :=
 (zjo a0 a1.f_Name).bind fun x1 =>
 (zo8 a0).bind fun x2 =>
 (Z0b x2 x1.1 (IntKind.i64.wrap (x1.1 + 1))).bind fun x3 =>
 some x3
theorem Z1x (a0 : (List (Str × V))) (a1 : S_api_Step) (r : (List (Str × V))) (h : zo0 a0 a1 = some r) : z0m Tryz.prog 91 [(PV.sl none 69 2 (List.map ofFld a0)), (PV.pt 83 (z00 a1) 0)] (PV.sl none 69 2 (List.map ofFld r)) := by
 unfold zo0 at h
 refine z0d Tryz.func91 rfl Tryz.ntmps91 Tryz.results91 rfl (z0g ?_)
 change BW _ _ _ ⟨[(0, (PV.sl none 69 2 (List.map ofFld a0))), (1, (PV.pt 83 (z00 a1) 0))], [], _⟩ _
 refine bR ?_
 refine sS rfl rfl rfl ((z89 (e := 69) (sz := 2) (.inl rfl) rfl).cast (y := (PV.rs 0 0 (([] : (List (Str × V)))).length 69 2)) (H'' := [rowM ofFld 69 ([] : (List (Str × V)))]) rfl rfl) (z0a ?_)
 refine cBx ?_
 refine bR ?_
 iterate 3 refine sX ?_
 obtain ⟨x1, hx1, h⟩ := obind h
 refine sS rfl rfl rfl (z06 rfl zzz rfl (wkr (wkr .nil)) ⟨(z03 z0r a0), ⟨rfl, trivial⟩⟩ (zyb a0 a1.f_Name x1 hx1) (z01 rfl (z01 rfl z04))) ?_
 iterate 4 refine sX ?_
 refine eX ?_
 refine bR ?_
 refine sX ?_
 obtain ⟨x2, hx2, h⟩ := obind h
 refine sS rfl rfl rfl (z49 rfl Z3g rfl (wkr .nil) ⟨(z03 z0r a0), trivial⟩ (Z22 a0 x2 hx2) ztk (zfm (z5c z0r) (zlq))) ?_
 iterate 3 refine sX ?_
 obtain ⟨x3, hx3, h⟩ := obind h
 refine sS rfl rfl rfl (zly (f := ofFld) (l := x2) Z3z Z6v rfl rfl rfl rfl rfl rfl z7a z6m rfl hx3) ?_
 refine eX ?_
 obtain rfl := eI h; exact z05 ⟨_, rfl, z0p (y := (PV.sl none 69 2 (List.map ofFld x3))) (Wk.refl _) (z03 z0r x3) ⟨rfl, rfl⟩⟩
noncomputable def zi5 (a0 : V) (a1 : S_api_Step) : Option V :=
 bif (a0).isList then (
 (zo7 ((a0).asList)).bind fun x2 =>
 (Z0b x2 a1.f_Index (IntKind.i64.wrap (a1.f_Index + 1))).bind fun x3 =>
 some (V.list x3)
 ) else (
 bif (a0).isDict then (
 (zo0 ((a0).asDict) a1).bind fun x5 =>
 some (V.dict x5)
 ) else (
 bif (a0).isRec then (
 ((a0).asRec).bind fun x7 =>
 (zo0 x7.fields a1).bind fun x8 =>
 some (V.record x7.cls x7.ver x8)
 ) else (
 some a0
 )
 )
 )
theorem Z51 (a0 : V) (a1 : S_api_Step) (r : V) (h : zi5 a0 a1 = some r) : z0m Tryz.prog 53 [(ofV a0), (z00 a1)] (ofV r) := by
 unfold zi5 at h
 refine z0d Tryz.func53 rfl Tryz.ntmps53 Tryz.results53 rfl (z0g ?_)
 change BW _ _ _ ⟨[(0, (ofV a0)), (1, (z00 a1))], [], _⟩ _
 refine bR ?_
 refine sX ?_
 refine eX ?_
 refine z08 ?_
 refine z3p 0 3 (y := (PV.pt 83 (z00 a1) 0)) rfl rfl (Wk.pt (x := .agg [(z0i a1.f_Name), (BO a1.f_At), (I64 a1.f_Index)]) (y := (z00 a1)) (wkr (wkr (wkr .nil)))) ?_
 refine z0f ?_
 refine sS rfl rfl rfl (z69 rfl rfl rfl) ?_
 refine eX ?_
 refine z08 ?_
 refine bR ?_
 refine eX ?_
 refine z0h ?_
 refine cBx ?_
 refine bR ?_
 refine sS rfl rfl rfl (z1w rfl rfl) ?_
 refine sX ?_
 refine eX ?_
 refine cX h rfl ?_ ?_
 intro hc1 h
 refine bR ?_
 refine eX ?_
 refine z08 (z1l 7 [1] [] mo (by kernel_rfl) ?_)
 refine gX ?_
 obtain ⟨x2, hx2, h⟩ := obind h
 refine z41 rfl rfl rfl rfl (z49 rfl Z3q rfl (wkr .nil) ⟨(z03 ids_V ((a0).asList)), trivial⟩ (Z21 ((a0).asList) x2 hx2) ztk (zfm (z5c ids_V) (zlq))) trivial ?_
 iterate 5 refine gX ?_
 refine z1u ?_
 change AO _ _ _ _ _
 obtain ⟨x3, hx3, h⟩ := obind h
 refine sS rfl rfl rfl (zly (f := ofV) (l := x2) Z3y Z6u rfl rfl rfl rfl rfl rfl csz_V z4i rfl hx3) ?_
 refine sS rfl rfl rfl ((z15 Tryz.underlying67 rfl rfl rfl).wk ((Wk.iface (Wk.refl _)).trans (Wk.eq (z7w _).symm))) ?_
 refine eX ?_
 obtain rfl := eI h; exact z05 ⟨_, rfl, z0p (y := (ofV (V.list x3))) (Wk.refl _) (ids_V (V.list x3)) ⟨rfl, rfl⟩⟩
 intro hc1 h
 refine bR ?_
 refine sS rfl rfl rfl (z2r rfl rfl) ?_
 refine sX ?_
 refine eX ?_
 refine cX h rfl ?_ ?_
 intro hc4 h
 refine bR ?_
 refine eX ?_
 refine bR ?_
 iterate 2 refine sX ?_
 obtain ⟨x5, hx5, h⟩ := obind h
 refine sS rfl rfl rfl (z39 rfl rfl Z3h rfl (wkr (wkr .nil)) ⟨(z03 z0r ((a0).asDict)), ⟨(z02 a1), trivial⟩⟩ (Z1x ((a0).asDict) a1 x5 hx5) (z03 z0r x5)) ?_
 refine sS rfl rfl rfl ((z15 Tryz.underlying71 rfl rfl rfl).wk ((Wk.iface (Wk.refl _)).trans (Wk.eq (z50 _).symm))) ?_
 refine eX ?_
 obtain rfl := eI h; exact z05 ⟨_, rfl, z0p (y := (ofV (V.dict x5))) (Wk.refl _) (ids_V (V.dict x5)) ⟨rfl, rfl⟩⟩
 intro hc4 h
 refine bR ?_
 refine sS rfl rfl rfl (z35 rfl rfl) ?_
 refine sX ?_
 refine eX ?_
 refine cX h rfl ?_ ?_
 intro hc6 h
 refine bR ?_
 refine eX ?_
 refine z08 (z1l 14 [] [] mo (by kernel_rfl) ?_)
 refine gX ?_
 obtain ⟨x7, hx7, h⟩ := obind h
 refine z1p rfl rfl rfl rfl (fun H hp => z1m rfl rfl hx7) ?_
 iterate 3 refine gX ?_
 refine z1p rfl rfl rfl rfl (fun H hp => z1m rfl rfl hx7) ?_
 iterate 4 refine gX ?_
 refine z1p rfl rfl rfl rfl (fun H hp => z1m rfl rfl hx7) ?_
 iterate 2 refine gX ?_
 obtain ⟨x8, hx8, h⟩ := obind h
 refine z1p rfl rfl rfl rfl (fun H hp => z39 rfl rfl Z3h rfl (wkr (wkr .nil)) ⟨(z03 z0r x7.fields), ⟨(z02 a1), trivial⟩⟩ (Z1x x7.fields a1 x8 hx8) (z03 z0r x8)) ?_
 refine z1u ?_
 change AO _ _ _ _ _
 refine sS rfl rfl rfl (z1g (cs := [(z0i x7.cls), (I64 x7.ver), (PV.sl none 69 2 (List.map ofFld x8))]) zjd zez rfl rfl rfl rfl) ?_
 refine sX ?_
 refine sS rfl rfl rfl (z15 Tryz.underlying73 rfl rfl rfl) ?_
 refine eX ?_
 refine z3p 1 4 (y := (ofV (V.record x7.cls x7.ver x8))) rfl rfl ((Wk.iface (Wk.pt (x := .agg [(z0i x7.cls), (I64 x7.ver), (PV.sl none 69 2 (List.map ofFld x8))]) (y := zg0 (Rec.mk x7.cls x7.ver x8)) (wkr (wkr (wkr .nil))))).trans (Wk.eq (zet (some (Rec.mk x7.cls x7.ver x8))).symm)) ?_
 obtain rfl := eI h; exact z05 ⟨_, rfl, z0p (y := (ofV (V.record x7.cls x7.ver x8))) (Wk.refl _) (ids_V (V.record x7.cls x7.ver x8)) ⟨rfl, rfl⟩⟩
 intro hc6 h
 refine z07 ?_
 refine cBx ?_
 refine bR ?_
 refine sX ?_
 refine eX ?_
 obtain rfl := eI h; exact z05 ⟨_, rfl, z0p (y := (ofV a0)) (Wk.refl _) (ids_V a0) ⟨rfl, rfl⟩⟩
end Go.Proofs.YthidgpcbnieleaaGreatDoor
