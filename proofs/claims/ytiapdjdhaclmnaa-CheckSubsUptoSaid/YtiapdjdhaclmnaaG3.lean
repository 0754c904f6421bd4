/- Pure functions, and that calls answer as they say. -/
import Derived.Test.YtiapdjdhaclmnaaG2
namespace Go.Proofs.Ytiapdjdhaclmnaa
open Go Aw
set_option linter.unusedVariables false
set_option maxRecDepth 20000
set_option maxHeartbeats 2000000
variable {ι : Type} {ρ : ι → Type}
noncomputable def zap (g1 : Int → Int → Int → Option (Bool × Int)) (s2 s3 : Int) (x5 : (Str × V)) (s11 : Int) : Option (Bool × Int) :=
 (zrp x5.2).bind fun x12 =>
 g1 s11 (IntKind.i64.wrap (s2 + x12)) (IntKind.i64.wrap (s3 + 1))
theorem zuv (g1 : OF ρ → Int → Int → Int → Option (Bool × Int)) (h_g1 : ∀ y0 y1 y2, CM (fun G => g1 G y0 y1 y2)) (s2 s3 : Int) (x5 : (Str × V)) (s11 : Int) : CM (fun G : OF ρ => zap (g1 G) s2 s3 x5 s11) := by
 simp only [zap]
 repeat (first | exact z01 | exact h_g1 _ _ _ | refine z0h ?_ ?_ | refine z0i ?_ (fun _ => ?_))
noncomputable def zao (r_q2j : V → Typ → Int → Option (Bool × Int)) (g1 : Int → Int → Int → Option (Bool × Int)) (a1 : Typ) (a2 s2 s3 : Int) (x5 : (Str × V)) (s6 : Int) (s13 : Bool) : Option (Bool × Int) :=
 bif s13 then (
 (z5g a1.parts s6).bind fun x15 =>
 (r_q2j x5.2 x15 s2).bind fun x16 =>
 bif (!x16.1) then (
 some (false, x16.2)
 ) else (
 zap g1 s2 s3 x5 (IntKind.i64.wrap (s6 + 1))
 )
 ) else (
 bif (!a1.opn) then (
 some (false, a2)
 ) else (
 zap g1 s2 s3 x5 s6
 )
 )
theorem zuu (r_q2j : OF ρ → V → Typ → Int → Option (Bool × Int)) (h_r_q2j : ∀ y0 y1 y2, CM (fun G => r_q2j G y0 y1 y2)) (g1 : OF ρ → Int → Int → Int → Option (Bool × Int)) (h_g1 : ∀ y0 y1 y2, CM (fun G => g1 G y0 y1 y2)) (a1 : Typ) (a2 s2 s3 : Int) (x5 : (Str × V)) (s6 : Int) (s13 : Bool) : CM (fun G : OF ρ => zao (r_q2j G) (g1 G) a1 a2 s2 s3 x5 s6 s13) := by
 simp only [zao]
 repeat (first | exact z01 | exact h_r_q2j _ _ _ | exact h_g1 _ _ _ | apply zuv | refine z0h ?_ ?_ | refine z0i ?_ (fun _ => ?_) | intro _ | assumption)
noncomputable def zaq (r_q2j : V → Typ → Int → Option (Bool × Int)) (g1 : Int → Int → Int → Option (Bool × Int)) (g2 : Int → Option (Bool × Int)) (a1 : Typ) (a2 s2 s3 : Int) (x5 : (Str × V)) (s6 : Int) (s7 : Bool) : Option (Bool × Int) :=
 bif s7 then (
 (z5g a1.lacks s6).bind fun x9 =>
 bif (!x9) then (
 some (false, a2)
 ) else (
 g2 (IntKind.i64.wrap (s6 + 1))
 )
 ) else (
 bif (decide (s6 < (((a1.names).length : Nat) : Int))) then (
 (z5g a1.names s6).bind fun x20 =>
 zao r_q2j g1 a1 a2 s2 s3 x5 s6 (x20 == x5.1)
 ) else (
 zao r_q2j g1 a1 a2 s2 s3 x5 s6 false
 )
 )
theorem zuw (r_q2j : OF ρ → V → Typ → Int → Option (Bool × Int)) (h_r_q2j : ∀ y0 y1 y2, CM (fun G => r_q2j G y0 y1 y2)) (g1 : OF ρ → Int → Int → Int → Option (Bool × Int)) (h_g1 : ∀ y0 y1 y2, CM (fun G => g1 G y0 y1 y2)) (g2 : OF ρ → Int → Option (Bool × Int)) (h_g2 : ∀ y0, CM (fun G => g2 G y0)) (a1 : Typ) (a2 s2 s3 : Int) (x5 : (Str × V)) (s6 : Int) (s7 : Bool) : CM (fun G : OF ρ => zaq (r_q2j G) (g1 G) (g2 G) a1 a2 s2 s3 x5 s6 s7) := by
 simp only [zaq]
 repeat (first | exact z01 | exact h_r_q2j _ _ _ | exact h_g1 _ _ _ | exact h_g2 _ | apply zuu | refine z0h ?_ ?_ | refine z0i ?_ (fun _ => ?_) | intro _ | assumption)
noncomputable def z7o (r_q2j : V → Typ → Int → Option (Bool × Int)) (g1 : Int → Int → Int → Option (Bool × Int)) (a1 : Typ) (a2 s2 s3 : Int) (x5 : (Str × V)) (g2 : Int → Option (Bool × Int)) (s6 : Int) : Option (Bool × Int) :=
 bif (decide (s6 < (((a1.names).length : Nat) : Int))) then (
 (z5g a1.names s6).bind fun x22 =>
 zaq r_q2j g1 g2 a1 a2 s2 s3 x5 s6 (Op.bytesLess x22 x5.1)
 ) else (
 zaq r_q2j g1 g2 a1 a2 s2 s3 x5 s6 false
 )
theorem zcj (r_q2j : OF ρ → V → Typ → Int → Option (Bool × Int)) (h_r_q2j : ∀ y0 y1 y2, CM (fun G => r_q2j G y0 y1 y2)) (g1 : OF ρ → Int → Int → Int → Option (Bool × Int)) (h_g1 : ∀ y0 y1 y2, CM (fun G => g1 G y0 y1 y2)) (g2 : OF ρ → Int → Option (Bool × Int)) (h_g2 : ∀ y0, CM (fun G => g2 G y0)) (a1 : Typ) (a2 s2 s3 : Int) (x5 : (Str × V)) (s6 : Int) : CM (fun G : OF ρ => z7o (r_q2j G) (g1 G) a1 a2 s2 s3 x5 (g2 G) s6) := by
 simp only [z7o]
 repeat (first | exact z01 | exact h_r_q2j _ _ _ | exact h_g1 _ _ _ | exact h_g2 _ | apply zuw | refine z0h ?_ ?_ | refine z0i ?_ (fun _ => ?_) | intro _ | assumption)
noncomputable def zey (r_q2j : V → Typ → Int → Option (Bool × Int)) (g1 : Int → Int → Int → Option (Bool × Int)) (a1 : Typ) (a2 s2 s3 : Int) (x5 : (Str × V)) (s6 : Int) : Option (Bool × Int) :=
 z22 (ι := Int) (ρ := fun _ => (Bool × Int)) (fun g i => z7o r_q2j g1 a1 a2 s2 s3 x5 (fun s6 => g s6) i) s6
theorem zur (r_q2j : V → Typ → Int → Option (Bool × Int)) (g1 : Int → Int → Int → Option (Bool × Int)) (a1 : Typ) (a2 s2 s3 : Int) (x5 : (Str × V)) (s6 : Int) : zey r_q2j g1 a1 a2 s2 s3 x5 s6 = z7o r_q2j g1 a1 a2 s2 s3 x5 (zey r_q2j g1 a1 a2 s2 s3 x5) s6 :=
 z0t (ι := Int) (ρ := fun _ => (Bool × Int)) (Φ := fun g i => z7o r_q2j g1 a1 a2 s2 s3 x5 (fun s6 => g s6) i) (fun i => zcj (ι := Int) (ρ := fun _ => (Bool × Int)) (fun _ => r_q2j) (fun _ _ _ => z01) (fun _ => g1) (fun _ _ _ => z01) (fun g => (fun s6 => g s6)) (fun _ => z0s) a1 a2 s2 s3 x5 i) s6
theorem zus (r_q2j : OF ρ → V → Typ → Int → Option (Bool × Int)) (h_r_q2j : ∀ y0 y1 y2, CM (fun G => r_q2j G y0 y1 y2)) (g1 : OF ρ → Int → Int → Int → Option (Bool × Int)) (h_g1 : ∀ y0 y1 y2, CM (fun G => g1 G y0 y1 y2)) (a1 : Typ) (a2 s2 s3 : Int) (x5 : (Str × V)) (s6 : Int) : CM (fun G : OF ρ => zey (r_q2j G) (g1 G) a1 a2 s2 s3 x5 s6) :=
 z28 (κ := Int) (τ := fun _ => (Bool × Int)) (Φ := fun G g i => z7o (r_q2j G) (g1 G) a1 a2 s2 s3 x5 (fun s6 => g s6) i) (fun g i => zcj r_q2j h_r_q2j g1 h_g1 (fun _ => (fun s6 => g s6)) (fun _ => z01) a1 a2 s2 s3 x5 i) (fun G i => zcj (ι := Int) (ρ := fun _ => (Bool × Int)) (fun _ => r_q2j G) (fun _ _ _ => z01) (fun _ => g1 G) (fun _ _ _ => z01) (fun g => (fun s6 => g s6)) (fun _ => z0s) a1 a2 s2 s3 x5 i) s6
noncomputable def z7n (a1 : Typ) (a2 : Int) (g2 : Int → Option (Bool × Int)) (s23 : Int) : Option (Bool × Int) :=
 bif (decide (s23 < (((a1.names).length : Nat) : Int))) then (
 (z5g a1.lacks s23).bind fun x25 =>
 bif (!x25) then (
 some (false, a2)
 ) else (
 g2 (IntKind.i64.wrap (s23 + 1))
 )
 ) else (
 some (true, 0)
 )
theorem zre (g2 : OF ρ → Int → Option (Bool × Int)) (h_g2 : ∀ y0, CM (fun G => g2 G y0)) (a1 : Typ) (a2 s23 : Int) : CM (fun G : OF ρ => z7n a1 a2 (g2 G) s23) := by
 simp only [z7n]
 repeat (first | exact z01 | exact h_g2 _ | refine z0h ?_ ?_ | refine z0i ?_ (fun _ => ?_))
noncomputable def zl7 (a1 : Typ) (a2 s23 : Int) : Option (Bool × Int) :=
 z22 (ι := Int) (ρ := fun _ => (Bool × Int)) (fun g i => z7n a1 a2 (fun s23 => g s23) i) s23
theorem zl6 (a1 : Typ) (a2 s23 : Int) : zl7 a1 a2 s23 = z7n a1 a2 (zl7 a1 a2) s23 :=
 z0t (ι := Int) (ρ := fun _ => (Bool × Int)) (Φ := fun g i => z7n a1 a2 (fun s23 => g s23) i) (fun i => zre (ι := Int) (ρ := fun _ => (Bool × Int)) (fun g => (fun s23 => g s23)) (fun _ => z0s) a1 a2 i) s23
noncomputable def z55 (r_q2j : V → Typ → Int → Option (Bool × Int)) (a0 : (List (Str × V))) (a1 : Typ) (a2 : Int) (g1 : Int → Int → Int → Option (Bool × Int)) (s1 s2 s3 : Int) : Option (Bool × Int) :=
 bif (decide (s3 < (((a0).length : Nat) : Int))) then (
 (z5g a0 s3).bind fun x5 =>
 zey r_q2j g1 a1 a2 s2 s3 x5 s1
 ) else (
 zl7 a1 a2 s1
 )
theorem zck (r_q2j : OF ρ → V → Typ → Int → Option (Bool × Int)) (h_r_q2j : ∀ y0 y1 y2, CM (fun G => r_q2j G y0 y1 y2)) (g1 : OF ρ → Int → Int → Int → Option (Bool × Int)) (h_g1 : ∀ y0 y1 y2, CM (fun G => g1 G y0 y1 y2)) (a0 : (List (Str × V))) (a1 : Typ) (a2 s1 s2 s3 : Int) : CM (fun G : OF ρ => z55 (r_q2j G) a0 a1 a2 (g1 G) s1 s2 s3) := by
 simp only [z55]
 repeat (first | exact z01 | exact h_r_q2j _ _ _ | exact h_g1 _ _ _ | apply zus | apply q0s_l3_cm | refine z0h ?_ ?_ | refine z0i ?_ (fun _ => ?_) | intro _ | assumption)
noncomputable def zan (r_q2j : V → Typ → Int → Option (Bool × Int)) (a0 : (List (Str × V))) (a1 : Typ) (a2 s1 s2 s3 : Int) : Option (Bool × Int) :=
 z22 (ι := (Int × Int × Int)) (ρ := fun _ => (Bool × Int)) (fun g i => z55 r_q2j a0 a1 a2 (fun s1 s2 s3 => g (s1, s2, s3)) i.1 i.2.1 i.2.2) (s1, s2, s3)
theorem zez (r_q2j : V → Typ → Int → Option (Bool × Int)) (a0 : (List (Str × V))) (a1 : Typ) (a2 s1 s2 s3 : Int) : zan r_q2j a0 a1 a2 s1 s2 s3 = z55 r_q2j a0 a1 a2 (zan r_q2j a0 a1 a2) s1 s2 s3 :=
 z0t (ι := (Int × Int × Int)) (ρ := fun _ => (Bool × Int)) (Φ := fun g i => z55 r_q2j a0 a1 a2 (fun s1 s2 s3 => g (s1, s2, s3)) i.1 i.2.1 i.2.2) (fun i => zck (ι := (Int × Int × Int)) (ρ := fun _ => (Bool × Int)) (fun _ => r_q2j) (fun _ _ _ => z01) (fun g => (fun s1 s2 s3 => g (s1, s2, s3))) (fun _ _ _ => z0s) a0 a1 a2 i.1 i.2.1 i.2.2) (s1, s2, s3)
theorem zut (r_q2j : OF ρ → V → Typ → Int → Option (Bool × Int)) (h_r_q2j : ∀ y0 y1 y2, CM (fun G => r_q2j G y0 y1 y2)) (a0 : (List (Str × V))) (a1 : Typ) (a2 s1 s2 s3 : Int) : CM (fun G : OF ρ => zan (r_q2j G) a0 a1 a2 s1 s2 s3) :=
 z28 (κ := (Int × Int × Int)) (τ := fun _ => (Bool × Int)) (Φ := fun G g i => z55 (r_q2j G) a0 a1 a2 (fun s1 s2 s3 => g (s1, s2, s3)) i.1 i.2.1 i.2.2) (fun g i => zck r_q2j h_r_q2j (fun _ => (fun s1 s2 s3 => g (s1, s2, s3))) (fun _ _ _ => z01) a0 a1 a2 i.1 i.2.1 i.2.2) (fun G i => zck (ι := (Int × Int × Int)) (ρ := fun _ => (Bool × Int)) (fun _ => r_q2j G) (fun _ _ _ => z01) (fun g => (fun s1 s2 s3 => g (s1, s2, s3))) (fun _ _ _ => z0s) a0 a1 a2 i.1 i.2.1 i.2.2) (s1, s2, s3)
noncomputable def zor (r_q0s : (List (Str × V)) → Typ → Int → Option (Bool × Int)) (r_q12 : (List V) → Typ → Int → Option (Bool × Int)) (r_q2j : V → Typ → Int → Option (Bool × Int)) (a0 : (List (Str × V))) (a1 : Typ) (a2 : Int) : Option (Bool × Int) :=
 zan r_q2j a0 a1 a2 0 (IntKind.i64.wrap (a2 + 1)) 0
theorem Z1u (r_q0s : OF ρ → (List (Str × V)) → Typ → Int → Option (Bool × Int)) (h_r_q0s : ∀ y0 y1 y2, CM (fun G => r_q0s G y0 y1 y2)) (r_q12 : OF ρ → (List V) → Typ → Int → Option (Bool × Int)) (h_r_q12 : ∀ y0 y1 y2, CM (fun G => r_q12 G y0 y1 y2)) (r_q2j : OF ρ → V → Typ → Int → Option (Bool × Int)) (h_r_q2j : ∀ y0 y1 y2, CM (fun G => r_q2j G y0 y1 y2)) (a0 : (List (Str × V))) (a1 : Typ) (a2 : Int) : CM (fun G : OF ρ => zor (r_q0s G) (r_q12 G) (r_q2j G) a0 a1 a2) := by
 simp only [zor]
 repeat (first | exact z01 | exact h_r_q0s _ _ _ | exact h_r_q12 _ _ _ | exact h_r_q2j _ _ _ | apply zut | refine z0h ?_ ?_ | refine z0i ?_ (fun _ => ?_) | intro _ | assumption)
noncomputable def z6b (r_q2j : V → Typ → Int → Option (Bool × Int)) (a0 : (List V)) (a1 : Typ) (g1 : Int → Nat → Option (Bool × Int)) (s1 : Int) (s2 : Nat) : Option (Bool × Int) :=
 bif (decide (((s2 : Nat) : Int) < (((a0).length : Nat) : Int))) then (
 ((a0)[s2]?).bind fun x5 =>
 (r_q2j x5 a1 s1).bind fun x6 =>
 bif (!x6.1) then (
 some (false, x6.2)
 ) else (
 (zrp x5).bind fun x8 =>
 g1 (IntKind.i64.wrap (s1 + x8)) (s2 + 1)
 )
 ) else (
 some (true, 0)
 )
theorem zcf (r_q2j : OF ρ → V → Typ → Int → Option (Bool × Int)) (h_r_q2j : ∀ y0 y1 y2, CM (fun G => r_q2j G y0 y1 y2)) (g1 : OF ρ → Int → Nat → Option (Bool × Int)) (h_g1 : ∀ y0 y1, CM (fun G => g1 G y0 y1)) (a0 : (List V)) (a1 : Typ) (s1 : Int) (s2 : Nat) : CM (fun G : OF ρ => z6b (r_q2j G) a0 a1 (g1 G) s1 s2) := by
 simp only [z6b]
 repeat (first | exact z01 | exact h_r_q2j _ _ _ | exact h_g1 _ _ | refine z0h ?_ ?_ | refine z0i ?_ (fun _ => ?_))
noncomputable def zhk (r_q2j : V → Typ → Int → Option (Bool × Int)) (a0 : (List V)) (a1 : Typ) (s1 : Int) (s2 : Nat) : Option (Bool × Int) :=
 z22 (ι := (Int × Nat)) (ρ := fun _ => (Bool × Int)) (fun g i => z6b r_q2j a0 a1 (fun s1 s2 => g (s1, s2)) i.1 i.2) (s1, s2)
theorem zl2 (r_q2j : V → Typ → Int → Option (Bool × Int)) (a0 : (List V)) (a1 : Typ) (s1 : Int) (s2 : Nat) : zhk r_q2j a0 a1 s1 s2 = z6b r_q2j a0 a1 (zhk r_q2j a0 a1) s1 s2 :=
 z0t (ι := (Int × Nat)) (ρ := fun _ => (Bool × Int)) (Φ := fun g i => z6b r_q2j a0 a1 (fun s1 s2 => g (s1, s2)) i.1 i.2) (fun i => zcf (ι := (Int × Nat)) (ρ := fun _ => (Bool × Int)) (fun _ => r_q2j) (fun _ _ _ => z01) (fun g => (fun s1 s2 => g (s1, s2))) (fun _ _ => z0s) a0 a1 i.1 i.2) (s1, s2)
theorem zul (r_q2j : OF ρ → V → Typ → Int → Option (Bool × Int)) (h_r_q2j : ∀ y0 y1 y2, CM (fun G => r_q2j G y0 y1 y2)) (a0 : (List V)) (a1 : Typ) (s1 : Int) (s2 : Nat) : CM (fun G : OF ρ => zhk (r_q2j G) a0 a1 s1 s2) :=
 z28 (κ := (Int × Nat)) (τ := fun _ => (Bool × Int)) (Φ := fun G g i => z6b (r_q2j G) a0 a1 (fun s1 s2 => g (s1, s2)) i.1 i.2) (fun g i => zcf r_q2j h_r_q2j (fun _ => (fun s1 s2 => g (s1, s2))) (fun _ _ => z01) a0 a1 i.1 i.2) (fun G i => zcf (ι := (Int × Nat)) (ρ := fun _ => (Bool × Int)) (fun _ => r_q2j G) (fun _ _ _ => z01) (fun g => (fun s1 s2 => g (s1, s2))) (fun _ _ => z0s) a0 a1 i.1 i.2) (s1, s2)
noncomputable def zon (r_q0s : (List (Str × V)) → Typ → Int → Option (Bool × Int)) (r_q12 : (List V) → Typ → Int → Option (Bool × Int)) (r_q2j : V → Typ → Int → Option (Bool × Int)) (a0 : (List V)) (a1 : Typ) (a2 : Int) : Option (Bool × Int) :=
 zhk r_q2j a0 a1 (IntKind.i64.wrap (a2 + 1)) 0
theorem Z1p (r_q0s : OF ρ → (List (Str × V)) → Typ → Int → Option (Bool × Int)) (h_r_q0s : ∀ y0 y1 y2, CM (fun G => r_q0s G y0 y1 y2)) (r_q12 : OF ρ → (List V) → Typ → Int → Option (Bool × Int)) (h_r_q12 : ∀ y0 y1 y2, CM (fun G => r_q12 G y0 y1 y2)) (r_q2j : OF ρ → V → Typ → Int → Option (Bool × Int)) (h_r_q2j : ∀ y0 y1 y2, CM (fun G => r_q2j G y0 y1 y2)) (a0 : (List V)) (a1 : Typ) (a2 : Int) : CM (fun G : OF ρ => zon (r_q0s G) (r_q12 G) (r_q2j G) a0 a1 a2) := by
 simp only [zon]
 repeat (first | exact z01 | exact h_r_q0s _ _ _ | exact h_r_q12 _ _ _ | exact h_r_q2j _ _ _ | apply zul | refine z0h ?_ ?_ | refine z0i ?_ (fun _ => ?_) | intro _ | assumption)
noncomputable def z6w (a2 : Int) (s1 : Bool) : Option (Bool × Int) :=
 bif s1 then (
 some (true, 0)
 ) else (
 some (false, a2)
 )
noncomputable def z5r (r_q2j : V → Typ → Int → Option (Bool × Int)) (a0 : V) (a1 : Typ) (a2 : Int) (g1 : Nat → Option (Bool × Int)) (s13 : Nat) : Option (Bool × Int) :=
 bif (decide (((s13 : Nat) : Int) < (((a1.parts).length : Nat) : Int))) then (
 ((a1.parts)[s13]?).bind fun x16 =>
 (r_q2j a0 x16 a2).bind fun x17 =>
 bif x17.1 then (
 some (true, 0)
 ) else (
 g1 (s13 + 1)
 )
 ) else (
 z6w a2 false
 )
theorem zbw (r_q2j : OF ρ → V → Typ → Int → Option (Bool × Int)) (h_r_q2j : ∀ y0 y1 y2, CM (fun G => r_q2j G y0 y1 y2)) (g1 : OF ρ → Nat → Option (Bool × Int)) (h_g1 : ∀ y0, CM (fun G => g1 G y0)) (a0 : V) (a1 : Typ) (a2 : Int) (s13 : Nat) : CM (fun G : OF ρ => z5r (r_q2j G) a0 a1 a2 (g1 G) s13) := by
 simp only [z5r]
 repeat (first | exact z01 | exact h_r_q2j _ _ _ | exact h_g1 _ | apply q2j_j1_cm | refine z0h ?_ ?_ | refine z0i ?_ (fun _ => ?_) | intro _ | assumption)
noncomputable def zgx (r_q2j : V → Typ → Int → Option (Bool × Int)) (a0 : V) (a1 : Typ) (a2 : Int) (s13 : Nat) : Option (Bool × Int) :=
 z22 (ι := Nat) (ρ := fun _ => (Bool × Int)) (fun g i => z5r r_q2j a0 a1 a2 (fun s13 => g s13) i) s13
theorem zk5 (r_q2j : V → Typ → Int → Option (Bool × Int)) (a0 : V) (a1 : Typ) (a2 : Int) (s13 : Nat) : zgx r_q2j a0 a1 a2 s13 = z5r r_q2j a0 a1 a2 (zgx r_q2j a0 a1 a2) s13 :=
 z0t (ι := Nat) (ρ := fun _ => (Bool × Int)) (Φ := fun g i => z5r r_q2j a0 a1 a2 (fun s13 => g s13) i) (fun i => zbw (ι := Nat) (ρ := fun _ => (Bool × Int)) (fun _ => r_q2j) (fun _ _ _ => z01) (fun g => (fun s13 => g s13)) (fun _ => z0s) a0 a1 a2 i) s13
theorem ztc (r_q2j : OF ρ → V → Typ → Int → Option (Bool × Int)) (h_r_q2j : ∀ y0 y1 y2, CM (fun G => r_q2j G y0 y1 y2)) (a0 : V) (a1 : Typ) (a2 : Int) (s13 : Nat) : CM (fun G : OF ρ => zgx (r_q2j G) a0 a1 a2 s13) :=
 z28 (κ := Nat) (τ := fun _ => (Bool × Int)) (Φ := fun G g i => z5r (r_q2j G) a0 a1 a2 (fun s13 => g s13) i) (fun g i => zbw r_q2j h_r_q2j (fun _ => (fun s13 => g s13)) (fun _ => z01) a0 a1 a2 i) (fun G i => zbw (ι := Nat) (ρ := fun _ => (Bool × Int)) (fun _ => r_q2j G) (fun _ _ _ => z01) (fun g => (fun s13 => g s13)) (fun _ => z0s) a0 a1 a2 i) s13
noncomputable def zo2 (r_q0s : (List (Str × V)) → Typ → Int → Option (Bool × Int)) (r_q12 : (List V) → Typ → Int → Option (Bool × Int)) (r_q2j : V → Typ → Int → Option (Bool × Int)) (a0 : V) (a1 : Typ) (a2 : Int) : Option (Bool × Int) :=
 bif (a1.kind == 1) then (
 z6w a2 true
 ) else (
 bif (a1.kind == 3) then (
 (zvu a0).bind fun x5 =>
 z6w a2 (x5 == a1.of)
 ) else (
 bif (a1.kind == 4) then (
 (zgh (a1.only)).bind fun x7 =>
 (zvt a0 x7.1).bind fun x8 =>
 z6w a2 x8
 ) else (
 bif (a1.kind == 8) then (
 bif (a0).isRec then (
 ((a0).asRec).bind fun x11 =>
 z6w a2 (x11.cls == a1.cls)
 ) else (
 z6w a2 false
 )
 ) else (
 bif (a1.kind == 7) then (
 zgx r_q2j a0 a1 a2 0
 ) else (
 bif (a1.kind == 5) then (
 bif (a0).isList then (
 ((a1.parts)[0]?).bind fun x21 =>
 (r_q12 ((a0).asList) x21 a2).bind fun x22 =>
 some (x22.1, x22.2)
 ) else (
 z6w a2 false
 )
 ) else (
 bif (a1.kind == 6) then (
 bif (a0).isDict then (
 (r_q0s ((a0).asDict) a1 a2).bind fun x25 =>
 some (x25.1, x25.2)
 ) else (
 z6w a2 false
 )
 ) else (
 z6w a2 false
 )
 )
 )
 )
 )
 )
 )
theorem Z13 (r_q0s : OF ρ → (List (Str × V)) → Typ → Int → Option (Bool × Int)) (h_r_q0s : ∀ y0 y1 y2, CM (fun G => r_q0s G y0 y1 y2)) (r_q12 : OF ρ → (List V) → Typ → Int → Option (Bool × Int)) (h_r_q12 : ∀ y0 y1 y2, CM (fun G => r_q12 G y0 y1 y2)) (r_q2j : OF ρ → V → Typ → Int → Option (Bool × Int)) (h_r_q2j : ∀ y0 y1 y2, CM (fun G => r_q2j G y0 y1 y2)) (a0 : V) (a1 : Typ) (a2 : Int) : CM (fun G : OF ρ => zo2 (r_q0s G) (r_q12 G) (r_q2j G) a0 a1 a2) := by
 simp only [zo2]
 repeat (first | exact z01 | exact h_r_q0s _ _ _ | exact h_r_q12 _ _ _ | exact h_r_q2j _ _ _ | apply q2j_j1_cm | apply ztc | refine z0h ?_ ?_ | refine z0i ?_ (fun _ => ?_) | intro _ | assumption)
inductive C_q0s where
 | k_q0s (a0 : (List (Str × V))) (a1 : Typ) (a2 : Int)
 | k_q12 (a0 : (List V)) (a1 : Typ) (a2 : Int)
 | k_q2j (a0 : V) (a1 : Typ) (a2 : Int)
def C_q0s.R : C_q0s → Type
 | .k_q0s _ _ _ => (Bool × Int)
 | .k_q12 _ _ _ => (Bool × Int)
 | .k_q2j _ _ _ => (Bool × Int)
noncomputable def C_q0s.F (g : ∀ i : C_q0s, Option i.R) : ∀ i : C_q0s, Option i.R
 | .k_q0s a0 a1 a2 => zor (fun a0 a1 a2 => g (.k_q0s a0 a1 a2)) (fun a0 a1 a2 => g (.k_q12 a0 a1 a2)) (fun a0 a1 a2 => g (.k_q2j a0 a1 a2)) a0 a1 a2
 | .k_q12 a0 a1 a2 => zon (fun a0 a1 a2 => g (.k_q0s a0 a1 a2)) (fun a0 a1 a2 => g (.k_q12 a0 a1 a2)) (fun a0 a1 a2 => g (.k_q2j a0 a1 a2)) a0 a1 a2
 | .k_q2j a0 a1 a2 => zo2 (fun a0 a1 a2 => g (.k_q0s a0 a1 a2)) (fun a0 a1 a2 => g (.k_q12 a0 a1 a2)) (fun a0 a1 a2 => g (.k_q2j a0 a1 a2)) a0 a1 a2
noncomputable def zrw (a0 : (List (Str × V))) (a1 : Typ) (a2 : Int) : Option (Bool × Int) := z22 C_q0s.F (.k_q0s a0 a1 a2)
noncomputable def zrs (a0 : (List V)) (a1 : Typ) (a2 : Int) : Option (Bool × Int) := z22 C_q0s.F (.k_q12 a0 a1 a2)
noncomputable def z9v (a0 : V) (a1 : Typ) (a2 : Int) : Option (Bool × Int) := z22 C_q0s.F (.k_q2j a0 a1 a2)
abbrev gg9 := fun (g : ∀ i : C_q0s, Option i.R) a0 a1 a2 => g (.k_q0s a0 a1 a2)
theorem hh9 (a0 a1 a2 : _) : CM (ρ := C_q0s.R) (fun g => g (C_q0s.k_q0s a0 a1 a2)) := z0s
abbrev Zc4 := fun (g : ∀ i : C_q0s, Option i.R) a0 a1 a2 => g (.k_q12 a0 a1 a2)
theorem Zbz (a0 a1 a2 : _) : CM (ρ := C_q0s.R) (fun g => g (C_q0s.k_q12 a0 a1 a2)) := z0s
abbrev Zc3 := fun (g : ∀ i : C_q0s, Option i.R) a0 a1 a2 => g (.k_q2j a0 a1 a2)
theorem Zby (a0 a1 a2 : _) : CM (ρ := C_q0s.R) (fun g => g (C_q0s.k_q2j a0 a1 a2)) := z0s
theorem C_q0s.cm (i : C_q0s) : CM (fun g : (∀ i : C_q0s, Option i.R) => C_q0s.F g i) := by
 cases i with
 | k_q0s a0 a1 a2 => exact Z1u gg9 hh9 Zc4 Zbz Zc3 Zby a0 a1 a2
 | k_q12 a0 a1 a2 => exact Z1p gg9 hh9 Zc4 Zbz Zc3 Zby a0 a1 a2
 | k_q2j a0 a1 a2 => exact Z13 gg9 hh9 Zc4 Zbz Zc3 Zby a0 a1 a2
theorem Zdg (a0 : (List (Str × V))) (a1 : Typ) (a2 : Int) : zrw a0 a1 a2 = zor zrw zrs z9v a0 a1 a2 := z0t C_q0s.cm (.k_q0s a0 a1 a2)
theorem Zdc (a0 : (List V)) (a1 : Typ) (a2 : Int) : zrs a0 a1 a2 = zon zrw zrs z9v a0 a1 a2 := z0t C_q0s.cm (.k_q12 a0 a1 a2)
theorem Zcs (a0 : V) (a1 : Typ) (a2 : Int) : z9v a0 a1 a2 = zo2 zrw zrs z9v a0 a1 a2 := z0t C_q0s.cm (.k_q2j a0 a1 a2)
def C_q0s.Q : ∀ i : C_q0s, i.R → Prop
 | .k_q0s a0 a1 a2 => fun (r : (Bool × Int)) => z08 Try.prog 56 [(PV.sl none 43 2 (List.map ofFld a0)), (z02 a1), (I64 a2)] (PV.tup [(BO r.1), (I64 r.2)])
 | .k_q12 a0 a1 a2 => fun (r : (Bool × Int)) => z08 Try.prog 55 [(PV.sl none 20 1 (List.map ofV a0)), (z02 a1), (I64 a2)] (PV.tup [(BO r.1), (I64 r.2)])
 | .k_q2j a0 a1 a2 => fun (r : (Bool × Int)) => z08 Try.prog 31 [(ofV a0), (z02 a1), (I64 a2)] (PV.tup [(BO r.1), (I64 r.2)])
theorem zek (r_q0s : (List (Str × V)) → Typ → Int → Option (Bool × Int)) (c_q0s : ∀ (a0 : (List (Str × V))) (a1 : Typ) (a2 : Int) r, r_q0s a0 a1 a2 = some r → z08 Try.prog 56 [(PV.sl none 43 2 (List.map ofFld a0)), (z02 a1), (I64 a2)] (PV.tup [(BO r.1), (I64 r.2)])) (r_q12 : (List V) → Typ → Int → Option (Bool × Int)) (c_q12 : ∀ (a0 : (List V)) (a1 : Typ) (a2 : Int) r, r_q12 a0 a1 a2 = some r → z08 Try.prog 55 [(PV.sl none 20 1 (List.map ofV a0)), (z02 a1), (I64 a2)] (PV.tup [(BO r.1), (I64 r.2)])) (r_q2j : V → Typ → Int → Option (Bool × Int)) (c_q2j : ∀ (a0 : V) (a1 : Typ) (a2 : Int) r, r_q2j a0 a1 a2 = some r → z08 Try.prog 31 [(ofV a0), (z02 a1), (I64 a2)] (PV.tup [(BO r.1), (I64 r.2)])) (a0 : (List (Str × V))) (a1 : Typ) (a2 : Int) (r : (Bool × Int)) (h : zor r_q0s r_q12 r_q2j a0 a1 a2 = some r) : z08 Try.prog 56 [(PV.sl none 43 2 (List.map ofFld a0)), (z02 a1), (I64 a2)] (PV.tup [(BO r.1), (I64 r.2)]) := by
 unfold zor at h
 refine z0g Try.func56 rfl Try.ntmps56 Try.results56 rfl (z0q ?_)
 change BW _ _ _ ⟨[(0, (PV.sl none 43 2 (List.map ofFld a0))), (1, (z02 a1)), (2, (I64 a2))], [], _⟩ _
 refine bR ?_
 iterate 2 refine sX ?_
 refine eX ?_
 refine bR ?_
 iterate 3 refine sX ?_
 refine eX ?_
 refine z09 ?_
 refine bR ?_
 iterate 2 refine sX ?_
 refine eX ?_
 refine z0e ?_
 refine cBx ?_
 unfold zan at h
 refine lX (σ := (Int × Int × Int)) (fun i => [(2, (I64 a2)), (4, (PV.rf 0 0)), (8, (I64 i.1)), (9, (I64 i.2.1)), (16, (PV.sl none 43 2 (List.map ofFld a0))), (17, (I64 ((((a0).length : Nat) : Int)))), (18, (I64 i.2.2))]) (fun i => [.box 34 (z0x a1)]) (0, (IntKind.i64.wrap (a2 + 1)), 0) h ?_ ?_
 exact jN
 rintro g1_f ⟨s1, s2, s3⟩ h; replace h : z55 r_q2j a0 a1 a2 (fun y0 y1 y2 => g1_f (y0, y1, y2)) s1 s2 s3 = some r := h; unfold z55 at h
 change BW _ _ _ ⟨[(2, (I64 a2)), (4, (PV.rf 0 0)), (8, (I64 s1)), (9, (I64 s2)), (16, (PV.sl none 43 2 (List.map ofFld a0))), (17, (I64 ((((a0).length : Nat) : Int)))), (18, (I64 s3))], [.box 34 (z0x a1)], _⟩ _
 refine bR ?_
 refine eX ?_
 refine z09 ?_
 refine cX h rfl ?_ ?_
 intro hc4 h
 refine z07 ?_
 refine cBx ?_
 refine z09 ?_
 refine z0e ?_
 refine cBx ?_
 refine bR ?_
 obtain ⟨x5, hx5, h⟩ := obind h
 refine sS rfl rfl rfl (z1o Try.underlying45 z2z rfl rfl rfl hx5 rfl) ?_
 refine sX ?_
 refine sS rfl rfl rfl ((z16 z2z rfl).cast (H'' := [.box 34 (z0x a1), .box 43 [(ofStr []), (ofV V.nil)]]) rfl (by simp only [mk_nil]; rfl)) ?_
 refine z0m rfl rfl (z0d z2z rfl rfl rfl rfl rfl rfl (lbE rfl) (by show List.all [(ofStr x5.1), (ofV x5.2)] z9g = true; simp only [List.all_cons, List.all_nil, zm0, z99, Bool.and_true, Bool.true_and]; try rfl)) ?_
 refine z06 ?_
 refine cBx ?_
 refine z09 ?_
 refine z0e ?_
 refine cBx ?_
 unfold zey at h
 refine z3c (σ := Int) (fun i => [(2, (I64 a2)), (4, (PV.rf 0 0)), (8, (I64 i)), (9, (I64 s2)), (11, (PV.rf 1 0)), (16, (PV.sl none 43 2 (List.map ofFld a0))), (17, (I64 ((((a0).length : Nat) : Int)))), (18, (I64 s3))]) (fun i => [.box 34 (z0x a1), .box 43 [(ofStr x5.1), (ofV x5.2)]]) s1 h ?_ ?_ ?_
 intro i; exact ⟨lbE rfl, ⟨(z00 rfl), ⟨(il_rf rfl), ⟨(z00 rfl), ⟨(z00 rfl), ⟨(il_rf rfl), ⟨(z00 (z0c z2i _)), ⟨(z00 rfl), ⟨(z00 rfl), trivial⟩⟩⟩⟩⟩⟩⟩⟩, ⟨wfC34, ⟨⟨(z00 rfl), ⟨(z00 (ids_V _)), trivial⟩⟩, trivial⟩⟩⟩
 exact jN
 rintro g2_f s6 h; replace h : z7o r_q2j (fun y0 y1 y2 => g1_f (y0, y1, y2)) a1 a2 s2 s3 x5 (fun y0 => g2_f y0) s6 = some r := h; unfold z7o at h
 change BW _ _ _ ⟨[(2, (I64 a2)), (4, (PV.rf 0 0)), (8, (I64 s6)), (9, (I64 s2)), (11, (PV.rf 1 0)), (16, (PV.sl none 43 2 (List.map ofFld a0))), (17, (I64 ((((a0).length : Nat) : Int)))), (18, (I64 s3))], [.box 34 (z0x a1), .box 43 [(ofStr x5.1), (ofV x5.2)]], _⟩ _
 refine z09 ?_
 refine z37 (ι := Bool) (fun i => zaq r_q2j (fun y0 y1 y2 => g1_f (y0, y1, y2)) (fun y0 => g2_f y0) a1 a2 s2 s3 x5 s6 i = some r) (fun i => [(2, (I64 a2)), (4, (PV.rf 0 0)), (8, (I64 s6)), (9, (I64 s2)), (11, (PV.rf 1 0)), (16, (PV.sl none 43 2 (List.map ofFld a0))), (17, (I64 ((((a0).length : Nat) : Int)))), (18, (I64 s3)), (36, (BO i))]) (fun i => [.box 34 (z0x a1), .box 43 [(ofStr x5.1), (ofV x5.2)]]) ?_ ?_ ?_
 intro i; exact ⟨lbE rfl, ⟨(z00 rfl), ⟨(il_rf rfl), ⟨(z00 rfl), ⟨(z00 rfl), ⟨(il_rf rfl), ⟨(z00 (z0c z2i _)), ⟨(z00 rfl), ⟨(z00 rfl), ⟨(z00 rfl), trivial⟩⟩⟩⟩⟩⟩⟩⟩⟩, ⟨wfC34, ⟨⟨(z00 rfl), ⟨(z00 (ids_V _)), trivial⟩⟩, trivial⟩⟩⟩
 rintro s7 h; replace h : zaq r_q2j (fun y0 y1 y2 => g1_f (y0, y1, y2)) (fun y0 => g2_f y0) a1 a2 s2 s3 x5 s6 s7 = some r := h; unfold zaq at h
 change BW _ _ _ ⟨[(2, (I64 a2)), (4, (PV.rf 0 0)), (8, (I64 s6)), (9, (I64 s2)), (11, (PV.rf 1 0)), (16, (PV.sl none 43 2 (List.map ofFld a0))), (17, (I64 ((((a0).length : Nat) : Int)))), (18, (I64 s3)), (36, (BO s7))], [.box 34 (z0x a1), .box 43 [(ofStr x5.1), (ofV x5.2)]], _⟩ _
 refine cX h rfl ?_ ?_
 intro hc8 h
 refine z07 ?_
 refine cBx ?_
 refine z0e ?_
 refine cBx ?_
 refine z09 ?_
 refine bR ?_
 iterate 3 refine sX ?_
 obtain ⟨x9, hx9, h⟩ := obind h
 refine sS rfl rfl rfl (z1o Try.underlying32 inf_4 rfl rfl rfl hx9 rfl) ?_
 refine sX ?_
 refine eX ?_
 refine cX h rfl ?_ ?_
 intro hc10 h
 refine bR ?_
 iterate 2 refine sX ?_
 refine eX ?_
 obtain rfl := eI h; exact z05 eK
 intro hc10 h
 refine z07 ?_
 refine cBx ?_
 refine z0a ?_
 iterate 2 refine sX ?_
 refine sX (z06 ?_)
 exact ⟨rfl, (IntKind.i64.wrap (s6 + 1)), h, jN⟩
 intro hc8 h
 refine z1a ?_
 refine cBx ?_
 refine z37 (ι := Int) (fun i => zap (fun y0 y1 y2 => g1_f (y0, y1, y2)) s2 s3 x5 i = some r) (fun i => [(2, (I64 a2)), (4, (PV.rf 0 0)), (8, (I64 i)), (9, (I64 s2)), (11, (PV.rf 1 0)), (16, (PV.sl none 43 2 (List.map ofFld a0))), (17, (I64 ((((a0).length : Nat) : Int)))), (18, (I64 s3))]) (fun i => [.box 34 (z0x a1), .box 43 [(ofStr x5.1), (ofV x5.2)]]) ?_ ?_ ?_
 intro i; exact ⟨lbE rfl, ⟨(z00 rfl), ⟨(il_rf rfl), ⟨(z00 rfl), ⟨(z00 rfl), ⟨(il_rf rfl), ⟨(z00 (z0c z2i _)), ⟨(z00 rfl), ⟨(z00 rfl), trivial⟩⟩⟩⟩⟩⟩⟩⟩, ⟨wfC34, ⟨⟨(z00 rfl), ⟨(z00 (ids_V _)), trivial⟩⟩, trivial⟩⟩⟩
 rintro s11 h; replace h : zap (fun y0 y1 y2 => g1_f (y0, y1, y2)) s2 s3 x5 s11 = some r := h; unfold zap at h
 change BW _ _ _ ⟨[(2, (I64 a2)), (4, (PV.rf 0 0)), (8, (I64 s11)), (9, (I64 s2)), (11, (PV.rf 1 0)), (16, (PV.sl none 43 2 (List.map ofFld a0))), (17, (I64 ((((a0).length : Nat) : Int)))), (18, (I64 s3))], [.box 34 (z0x a1), .box 43 [(ofStr x5.1), (ofV x5.2)]], _⟩ _
 refine z0a ?_
 iterate 3 refine sX ?_
 obtain ⟨x12, hx12, h⟩ := obind h
 refine sS rfl rfl rfl (z04 rfl Z92 rfl (wkr .nil) ⟨(ids_V x5.2), trivial⟩ (Z7c x5.2 x12 hx12) rfl) ?_
 refine sX ?_
 refine eX ?_
 refine z0a ?_
 refine sX ?_
 refine sX (z06 ?_)
 exact ⟨rfl, (s11, (IntKind.i64.wrap (s2 + x12)), (IntKind.i64.wrap (s3 + 1))), h, jN⟩
 refine z37 (ι := Bool) (fun i => zao r_q2j (fun y0 y1 y2 => g1_f (y0, y1, y2)) a1 a2 s2 s3 x5 s6 i = some r) (fun i => [(2, (I64 a2)), (4, (PV.rf 0 0)), (8, (I64 s6)), (9, (I64 s2)), (11, (PV.rf 1 0)), (16, (PV.sl none 43 2 (List.map ofFld a0))), (17, (I64 ((((a0).length : Nat) : Int)))), (18, (I64 s3)), (60, (BO i))]) (fun i => [.box 34 (z0x a1), .box 43 [(ofStr x5.1), (ofV x5.2)]]) ?_ ?_ ?_
 intro i; exact ⟨lbE rfl, ⟨(z00 rfl), ⟨(il_rf rfl), ⟨(z00 rfl), ⟨(z00 rfl), ⟨(il_rf rfl), ⟨(z00 (z0c z2i _)), ⟨(z00 rfl), ⟨(z00 rfl), ⟨(z00 rfl), trivial⟩⟩⟩⟩⟩⟩⟩⟩⟩, ⟨wfC34, ⟨⟨(z00 rfl), ⟨(z00 (ids_V _)), trivial⟩⟩, trivial⟩⟩⟩
 rintro s13 h; replace h : zao r_q2j (fun y0 y1 y2 => g1_f (y0, y1, y2)) a1 a2 s2 s3 x5 s6 s13 = some r := h; unfold zao at h
 change BW _ _ _ ⟨[(2, (I64 a2)), (4, (PV.rf 0 0)), (8, (I64 s6)), (9, (I64 s2)), (11, (PV.rf 1 0)), (16, (PV.sl none 43 2 (List.map ofFld a0))), (17, (I64 ((((a0).length : Nat) : Int)))), (18, (I64 s3)), (60, (BO s13))], [.box 34 (z0x a1), .box 43 [(ofStr x5.1), (ofV x5.2)]], _⟩ _
 refine cX h rfl ?_ ?_
 intro hc14 h
 refine z09 ?_
 refine z09 (z13 13 [] [0, 1] mo (by kernel_rfl) ?_)
 iterate 5 refine gX ?_
 obtain ⟨x15, hx15, h⟩ := obind h
 refine z1h rfl rfl rfl rfl (fun H hp => z1o Try.underlying30 z0u rfl rfl rfl hx15 (z1c _)) ?_
 iterate 2 refine gX ?_
 obtain ⟨x16, hx16, h⟩ := obind h
 refine z1h rfl rfl rfl rfl (fun H hp => z04 rfl Z0u rfl (wkr (wkr (wkr .nil))) ⟨(ids_V x5.2), ⟨(z0b x15), ⟨rfl, trivial⟩⟩⟩ (c_q2j x5.2 x15 s2 x16 hx16) (z03 rfl (z03 rfl z0o))) ?_
 iterate 4 refine gX ?_
 refine z11 ?_
 change AO _ _ _ _ _
 refine eX ?_
 refine bR ?_
 refine sX ?_
 refine eX ?_
 refine cX h rfl ?_ ?_
 intro hc17 h
 refine bR ?_
 iterate 2 refine sX ?_
 refine eX ?_
 obtain rfl := eI h; exact z05 eK
 intro hc17 h
 refine z07 ?_
 refine cBx ?_
 refine z0a ?_
 iterate 2 refine sX ?_
 refine sX (z06 ?_)
 exact ⟨rfl, (IntKind.i64.wrap (s6 + 1)), h, jN⟩
 intro hc14 h
 refine bR ?_
 iterate 2 refine sX ?_
 refine eX ?_
 refine cX h rfl ?_ ?_
 intro hc18 h
 refine bR ?_
 iterate 2 refine sX ?_
 refine eX ?_
 obtain rfl := eI h; exact z05 eK
 intro hc18 h
 refine z07 ?_
 exact ⟨rfl, s6, h, jN⟩
 refine z13 13 [] [0, 1] mo (by kernel_rfl) ?_
 iterate 6 refine gX ?_
 refine z1s 51 rfl ?_ ?_
 intro hb19; replace h := z0j hb19 h
 iterate 3 refine wX ?_
 obtain ⟨x20, hx20, h⟩ := obind h
 refine z2l rfl rfl rfl rfl rfl rfl rfl (fun H hp => z1o Try.underlying31 inf_9 rfl rfl rfl hx20 rfl) ?_
 iterate 3 refine wX ?_
 refine z11 ?_
 change AO _ _ _ _ _
 refine z1g rfl rfl rfl rfl rfl rfl ((z21 (a := x20) (b := x5.1) rfl rfl rfl rfl).cast (y := (BO ((x20 == x5.1)))) rfl rfl) ?_
 refine sX (z06 ?_)
 exact ⟨rfl, (x20 == x5.1), h, jN⟩
 intro hb19; replace h := z0k hb19 h
 iterate 7 refine mX ?_
 refine z11 ?_
 change AO _ _ _ _ _
 refine nX ?_
 refine sX (z06 ?_)
 exact ⟨rfl, false, h, jN⟩
 refine z13 13 [] [0, 1] mo (by kernel_rfl) ?_
 iterate 6 refine gX ?_
 refine z1s 27 rfl ?_ ?_
 intro hb21; replace h := z0j hb21 h
 iterate 3 refine wX ?_
 obtain ⟨x22, hx22, h⟩ := obind h
 refine z2l rfl rfl rfl rfl rfl rfl rfl (fun H hp => z1o Try.underlying31 inf_9 rfl rfl rfl hx22 rfl) ?_
 iterate 3 refine wX ?_
 refine z11 ?_
 change AO _ _ _ _ _
 refine z1g rfl rfl rfl rfl rfl rfl ((z21 (a := x22) (b := x5.1) rfl rfl rfl rfl).cast (y := (BO ((Op.bytesLess x22 x5.1)))) rfl rfl) ?_
 refine sX (z06 ?_)
 exact ⟨rfl, (Op.bytesLess x22 x5.1), h, jN⟩
 intro hb21; replace h := z0k hb21 h
 iterate 7 refine mX ?_
 refine z11 ?_
 change AO _ _ _ _ _
 refine nX ?_
 refine sX (z06 ?_)
 exact ⟨rfl, false, h, jN⟩
 intro hc4 h
 refine z1a ?_
 refine cBx ?_
 refine z09 ?_
 refine z0e ?_
 refine cBx ?_
 unfold zl7 at h
 refine lX (σ := Int) (fun i => [(2, (I64 a2)), (4, (PV.rf 0 0)), (8, (I64 i))]) (fun i => [.box 34 (z0x a1)]) s1 h ?_ ?_
 exact jN
 rintro g2_f s23 h; replace h : z7n a1 a2 (fun y0 => g2_f y0) s23 = some r := h; unfold z7n at h
 change BW _ _ _ ⟨[(2, (I64 a2)), (4, (PV.rf 0 0)), (8, (I64 s23))], [.box 34 (z0x a1)], _⟩ _
 refine z09 ?_
 refine bR ?_
 iterate 4 refine sX ?_
 refine eX ?_
 refine cX h rfl ?_ ?_
 intro hc24 h
 refine z07 ?_
 refine cBx ?_
 refine z09 ?_
 refine z0e ?_
 refine cBx ?_
 refine bR ?_
 iterate 3 refine sX ?_
 obtain ⟨x25, hx25, h⟩ := obind h
 refine sS rfl rfl rfl (z1o Try.underlying32 inf_4 rfl rfl rfl hx25 rfl) ?_
 refine sX ?_
 refine eX ?_
 refine cX h rfl ?_ ?_
 intro hc26 h
 refine bR ?_
 iterate 2 refine sX ?_
 refine eX ?_
 obtain rfl := eI h; exact z05 eK
 intro hc26 h
 refine z07 ?_
 refine cBx ?_
 refine z0a ?_
 iterate 2 refine sX ?_
 refine sX (z06 ?_)
 exact ⟨rfl, (IntKind.i64.wrap (s23 + 1)), h, jN⟩
 intro hc24 h
 refine z1a ?_
 refine cBx ?_
 refine bR ?_
 refine sX ?_
 refine eX ?_
 obtain rfl := eI h; exact z05 eK
theorem zgg (r_q0s : (List (Str × V)) → Typ → Int → Option (Bool × Int)) (c_q0s : ∀ (a0 : (List (Str × V))) (a1 : Typ) (a2 : Int) r, r_q0s a0 a1 a2 = some r → z08 Try.prog 56 [(PV.sl none 43 2 (List.map ofFld a0)), (z02 a1), (I64 a2)] (PV.tup [(BO r.1), (I64 r.2)])) (r_q12 : (List V) → Typ → Int → Option (Bool × Int)) (c_q12 : ∀ (a0 : (List V)) (a1 : Typ) (a2 : Int) r, r_q12 a0 a1 a2 = some r → z08 Try.prog 55 [(PV.sl none 20 1 (List.map ofV a0)), (z02 a1), (I64 a2)] (PV.tup [(BO r.1), (I64 r.2)])) (r_q2j : V → Typ → Int → Option (Bool × Int)) (c_q2j : ∀ (a0 : V) (a1 : Typ) (a2 : Int) r, r_q2j a0 a1 a2 = some r → z08 Try.prog 31 [(ofV a0), (z02 a1), (I64 a2)] (PV.tup [(BO r.1), (I64 r.2)])) (a0 : (List V)) (a1 : Typ) (a2 : Int) (r : (Bool × Int)) (h : zon r_q0s r_q12 r_q2j a0 a1 a2 = some r) : z08 Try.prog 55 [(PV.sl none 20 1 (List.map ofV a0)), (z02 a1), (I64 a2)] (PV.tup [(BO r.1), (I64 r.2)]) := by
 unfold zon at h
 refine z0g Try.func55 rfl Try.ntmps55 Try.results55 rfl (z0q ?_)
 change BW _ _ _ ⟨[(0, (PV.sl none 20 1 (List.map ofV a0))), (1, (z02 a1)), (2, (I64 a2))], [], _⟩ _
 refine bR ?_
 iterate 2 refine sX ?_
 refine eX ?_
 refine bR ?_
 iterate 2 refine sX ?_
 refine eX ?_
 refine z09 ?_
 refine bR ?_
 iterate 2 refine sX ?_
 refine eX ?_
 refine z0e ?_
 refine cBx ?_
 unfold zhk at h
 refine lX (σ := (Int × Nat)) (fun i => [(4, (PV.rf 0 0)), (8, (I64 i.1)), (15, (PV.sl none 20 1 (List.map ofV a0))), (16, (I64 ((((a0).length : Nat) : Int)))), (17, (I64 (((i.2 : Nat) : Int))))]) (fun i => [.box 34 (z0x a1)]) ((IntKind.i64.wrap (a2 + 1)), 0) h ?_ ?_
 exact jN
 rintro g1_f ⟨s1, s2⟩ h; replace h : z6b r_q2j a0 a1 (fun y0 y1 => g1_f (y0, y1)) s1 s2 = some r := h; unfold z6b at h
 change BW _ _ _ ⟨[(4, (PV.rf 0 0)), (8, (I64 s1)), (15, (PV.sl none 20 1 (List.map ofV a0))), (16, (I64 ((((a0).length : Nat) : Int)))), (17, (I64 (((s2 : Nat) : Int))))], [.box 34 (z0x a1)], _⟩ _
 refine bR ?_
 refine eX ?_
 refine z09 ?_
 refine z2f (t := 15) rfl fun hb4 => ?_
 try rw [List.length_map] at hb4
 refine cX h rfl ?_ ?_
 intro hc3 h
 have hc3_ := of_decide_eq_true hc3
 refine z07 ?_
 refine cBx ?_
 refine z09 ?_
 refine z0e ?_
 refine cBx ?_
 refine bR ?_
 obtain ⟨x5, hx5, h⟩ := obind h
 refine sS rfl rfl rfl (z0w (i := s2) Try.underlying37 zbe rfl rfl rfl hx5 rfl) ?_
 refine sS rfl rfl rfl (z7y (y := (ofV x5)) Try.underlying20 rfl rfl rfl (by rw [z47]; rfl)) ?_
 refine eX ?_
 refine z09 ?_
 refine bR ?_
 iterate 3 refine sX ?_
 obtain ⟨x6, hx6, h⟩ := obind h
 refine sS rfl rfl rfl (z04 rfl Z0u rfl (wkr (wkr (wkr .nil))) ⟨(ids_V x5), ⟨(z0b a1), ⟨rfl, trivial⟩⟩⟩ (c_q2j x5 a1 s1 x6 hx6) (z03 rfl (z03 rfl z0o))) ?_
 iterate 4 refine sX ?_
 refine eX ?_
 refine bR ?_
 refine sX ?_
 refine eX ?_
 refine cX h rfl ?_ ?_
 intro hc7 h
 refine bR ?_
 iterate 2 refine sX ?_
 refine eX ?_
 obtain rfl := eI h; exact z05 eK
 intro hc7 h
 refine z07 ?_
 refine cBx ?_
 refine z0a ?_
 iterate 2 refine sX ?_
 obtain ⟨x8, hx8, h⟩ := obind h
 refine sS rfl rfl rfl (z04 rfl Z92 rfl (wkr .nil) ⟨(ids_V x5), trivial⟩ (Z7c x5 x8 hx8) rfl) ?_
 refine sX ?_
 refine eX ?_
 refine z0a ?_
 refine sS rfl rfl rfl (z1b (k := s2) (c := 1) rfl rfl rfl (by omega)) ?_
 refine sX (z06 ?_)
 exact ⟨rfl, ((IntKind.i64.wrap (s1 + x8)), (s2 + 1)), h, jN⟩
 intro hc3 h
 refine z1a ?_
 refine cBx ?_
 refine bR ?_
 refine sX ?_
 refine eX ?_
 obtain rfl := eI h; exact z05 eK
theorem zr2 (r_q0s : (List (Str × V)) → Typ → Int → Option (Bool × Int)) (c_q0s : ∀ (a0 : (List (Str × V))) (a1 : Typ) (a2 : Int) r, r_q0s a0 a1 a2 = some r → z08 Try.prog 56 [(PV.sl none 43 2 (List.map ofFld a0)), (z02 a1), (I64 a2)] (PV.tup [(BO r.1), (I64 r.2)])) (r_q12 : (List V) → Typ → Int → Option (Bool × Int)) (c_q12 : ∀ (a0 : (List V)) (a1 : Typ) (a2 : Int) r, r_q12 a0 a1 a2 = some r → z08 Try.prog 55 [(PV.sl none 20 1 (List.map ofV a0)), (z02 a1), (I64 a2)] (PV.tup [(BO r.1), (I64 r.2)])) (r_q2j : V → Typ → Int → Option (Bool × Int)) (c_q2j : ∀ (a0 : V) (a1 : Typ) (a2 : Int) r, r_q2j a0 a1 a2 = some r → z08 Try.prog 31 [(ofV a0), (z02 a1), (I64 a2)] (PV.tup [(BO r.1), (I64 r.2)])) (a0 : V) (a1 : Typ) (a2 : Int) (r : (Bool × Int)) (h : zo2 r_q0s r_q12 r_q2j a0 a1 a2 = some r) : z08 Try.prog 31 [(ofV a0), (z02 a1), (I64 a2)] (PV.tup [(BO r.1), (I64 r.2)]) := by
 unfold zo2 at h
 refine z0g Try.func31 rfl Try.ntmps31 Try.results31 rfl (z0q ?_)
 change BW _ _ _ ⟨[(0, (ofV a0)), (1, (z02 a1)), (2, (I64 a2))], [], _⟩ _
 refine bR ?_
 iterate 2 refine sX ?_
 refine eX ?_
 refine bR ?_
 refine eX ?_
 refine jX (ι := Bool) (fun i => z6w a2 i = some r) (fun i => [(2, (I64 a2)), (8, (BO i))]) (fun i => []) ?_ ?_
 rintro s1 h; replace h : z6w a2 s1 = some r := h; unfold z6w at h
 change BW _ _ _ ⟨[(2, (I64 a2)), (8, (BO s1))], [], _⟩ _
 refine z09 ?_
 refine bR ?_
 refine eX ?_
 refine cX h rfl ?_ ?_
 intro hc2 h
 refine bR ?_
 refine sX ?_
 refine eX ?_
 obtain rfl := eI h; exact z05 eK
 intro hc2 h
 refine z07 ?_
 refine cBx ?_
 refine bR ?_
 iterate 2 refine sX ?_
 refine eX ?_
 obtain rfl := eI h; exact z05 eK
 refine bR ?_
 refine sX ?_
 refine eX ?_
 refine z0e ?_
 refine cBx ?_
 refine bR ?_
 refine sX ?_
 refine eX ?_
 refine cX h rfl ?_ ?_
 intro hc3 h
 refine z0a ?_
 refine sX (z06 ?_)
 exact ⟨rfl, true, h, jN⟩
 intro hc3 h
 refine bR ?_
 refine sX ?_
 refine eX ?_
 refine cX h rfl ?_ ?_
 intro hc4 h
 refine z13 4 [] [0] mo (by kernel_rfl) ?_
 refine gX ?_
 obtain ⟨x5, hx5, h⟩ := obind h
 refine z1h rfl rfl rfl rfl (fun H hp => z04 rfl Zcm rfl (wkr .nil) ⟨(ids_V a0), trivial⟩ (Zar a0 x5 hx5) rfl) ?_
 iterate 2 refine gX ?_
 refine z11 ?_
 change AO _ _ _ _ _
 refine sX ?_
 refine sX (z06 ?_)
 exact ⟨rfl, (x5 == a1.of), h, jN⟩
 intro hc4 h
 refine bR ?_
 refine sX ?_
 refine eX ?_
 refine cX h rfl ?_ ?_
 intro hc6 h
 refine bR ?_
 iterate 2 refine sX ?_
 obtain ⟨x7, hx7, h⟩ := obind h
 refine sS rfl rfl rfl (z04 rfl Z0r rfl (.cons (Wk.toOld (zj5 (a1.only))) .nil) ⟨(z1e (z10 (a1.only))), trivial⟩ (zys (a1.only) x7 hx7) (z03 (ids_V x7.1) (z03 rfl z0o))) ?_
 iterate 4 refine sX ?_
 refine eX ?_
 refine z0a ?_
 iterate 2 refine sX ?_
 obtain ⟨x8, hx8, h⟩ := obind h
 refine sS rfl rfl rfl (z04 rfl Zcl rfl (wkr (wkr .nil)) ⟨(ids_V a0), ⟨(ids_V x7.1), trivial⟩⟩ (Zaq a0 x7.1 x8 hx8) rfl) ?_
 refine sX (z06 ?_)
 exact ⟨rfl, x8, h, jN⟩
 intro hc6 h
 refine bR ?_
 refine sX ?_
 refine eX ?_
 refine cX h rfl ?_ ?_
 intro hc9 h
 refine bR ?_
 refine sX ?_
 refine sS rfl rfl rfl (z75 rfl rfl) ?_
 iterate 4 refine sX ?_
 refine eX ?_
 refine z13 8 [] [0] mo (by kernel_rfl) ?_
 iterate 2 refine gX ?_
 refine z1s 51 rfl ?_ ?_
 intro hb10; replace h := z0j hb10 h
 refine wX ?_
 obtain ⟨x11, hx11, h⟩ := obind h
 refine z2l rfl rfl rfl rfl rfl rfl rfl (fun H hp => z35 rfl rfl hx11) ?_
 iterate 4 refine wX ?_
 refine z11 ?_
 change AO _ _ _ _ _
 refine z1g rfl rfl rfl rfl rfl rfl ((z21 (a := x11.cls) (b := a1.cls) rfl rfl rfl rfl).cast (y := (BO ((x11.cls == a1.cls)))) rfl rfl) ?_
 refine sX ?_
 refine sX (z06 ?_)
 exact ⟨rfl, (x11.cls == a1.cls), h, jN⟩
 intro hb10; replace h := z0k hb10 h
 iterate 6 refine mX ?_
 refine z11 ?_
 change AO _ _ _ _ _
 refine nX ?_
 refine sX ?_
 refine sX (z06 ?_)
 exact ⟨rfl, false, h, jN⟩
 intro hc9 h
 refine bR ?_
 refine sX ?_
 refine eX ?_
 refine cX h rfl ?_ ?_
 intro hc12 h
 refine bR ?_
 iterate 3 refine sX ?_
 refine eX ?_
 refine z0e ?_
 refine cBx ?_
 unfold zgx at h
 refine z3c (σ := Nat) (fun i => [(0, (ofV a0)), (2, (I64 a2)), (8, (BO false)), (63, (PV.sl none 34 18 (List.map ofTyp a1.parts))), (64, (I64 ((((a1.parts).length : Nat) : Int)))), (65, (I64 (((i : Nat) : Int))))]) (fun i => []) 0 h ?_ ?_ ?_
 intro i; exact ⟨lbE rfl, ⟨(z00 (ids_V _)), ⟨(z00 rfl), ⟨(z00 rfl), ⟨(z00 (z0c z1m _)), ⟨(z00 rfl), ⟨(z00 rfl), trivial⟩⟩⟩⟩⟩⟩, trivial⟩
 exact jN
 rintro g1_f s13 h; replace h : z5r r_q2j a0 a1 a2 (fun y0 => g1_f y0) s13 = some r := h; unfold z5r at h
 change BW _ _ _ ⟨[(0, (ofV a0)), (2, (I64 a2)), (8, (BO false)), (63, (PV.sl none 34 18 (List.map ofTyp a1.parts))), (64, (I64 ((((a1.parts).length : Nat) : Int)))), (65, (I64 (((s13 : Nat) : Int))))], [], _⟩ _
 refine bR ?_
 refine eX ?_
 refine z09 ?_
 refine z2f (t := 63) rfl fun hb15 => ?_
 try rw [List.length_map] at hb15
 refine cX h rfl ?_ ?_
 intro hc14 h
 have hc14_ := of_decide_eq_true hc14
 refine z07 ?_
 refine cBx ?_
 refine z09 ?_
 refine z0e ?_
 refine cBx ?_
 refine bR ?_
 obtain ⟨x16, hx16, h⟩ := obind h
 refine sS rfl rfl rfl (z0w (i := s13) Try.underlying30 z0u rfl rfl rfl hx16 (z1c _)) ?_
 refine sX ?_
 refine sS rfl rfl rfl (z16 z0u rfl) ?_
 refine z0m rfl rfl (z0d z0u rfl rfl rfl rfl rfl rfl (lbE rfl) rfl) ?_
 refine z06 ?_
 refine cBx ?_
 refine bR ?_
 iterate 3 refine sX ?_
 obtain ⟨x17, hx17, h⟩ := obind h
 refine sS rfl rfl rfl (z04 rfl Z0u rfl (wkr (wkr (wkr .nil))) ⟨(ids_V a0), ⟨(z0b x16), ⟨rfl, trivial⟩⟩⟩ (c_q2j a0 x16 a2 x17 hx17) (z03 rfl (z03 rfl z0o))) ?_
 iterate 4 refine sX ?_
 refine eX ?_
 refine bR ?_
 refine eX ?_
 refine cX h rfl ?_ ?_
 intro hc18 h
 refine bR ?_
 refine sX ?_
 refine eX ?_
 obtain rfl := eI h; exact z05 eK
 intro hc18 h
 refine z07 ?_
 refine cBx ?_
 refine z0a ?_
 refine sS rfl rfl rfl (z1b (k := s13) (c := 1) rfl rfl rfl (by omega)) ?_
 refine sX (z06 ?_)
 exact ⟨rfl, (s13 + 1), h, jN⟩
 intro hc14 h
 refine z1a ?_
 exact ⟨rfl, false, h, jN⟩
 intro hc12 h
 refine bR ?_
 refine sX ?_
 refine eX ?_
 refine cX h rfl ?_ ?_
 intro hc19 h
 refine bR ?_
 refine sX ?_
 refine sS rfl rfl rfl (z4x rfl rfl) ?_
 iterate 4 refine sX ?_
 refine eX ?_
 refine bR ?_
 refine eX ?_
 refine cX h rfl ?_ ?_
 intro hc20 h
 refine bR ?_
 iterate 3 refine sX ?_
 obtain ⟨x21, hx21, h⟩ := obind h
 refine sS rfl rfl rfl (z0w (i := 0) Try.underlying30 z0u rfl rfl rfl hx21 (z1c _)) ?_
 iterate 2 refine sX ?_
 obtain ⟨x22, hx22, h⟩ := obind h
 refine sS rfl rfl rfl (z04 rfl Zck rfl (wkr (wkr (wkr .nil))) ⟨(z0c ids_V ((a0).asList)), ⟨(z0b x21), ⟨rfl, trivial⟩⟩⟩ (c_q12 ((a0).asList) x21 a2 x22 hx22) (z03 rfl (z03 rfl z0o))) ?_
 iterate 3 refine sX ?_
 refine eX ?_
 obtain rfl := eI h; exact z05 eK
 intro hc20 h
 refine z07 ?_
 exact ⟨rfl, false, h, jN⟩
 intro hc19 h
 refine bR ?_
 refine sX ?_
 refine eX ?_
 refine cX h rfl ?_ ?_
 intro hc23 h
 refine bR ?_
 refine sX ?_
 refine sS rfl rfl rfl (z4y rfl rfl) ?_
 iterate 4 refine sX ?_
 refine eX ?_
 refine bR ?_
 refine eX ?_
 refine cX h rfl ?_ ?_
 intro hc24 h
 refine bR ?_
 iterate 3 refine sX ?_
 obtain ⟨x25, hx25, h⟩ := obind h
 refine sS rfl rfl rfl (z04 rfl Zcj rfl (wkr (wkr (wkr .nil))) ⟨(z0c z2i ((a0).asDict)), ⟨(z0b a1), ⟨rfl, trivial⟩⟩⟩ (c_q0s ((a0).asDict) a1 a2 x25 hx25) (z03 rfl (z03 rfl z0o))) ?_
 iterate 3 refine sX ?_
 refine eX ?_
 obtain rfl := eI h; exact z05 eK
 intro hc24 h
 refine z07 ?_
 exact ⟨rfl, false, h, jN⟩
 intro hc23 h
 refine z07 ?_
 exact ⟨rfl, false, h, jN⟩
theorem C_q0s.sound : ∀ (i : C_q0s) (r : i.R), z22 C_q0s.F i = some r → C_q0s.Q i r := by
 refine z2r (Φ := C_q0s.F) (Q := C_q0s.Q) ?_
 intro g hg i r h
 cases i with
 | k_q0s a0 a1 a2 => exact zek (fun a0 a1 a2 => g (.k_q0s a0 a1 a2)) (fun a0 a1 a2 r hr => hg (.k_q0s a0 a1 a2) r hr) (fun a0 a1 a2 => g (.k_q12 a0 a1 a2)) (fun a0 a1 a2 r hr => hg (.k_q12 a0 a1 a2) r hr) (fun a0 a1 a2 => g (.k_q2j a0 a1 a2)) (fun a0 a1 a2 r hr => hg (.k_q2j a0 a1 a2) r hr) a0 a1 a2 r h
 | k_q12 a0 a1 a2 => exact zgg (fun a0 a1 a2 => g (.k_q0s a0 a1 a2)) (fun a0 a1 a2 r hr => hg (.k_q0s a0 a1 a2) r hr) (fun a0 a1 a2 => g (.k_q12 a0 a1 a2)) (fun a0 a1 a2 r hr => hg (.k_q12 a0 a1 a2) r hr) (fun a0 a1 a2 => g (.k_q2j a0 a1 a2)) (fun a0 a1 a2 r hr => hg (.k_q2j a0 a1 a2) r hr) a0 a1 a2 r h
 | k_q2j a0 a1 a2 => exact zr2 (fun a0 a1 a2 => g (.k_q0s a0 a1 a2)) (fun a0 a1 a2 r hr => hg (.k_q0s a0 a1 a2) r hr) (fun a0 a1 a2 => g (.k_q12 a0 a1 a2)) (fun a0 a1 a2 r hr => hg (.k_q12 a0 a1 a2) r hr) (fun a0 a1 a2 => g (.k_q2j a0 a1 a2)) (fun a0 a1 a2 r hr => hg (.k_q2j a0 a1 a2) r hr) a0 a1 a2 r h
theorem Zak (a0 : V) (a1 : Typ) (a2 : Int) (r : (Bool × Int)) (h : z9v a0 a1 a2 = some r) : z08 Try.prog 31 [(ofV a0), (z02 a1), (I64 a2)] (PV.tup [(BO r.1), (I64 r.2)]) := C_q0s.sound (.k_q2j a0 a1 a2) r h
noncomputable def zro (a0 : Typ) : Option Typ :=
 some a0
theorem Z7b (a0 r : Typ) (h : zro a0 = some r) : z08 Try.prog 61 [(z02 a0)] (PV.fn (.func 62) [] [(PV.pt 34 (z02 r) 0)]) := by
 unfold zro at h
 refine z0g Try.func61 rfl Try.ntmps61 Try.results61 rfl (z0q ?_)
 change BW _ _ _ ⟨[(0, (z02 a0))], [], _⟩ _
 refine bR ?_
 refine sX ?_
 refine eX ?_
 refine z09 ?_
 refine zg6 0 1 (y := (PV.pt 34 (z02 a0) 0)) rfl rfl (Wk.pt (x := .agg (cc4 a0)) (y := (z02 a0)) (wkr (wkr (wkr (wkr (wkr (wkr (wkr (wkr (wkr (wkr (wkr (wkr (wkr (wkr (wkr (wkr (wkr (wkr .nil))))))))))))))))))) ?_
 refine z0a ?_
 refine sS rfl rfl rfl (zpt rfl rfl rfl) ?_
 refine eX ?_
 obtain rfl := eI h; exact z05 ⟨_, rfl, z1f (y := (PV.fn (.func 62) [] [(PV.pt 34 (z02 a0) 0)])) (Wk.refl _) (z4q (z4p (z0b a0) rfl)) ⟨rfl, rfl⟩⟩
noncomputable def z56 (a0 : (List Str)) (a1 : Str) (g1 : Nat → Option Int) (s1 : Nat) : Option Int :=
 bif (decide (((s1 : Nat) : Int) < (((a0).length : Nat) : Int))) then (
 ((a0)[s1]?).bind fun x4 =>
 bif (a1 == x4) then (
 some ((s1 : Nat) : Int)
 ) else (
 g1 (s1 + 1)
 )
 ) else (
 some (-1)
 )
theorem zrg (g1 : OF ρ → Nat → Option Int) (h_g1 : ∀ y0, CM (fun G => g1 G y0)) (a0 : (List Str)) (a1 : Str) (s1 : Nat) : CM (fun G : OF ρ => z56 a0 a1 (g1 G) s1) := by
 simp only [z56]
 repeat (first | exact z01 | exact h_g1 _ | refine z0h ?_ ?_ | refine z0i ?_ (fun _ => ?_))
noncomputable def zhv (a0 : (List Str)) (a1 : Str) (s1 : Nat) : Option Int :=
 z22 (ι := Nat) (ρ := fun _ => Int) (fun g i => z56 a0 a1 (fun s1 => g s1) i) s1
theorem zau (a0 : (List Str)) (a1 : Str) (s1 : Nat) : zhv a0 a1 s1 = z56 a0 a1 (zhv a0 a1) s1 :=
 z0t (ι := Nat) (ρ := fun _ => Int) (Φ := fun g i => z56 a0 a1 (fun s1 => g s1) i) (fun i => zrg (ι := Nat) (ρ := fun _ => Int) (fun g => (fun s1 => g s1)) (fun _ => z0s) a0 a1 i) s1
noncomputable def zs1 (a0 : (List Str)) (a1 : Str) : Option Int :=
 zhv a0 a1 0
theorem Z7n (a0 : (List Str)) (a1 : Str) (r : Int) (h : zs1 a0 a1 = some r) : z08 Try.prog 97 [(PV.sl none 9 1 (List.map ofStr a0)), (ofStr a1)] (I64 r) := by
 unfold zs1 at h
 refine z0g Try.func97 rfl Try.ntmps97 Try.results97 rfl (z0q ?_)
 change BW _ _ _ ⟨[(0, (PV.sl none 9 1 (List.map ofStr a0))), (1, (ofStr a1))], [], _⟩ _
 refine bR ?_
 refine eX ?_
 refine z09 ?_
 refine bR ?_
 iterate 2 refine sX ?_
 refine eX ?_
 refine z0e ?_
 refine cBx ?_
 unfold zhv at h
 refine lX (σ := Nat) (fun i => [(0, (PV.sl none 9 1 (List.map ofStr a0))), (1, (ofStr a1)), (7, (I64 ((((a0).length : Nat) : Int)))), (8, (I64 (((i : Nat) : Int))))]) (fun i => []) 0 h ?_ ?_
 exact jN
 rintro g1_f s1 h; replace h : z56 a0 a1 (fun y0 => g1_f y0) s1 = some r := h; unfold z56 at h
 change BW _ _ _ ⟨[(0, (PV.sl none 9 1 (List.map ofStr a0))), (1, (ofStr a1)), (7, (I64 ((((a0).length : Nat) : Int)))), (8, (I64 (((s1 : Nat) : Int))))], [], _⟩ _
 refine bR ?_
 refine eX ?_
 refine z09 ?_
 refine z2f (t := 0) rfl fun hb3 => ?_
 try rw [List.length_map] at hb3
 refine cX h rfl ?_ ?_
 intro hc2 h
 have hc2_ := of_decide_eq_true hc2
 refine z07 ?_
 refine cBx ?_
 refine z09 ?_
 refine z0e ?_
 refine cBx ?_
 refine bR ?_
 refine sX ?_
 refine eX ?_
 refine bR ?_
 iterate 3 refine sX ?_
 obtain ⟨x4, hx4, h⟩ := obind h
 refine sS rfl rfl rfl (z0w (i := s1) Try.underlying31 inf_9 rfl rfl rfl hx4 rfl) ?_
 refine sX ?_
 refine sS rfl rfl rfl ((z21 (a := a1) (b := x4) rfl rfl rfl rfl).cast (y := (BO ((a1 == x4)))) rfl rfl) (z06 ?_)
 refine cBx ?_
 refine cX h rfl ?_ ?_
 intro hc5 h
 refine bR ?_
 refine sX ?_
 refine eX ?_
 obtain rfl := eI h; exact z05 eK
 intro hc5 h
 refine z07 ?_
 refine cBx ?_
 refine z0a ?_
 refine sS rfl rfl rfl (z1b (k := s1) (c := 1) rfl rfl rfl (by omega)) ?_
 refine sX (z06 ?_)
 exact ⟨rfl, (s1 + 1), h, jN⟩
 intro hc2 h
 refine z1a ?_
 refine cBx ?_
 refine bR ?_
 refine eX ?_
 obtain rfl := eI h; exact z05 eK
noncomputable def zw9 (a0 : (List Str)) (a1 : Str) : Option Bool :=
 (zs1 a0 a1).bind fun x1 =>
 some (decide (x1 ≥ 0))
theorem Zbf (a0 : (List Str)) (a1 : Str) (r : Bool) (h : zw9 a0 a1 = some r) : z08 Try.prog 96 [(PV.sl none 9 1 (List.map ofStr a0)), (ofStr a1)] (BO r) := by
 unfold zw9 at h
 refine z0g Try.func96 rfl Try.ntmps96 Try.results96 rfl (z0q ?_)
 change BW _ _ _ ⟨[(0, (PV.sl none 9 1 (List.map ofStr a0))), (1, (ofStr a1))], [], _⟩ _
 refine bR ?_
 refine eX ?_
 refine bR ?_
 iterate 2 refine sX ?_
 obtain ⟨x1, hx1, h⟩ := obind h
 refine sS rfl rfl rfl (z04 rfl Z8z rfl (wkr (wkr .nil)) ⟨(z0c (fun _ => rfl) a0), ⟨rfl, trivial⟩⟩ (Z7n a0 a1 x1 hx1) rfl) ?_
 refine sX ?_
 refine eX ?_
 obtain rfl := eI h; exact z05 eK
noncomputable def zw5 (a0 : Str) (a1 : Typ) : Option Bool :=
 (zw9 a1.names a0).bind fun x1 =>
 some (!x1)
theorem Zb3 (a0 : Str) (a1 : Typ) (r : Bool) (h : zw5 a0 a1 = some r) : z08 Try.prog 95 [(ofStr a0), (PV.pt 34 (z02 a1) 0)] (BO r) := by
 unfold zw5 at h
 refine z0g Try.func95 rfl Try.ntmps95 Try.results95 rfl (z0q ?_)
 change BW _ _ _ ⟨[(0, (ofStr a0)), (1, (PV.pt 34 (z02 a1) 0))], [], _⟩ _
 refine bR ?_
 refine eX ?_
 refine bR ?_
 iterate 3 refine sX ?_
 obtain ⟨x1, hx1, h⟩ := obind h
 refine sS rfl rfl rfl (z04 rfl Zc7 rfl (wkr (wkr .nil)) ⟨(z0c (fun _ => rfl) a1.names), ⟨rfl, trivial⟩⟩ (Zbf a1.names a0 x1 hx1) rfl) ?_
 refine sX ?_
 refine eX ?_
 obtain rfl := eI h; exact z05 eK
end Go.Proofs.Ytiapdjdhaclmnaa
