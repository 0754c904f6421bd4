/- Pure functions, and that calls answer as they say. -/
import Derived.Test.YtiapdjdhaclmnaaG7
namespace Go.Proofs.Ytiapdjdhaclmnaa
open Go Aw
set_option linter.unusedVariables false
set_option maxRecDepth 20000
set_option maxHeartbeats 2000000
variable {ι : Type} {ρ : ι → Type}
noncomputable def zag (g1 : Int → Int → Int → Option (Bool × Int)) (a0 : Term) (s1 s3 s10 : Int) : Option (Bool × Int) :=
 (z5g a0.fields s3).bind fun x11 =>
 (zgj (x11.2)).bind fun x12 =>
 g1 (IntKind.i64.wrap (s1 + x12)) s10 (IntKind.i64.wrap (s3 + 1))
theorem ztx (g1 : OF ρ → Int → Int → Int → Option (Bool × Int)) (h_g1 : ∀ y0 y1 y2, CM (fun G => g1 G y0 y1 y2)) (a0 : Term) (s1 s3 s10 : Int) : CM (fun G : OF ρ => zag (g1 G) a0 s1 s3 s10) := by
 simp only [zag]
 repeat (first | exact z01 | exact h_g1 _ _ _ | refine z0h ?_ ?_ | refine z0i ?_ (fun _ => ?_))
noncomputable def zaf (r_q2i : Term → Typ → Int → Option (Bool × Int)) (g1 : Int → Int → Int → Option (Bool × Int)) (a0 : Term) (a1 : Typ) (a2 s1 s2 s3 : Int) (s13 : Bool) : Option (Bool × Int) :=
 bif s13 then (
 bif (!a1.opn) then (
 some (false, a2)
 ) else (
 zag g1 a0 s1 s3 s2
 )
 ) else (
 (z5g a0.fields s3).bind fun x16 =>
 (z5g a1.parts s2).bind fun x17 =>
 (r_q2i (x16.2) x17 s1).bind fun x18 =>
 bif (!x18.1) then (
 some (false, x18.2)
 ) else (
 zag g1 a0 s1 s3 (IntKind.i64.wrap (s2 + 1))
 )
 )
theorem ztw (r_q2i : OF ρ → Term → Typ → Int → Option (Bool × Int)) (h_r_q2i : ∀ y0 y1 y2, CM (fun G => r_q2i G y0 y1 y2)) (g1 : OF ρ → Int → Int → Int → Option (Bool × Int)) (h_g1 : ∀ y0 y1 y2, CM (fun G => g1 G y0 y1 y2)) (a0 : Term) (a1 : Typ) (a2 s1 s2 s3 : Int) (s13 : Bool) : CM (fun G : OF ρ => zaf (r_q2i G) (g1 G) a0 a1 a2 s1 s2 s3 s13) := by
 simp only [zaf]
 repeat (first | exact z01 | exact h_r_q2i _ _ _ | exact h_g1 _ _ _ | apply ztx | refine z0h ?_ ?_ | refine z0i ?_ (fun _ => ?_) | intro _ | assumption)
noncomputable def z8l (r_q2i : Term → Typ → Int → Option (Bool × Int)) (g1 : Int → Int → Int → Option (Bool × Int)) (a0 : Term) (a1 : Typ) (a2 s1 s2 s3 : Int) (s6 : Bool) : Option (Bool × Int) :=
 bif s6 then (
 (z5g a1.lacks s2).bind fun x8 =>
 bif (!x8) then (
 some (false, a2)
 ) else (
 g1 s1 (IntKind.i64.wrap (s2 + 1)) s3
 )
 ) else (
 bif (s2 == (((a1.names).length : Nat) : Int)) then (
 zaf r_q2i g1 a0 a1 a2 s1 s2 s3 true
 ) else (
 (z5g a1.names s2).bind fun x21 =>
 (z5g a0.fields s3).bind fun x22 =>
 zaf r_q2i g1 a0 a1 a2 s1 s2 s3 (!(Op.bytesLess x21 x22.1 || x21 == x22.1))
 )
 )
theorem zty (r_q2i : OF ρ → Term → Typ → Int → Option (Bool × Int)) (h_r_q2i : ∀ y0 y1 y2, CM (fun G => r_q2i G y0 y1 y2)) (g1 : OF ρ → Int → Int → Int → Option (Bool × Int)) (h_g1 : ∀ y0 y1 y2, CM (fun G => g1 G y0 y1 y2)) (a0 : Term) (a1 : Typ) (a2 s1 s2 s3 : Int) (s6 : Bool) : CM (fun G : OF ρ => z8l (r_q2i G) (g1 G) a0 a1 a2 s1 s2 s3 s6) := by
 simp only [z8l]
 repeat (first | exact z01 | exact h_r_q2i _ _ _ | exact h_g1 _ _ _ | apply ztw | refine z0h ?_ ?_ | refine z0i ?_ (fun _ => ?_) | intro _ | assumption)
noncomputable def z8m (r_q2i : Term → Typ → Int → Option (Bool × Int)) (g1 : Int → Int → Int → Option (Bool × Int)) (a0 : Term) (a1 : Typ) (a2 s1 s2 s3 : Int) (s4 : Bool) : Option (Bool × Int) :=
 bif s4 then (
 bif (decide (s2 < (((a1.names).length : Nat) : Int))) then (
 bif (s3 == (((a0.fields).length : Nat) : Int)) then (
 z8l r_q2i g1 a0 a1 a2 s1 s2 s3 true
 ) else (
 (z5g a1.names s2).bind fun x25 =>
 (z5g a0.fields s3).bind fun x26 =>
 z8l r_q2i g1 a0 a1 a2 s1 s2 s3 (Op.bytesLess x25 x26.1)
 )
 ) else (
 z8l r_q2i g1 a0 a1 a2 s1 s2 s3 false
 )
 ) else (
 some (true, 0)
 )
theorem ztz (r_q2i : OF ρ → Term → Typ → Int → Option (Bool × Int)) (h_r_q2i : ∀ y0 y1 y2, CM (fun G => r_q2i G y0 y1 y2)) (g1 : OF ρ → Int → Int → Int → Option (Bool × Int)) (h_g1 : ∀ y0 y1 y2, CM (fun G => g1 G y0 y1 y2)) (a0 : Term) (a1 : Typ) (a2 s1 s2 s3 : Int) (s4 : Bool) : CM (fun G : OF ρ => z8m (r_q2i G) (g1 G) a0 a1 a2 s1 s2 s3 s4) := by
 simp only [z8m]
 repeat (first | exact z01 | exact h_r_q2i _ _ _ | exact h_g1 _ _ _ | apply zty | refine z0h ?_ ?_ | refine z0i ?_ (fun _ => ?_) | intro _ | assumption)
noncomputable def z60 (r_q2i : Term → Typ → Int → Option (Bool × Int)) (a0 : Term) (a1 : Typ) (a2 : Int) (g1 : Int → Int → Int → Option (Bool × Int)) (s1 s2 s3 : Int) : Option (Bool × Int) :=
 bif (decide (s3 < (((a0.fields).length : Nat) : Int))) then (
 z8m r_q2i g1 a0 a1 a2 s1 s2 s3 true
 ) else (
 z8m r_q2i g1 a0 a1 a2 s1 s2 s3 (decide (s2 < (((a1.names).length : Nat) : Int)))
 )
theorem zc4 (r_q2i : OF ρ → Term → Typ → Int → Option (Bool × Int)) (h_r_q2i : ∀ y0 y1 y2, CM (fun G => r_q2i G y0 y1 y2)) (g1 : OF ρ → Int → Int → Int → Option (Bool × Int)) (h_g1 : ∀ y0 y1 y2, CM (fun G => g1 G y0 y1 y2)) (a0 : Term) (a1 : Typ) (a2 s1 s2 s3 : Int) : CM (fun G : OF ρ => z60 (r_q2i G) a0 a1 a2 (g1 G) s1 s2 s3) := by
 simp only [z60]
 repeat (first | exact z01 | exact h_r_q2i _ _ _ | exact h_g1 _ _ _ | apply ztz | refine z0h ?_ ?_ | refine z0i ?_ (fun _ => ?_) | intro _ | assumption)
noncomputable def zeu (r_q2i : Term → Typ → Int → Option (Bool × Int)) (a0 : Term) (a1 : Typ) (a2 s1 s2 s3 : Int) : Option (Bool × Int) :=
 z22 (ι := (Int × Int × Int)) (ρ := fun _ => (Bool × Int)) (fun g i => z60 r_q2i a0 a1 a2 (fun s1 s2 s3 => g (s1, s2, s3)) i.1 i.2.1 i.2.2) (s1, s2, s3)
theorem zkh (r_q2i : Term → Typ → Int → Option (Bool × Int)) (a0 : Term) (a1 : Typ) (a2 s1 s2 s3 : Int) : zeu r_q2i a0 a1 a2 s1 s2 s3 = z60 r_q2i a0 a1 a2 (zeu r_q2i a0 a1 a2) s1 s2 s3 :=
 z0t (ι := (Int × Int × Int)) (ρ := fun _ => (Bool × Int)) (Φ := fun g i => z60 r_q2i a0 a1 a2 (fun s1 s2 s3 => g (s1, s2, s3)) i.1 i.2.1 i.2.2) (fun i => zc4 (ι := (Int × Int × Int)) (ρ := fun _ => (Bool × Int)) (fun _ => r_q2i) (fun _ _ _ => z01) (fun g => (fun s1 s2 s3 => g (s1, s2, s3))) (fun _ _ _ => z0s) a0 a1 a2 i.1 i.2.1 i.2.2) (s1, s2, s3)
theorem ztv (r_q2i : OF ρ → Term → Typ → Int → Option (Bool × Int)) (h_r_q2i : ∀ y0 y1 y2, CM (fun G => r_q2i G y0 y1 y2)) (a0 : Term) (a1 : Typ) (a2 s1 s2 s3 : Int) : CM (fun G : OF ρ => zeu (r_q2i G) a0 a1 a2 s1 s2 s3) :=
 z28 (κ := (Int × Int × Int)) (τ := fun _ => (Bool × Int)) (Φ := fun G g i => z60 (r_q2i G) a0 a1 a2 (fun s1 s2 s3 => g (s1, s2, s3)) i.1 i.2.1 i.2.2) (fun g i => zc4 r_q2i h_r_q2i (fun _ => (fun s1 s2 s3 => g (s1, s2, s3))) (fun _ _ _ => z01) a0 a1 a2 i.1 i.2.1 i.2.2) (fun G i => zc4 (ι := (Int × Int × Int)) (ρ := fun _ => (Bool × Int)) (fun _ => r_q2i G) (fun _ _ _ => z01) (fun g => (fun s1 s2 s3 => g (s1, s2, s3))) (fun _ _ _ => z0s) a0 a1 a2 i.1 i.2.1 i.2.2) (s1, s2, s3)
noncomputable def zo8 (r_q21 r_q29 r_q2i : Term → Typ → Int → Option (Bool × Int)) (a0 : Term) (a1 : Typ) (a2 : Int) : Option (Bool × Int) :=
 zeu r_q2i a0 a1 a2 (IntKind.i64.wrap (a2 + 1)) 0 0
theorem Z1a (r_q21 : OF ρ → Term → Typ → Int → Option (Bool × Int)) (h_r_q21 : ∀ y0 y1 y2, CM (fun G => r_q21 G y0 y1 y2)) (r_q29 : OF ρ → Term → Typ → Int → Option (Bool × Int)) (h_r_q29 : ∀ y0 y1 y2, CM (fun G => r_q29 G y0 y1 y2)) (r_q2i : OF ρ → Term → Typ → Int → Option (Bool × Int)) (h_r_q2i : ∀ y0 y1 y2, CM (fun G => r_q2i G y0 y1 y2)) (a0 : Term) (a1 : Typ) (a2 : Int) : CM (fun G : OF ρ => zo8 (r_q21 G) (r_q29 G) (r_q2i G) a0 a1 a2) := by
 simp only [zo8]
 repeat (first | exact z01 | exact h_r_q21 _ _ _ | exact h_r_q29 _ _ _ | exact h_r_q2i _ _ _ | apply ztv | refine z0h ?_ ?_ | refine z0i ?_ (fun _ => ?_) | intro _ | assumption)
noncomputable def z5v (r_q2i : Term → Typ → Int → Option (Bool × Int)) (a0 : Term) (a1 : Typ) (g1 : Int → Nat → Option (Bool × Int)) (s1 : Int) (s2 : Nat) : Option (Bool × Int) :=
 bif (decide (((s2 : Nat) : Int) < (((a0.list).length : Nat) : Int))) then (
 ((a0.list)[s2]?).bind fun x5 =>
 ((a1.parts)[0]?).bind fun x6 =>
 (r_q2i x5 x6 s1).bind fun x7 =>
 bif (!x7.1) then (
 some (false, x7.2)
 ) else (
 ((a0.list)[s2]?).bind fun x9 =>
 (zgj x9).bind fun x10 =>
 g1 (IntKind.i64.wrap (s1 + x10)) (s2 + 1)
 )
 ) else (
 some (true, 0)
 )
theorem zc0 (r_q2i : OF ρ → Term → Typ → Int → Option (Bool × Int)) (h_r_q2i : ∀ y0 y1 y2, CM (fun G => r_q2i G y0 y1 y2)) (g1 : OF ρ → Int → Nat → Option (Bool × Int)) (h_g1 : ∀ y0 y1, CM (fun G => g1 G y0 y1)) (a0 : Term) (a1 : Typ) (s1 : Int) (s2 : Nat) : CM (fun G : OF ρ => z5v (r_q2i G) a0 a1 (g1 G) s1 s2) := by
 simp only [z5v]
 repeat (first | exact z01 | exact h_r_q2i _ _ _ | exact h_g1 _ _ | refine z0h ?_ ?_ | refine z0i ?_ (fun _ => ?_))
noncomputable def zh3 (r_q2i : Term → Typ → Int → Option (Bool × Int)) (a0 : Term) (a1 : Typ) (s1 : Int) (s2 : Nat) : Option (Bool × Int) :=
 z22 (ι := (Int × Nat)) (ρ := fun _ => (Bool × Int)) (fun g i => z5v r_q2i a0 a1 (fun s1 s2 => g (s1, s2)) i.1 i.2) (s1, s2)
theorem zka (r_q2i : Term → Typ → Int → Option (Bool × Int)) (a0 : Term) (a1 : Typ) (s1 : Int) (s2 : Nat) : zh3 r_q2i a0 a1 s1 s2 = z5v r_q2i a0 a1 (zh3 r_q2i a0 a1) s1 s2 :=
 z0t (ι := (Int × Nat)) (ρ := fun _ => (Bool × Int)) (Φ := fun g i => z5v r_q2i a0 a1 (fun s1 s2 => g (s1, s2)) i.1 i.2) (fun i => zc0 (ι := (Int × Nat)) (ρ := fun _ => (Bool × Int)) (fun _ => r_q2i) (fun _ _ _ => z01) (fun g => (fun s1 s2 => g (s1, s2))) (fun _ _ => z0s) a0 a1 i.1 i.2) (s1, s2)
theorem ztk (r_q2i : OF ρ → Term → Typ → Int → Option (Bool × Int)) (h_r_q2i : ∀ y0 y1 y2, CM (fun G => r_q2i G y0 y1 y2)) (a0 : Term) (a1 : Typ) (s1 : Int) (s2 : Nat) : CM (fun G : OF ρ => zh3 (r_q2i G) a0 a1 s1 s2) :=
 z28 (κ := (Int × Nat)) (τ := fun _ => (Bool × Int)) (Φ := fun G g i => z5v (r_q2i G) a0 a1 (fun s1 s2 => g (s1, s2)) i.1 i.2) (fun g i => zc0 r_q2i h_r_q2i (fun _ => (fun s1 s2 => g (s1, s2))) (fun _ _ => z01) a0 a1 i.1 i.2) (fun G i => zc0 (ι := (Int × Nat)) (ρ := fun _ => (Bool × Int)) (fun _ => r_q2i G) (fun _ _ _ => z01) (fun g => (fun s1 s2 => g (s1, s2))) (fun _ _ => z0s) a0 a1 i.1 i.2) (s1, s2)
noncomputable def zo5 (r_q21 r_q29 r_q2i : Term → Typ → Int → Option (Bool × Int)) (a0 : Term) (a1 : Typ) (a2 : Int) : Option (Bool × Int) :=
 zh3 r_q2i a0 a1 (IntKind.i64.wrap (a2 + 1)) 0
theorem Z17 (r_q21 : OF ρ → Term → Typ → Int → Option (Bool × Int)) (h_r_q21 : ∀ y0 y1 y2, CM (fun G => r_q21 G y0 y1 y2)) (r_q29 : OF ρ → Term → Typ → Int → Option (Bool × Int)) (h_r_q29 : ∀ y0 y1 y2, CM (fun G => r_q29 G y0 y1 y2)) (r_q2i : OF ρ → Term → Typ → Int → Option (Bool × Int)) (h_r_q2i : ∀ y0 y1 y2, CM (fun G => r_q2i G y0 y1 y2)) (a0 : Term) (a1 : Typ) (a2 : Int) : CM (fun G : OF ρ => zo5 (r_q21 G) (r_q29 G) (r_q2i G) a0 a1 a2) := by
 simp only [zo5]
 repeat (first | exact z01 | exact h_r_q21 _ _ _ | exact h_r_q29 _ _ _ | exact h_r_q2i _ _ _ | apply ztk | refine z0h ?_ ?_ | refine z0i ?_ (fun _ => ?_) | intro _ | assumption)
noncomputable def z6x (a2 : Int) (s1 : Bool) : Option (Bool × Int) :=
 bif s1 then (
 some (true, 0)
 ) else (
 some (false, a2)
 )
noncomputable def zd6 (g1 : Bool → Nat → Option (Bool × Int)) (s11 : Nat) (s14 : Bool) : Option (Bool × Int) :=
 g1 s14 (s11 + 1)
theorem zte (g1 : OF ρ → Bool → Nat → Option (Bool × Int)) (h_g1 : ∀ y0 y1, CM (fun G => g1 G y0 y1)) (s11 : Nat) (s14 : Bool) : CM (fun G : OF ρ => zd6 (g1 G) s11 s14) := by
 simp only [zd6]
 repeat (first | exact z01 | exact h_g1 _ _ | refine z0h ?_ ?_ | refine z0i ?_ (fun _ => ?_))
noncomputable def z5s (r_q2i : Term → Typ → Int → Option (Bool × Int)) (a0 : Term) (a1 : Typ) (a2 : Int) (g1 : Bool → Nat → Option (Bool × Int)) (s10 : Bool) (s11 : Nat) : Option (Bool × Int) :=
 bif (decide (((s11 : Nat) : Int) < (((a1.parts).length : Nat) : Int))) then (
 ((a1.parts)[s11]?).bind fun x15 =>
 (r_q2i a0 x15 a2).bind fun x16 =>
 bif s10 then (
 zd6 g1 s11 true
 ) else (
 zd6 g1 s11 x16.1
 )
 ) else (
 z6x a2 s10
 )
theorem zbx (r_q2i : OF ρ → Term → Typ → Int → Option (Bool × Int)) (h_r_q2i : ∀ y0 y1 y2, CM (fun G => r_q2i G y0 y1 y2)) (g1 : OF ρ → Bool → Nat → Option (Bool × Int)) (h_g1 : ∀ y0 y1, CM (fun G => g1 G y0 y1)) (a0 : Term) (a1 : Typ) (a2 : Int) (s10 : Bool) (s11 : Nat) : CM (fun G : OF ρ => z5s (r_q2i G) a0 a1 a2 (g1 G) s10 s11) := by
 simp only [z5s]
 repeat (first | exact z01 | exact h_r_q2i _ _ _ | exact h_g1 _ _ | apply q2i_j1_cm | apply zte | refine z0h ?_ ?_ | refine z0i ?_ (fun _ => ?_) | intro _ | assumption)
noncomputable def zgy (r_q2i : Term → Typ → Int → Option (Bool × Int)) (a0 : Term) (a1 : Typ) (a2 : Int) (s10 : Bool) (s11 : Nat) : Option (Bool × Int) :=
 z22 (ι := (Bool × Nat)) (ρ := fun _ => (Bool × Int)) (fun g i => z5s r_q2i a0 a1 a2 (fun s10 s11 => g (s10, s11)) i.1 i.2) (s10, s11)
theorem zk6 (r_q2i : Term → Typ → Int → Option (Bool × Int)) (a0 : Term) (a1 : Typ) (a2 : Int) (s10 : Bool) (s11 : Nat) : zgy r_q2i a0 a1 a2 s10 s11 = z5s r_q2i a0 a1 a2 (zgy r_q2i a0 a1 a2) s10 s11 :=
 z0t (ι := (Bool × Nat)) (ρ := fun _ => (Bool × Int)) (Φ := fun g i => z5s r_q2i a0 a1 a2 (fun s10 s11 => g (s10, s11)) i.1 i.2) (fun i => zbx (ι := (Bool × Nat)) (ρ := fun _ => (Bool × Int)) (fun _ => r_q2i) (fun _ _ _ => z01) (fun g => (fun s10 s11 => g (s10, s11))) (fun _ _ => z0s) a0 a1 a2 i.1 i.2) (s10, s11)
theorem ztd (r_q2i : OF ρ → Term → Typ → Int → Option (Bool × Int)) (h_r_q2i : ∀ y0 y1 y2, CM (fun G => r_q2i G y0 y1 y2)) (a0 : Term) (a1 : Typ) (a2 : Int) (s10 : Bool) (s11 : Nat) : CM (fun G : OF ρ => zgy (r_q2i G) a0 a1 a2 s10 s11) :=
 z28 (κ := (Bool × Nat)) (τ := fun _ => (Bool × Int)) (Φ := fun G g i => z5s (r_q2i G) a0 a1 a2 (fun s10 s11 => g (s10, s11)) i.1 i.2) (fun g i => zbx r_q2i h_r_q2i (fun _ => (fun s10 s11 => g (s10, s11))) (fun _ _ => z01) a0 a1 a2 i.1 i.2) (fun G i => zbx (ι := (Bool × Nat)) (ρ := fun _ => (Bool × Int)) (fun _ => r_q2i G) (fun _ _ _ => z01) (fun g => (fun s10 s11 => g (s10, s11))) (fun _ _ => z0s) a0 a1 a2 i.1 i.2) (s10, s11)
noncomputable def zo3 (r_q21 r_q29 r_q2i : Term → Typ → Int → Option (Bool × Int)) (a0 : Term) (a1 : Typ) (a2 : Int) : Option (Bool × Int) :=
 bif (a1.kind == 1) then (
 z6x a2 true
 ) else (
 bif (a1.kind == 3) then (
 z6x a2 (a0.kind == a1.of)
 ) else (
 bif (a1.kind == 4) then (
 (z9x a0 (a1.only)).bind fun x6 =>
 z6x a2 (x6 == 0)
 ) else (
 bif (a1.kind == 8) then (
 bif (a0.kind == 10) then (
 z6x a2 (a0.cls == a1.cls)
 ) else (
 z6x a2 false
 )
 ) else (
 bif (a1.kind == 7) then (
 zgy r_q2i a0 a1 a2 false 0
 ) else (
 bif (a1.kind == 5) then (
 bif (a0.kind == 8) then (
 (r_q29 a0 a1 a2).bind fun x20 =>
 some (x20.1, x20.2)
 ) else (
 z6x a2 false
 )
 ) else (
 bif (a1.kind == 6) then (
 bif (a0.kind == 9) then (
 (r_q21 a0 a1 a2).bind fun x23 =>
 some (x23.1, x23.2)
 ) else (
 z6x a2 false
 )
 ) else (
 z6x a2 false
 )
 )
 )
 )
 )
 )
 )
theorem Z14 (r_q21 : OF ρ → Term → Typ → Int → Option (Bool × Int)) (h_r_q21 : ∀ y0 y1 y2, CM (fun G => r_q21 G y0 y1 y2)) (r_q29 : OF ρ → Term → Typ → Int → Option (Bool × Int)) (h_r_q29 : ∀ y0 y1 y2, CM (fun G => r_q29 G y0 y1 y2)) (r_q2i : OF ρ → Term → Typ → Int → Option (Bool × Int)) (h_r_q2i : ∀ y0 y1 y2, CM (fun G => r_q2i G y0 y1 y2)) (a0 : Term) (a1 : Typ) (a2 : Int) : CM (fun G : OF ρ => zo3 (r_q21 G) (r_q29 G) (r_q2i G) a0 a1 a2) := by
 simp only [zo3]
 repeat (first | exact z01 | exact h_r_q21 _ _ _ | exact h_r_q29 _ _ _ | exact h_r_q2i _ _ _ | apply q2i_j1_cm | apply ztd | refine z0h ?_ ?_ | refine z0i ?_ (fun _ => ?_) | intro _ | assumption)
inductive C_q21 where
 | k_q21 (a0 : Term) (a1 : Typ) (a2 : Int)
 | k_q29 (a0 : Term) (a1 : Typ) (a2 : Int)
 | k_q2i (a0 : Term) (a1 : Typ) (a2 : Int)
def C_q21.R : C_q21 → Type
 | .k_q21 _ _ _ => (Bool × Int)
 | .k_q29 _ _ _ => (Bool × Int)
 | .k_q2i _ _ _ => (Bool × Int)
noncomputable def C_q21.F (g : ∀ i : C_q21, Option i.R) : ∀ i : C_q21, Option i.R
 | .k_q21 a0 a1 a2 => zo8 (fun a0 a1 a2 => g (.k_q21 a0 a1 a2)) (fun a0 a1 a2 => g (.k_q29 a0 a1 a2)) (fun a0 a1 a2 => g (.k_q2i a0 a1 a2)) a0 a1 a2
 | .k_q29 a0 a1 a2 => zo5 (fun a0 a1 a2 => g (.k_q21 a0 a1 a2)) (fun a0 a1 a2 => g (.k_q29 a0 a1 a2)) (fun a0 a1 a2 => g (.k_q2i a0 a1 a2)) a0 a1 a2
 | .k_q2i a0 a1 a2 => zo3 (fun a0 a1 a2 => g (.k_q21 a0 a1 a2)) (fun a0 a1 a2 => g (.k_q29 a0 a1 a2)) (fun a0 a1 a2 => g (.k_q2i a0 a1 a2)) a0 a1 a2
noncomputable def zrl (a0 : Term) (a1 : Typ) (a2 : Int) : Option (Bool × Int) := z22 C_q21.F (.k_q21 a0 a1 a2)
noncomputable def zrk (a0 : Term) (a1 : Typ) (a2 : Int) : Option (Bool × Int) := z22 C_q21.F (.k_q29 a0 a1 a2)
noncomputable def zfc (a0 : Term) (a1 : Typ) (a2 : Int) : Option (Bool × Int) := z22 C_q21.F (.k_q2i a0 a1 a2)
abbrev Zc2 := fun (g : ∀ i : C_q21, Option i.R) a0 a1 a2 => g (.k_q21 a0 a1 a2)
theorem Zbx (a0 a1 a2 : _) : CM (ρ := C_q21.R) (fun g => g (C_q21.k_q21 a0 a1 a2)) := z0s
abbrev Zc1 := fun (g : ∀ i : C_q21, Option i.R) a0 a1 a2 => g (.k_q29 a0 a1 a2)
theorem Zbw (a0 a1 a2 : _) : CM (ρ := C_q21.R) (fun g => g (C_q21.k_q29 a0 a1 a2)) := z0s
abbrev Zc0 := fun (g : ∀ i : C_q21, Option i.R) a0 a1 a2 => g (.k_q2i a0 a1 a2)
theorem Zbv (a0 a1 a2 : _) : CM (ρ := C_q21.R) (fun g => g (C_q21.k_q2i a0 a1 a2)) := z0s
theorem C_q21.cm (i : C_q21) : CM (fun g : (∀ i : C_q21, Option i.R) => C_q21.F g i) := by
 cases i with
 | k_q21 a0 a1 a2 => exact Z1a Zc2 Zbx Zc1 Zbw Zc0 Zbv a0 a1 a2
 | k_q29 a0 a1 a2 => exact Z17 Zc2 Zbx Zc1 Zbw Zc0 Zbv a0 a1 a2
 | k_q2i a0 a1 a2 => exact Z14 Zc2 Zbx Zc1 Zbw Zc0 Zbv a0 a1 a2
theorem Zcy (a0 : Term) (a1 : Typ) (a2 : Int) : zrl a0 a1 a2 = zo8 zrl zrk zfc a0 a1 a2 := z0t C_q21.cm (.k_q21 a0 a1 a2)
theorem Zcv (a0 : Term) (a1 : Typ) (a2 : Int) : zrk a0 a1 a2 = zo5 zrl zrk zfc a0 a1 a2 := z0t C_q21.cm (.k_q29 a0 a1 a2)
theorem Zct (a0 : Term) (a1 : Typ) (a2 : Int) : zfc a0 a1 a2 = zo3 zrl zrk zfc a0 a1 a2 := z0t C_q21.cm (.k_q2i a0 a1 a2)
def C_q21.Q : ∀ i : C_q21, i.R → Prop
 | .k_q21 a0 a1 a2 => fun (r : (Bool × Int)) => z08 Try.prog 58 [(z0v a0), (z02 a1), (I64 a2)] (PV.tup [(BO r.1), (I64 r.2)])
 | .k_q29 a0 a1 a2 => fun (r : (Bool × Int)) => z08 Try.prog 57 [(z0v a0), (z02 a1), (I64 a2)] (PV.tup [(BO r.1), (I64 r.2)])
 | .k_q2i a0 a1 a2 => fun (r : (Bool × Int)) => z08 Try.prog 32 [(z0v a0), (z02 a1), (I64 a2)] (PV.tup [(BO r.1), (I64 r.2)])
theorem zjz (r_q21 : Term → Typ → Int → Option (Bool × Int)) (c_q21 : ∀ (a0 : Term) (a1 : Typ) (a2 : Int) r, r_q21 a0 a1 a2 = some r → z08 Try.prog 58 [(z0v a0), (z02 a1), (I64 a2)] (PV.tup [(BO r.1), (I64 r.2)])) (r_q29 : Term → Typ → Int → Option (Bool × Int)) (c_q29 : ∀ (a0 : Term) (a1 : Typ) (a2 : Int) r, r_q29 a0 a1 a2 = some r → z08 Try.prog 57 [(z0v a0), (z02 a1), (I64 a2)] (PV.tup [(BO r.1), (I64 r.2)])) (r_q2i : Term → Typ → Int → Option (Bool × Int)) (c_q2i : ∀ (a0 : Term) (a1 : Typ) (a2 : Int) r, r_q2i a0 a1 a2 = some r → z08 Try.prog 32 [(z0v a0), (z02 a1), (I64 a2)] (PV.tup [(BO r.1), (I64 r.2)])) (a0 : Term) (a1 : Typ) (a2 : Int) (r : (Bool × Int)) (h : zo8 r_q21 r_q29 r_q2i a0 a1 a2 = some r) : z08 Try.prog 58 [(z0v a0), (z02 a1), (I64 a2)] (PV.tup [(BO r.1), (I64 r.2)]) := by
 unfold zo8 at h
 refine z0g Try.func58 rfl Try.ntmps58 Try.results58 rfl (z0q ?_)
 change BW _ _ _ ⟨[(0, (z0v a0)), (1, (z02 a1)), (2, (I64 a2))], [], _⟩ _
 refine bR ?_
 iterate 3 refine sX ?_
 refine eX ?_
 refine bR ?_
 iterate 3 refine sX ?_
 refine eX ?_
 refine z09 ?_
 refine bR ?_
 refine eX ?_
 refine z0e ?_
 refine cBx ?_
 unfold zeu at h
 refine lX (σ := (Int × Int × Int)) (fun i => [(2, (I64 a2)), (3, (PV.rf 0 0)), (4, (PV.rf 1 0)), (8, (I64 i.1)), (9, (I64 i.2.1)), (10, (I64 i.2.2))]) (fun i => [.box 29 (z2j a0), .box 34 (z0x a1)]) ((IntKind.i64.wrap (a2 + 1)), 0, 0) h ?_ ?_
 exact jN
 rintro g1_f ⟨s1, s2, s3⟩ h; replace h : z60 r_q2i a0 a1 a2 (fun y0 y1 y2 => g1_f (y0, y1, y2)) s1 s2 s3 = some r := h; unfold z60 at h
 change BW _ _ _ ⟨[(2, (I64 a2)), (3, (PV.rf 0 0)), (4, (PV.rf 1 0)), (8, (I64 s1)), (9, (I64 s2)), (10, (I64 s3))], [.box 29 (z2j a0), .box 34 (z0x a1)], _⟩ _
 refine z09 ?_
 refine jX (ι := Bool) (fun i => z8m r_q2i (fun y0 y1 y2 => g1_f (y0, y1, y2)) a0 a1 a2 s1 s2 s3 i = some r) (fun i => [(2, (I64 a2)), (3, (PV.rf 0 0)), (4, (PV.rf 1 0)), (8, (I64 s1)), (9, (I64 s2)), (10, (I64 s3)), (26, (BO i))]) (fun i => [.box 29 (z2j a0), .box 34 (z0x a1)]) ?_ ?_
 rintro s4 h; replace h : z8m r_q2i (fun y0 y1 y2 => g1_f (y0, y1, y2)) a0 a1 a2 s1 s2 s3 s4 = some r := h; unfold z8m at h
 change BW _ _ _ ⟨[(2, (I64 a2)), (3, (PV.rf 0 0)), (4, (PV.rf 1 0)), (8, (I64 s1)), (9, (I64 s2)), (10, (I64 s3)), (26, (BO s4))], [.box 29 (z2j a0), .box 34 (z0x a1)], _⟩ _
 refine cX h rfl ?_ ?_
 intro hc5 h
 refine z07 ?_
 refine cBx ?_
 refine z0e ?_
 refine cBx ?_
 refine z09 ?_
 refine jX (ι := Bool) (fun i => z8l r_q2i (fun y0 y1 y2 => g1_f (y0, y1, y2)) a0 a1 a2 s1 s2 s3 i = some r) (fun i => [(2, (I64 a2)), (3, (PV.rf 0 0)), (4, (PV.rf 1 0)), (8, (I64 s1)), (9, (I64 s2)), (10, (I64 s3)), (52, (BO i))]) (fun i => [.box 29 (z2j a0), .box 34 (z0x a1)]) ?_ ?_
 rintro s6 h; replace h : z8l r_q2i (fun y0 y1 y2 => g1_f (y0, y1, y2)) a0 a1 a2 s1 s2 s3 s6 = some r := h; unfold z8l at h
 change BW _ _ _ ⟨[(2, (I64 a2)), (3, (PV.rf 0 0)), (4, (PV.rf 1 0)), (8, (I64 s1)), (9, (I64 s2)), (10, (I64 s3)), (52, (BO s6))], [.box 29 (z2j a0), .box 34 (z0x a1)], _⟩ _
 refine cX h rfl ?_ ?_
 intro hc7 h
 refine z09 ?_
 refine bR ?_
 iterate 3 refine sX ?_
 obtain ⟨x8, hx8, h⟩ := obind h
 refine sS rfl rfl rfl (z1o Try.underlying32 inf_4 rfl rfl rfl hx8 rfl) ?_
 refine sX ?_
 refine eX ?_
 refine cX h rfl ?_ ?_
 intro hc9 h
 refine bR ?_
 iterate 2 refine sX ?_
 refine eX ?_
 obtain rfl := eI h; exact z05 eK
 intro hc9 h
 refine z07 ?_
 refine cBx ?_
 refine bR ?_
 iterate 2 refine sX ?_
 refine eX ?_
 refine z1a ?_
 exact ⟨rfl, (s1, (IntKind.i64.wrap (s2 + 1)), s3), h, jN⟩
 intro hc7 h
 refine z07 ?_
 refine cBx ?_
 refine jX (ι := Int) (fun i => zag (fun y0 y1 y2 => g1_f (y0, y1, y2)) a0 s1 s3 i = some r) (fun i => [(2, (I64 a2)), (3, (PV.rf 0 0)), (4, (PV.rf 1 0)), (8, (I64 s1)), (9, (I64 i)), (10, (I64 s3))]) (fun i => [.box 29 (z2j a0), .box 34 (z0x a1)]) ?_ ?_
 rintro s10 h; replace h : zag (fun y0 y1 y2 => g1_f (y0, y1, y2)) a0 s1 s3 s10 = some r := h; unfold zag at h
 change BW _ _ _ ⟨[(2, (I64 a2)), (3, (PV.rf 0 0)), (4, (PV.rf 1 0)), (8, (I64 s1)), (9, (I64 s10)), (10, (I64 s3))], [.box 29 (z2j a0), .box 34 (z0x a1)], _⟩ _
 refine bR ?_
 iterate 4 refine sX ?_
 obtain ⟨x11, hx11, h⟩ := obind h
 refine sS rfl rfl rfl (z1o Try.underlying27 z24 rfl rfl rfl hx11 (z1r _)) ?_
 iterate 2 refine sX ?_
 obtain ⟨x12, hx12, h⟩ := obind h
 refine sS rfl rfl rfl (z04 rfl Z5p rfl (wkr .nil) ⟨(z10 (x11.2)), trivial⟩ (Z7a (x11.2) x12 hx12) rfl) ?_
 refine sX ?_
 refine eX ?_
 refine z0a ?_
 iterate 2 refine sX ?_
 refine sX (z06 ?_)
 exact ⟨rfl, ((IntKind.i64.wrap (s1 + x12)), s10, (IntKind.i64.wrap (s3 + 1))), h, jN⟩
 refine jX (ι := Bool) (fun i => zaf r_q2i (fun y0 y1 y2 => g1_f (y0, y1, y2)) a0 a1 a2 s1 s2 s3 i = some r) (fun i => [(2, (I64 a2)), (3, (PV.rf 0 0)), (4, (PV.rf 1 0)), (8, (I64 s1)), (9, (I64 s2)), (10, (I64 s3)), (80, (BO i))]) (fun i => [.box 29 (z2j a0), .box 34 (z0x a1)]) ?_ ?_
 rintro s13 h; replace h : zaf r_q2i (fun y0 y1 y2 => g1_f (y0, y1, y2)) a0 a1 a2 s1 s2 s3 s13 = some r := h; unfold zaf at h
 change BW _ _ _ ⟨[(2, (I64 a2)), (3, (PV.rf 0 0)), (4, (PV.rf 1 0)), (8, (I64 s1)), (9, (I64 s2)), (10, (I64 s3)), (80, (BO s13))], [.box 29 (z2j a0), .box 34 (z0x a1)], _⟩ _
 refine cX h rfl ?_ ?_
 intro hc14 h
 refine bR ?_
 iterate 2 refine sX ?_
 refine eX ?_
 refine cX h rfl ?_ ?_
 intro hc15 h
 refine bR ?_
 iterate 2 refine sX ?_
 refine eX ?_
 obtain rfl := eI h; exact z05 eK
 intro hc15 h
 refine z07 ?_
 exact ⟨rfl, s2, h, jN⟩
 intro hc14 h
 refine z09 ?_
 refine z09 (z13 17 [] [0, 1] mo (by kernel_rfl) ?_)
 iterate 3 refine gX ?_
 obtain ⟨x16, hx16, h⟩ := obind h
 refine z1h rfl rfl rfl rfl (fun H hp => z1o Try.underlying27 z24 rfl rfl rfl hx16 (z1r _)) ?_
 iterate 5 refine gX ?_
 obtain ⟨x17, hx17, h⟩ := obind h
 refine z1h rfl rfl rfl rfl (fun H hp => z1o Try.underlying30 z0u rfl rfl rfl hx17 (z1c _)) ?_
 iterate 2 refine gX ?_
 obtain ⟨x18, hx18, h⟩ := obind h
 refine z1h rfl rfl rfl rfl (fun H hp => z04 rfl Z0t rfl (wkr (wkr (wkr .nil))) ⟨(z10 (x16.2)), ⟨(z0b x17), ⟨rfl, trivial⟩⟩⟩ (c_q2i (x16.2) x17 s1 x18 hx18) (z03 rfl (z03 rfl z0o))) ?_
 iterate 4 refine gX ?_
 refine z11 ?_
 change AO _ _ _ _ _
 refine eX ?_
 refine bR ?_
 refine sX ?_
 refine eX ?_
 refine cX h rfl ?_ ?_
 intro hc19 h
 refine bR ?_
 iterate 2 refine sX ?_
 refine eX ?_
 obtain rfl := eI h; exact z05 eK
 intro hc19 h
 refine z07 ?_
 refine cBx ?_
 refine z0a ?_
 iterate 2 refine sX ?_
 refine sX (z06 ?_)
 exact ⟨rfl, (IntKind.i64.wrap (s2 + 1)), h, jN⟩
 refine z13 17 [] [0, 1] mo (by kernel_rfl) ?_
 iterate 6 refine gX ?_
 refine z1s 67 rfl ?_ ?_
 intro hb20; replace h := z0j hb20 h
 iterate 11 refine mX ?_
 refine z11 ?_
 change AO _ _ _ _ _
 refine nX ?_
 refine sX (z06 ?_)
 exact ⟨rfl, true, h, jN⟩
 intro hb20; replace h := z0k hb20 h
 iterate 3 refine wX ?_
 obtain ⟨x21, hx21, h⟩ := obind h
 refine z2l rfl rfl rfl rfl rfl rfl rfl (fun H hp => z1o Try.underlying31 inf_9 rfl rfl rfl hx21 rfl) ?_
 iterate 4 refine wX ?_
 obtain ⟨x22, hx22, h⟩ := obind h
 refine z2l rfl rfl rfl rfl rfl rfl rfl (fun H hp => z1o Try.underlying27 z24 rfl rfl rfl hx22 (z1r _)) ?_
 iterate 2 refine wX ?_
 refine z11 ?_
 change AO _ _ _ _ _
 refine z1g rfl rfl rfl rfl rfl rfl ((z21 (a := x21) (b := x22.1) rfl rfl rfl rfl).cast (y := (BO ((!(Op.bytesLess x21 x22.1 || x21 == x22.1))))) rfl rfl) ?_
 refine sX (z06 ?_)
 exact ⟨rfl, (!(Op.bytesLess x21 x22.1 || x21 == x22.1)), h, jN⟩
 refine z13 23 [] [0, 1] mo (by kernel_rfl) ?_
 iterate 6 refine gX ?_
 refine z1s 32 rfl ?_ ?_
 intro hb23; replace h := z0j hb23 h
 iterate 6 refine wX ?_
 refine z1s 38 rfl ?_ ?_
 intro hb24; replace h := z0j hb24 h
 iterate 11 refine mX ?_
 refine z11 ?_
 change AO _ _ _ _ _
 refine nX ?_
 refine yX ?_
 refine sX (z06 ?_)
 exact ⟨rfl, true, h, jN⟩
 intro hb24; replace h := z0k hb24 h
 iterate 3 refine wX ?_
 obtain ⟨x25, hx25, h⟩ := obind h
 refine z2l rfl rfl rfl rfl rfl rfl rfl (fun H hp => z1o Try.underlying31 inf_9 rfl rfl rfl hx25 rfl) ?_
 iterate 4 refine wX ?_
 obtain ⟨x26, hx26, h⟩ := obind h
 refine z2l rfl rfl rfl rfl rfl rfl rfl (fun H hp => z1o Try.underlying27 z24 rfl rfl rfl hx26 (z1r _)) ?_
 iterate 2 refine wX ?_
 refine z11 ?_
 change AO _ _ _ _ _
 refine z1g rfl rfl rfl rfl rfl rfl ((z21 (a := x25) (b := x26.1) rfl rfl rfl rfl).cast (y := (BO ((Op.bytesLess x25 x26.1)))) rfl rfl) ?_
 refine yX ?_
 refine sX (z06 ?_)
 exact ⟨rfl, (Op.bytesLess x25 x26.1), h, jN⟩
 intro hb23; replace h := z0k hb23 h
 iterate 17 refine mX ?_
 refine z11 ?_
 change AO _ _ _ _ _
 iterate 2 refine nX ?_
 refine sX (z06 ?_)
 exact ⟨rfl, false, h, jN⟩
 intro hc5 h
 refine z1a ?_
 refine cBx ?_
 refine bR ?_
 refine sX ?_
 refine eX ?_
 obtain rfl := eI h; exact z05 eK
 refine z0a ?_
 iterate 6 refine sX ?_
 refine z0n (t := 20) rfl ?_ ?_
 intro hb27; replace h := z0j hb27 h
 iterate 5 refine nX ?_
 refine sX (z06 ?_)
 exact ⟨rfl, true, h, jN⟩
 intro hb27; replace h := z0k hb27 h
 iterate 5 refine yX ?_
 refine sX (z06 ?_)
 exact ⟨rfl, (decide (s2 < (((a1.names).length : Nat) : Int))), h, jN⟩
theorem zjy (r_q21 : Term → Typ → Int → Option (Bool × Int)) (c_q21 : ∀ (a0 : Term) (a1 : Typ) (a2 : Int) r, r_q21 a0 a1 a2 = some r → z08 Try.prog 58 [(z0v a0), (z02 a1), (I64 a2)] (PV.tup [(BO r.1), (I64 r.2)])) (r_q29 : Term → Typ → Int → Option (Bool × Int)) (c_q29 : ∀ (a0 : Term) (a1 : Typ) (a2 : Int) r, r_q29 a0 a1 a2 = some r → z08 Try.prog 57 [(z0v a0), (z02 a1), (I64 a2)] (PV.tup [(BO r.1), (I64 r.2)])) (r_q2i : Term → Typ → Int → Option (Bool × Int)) (c_q2i : ∀ (a0 : Term) (a1 : Typ) (a2 : Int) r, r_q2i a0 a1 a2 = some r → z08 Try.prog 32 [(z0v a0), (z02 a1), (I64 a2)] (PV.tup [(BO r.1), (I64 r.2)])) (a0 : Term) (a1 : Typ) (a2 : Int) (r : (Bool × Int)) (h : zo5 r_q21 r_q29 r_q2i a0 a1 a2 = some r) : z08 Try.prog 57 [(z0v a0), (z02 a1), (I64 a2)] (PV.tup [(BO r.1), (I64 r.2)]) := by
 unfold zo5 at h
 refine z0g Try.func57 rfl Try.ntmps57 Try.results57 rfl (z0q ?_)
 change BW _ _ _ ⟨[(0, (z0v a0)), (1, (z02 a1)), (2, (I64 a2))], [], _⟩ _
 refine bR ?_
 iterate 3 refine sX ?_
 refine eX ?_
 refine bR ?_
 iterate 2 refine sX ?_
 refine eX ?_
 refine z09 ?_
 refine bR ?_
 refine eX ?_
 refine z0e ?_
 refine cBx ?_
 unfold zh3 at h
 refine lX (σ := (Int × Nat)) (fun i => [(3, (PV.rf 0 0)), (4, (PV.rf 1 0)), (8, (I64 i.1)), (9, (I64 (((i.2 : Nat) : Int))))]) (fun i => [.box 29 (z2j a0), .box 34 (z0x a1)]) ((IntKind.i64.wrap (a2 + 1)), 0) h ?_ ?_
 exact jN
 rintro g1_f ⟨s1, s2⟩ h; replace h : z5v r_q2i a0 a1 (fun y0 y1 => g1_f (y0, y1)) s1 s2 = some r := h; unfold z5v at h
 change BW _ _ _ ⟨[(3, (PV.rf 0 0)), (4, (PV.rf 1 0)), (8, (I64 s1)), (9, (I64 (((s2 : Nat) : Int))))], [.box 29 (z2j a0), .box 34 (z0x a1)], _⟩ _
 refine z09 ?_
 refine bR ?_
 iterate 4 refine sX ?_
 refine eX ?_
 refine z2f (t := 16) rfl fun hb4 => ?_
 try rw [List.length_map] at hb4
 refine cX h rfl ?_ ?_
 intro hc3 h
 have hc3_ := of_decide_eq_true hc3
 refine z07 ?_
 refine cBx ?_
 refine z09 ?_
 refine z0e ?_
 refine cBx ?_
 refine z09 ?_
 refine z09 (z13 15 [] [0, 1] mo (by kernel_rfl) ?_)
 iterate 3 refine gX ?_
 obtain ⟨x5, hx5, h⟩ := obind h
 refine z1h rfl rfl rfl rfl (fun H hp => z0w (i := s2) Try.underlying26 z20 rfl rfl rfl hx5 (z26 _)) ?_
 iterate 3 refine gX ?_
 obtain ⟨x6, hx6, h⟩ := obind h
 refine z1h rfl rfl rfl rfl (fun H hp => z0w (i := 0) Try.underlying30 z0u rfl rfl rfl hx6 (z1c _)) ?_
 iterate 2 refine gX ?_
 obtain ⟨x7, hx7, h⟩ := obind h
 refine z1h rfl rfl rfl rfl (fun H hp => z04 rfl Z0t rfl (wkr (wkr (wkr .nil))) ⟨(z10 x5), ⟨(z0b x6), ⟨rfl, trivial⟩⟩⟩ (c_q2i x5 x6 s1 x7 hx7) (z03 rfl (z03 rfl z0o))) ?_
 iterate 4 refine gX ?_
 refine z11 ?_
 change AO _ _ _ _ _
 refine eX ?_
 refine bR ?_
 refine sX ?_
 refine eX ?_
 refine cX h rfl ?_ ?_
 intro hc8 h
 refine bR ?_
 iterate 2 refine sX ?_
 refine eX ?_
 obtain rfl := eI h; exact z05 eK
 intro hc8 h
 refine z07 ?_
 refine cBx ?_
 refine z0a ?_
 iterate 4 refine sX ?_
 obtain ⟨x9, hx9, h⟩ := obind h
 refine sS rfl rfl rfl (z0w (i := s2) Try.underlying26 z20 rfl rfl rfl hx9 (z26 _)) ?_
 refine sX ?_
 obtain ⟨x10, hx10, h⟩ := obind h
 refine sS rfl rfl rfl (z04 rfl Z5p rfl (wkr .nil) ⟨(z10 x9), trivial⟩ (Z7a x9 x10 hx10) rfl) ?_
 refine sX ?_
 refine eX ?_
 refine z0a ?_
 refine sX ?_
 refine sS rfl rfl rfl (z1b (k := s2) (c := 1) rfl rfl rfl (by omega)) ?_
 refine sX (z06 ?_)
 exact ⟨rfl, ((IntKind.i64.wrap (s1 + x10)), (s2 + 1)), h, jN⟩
 intro hc3 h
 refine z1a ?_
 refine cBx ?_
 refine bR ?_
 refine sX ?_
 refine eX ?_
 obtain rfl := eI h; exact z05 eK
theorem zr1 (r_q21 : Term → Typ → Int → Option (Bool × Int)) (c_q21 : ∀ (a0 : Term) (a1 : Typ) (a2 : Int) r, r_q21 a0 a1 a2 = some r → z08 Try.prog 58 [(z0v a0), (z02 a1), (I64 a2)] (PV.tup [(BO r.1), (I64 r.2)])) (r_q29 : Term → Typ → Int → Option (Bool × Int)) (c_q29 : ∀ (a0 : Term) (a1 : Typ) (a2 : Int) r, r_q29 a0 a1 a2 = some r → z08 Try.prog 57 [(z0v a0), (z02 a1), (I64 a2)] (PV.tup [(BO r.1), (I64 r.2)])) (r_q2i : Term → Typ → Int → Option (Bool × Int)) (c_q2i : ∀ (a0 : Term) (a1 : Typ) (a2 : Int) r, r_q2i a0 a1 a2 = some r → z08 Try.prog 32 [(z0v a0), (z02 a1), (I64 a2)] (PV.tup [(BO r.1), (I64 r.2)])) (a0 : Term) (a1 : Typ) (a2 : Int) (r : (Bool × Int)) (h : zo3 r_q21 r_q29 r_q2i a0 a1 a2 = some r) : z08 Try.prog 32 [(z0v a0), (z02 a1), (I64 a2)] (PV.tup [(BO r.1), (I64 r.2)]) := by
 unfold zo3 at h
 refine z0g Try.func32 rfl Try.ntmps32 Try.results32 rfl (z0q ?_)
 change BW _ _ _ ⟨[(0, (z0v a0)), (1, (z02 a1)), (2, (I64 a2))], [], _⟩ _
 refine bR ?_
 iterate 3 refine sX ?_
 refine eX ?_
 refine bR ?_
 refine eX ?_
 refine jX (ι := Bool) (fun i => z6x a2 i = some r) (fun i => [(2, (I64 a2)), (8, (BO i))]) (fun i => []) ?_ ?_
 rintro s1 h; replace h : z6x a2 s1 = some r := h; unfold z6x at h
 change BW _ _ _ ⟨[(2, (I64 a2)), (8, (BO s1))], [], _⟩ _
 refine z09 ?_
 refine bR ?_
 refine eX ?_
 refine cX h rfl ?_ ?_
 intro hc2 h
 refine bR ?_
 refine sX ?_
 refine eX ?_
 obtain rfl := eI h; exact z05 eK
 intro hc2 h
 refine z07 ?_
 refine cBx ?_
 refine bR ?_
 iterate 2 refine sX ?_
 refine eX ?_
 obtain rfl := eI h; exact z05 eK
 refine bR ?_
 refine sX ?_
 refine eX ?_
 refine z0e ?_
 refine cBx ?_
 refine bR ?_
 refine sX ?_
 refine eX ?_
 refine cX h rfl ?_ ?_
 intro hc3 h
 refine z0a ?_
 refine sX (z06 ?_)
 exact ⟨rfl, true, h, jN⟩
 intro hc3 h
 refine bR ?_
 refine sX ?_
 refine eX ?_
 refine cX h rfl ?_ ?_
 intro hc4 h
 refine z0a ?_
 iterate 5 refine sX ?_
 refine sX (z06 ?_)
 exact ⟨rfl, (a0.kind == a1.of), h, jN⟩
 intro hc4 h
 refine bR ?_
 refine sX ?_
 refine eX ?_
 refine cX h rfl ?_ ?_
 intro hc5 h
 refine z0a ?_
 iterate 3 refine sX ?_
 obtain ⟨x6, hx6, h⟩ := obind h
 refine sS rfl rfl rfl (z04 rfl Z0s rfl (wkr (wkr .nil)) ⟨(z10 a0), ⟨(z10 (a1.only)), trivial⟩⟩ (Z7i a0 (a1.only) x6 hx6) rfl) ?_
 refine sX ?_
 refine sX (z06 ?_)
 exact ⟨rfl, (x6 == 0), h, jN⟩
 intro hc5 h
 refine bR ?_
 refine sX ?_
 refine eX ?_
 refine cX h rfl ?_ ?_
 intro hc7 h
 refine z0a ?_
 iterate 4 refine sX ?_
 refine z0n (t := 35) rfl ?_ ?_
 intro hb8; replace h := z0j hb8 h
 iterate 4 refine yX ?_
 refine z1g rfl rfl rfl rfl rfl rfl ((z21 (a := a0.cls) (b := a1.cls) rfl rfl rfl rfl).cast (y := (BO ((a0.cls == a1.cls)))) rfl rfl) ?_
 refine sX ?_
 refine sX (z06 ?_)
 exact ⟨rfl, (a0.cls == a1.cls), h, jN⟩
 intro hb8; replace h := z0k hb8 h
 iterate 5 refine nX ?_
 refine sX ?_
 refine sX (z06 ?_)
 exact ⟨rfl, false, h, jN⟩
 intro hc7 h
 refine bR ?_
 refine sX ?_
 refine eX ?_
 refine cX h rfl ?_ ?_
 intro hc9 h
 refine bR ?_
 refine eX ?_
 refine z0e ?_
 refine cBx ?_
 unfold zgy at h
 refine lX (σ := (Bool × Nat)) (fun i => [(2, (I64 a2)), (3, (PV.rf 0 0)), (4, (PV.rf 1 0)), (8, (BO i.1)), (9, (I64 (((i.2 : Nat) : Int))))]) (fun i => [.box 29 (z2j a0), .box 34 (z0x a1)]) (false, 0) h ?_ ?_
 exact jN
 rintro g1_f ⟨s10, s11⟩ h; replace h : z5s r_q2i a0 a1 a2 (fun y0 y1 => g1_f (y0, y1)) s10 s11 = some r := h; unfold z5s at h
 change BW _ _ _ ⟨[(2, (I64 a2)), (3, (PV.rf 0 0)), (4, (PV.rf 1 0)), (8, (BO s10)), (9, (I64 (((s11 : Nat) : Int))))], [.box 29 (z2j a0), .box 34 (z0x a1)], _⟩ _
 refine z09 ?_
 refine bR ?_
 iterate 4 refine sX ?_
 refine eX ?_
 refine z2f (t := 46) rfl fun hb13 => ?_
 try rw [List.length_map] at hb13
 refine cX h rfl ?_ ?_
 intro hc12 h
 have hc12_ := of_decide_eq_true hc12
 refine z07 ?_
 refine cBx ?_
 refine jX (ι := Bool) (fun i => zd6 (fun y0 y1 => g1_f (y0, y1)) s11 i = some r) (fun i => [(2, (I64 a2)), (3, (PV.rf 0 0)), (4, (PV.rf 1 0)), (8, (BO i)), (9, (I64 (((s11 : Nat) : Int))))]) (fun i => [.box 29 (z2j a0), .box 34 (z0x a1)]) ?_ ?_
 rintro s14 h; replace h : zd6 (fun y0 y1 => g1_f (y0, y1)) s11 s14 = some r := h; unfold zd6 at h
 change BW _ _ _ ⟨[(2, (I64 a2)), (3, (PV.rf 0 0)), (4, (PV.rf 1 0)), (8, (BO s14)), (9, (I64 (((s11 : Nat) : Int))))], [.box 29 (z2j a0), .box 34 (z0x a1)], _⟩ _
 refine z0a ?_
 refine sX ?_
 refine sS rfl rfl rfl (z1b (k := s11) (c := 1) rfl rfl rfl (by omega)) ?_
 refine sX (z06 ?_)
 exact ⟨rfl, (s14, (s11 + 1)), h, jN⟩
 refine z0e ?_
 refine cBx ?_
 refine z09 (z13 12 [] [0, 1] mo (by kernel_rfl) ?_)
 iterate 4 refine gX ?_
 obtain ⟨x15, hx15, h⟩ := obind h
 refine z1h rfl rfl rfl rfl (fun H hp => z0w (i := s11) Try.underlying30 z0u rfl rfl rfl hx15 (z1c _)) ?_
 iterate 2 refine gX ?_
 obtain ⟨x16, hx16, h⟩ := obind h
 refine z1h rfl rfl rfl rfl (fun H hp => z04 rfl Z0t rfl (wkr (wkr (wkr .nil))) ⟨(z10 a0), ⟨(z0b x15), ⟨rfl, trivial⟩⟩⟩ (c_q2i a0 x15 a2 x16 hx16) (z03 rfl (z03 rfl z0o))) ?_
 iterate 4 refine gX ?_
 refine z11 ?_
 change AO _ _ _ _ _
 refine eX ?_
 refine z0a ?_
 iterate 2 refine sX ?_
 refine z0n (t := 63) rfl ?_ ?_
 intro hb17; replace h := z0j hb17 h
 refine nX ?_
 refine sX ?_
 refine sX (z06 ?_)
 exact ⟨rfl, true, h, jN⟩
 intro hb17; replace h := z0k hb17 h
 refine yX ?_
 refine sX ?_
 refine sX (z06 ?_)
 exact ⟨rfl, x16.1, h, jN⟩
 intro hc12 h
 refine z1a ?_
 exact ⟨rfl, s10, h, jN⟩
 intro hc9 h
 refine bR ?_
 refine sX ?_
 refine eX ?_
 refine cX h rfl ?_ ?_
 intro hc18 h
 refine bR ?_
 iterate 2 refine sX ?_
 refine eX ?_
 refine cX h rfl ?_ ?_
 intro hc19 h
 refine bR ?_
 iterate 3 refine sX ?_
 obtain ⟨x20, hx20, h⟩ := obind h
 refine sS rfl rfl rfl (z04 rfl Zci rfl (wkr (wkr (wkr .nil))) ⟨(z10 a0), ⟨(z0b a1), ⟨rfl, trivial⟩⟩⟩ (c_q29 a0 a1 a2 x20 hx20) (z03 rfl (z03 rfl z0o))) ?_
 iterate 3 refine sX ?_
 refine eX ?_
 obtain rfl := eI h; exact z05 eK
 intro hc19 h
 refine z07 ?_
 exact ⟨rfl, false, h, jN⟩
 intro hc18 h
 refine bR ?_
 refine sX ?_
 refine eX ?_
 refine cX h rfl ?_ ?_
 intro hc21 h
 refine bR ?_
 iterate 2 refine sX ?_
 refine eX ?_
 refine cX h rfl ?_ ?_
 intro hc22 h
 refine bR ?_
 iterate 3 refine sX ?_
 obtain ⟨x23, hx23, h⟩ := obind h
 refine sS rfl rfl rfl (z04 rfl Zch rfl (wkr (wkr (wkr .nil))) ⟨(z10 a0), ⟨(z0b a1), ⟨rfl, trivial⟩⟩⟩ (c_q21 a0 a1 a2 x23 hx23) (z03 rfl (z03 rfl z0o))) ?_
 iterate 3 refine sX ?_
 refine eX ?_
 obtain rfl := eI h; exact z05 eK
 intro hc22 h
 refine z07 ?_
 exact ⟨rfl, false, h, jN⟩
 intro hc21 h
 refine z07 ?_
 exact ⟨rfl, false, h, jN⟩
theorem C_q21.sound : ∀ (i : C_q21) (r : i.R), z22 C_q21.F i = some r → C_q21.Q i r := by
 refine z2r (Φ := C_q21.F) (Q := C_q21.Q) ?_
 intro g hg i r h
 cases i with
 | k_q21 a0 a1 a2 => exact zjz (fun a0 a1 a2 => g (.k_q21 a0 a1 a2)) (fun a0 a1 a2 r hr => hg (.k_q21 a0 a1 a2) r hr) (fun a0 a1 a2 => g (.k_q29 a0 a1 a2)) (fun a0 a1 a2 r hr => hg (.k_q29 a0 a1 a2) r hr) (fun a0 a1 a2 => g (.k_q2i a0 a1 a2)) (fun a0 a1 a2 r hr => hg (.k_q2i a0 a1 a2) r hr) a0 a1 a2 r h
 | k_q29 a0 a1 a2 => exact zjy (fun a0 a1 a2 => g (.k_q21 a0 a1 a2)) (fun a0 a1 a2 r hr => hg (.k_q21 a0 a1 a2) r hr) (fun a0 a1 a2 => g (.k_q29 a0 a1 a2)) (fun a0 a1 a2 r hr => hg (.k_q29 a0 a1 a2) r hr) (fun a0 a1 a2 => g (.k_q2i a0 a1 a2)) (fun a0 a1 a2 r hr => hg (.k_q2i a0 a1 a2) r hr) a0 a1 a2 r h
 | k_q2i a0 a1 a2 => exact zr1 (fun a0 a1 a2 => g (.k_q21 a0 a1 a2)) (fun a0 a1 a2 r hr => hg (.k_q21 a0 a1 a2) r hr) (fun a0 a1 a2 => g (.k_q29 a0 a1 a2)) (fun a0 a1 a2 r hr => hg (.k_q29 a0 a1 a2) r hr) (fun a0 a1 a2 => g (.k_q2i a0 a1 a2)) (fun a0 a1 a2 r hr => hg (.k_q2i a0 a1 a2) r hr) a0 a1 a2 r h
theorem Zal (a0 : Term) (a1 : Typ) (a2 : Int) (r : (Bool × Int)) (h : zfc a0 a1 a2 = some r) : z08 Try.prog 32 [(z0v a0), (z02 a1), (I64 a2)] (PV.tup [(BO r.1), (I64 r.2)]) := C_q21.sound (.k_q2i a0 a1 a2) r h
noncomputable def z7j (a0 : (List Str)) (a1 : Str) (g1 : Nat → Option Int) (s1 : Nat) : Option Int :=
 bif (decide (((s1 : Nat) : Int) < (((a0).length : Nat) : Int))) then (
 ((a0)[s1]?).bind fun x4 =>
 bif (x4 == a1) then (
 some ((s1 : Nat) : Int)
 ) else (
 g1 (s1 + 1)
 )
 ) else (
 some (-1)
 )
theorem zra (g1 : OF ρ → Nat → Option Int) (h_g1 : ∀ y0, CM (fun G => g1 G y0)) (a0 : (List Str)) (a1 : Str) (s1 : Nat) : CM (fun G : OF ρ => z7j a0 a1 (g1 G) s1) := by
 simp only [z7j]
 repeat (first | exact z01 | exact h_g1 _ | refine z0h ?_ ?_ | refine z0i ?_ (fun _ => ?_))
noncomputable def zkk (a0 : (List Str)) (a1 : Str) (s1 : Nat) : Option Int :=
 z22 (ι := Nat) (ρ := fun _ => Int) (fun g i => z7j a0 a1 (fun s1 => g s1) i) s1
theorem zkj (a0 : (List Str)) (a1 : Str) (s1 : Nat) : zkk a0 a1 s1 = z7j a0 a1 (zkk a0 a1) s1 :=
 z0t (ι := Nat) (ρ := fun _ => Int) (Φ := fun g i => z7j a0 a1 (fun s1 => g s1) i) (fun i => zra (ι := Nat) (ρ := fun _ => Int) (fun g => (fun s1 => g s1)) (fun _ => z0s) a0 a1 i) s1
noncomputable def zvx (a0 : (List Str)) (a1 : Str) : Option Int :=
 zkk a0 a1 0
theorem Z78 (a0 : (List Str)) (a1 : Str) (r : Int) (h : zvx a0 a1 = some r) : z08 Try.prog 100 [(PV.sl none 9 1 (List.map ofStr a0)), (ofStr a1)] (I64 r) := by
 unfold zvx at h
 refine z0g Try.func100 rfl Try.ntmps100 Try.results100 rfl (z0q ?_)
 change BW _ _ _ ⟨[(0, (PV.sl none 9 1 (List.map ofStr a0))), (1, (ofStr a1))], [], _⟩ _
 refine bR ?_
 refine eX ?_
 refine z09 ?_
 refine bR ?_
 refine eX ?_
 refine z0e ?_
 refine cBx ?_
 unfold zkk at h
 refine lX (σ := Nat) (fun i => [(0, (PV.sl none 9 1 (List.map ofStr a0))), (1, (ofStr a1)), (5, (I64 (((i : Nat) : Int))))]) (fun i => []) 0 h ?_ ?_
 exact jN
 rintro g1_f s1 h; replace h : z7j a0 a1 (fun y0 => g1_f y0) s1 = some r := h; unfold z7j at h
 change BW _ _ _ ⟨[(0, (PV.sl none 9 1 (List.map ofStr a0))), (1, (ofStr a1)), (5, (I64 (((s1 : Nat) : Int))))], [], _⟩ _
 refine z09 ?_
 refine bR ?_
 iterate 3 refine sX ?_
 refine eX ?_
 refine z2f (t := 7) rfl fun hb3 => ?_
 try rw [List.length_map] at hb3
 refine cX h rfl ?_ ?_
 intro hc2 h
 have hc2_ := of_decide_eq_true hc2
 refine z07 ?_
 refine cBx ?_
 refine z09 ?_
 refine z0e ?_
 refine cBx ?_
 refine bR ?_
 iterate 2 refine sX ?_
 obtain ⟨x4, hx4, h⟩ := obind h
 refine sS rfl rfl rfl (z0w (i := s1) Try.underlying31 inf_9 rfl rfl rfl hx4 rfl) ?_
 iterate 2 refine sX ?_
 refine sS rfl rfl rfl ((z21 (a := x4) (b := a1) rfl rfl rfl rfl).cast (y := (BO ((x4 == a1)))) rfl rfl) (z06 ?_)
 refine cBx ?_
 refine cX h rfl ?_ ?_
 intro hc5 h
 refine bR ?_
 refine sX ?_
 refine eX ?_
 obtain rfl := eI h; exact z05 eK
 intro hc5 h
 refine z07 ?_
 refine cBx ?_
 refine z0a ?_
 refine sX ?_
 refine sS rfl rfl rfl (z1b (k := s1) (c := 1) rfl rfl rfl (by omega)) ?_
 refine sX (z06 ?_)
 exact ⟨rfl, (s1 + 1), h, jN⟩
 intro hc2 h
 refine z1a ?_
 refine cBx ?_
 refine bR ?_
 refine eX ?_
 obtain rfl := eI h; exact z05 eK
end Go.Proofs.Ytiapdjdhaclmnaa
