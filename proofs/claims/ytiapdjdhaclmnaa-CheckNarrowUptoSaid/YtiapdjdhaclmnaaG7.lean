/- Pure functions, and that calls answer as they say. Written by gen.py. -/
import Derived.Test.YtiapdjdhaclmnaaG6
namespace Go.Proofs.Ytiapdjdhaclmnaa
open Go Aw
set_option linter.unusedVariables false
set_option linter.unusedSimpArgs false
set_option maxRecDepth 20000
set_option maxHeartbeats 2000000
noncomputable def check_narrowed_j1 (g1 : Int → Int → Option (V × Bool)) (s2 : Int) (s4 : Int) : Option (V × Bool) :=
 g1 s4 (IntKind.i64.wrap (s2 + 1))
theorem check_narrowed_j1_cm {ι : Type} {ρ : ι → Type} (g1 : (∀ i, Option (ρ i)) → Int → Int → Option (V × Bool)) (h_g1 : ∀ y0 y1, CM (fun G => g1 G y0 y1)) (s2 : Int) (s4 : Int) : CM (fun G : (∀ i, Option (ρ i)) => check_narrowed_j1 (g1 G) s2 s4) := by
 simp only [check_narrowed_j1]
 repeat (first | exact cm_const | exact h_g1 _ _ | refine cm_cond ?_ ?_ | refine cm_bind ?_ (fun _ => ?_))
noncomputable def check_narrowed_j2 (g2 : (List (Str × V)) → Int → Nat → Option (V × Bool)) (s9 : Nat) (s12 : (List (Str × V))) (s13 : Int) : Option (V × Bool) :=
 g2 s12 s13 (s9 + 1)
theorem check_narrowed_j2_cm {ι : Type} {ρ : ι → Type} (g2 : (∀ i, Option (ρ i)) → (List (Str × V)) → Int → Nat → Option (V × Bool)) (h_g2 : ∀ y0 y1 y2, CM (fun G => g2 G y0 y1 y2)) (s9 : Nat) (s12 : (List (Str × V))) (s13 : Int) : CM (fun G : (∀ i, Option (ρ i)) => check_narrowed_j2 (g2 G) s9 s12 s13) := by
 simp only [check_narrowed_j2]
 repeat (first | exact cm_const | exact h_g2 _ _ _ | refine cm_cond ?_ ?_ | refine cm_bind ?_ (fun _ => ?_))
noncomputable def check_narrowed_l2b (r_check_narrow : V → Typ → Option (V × Bool)) (a0 : (List (Str × V))) (a1 : Typ) (g2 : (List (Str × V)) → Int → Nat → Option (V × Bool)) (s7 : (List (Str × V))) (s8 : Int) (s9 : Nat) : Option (V × Bool) :=
 bif (decide (((s9 : Nat) : Int) < (((a0).length : Nat) : Int))) then (
  Option.bind ((a0)[s9]?) fun x14 =>
  Option.bind (p_slices_Index_string_string a1.names x14.1) fun x15 =>
  bif (decide (x15 < 0)) then (
   bif a1.opn then (
    Option.bind (appO 32 s7 ([x14] : (List (Str × V)))) fun x18 =>
    check_narrowed_j2 g2 s9 x18 s8
   ) else (
    check_narrowed_j2 g2 s9 s7 s8
   )
  ) else (
   Option.bind (idxI a1.parts x15) fun x19 =>
   Option.bind (r_check_narrow x14.2 x19) fun x20 =>
   bif x20.2 then (
    Option.bind (appO 32 s7 ([(x14.1, x20.1)] : (List (Str × V)))) fun x22 =>
    Option.bind (idxI a1.lacks x15) fun x23 =>
    bif (!x23) then (
     check_narrowed_j2 g2 s9 x22 (IntKind.i64.wrap (s8 - 1))
    ) else (
     check_narrowed_j2 g2 s9 x22 s8
    )
   ) else (
    check_narrowed_j2 g2 s9 s7 s8
   )
  )
 ) else (
  bif (decide (s8 > 0)) then (
   some (V.nil, false)
  ) else (
   some ((V.dict s7), true)
  )
 )
theorem check_narrowed_l2b_cm {ι : Type} {ρ : ι → Type} (r_check_narrow : (∀ i, Option (ρ i)) → V → Typ → Option (V × Bool)) (h_r_check_narrow : ∀ y0 y1, CM (fun G => r_check_narrow G y0 y1)) (g2 : (∀ i, Option (ρ i)) → (List (Str × V)) → Int → Nat → Option (V × Bool)) (h_g2 : ∀ y0 y1 y2, CM (fun G => g2 G y0 y1 y2)) (a0 : (List (Str × V))) (a1 : Typ) (s7 : (List (Str × V))) (s8 : Int) (s9 : Nat) : CM (fun G : (∀ i, Option (ρ i)) => check_narrowed_l2b (r_check_narrow G) a0 a1 (g2 G) s7 s8 s9) := by
 simp only [check_narrowed_l2b]
 repeat (first | exact cm_const | exact h_r_check_narrow _ _ | exact h_g2 _ _ _ | apply check_narrowed_j2_cm | refine cm_cond ?_ ?_ | refine cm_bind ?_ (fun _ => ?_) | intro _ | assumption)
noncomputable def check_narrowed_l2 (r_check_narrow : V → Typ → Option (V × Bool)) (a0 : (List (Str × V))) (a1 : Typ) (s7 : (List (Str × V))) (s8 : Int) (s9 : Nat) : Option (V × Bool) :=
 fixO (ι := ((List (Str × V)) × Int × Nat)) (ρ := fun _ => (V × Bool)) (fun g i => check_narrowed_l2b r_check_narrow a0 a1 (fun s7 s8 s9 => g (s7, s8, s9)) i.1 i.2.1 i.2.2) (s7, s8, s9)
theorem check_narrowed_l2_eq (r_check_narrow : V → Typ → Option (V × Bool)) (a0 : (List (Str × V))) (a1 : Typ) (s7 : (List (Str × V))) (s8 : Int) (s9 : Nat) : check_narrowed_l2 r_check_narrow a0 a1 s7 s8 s9 = check_narrowed_l2b r_check_narrow a0 a1 (check_narrowed_l2 r_check_narrow a0 a1) s7 s8 s9 :=
 fixO_eq (ι := ((List (Str × V)) × Int × Nat)) (ρ := fun _ => (V × Bool)) (Φ := fun g i => check_narrowed_l2b r_check_narrow a0 a1 (fun s7 s8 s9 => g (s7, s8, s9)) i.1 i.2.1 i.2.2) (fun i => check_narrowed_l2b_cm (ι := ((List (Str × V)) × Int × Nat)) (ρ := fun _ => (V × Bool)) (fun _ => r_check_narrow) (fun _ _ => cm_const) (fun g => (fun s7 s8 s9 => g (s7, s8, s9))) (fun _ _ _ => cm_app) a0 a1 i.1 i.2.1 i.2.2) (s7, s8, s9)
theorem check_narrowed_l2_cm {ι : Type} {ρ : ι → Type} (r_check_narrow : (∀ i, Option (ρ i)) → V → Typ → Option (V × Bool)) (h_r_check_narrow : ∀ y0 y1, CM (fun G => r_check_narrow G y0 y1)) (a0 : (List (Str × V))) (a1 : Typ) (s7 : (List (Str × V))) (s8 : Int) (s9 : Nat) : CM (fun G : (∀ i, Option (ρ i)) => check_narrowed_l2 (r_check_narrow G) a0 a1 s7 s8 s9) :=
 cm_fix (κ := ((List (Str × V)) × Int × Nat)) (τ := fun _ => (V × Bool)) (Φ := fun G g i => check_narrowed_l2b (r_check_narrow G) a0 a1 (fun s7 s8 s9 => g (s7, s8, s9)) i.1 i.2.1 i.2.2) (fun g i => check_narrowed_l2b_cm r_check_narrow h_r_check_narrow (fun _ => (fun s7 s8 s9 => g (s7, s8, s9))) (fun _ _ _ => cm_const) a0 a1 i.1 i.2.1 i.2.2) (fun G i => check_narrowed_l2b_cm (ι := ((List (Str × V)) × Int × Nat)) (ρ := fun _ => (V × Bool)) (fun _ => r_check_narrow G) (fun _ _ => cm_const) (fun g => (fun s7 s8 s9 => g (s7, s8, s9))) (fun _ _ _ => cm_app) a0 a1 i.1 i.2.1 i.2.2) (s7, s8, s9)
noncomputable def check_narrowed_l1b (r_check_narrow : V → Typ → Option (V × Bool)) (a0 : (List (Str × V))) (a1 : Typ) (g1 : Int → Int → Option (V × Bool)) (s1 : Int) (s2 : Int) : Option (V × Bool) :=
 bif (decide (s2 < (((a1.names).length : Nat) : Int))) then (
  Option.bind (idxI a1.lacks s2) fun x5 =>
  bif (!x5) then (
   check_narrowed_j1 g1 s2 (IntKind.i64.wrap (s1 + 1))
  ) else (
   check_narrowed_j1 g1 s2 s1
  )
 ) else (
  check_narrowed_l2 r_check_narrow a0 a1 ([] : (List (Str × V))) s1 0
 )
theorem check_narrowed_l1b_cm {ι : Type} {ρ : ι → Type} (r_check_narrow : (∀ i, Option (ρ i)) → V → Typ → Option (V × Bool)) (h_r_check_narrow : ∀ y0 y1, CM (fun G => r_check_narrow G y0 y1)) (g1 : (∀ i, Option (ρ i)) → Int → Int → Option (V × Bool)) (h_g1 : ∀ y0 y1, CM (fun G => g1 G y0 y1)) (a0 : (List (Str × V))) (a1 : Typ) (s1 : Int) (s2 : Int) : CM (fun G : (∀ i, Option (ρ i)) => check_narrowed_l1b (r_check_narrow G) a0 a1 (g1 G) s1 s2) := by
 simp only [check_narrowed_l1b]
 repeat (first | exact cm_const | exact h_r_check_narrow _ _ | exact h_g1 _ _ | apply check_narrowed_j1_cm | apply check_narrowed_l2_cm | refine cm_cond ?_ ?_ | refine cm_bind ?_ (fun _ => ?_) | intro _ | assumption)
noncomputable def check_narrowed_l1 (r_check_narrow : V → Typ → Option (V × Bool)) (a0 : (List (Str × V))) (a1 : Typ) (s1 : Int) (s2 : Int) : Option (V × Bool) :=
 fixO (ι := (Int × Int)) (ρ := fun _ => (V × Bool)) (fun g i => check_narrowed_l1b r_check_narrow a0 a1 (fun s1 s2 => g (s1, s2)) i.1 i.2) (s1, s2)
theorem check_narrowed_l1_eq (r_check_narrow : V → Typ → Option (V × Bool)) (a0 : (List (Str × V))) (a1 : Typ) (s1 : Int) (s2 : Int) : check_narrowed_l1 r_check_narrow a0 a1 s1 s2 = check_narrowed_l1b r_check_narrow a0 a1 (check_narrowed_l1 r_check_narrow a0 a1) s1 s2 :=
 fixO_eq (ι := (Int × Int)) (ρ := fun _ => (V × Bool)) (Φ := fun g i => check_narrowed_l1b r_check_narrow a0 a1 (fun s1 s2 => g (s1, s2)) i.1 i.2) (fun i => check_narrowed_l1b_cm (ι := (Int × Int)) (ρ := fun _ => (V × Bool)) (fun _ => r_check_narrow) (fun _ _ => cm_const) (fun g => (fun s1 s2 => g (s1, s2))) (fun _ _ => cm_app) a0 a1 i.1 i.2) (s1, s2)
theorem check_narrowed_l1_cm {ι : Type} {ρ : ι → Type} (r_check_narrow : (∀ i, Option (ρ i)) → V → Typ → Option (V × Bool)) (h_r_check_narrow : ∀ y0 y1, CM (fun G => r_check_narrow G y0 y1)) (a0 : (List (Str × V))) (a1 : Typ) (s1 : Int) (s2 : Int) : CM (fun G : (∀ i, Option (ρ i)) => check_narrowed_l1 (r_check_narrow G) a0 a1 s1 s2) :=
 cm_fix (κ := (Int × Int)) (τ := fun _ => (V × Bool)) (Φ := fun G g i => check_narrowed_l1b (r_check_narrow G) a0 a1 (fun s1 s2 => g (s1, s2)) i.1 i.2) (fun g i => check_narrowed_l1b_cm r_check_narrow h_r_check_narrow (fun _ => (fun s1 s2 => g (s1, s2))) (fun _ _ => cm_const) a0 a1 i.1 i.2) (fun G i => check_narrowed_l1b_cm (ι := (Int × Int)) (ρ := fun _ => (V × Bool)) (fun _ => r_check_narrow G) (fun _ _ => cm_const) (fun g => (fun s1 s2 => g (s1, s2))) (fun _ _ => cm_app) a0 a1 i.1 i.2) (s1, s2)
noncomputable def b_check_narrowed (r_check_narrowed : (List (Str × V)) → Typ → Option (V × Bool)) (r_check_narrow : V → Typ → Option (V × Bool)) (a0 : (List (Str × V))) (a1 : Typ) : Option (V × Bool) :=
 check_narrowed_l1 r_check_narrow a0 a1 0 0
theorem b_check_narrowed_cm {ι : Type} {ρ : ι → Type} (r_check_narrowed : (∀ i, Option (ρ i)) → (List (Str × V)) → Typ → Option (V × Bool)) (h_r_check_narrowed : ∀ y0 y1, CM (fun G => r_check_narrowed G y0 y1)) (r_check_narrow : (∀ i, Option (ρ i)) → V → Typ → Option (V × Bool)) (h_r_check_narrow : ∀ y0 y1, CM (fun G => r_check_narrow G y0 y1)) (a0 : (List (Str × V))) (a1 : Typ) : CM (fun G : (∀ i, Option (ρ i)) => b_check_narrowed (r_check_narrowed G) (r_check_narrow G) a0 a1) := by
 simp only [b_check_narrowed]
 repeat (first | exact cm_const | exact h_r_check_narrowed _ _ | exact h_r_check_narrow _ _ | apply check_narrowed_l1_cm | refine cm_cond ?_ ?_ | refine cm_bind ?_ (fun _ => ?_) | intro _ | assumption)
noncomputable def check_narrow_j1 : Option (V × Bool) :=
 some (V.nil, false)
noncomputable def check_narrow_j2 (g1 : (List V) → Nat → Option (V × Bool)) (s6 : Nat) (s9 : (List V)) : Option (V × Bool) :=
 g1 s9 (s6 + 1)
theorem check_narrow_j2_cm {ι : Type} {ρ : ι → Type} (g1 : (∀ i, Option (ρ i)) → (List V) → Nat → Option (V × Bool)) (h_g1 : ∀ y0 y1, CM (fun G => g1 G y0 y1)) (s6 : Nat) (s9 : (List V)) : CM (fun G : (∀ i, Option (ρ i)) => check_narrow_j2 (g1 G) s6 s9) := by
 simp only [check_narrow_j2]
 repeat (first | exact cm_const | exact h_g1 _ _ | refine cm_cond ?_ ?_ | refine cm_bind ?_ (fun _ => ?_))
noncomputable def check_narrow_l1b (r_check_narrow : V → Typ → Option (V × Bool)) (a0 : V) (a1 : Typ) (g1 : (List V) → Nat → Option (V × Bool)) (s5 : (List V)) (s6 : Nat) : Option (V × Bool) :=
 bif (decide (((s6 : Nat) : Int) < ((((a0).asList).length : Nat) : Int))) then (
  Option.bind (((a0).asList)[s6]?) fun x10 =>
  Option.bind ((a1.parts)[0]?) fun x11 =>
  Option.bind (r_check_narrow x10 x11) fun x12 =>
  bif x12.2 then (
   Option.bind (appO 16 s5 ([x12.1] : (List V))) fun x14 =>
   check_narrow_j2 g1 s6 x14
  ) else (
   check_narrow_j2 g1 s6 s5
  )
 ) else (
  some ((V.list s5), true)
 )
theorem check_narrow_l1b_cm {ι : Type} {ρ : ι → Type} (r_check_narrow : (∀ i, Option (ρ i)) → V → Typ → Option (V × Bool)) (h_r_check_narrow : ∀ y0 y1, CM (fun G => r_check_narrow G y0 y1)) (g1 : (∀ i, Option (ρ i)) → (List V) → Nat → Option (V × Bool)) (h_g1 : ∀ y0 y1, CM (fun G => g1 G y0 y1)) (a0 : V) (a1 : Typ) (s5 : (List V)) (s6 : Nat) : CM (fun G : (∀ i, Option (ρ i)) => check_narrow_l1b (r_check_narrow G) a0 a1 (g1 G) s5 s6) := by
 simp only [check_narrow_l1b]
 repeat (first | exact cm_const | exact h_r_check_narrow _ _ | exact h_g1 _ _ | apply check_narrow_j2_cm | refine cm_cond ?_ ?_ | refine cm_bind ?_ (fun _ => ?_) | intro _ | assumption)
noncomputable def check_narrow_l1 (r_check_narrow : V → Typ → Option (V × Bool)) (a0 : V) (a1 : Typ) (s5 : (List V)) (s6 : Nat) : Option (V × Bool) :=
 fixO (ι := ((List V) × Nat)) (ρ := fun _ => (V × Bool)) (fun g i => check_narrow_l1b r_check_narrow a0 a1 (fun s5 s6 => g (s5, s6)) i.1 i.2) (s5, s6)
theorem check_narrow_l1_eq (r_check_narrow : V → Typ → Option (V × Bool)) (a0 : V) (a1 : Typ) (s5 : (List V)) (s6 : Nat) : check_narrow_l1 r_check_narrow a0 a1 s5 s6 = check_narrow_l1b r_check_narrow a0 a1 (check_narrow_l1 r_check_narrow a0 a1) s5 s6 :=
 fixO_eq (ι := ((List V) × Nat)) (ρ := fun _ => (V × Bool)) (Φ := fun g i => check_narrow_l1b r_check_narrow a0 a1 (fun s5 s6 => g (s5, s6)) i.1 i.2) (fun i => check_narrow_l1b_cm (ι := ((List V) × Nat)) (ρ := fun _ => (V × Bool)) (fun _ => r_check_narrow) (fun _ _ => cm_const) (fun g => (fun s5 s6 => g (s5, s6))) (fun _ _ => cm_app) a0 a1 i.1 i.2) (s5, s6)
theorem check_narrow_l1_cm {ι : Type} {ρ : ι → Type} (r_check_narrow : (∀ i, Option (ρ i)) → V → Typ → Option (V × Bool)) (h_r_check_narrow : ∀ y0 y1, CM (fun G => r_check_narrow G y0 y1)) (a0 : V) (a1 : Typ) (s5 : (List V)) (s6 : Nat) : CM (fun G : (∀ i, Option (ρ i)) => check_narrow_l1 (r_check_narrow G) a0 a1 s5 s6) :=
 cm_fix (κ := ((List V) × Nat)) (τ := fun _ => (V × Bool)) (Φ := fun G g i => check_narrow_l1b (r_check_narrow G) a0 a1 (fun s5 s6 => g (s5, s6)) i.1 i.2) (fun g i => check_narrow_l1b_cm r_check_narrow h_r_check_narrow (fun _ => (fun s5 s6 => g (s5, s6))) (fun _ _ => cm_const) a0 a1 i.1 i.2) (fun G i => check_narrow_l1b_cm (ι := ((List V) × Nat)) (ρ := fun _ => (V × Bool)) (fun _ => r_check_narrow G) (fun _ _ => cm_const) (fun g => (fun s5 s6 => g (s5, s6))) (fun _ _ => cm_app) a0 a1 i.1 i.2) (s5, s6)
noncomputable def check_narrow_l2b (r_check_narrow : V → Typ → Option (V × Bool)) (a0 : V) (a1 : Typ) (g1 : Nat → Option (V × Bool)) (s19 : Nat) : Option (V × Bool) :=
 bif (decide (((s19 : Nat) : Int) < (((a1.parts).length : Nat) : Int))) then (
  Option.bind ((a1.parts)[s19]?) fun x22 =>
  Option.bind (r_check_narrow a0 (Typ.mk x22.kind x22.of (x22.only) x22.parts x22.names x22.lacks x22.opn x22.cls)) fun x23 =>
  bif x23.2 then (
   some (x23.1, true)
  ) else (
   g1 (s19 + 1)
  )
 ) else (
  check_narrow_j1
 )
theorem check_narrow_l2b_cm {ι : Type} {ρ : ι → Type} (r_check_narrow : (∀ i, Option (ρ i)) → V → Typ → Option (V × Bool)) (h_r_check_narrow : ∀ y0 y1, CM (fun G => r_check_narrow G y0 y1)) (g1 : (∀ i, Option (ρ i)) → Nat → Option (V × Bool)) (h_g1 : ∀ y0, CM (fun G => g1 G y0)) (a0 : V) (a1 : Typ) (s19 : Nat) : CM (fun G : (∀ i, Option (ρ i)) => check_narrow_l2b (r_check_narrow G) a0 a1 (g1 G) s19) := by
 simp only [check_narrow_l2b]
 repeat (first | exact cm_const | exact h_r_check_narrow _ _ | exact h_g1 _ | apply check_narrow_j1_cm | refine cm_cond ?_ ?_ | refine cm_bind ?_ (fun _ => ?_) | intro _ | assumption)
noncomputable def check_narrow_l2 (r_check_narrow : V → Typ → Option (V × Bool)) (a0 : V) (a1 : Typ) (s19 : Nat) : Option (V × Bool) :=
 fixO (ι := Nat) (ρ := fun _ => (V × Bool)) (fun g i => check_narrow_l2b r_check_narrow a0 a1 (fun s19 => g s19) i) s19
theorem check_narrow_l2_eq (r_check_narrow : V → Typ → Option (V × Bool)) (a0 : V) (a1 : Typ) (s19 : Nat) : check_narrow_l2 r_check_narrow a0 a1 s19 = check_narrow_l2b r_check_narrow a0 a1 (check_narrow_l2 r_check_narrow a0 a1) s19 :=
 fixO_eq (ι := Nat) (ρ := fun _ => (V × Bool)) (Φ := fun g i => check_narrow_l2b r_check_narrow a0 a1 (fun s19 => g s19) i) (fun i => check_narrow_l2b_cm (ι := Nat) (ρ := fun _ => (V × Bool)) (fun _ => r_check_narrow) (fun _ _ => cm_const) (fun g => (fun s19 => g s19)) (fun _ => cm_app) a0 a1 i) s19
theorem check_narrow_l2_cm {ι : Type} {ρ : ι → Type} (r_check_narrow : (∀ i, Option (ρ i)) → V → Typ → Option (V × Bool)) (h_r_check_narrow : ∀ y0 y1, CM (fun G => r_check_narrow G y0 y1)) (a0 : V) (a1 : Typ) (s19 : Nat) : CM (fun G : (∀ i, Option (ρ i)) => check_narrow_l2 (r_check_narrow G) a0 a1 s19) :=
 cm_fix (κ := Nat) (τ := fun _ => (V × Bool)) (Φ := fun G g i => check_narrow_l2b (r_check_narrow G) a0 a1 (fun s19 => g s19) i) (fun g i => check_narrow_l2b_cm r_check_narrow h_r_check_narrow (fun _ => (fun s19 => g s19)) (fun _ => cm_const) a0 a1 i) (fun G i => check_narrow_l2b_cm (ι := Nat) (ρ := fun _ => (V × Bool)) (fun _ => r_check_narrow G) (fun _ _ => cm_const) (fun g => (fun s19 => g s19)) (fun _ => cm_app) a0 a1 i) s19
noncomputable def b_check_narrow (r_check_narrowed : (List (Str × V)) → Typ → Option (V × Bool)) (r_check_narrow : V → Typ → Option (V × Bool)) (a0 : V) (a1 : Typ) : Option (V × Bool) :=
 Option.bind (p_check_is a0 (Typ.mk a1.kind a1.of (a1.only) a1.parts a1.names a1.lacks a1.opn a1.cls) 0) fun x1 =>
 bif x1.1 then (
  some (a0, true)
 ) else (
  bif (a1.kind == 5) then (
   bif (!(a0).isList) then (
    some (V.nil, false)
   ) else (
    check_narrow_l1 r_check_narrow a0 a1 ([] : (List V)) 0
   )
  ) else (
   bif (a1.kind == 6) then (
    bif (a0).isDict then (
     Option.bind (r_check_narrowed ((a0).asDict) (Typ.mk a1.kind a1.of (a1.only) a1.parts a1.names a1.lacks a1.opn a1.cls)) fun x17 =>
     some (x17.1, x17.2)
    ) else (
     check_narrow_j1
    )
   ) else (
    bif (a1.kind == 7) then (
     check_narrow_l2 r_check_narrow a0 a1 0
    ) else (
     check_narrow_j1
    )
   )
  )
 )
theorem b_check_narrow_cm {ι : Type} {ρ : ι → Type} (r_check_narrowed : (∀ i, Option (ρ i)) → (List (Str × V)) → Typ → Option (V × Bool)) (h_r_check_narrowed : ∀ y0 y1, CM (fun G => r_check_narrowed G y0 y1)) (r_check_narrow : (∀ i, Option (ρ i)) → V → Typ → Option (V × Bool)) (h_r_check_narrow : ∀ y0 y1, CM (fun G => r_check_narrow G y0 y1)) (a0 : V) (a1 : Typ) : CM (fun G : (∀ i, Option (ρ i)) => b_check_narrow (r_check_narrowed G) (r_check_narrow G) a0 a1) := by
 simp only [b_check_narrow]
 repeat (first | exact cm_const | exact h_r_check_narrowed _ _ | exact h_r_check_narrow _ _ | apply check_narrow_j1_cm | apply check_narrow_l1_cm | apply check_narrow_l2_cm | refine cm_cond ?_ ?_ | refine cm_bind ?_ (fun _ => ?_) | intro _ | assumption)
inductive C_check_narrowed where
 | k_check_narrowed (a0 : (List (Str × V))) (a1 : Typ)
 | k_check_narrow (a0 : V) (a1 : Typ)
def C_check_narrowed.R : C_check_narrowed → Type
 | .k_check_narrowed _ _ => (V × Bool)
 | .k_check_narrow _ _ => (V × Bool)
noncomputable def C_check_narrowed.F (g : ∀ i : C_check_narrowed, Option i.R) : ∀ i : C_check_narrowed, Option i.R
 | .k_check_narrowed a0 a1 => b_check_narrowed (fun a0 a1 => g (.k_check_narrowed a0 a1)) (fun a0 a1 => g (.k_check_narrow a0 a1)) a0 a1
 | .k_check_narrow a0 a1 => b_check_narrow (fun a0 a1 => g (.k_check_narrowed a0 a1)) (fun a0 a1 => g (.k_check_narrow a0 a1)) a0 a1
noncomputable def p_check_narrowed (a0 : (List (Str × V))) (a1 : Typ) : Option (V × Bool) := fixO C_check_narrowed.F (.k_check_narrowed a0 a1)
noncomputable def p_check_narrow (a0 : V) (a1 : Typ) : Option (V × Bool) := fixO C_check_narrowed.F (.k_check_narrow a0 a1)
theorem C_check_narrowed.cm (i : C_check_narrowed) : CM (fun g : (∀ i : C_check_narrowed, Option i.R) => C_check_narrowed.F g i) := by
 cases i with
 | k_check_narrowed a0 a1 => exact b_check_narrowed_cm (fun (g : ∀ i : C_check_narrowed, Option i.R) a0 a1 => g (.k_check_narrowed a0 a1)) (fun a0 a1 => cm_app (i := C_check_narrowed.k_check_narrowed a0 a1)) (fun (g : ∀ i : C_check_narrowed, Option i.R) a0 a1 => g (.k_check_narrow a0 a1)) (fun a0 a1 => cm_app (i := C_check_narrowed.k_check_narrow a0 a1)) a0 a1
 | k_check_narrow a0 a1 => exact b_check_narrow_cm (fun (g : ∀ i : C_check_narrowed, Option i.R) a0 a1 => g (.k_check_narrowed a0 a1)) (fun a0 a1 => cm_app (i := C_check_narrowed.k_check_narrowed a0 a1)) (fun (g : ∀ i : C_check_narrowed, Option i.R) a0 a1 => g (.k_check_narrow a0 a1)) (fun a0 a1 => cm_app (i := C_check_narrowed.k_check_narrow a0 a1)) a0 a1
theorem e_check_narrowed (a0 : (List (Str × V))) (a1 : Typ) : p_check_narrowed a0 a1 = b_check_narrowed p_check_narrowed p_check_narrow a0 a1 := fixO_eq C_check_narrowed.cm (.k_check_narrowed a0 a1)
theorem e_check_narrow (a0 : V) (a1 : Typ) : p_check_narrow a0 a1 = b_check_narrow p_check_narrowed p_check_narrow a0 a1 := fixO_eq C_check_narrowed.cm (.k_check_narrow a0 a1)
def C_check_narrowed.Q : ∀ i : C_check_narrowed, i.R → Prop
 | .k_check_narrowed a0 a1 => fun (r : (V × Bool)) => PCalls Try.prog 67 [(PV.sl none 2 (List.map ofFld a0)), (ofTypX a1)] (PV.tup [(ofV r.1), (BO r.2)])
 | .k_check_narrow a0 a1 => fun (r : (V × Bool)) => PCalls Try.prog 36 [(ofV a0), (ofTypX a1)] (PV.tup [(ofV r.1), (BO r.2)])
theorem t_check_narrowed (r_check_narrowed : (List (Str × V)) → Typ → Option (V × Bool)) (c_check_narrowed : ∀ (a0 : (List (Str × V))) (a1 : Typ) r, r_check_narrowed a0 a1 = some r → PCalls Try.prog 67 [(PV.sl none 2 (List.map ofFld a0)), (ofTypX a1)] (PV.tup [(ofV r.1), (BO r.2)])) (r_check_narrow : V → Typ → Option (V × Bool)) (c_check_narrow : ∀ (a0 : V) (a1 : Typ) r, r_check_narrow a0 a1 = some r → PCalls Try.prog 36 [(ofV a0), (ofTypX a1)] (PV.tup [(ofV r.1), (BO r.2)])) (a0 : (List (Str × V))) (a1 : Typ) (r : (V × Bool)) (h : b_check_narrowed r_check_narrowed r_check_narrow a0 a1 = some r) : PCalls Try.prog 67 [(PV.sl none 2 (List.map ofFld a0)), (ofTypX a1)] (PV.tup [(ofV r.1), (BO r.2)]) := by
 unfold b_check_narrowed at h
 refine acalls_of Try.func67 rfl Try.ntmps67 Try.results67 rfl (aw_of_bw ?_)
 change BW _ _ _ ⟨[(0, (PV.sl none 2 (List.map ofFld a0))), (1, (ofTypX a1))], [], _⟩ _
 refine bR ?_
 refine sS rfl rfl rfl (op1_box rfl rfl rfl) ?_
 refine sA rfl rfl rfl rfl rfl ?_
 refine sA rfl rfl rfl rfl rfl (ao_nil ?_)
 change BW _ _ _ _ _
 refine bR ?_
 refine sS rfl rfl rfl ((op1_bslice (xs := []) Try.underlying45 inf_43 rfl rfl rfl rfl rfl rfl ⟨Nat.le_of_ble_eq_true rfl, Nat.le_of_ble_eq_true rfl⟩ rfl).cast (y := (PV.sl (some 1) 2 (List.map ofFld ([] : (List (Str × V)))))) rfl rfl) ?_
 refine sA rfl rfl rfl rfl rfl (ao_nil ?_)
 change BW _ _ _ _ _
 refine bR ?_
 refine sA rfl rfl rfl rfl rfl (ao_nil ?_)
 change BW _ _ _ _ _
 refine bw_seq ?_
 refine bR ?_
 refine sS rfl rfl rfl (op1_faR st_34 (i := 4) rfl rfl rfl) ?_
 refine sS rfl rfl rfl ((op1_ldR Try.underlying31 rfl rfl rfl rfl rfl)) ?_
 refine sS rfl rfl rfl (op1_lenM Try.underlying31 rfl rfl) ?_
 refine sM rfl rfl rfl rfl rfl (ao_nil ?_)
 change BW _ _ _ _ _
 refine bw_block ?_
 change BW _ _ _ _ _
 unfold check_narrowed_l1 at h
 refine bw_loop (σ := (Int × Int)) (fun i => [(0, (PV.sl none 2 (List.map ofFld a0))), (3, (PV.rf 0 0)), (6, (PV.sl (some 1) 2 (List.map ofFld ([] : (List (Str × V)))))), (7, (I64 i.1)), (17, (I64 ((((a1.names).length : Nat) : Int)))), (18, (I64 i.2))]) (fun i => [.box 34 [(I64 a1.kind), (I64 a1.of), (I64 ((a1.only).kind)), (BO ((a1.only).bool)), (I64 ((a1.only).int)), (PV.v (.float .f64 (a1.only).float)), (ofStr (a1.only).text), (PV.sl none 1 (List.map ofB (a1.only).bytes)), (PV.v (.int .u64 (a1.only).ref)), (PV.sl none 11 (List.map ofTerm (a1.only).list)), (PV.sl none 12 (List.map ofEntry (a1.only).fields)), (ofStr (a1.only).cls), (I64 ((a1.only).ver)), (PV.sl none 18 (List.map ofTyp a1.parts)), (PV.sl none 1 (List.map ofStr a1.names)), (PV.sl none 1 (List.map ofBool a1.lacks)), (BO a1.opn), (ofStr a1.cls)], .arr 43 (([] : (List (Str × V)))).length]) (0, 0) h ?_ ?_ ?_
 ·intro i; exact ⟨Nat.le_of_ble_eq_true rfl, ⟨(il_nil (ids_slM ids_Fld _)), ⟨(il_rf rfl), ⟨(il_tok rfl (ids_map ids_Fld _)), ⟨(il_nil rfl), ⟨(il_nil rfl), ⟨(il_nil rfl), trivial⟩⟩⟩⟩⟩⟩, ⟨⟨(il_nil rfl), ⟨(il_nil rfl), ⟨(il_nil rfl), ⟨(il_nil rfl), ⟨(il_nil rfl), ⟨(il_nil rfl), ⟨(il_nil rfl), ⟨(il_nil (ids_slM (fun _ => rfl) _)), ⟨(il_nil rfl), ⟨(il_nil (ids_slM ids_Term _)), ⟨(il_nil (ids_slM ids_Entry _)), ⟨(il_nil rfl), ⟨(il_nil rfl), ⟨(il_nil (ids_slM ids_Typ _)), ⟨(il_nil (ids_slM (fun _ => rfl) _)), ⟨(il_nil (ids_slM (fun _ => rfl) _)), ⟨(il_nil rfl), ⟨(il_nil rfl), trivial⟩⟩⟩⟩⟩⟩⟩⟩⟩⟩⟩⟩⟩⟩⟩⟩⟩⟩, trivial⟩⟩
 ·exact ⟨(.cons .same (.cons .same .nil)), (sC rfl (sC rfl (sC rfl (sC rfl (sC rfl (sC rfl sub_nil))))))⟩
 ·rintro g1_f ⟨s1, s2⟩ h; replace h : check_narrowed_l1b r_check_narrow a0 a1 (fun y0 y1 => g1_f (y0, y1)) s1 s2 = some r := h; unfold check_narrowed_l1b at h
  change BW _ _ _ ⟨[(0, (PV.sl none 2 (List.map ofFld a0))), (3, (PV.rf 0 0)), (6, (PV.sl (some 1) 2 (List.map ofFld ([] : (List (Str × V)))))), (7, (I64 s1)), (17, (I64 ((((a1.names).length : Nat) : Int)))), (18, (I64 s2))], [.box 34 [(I64 a1.kind), (I64 a1.of), (I64 ((a1.only).kind)), (BO ((a1.only).bool)), (I64 ((a1.only).int)), (PV.v (.float .f64 (a1.only).float)), (ofStr (a1.only).text), (PV.sl none 1 (List.map ofB (a1.only).bytes)), (PV.v (.int .u64 (a1.only).ref)), (PV.sl none 11 (List.map ofTerm (a1.only).list)), (PV.sl none 12 (List.map ofEntry (a1.only).fields)), (ofStr (a1.only).cls), (I64 ((a1.only).ver)), (PV.sl none 18 (List.map ofTyp a1.parts)), (PV.sl none 1 (List.map ofStr a1.names)), (PV.sl none 1 (List.map ofBool a1.lacks)), (BO a1.opn), (ofStr a1.cls)], .arr 43 (([] : (List (Str × V)))).length], _⟩ _
  refine bR ?_
  refine sS rfl rfl rfl ((op1_cmp rfl rfl rfl rfl).cast (y := (BO ((decide (s2 < (((a1.names).length : Nat) : Int)))))) rfl rfl) (ao_nil ?_)
  change BW _ _ _ _ _
  refine bw_seq ?_
  refine bw_cond rfl ?_ ?_
  ·intro hc3; replace h := ocond_t hc3 h
   refine bw_skip ?_
   change BW _ _ _ _ _
   refine bw_seqJ (ι := Int) (fun i => check_narrowed_j1 (fun y0 y1 => g1_f (y0, y1)) s2 i = some r) (fun i => [(0, (PV.sl none 2 (List.map ofFld a0))), (3, (PV.rf 0 0)), (6, (PV.sl (some 1) 2 (List.map ofFld ([] : (List (Str × V)))))), (7, (I64 i)), (17, (I64 ((((a1.names).length : Nat) : Int)))), (18, (I64 s2))]) (fun i => [.box 34 [(I64 a1.kind), (I64 a1.of), (I64 ((a1.only).kind)), (BO ((a1.only).bool)), (I64 ((a1.only).int)), (PV.v (.float .f64 (a1.only).float)), (ofStr (a1.only).text), (PV.sl none 1 (List.map ofB (a1.only).bytes)), (PV.v (.int .u64 (a1.only).ref)), (PV.sl none 11 (List.map ofTerm (a1.only).list)), (PV.sl none 12 (List.map ofEntry (a1.only).fields)), (ofStr (a1.only).cls), (I64 ((a1.only).ver)), (PV.sl none 18 (List.map ofTyp a1.parts)), (PV.sl none 1 (List.map ofStr a1.names)), (PV.sl none 1 (List.map ofBool a1.lacks)), (BO a1.opn), (ofStr a1.cls)], .arr 43 (([] : (List (Str × V)))).length]) ?_ ?_ ?_
   ·intro i; exact ⟨Nat.le_of_ble_eq_true rfl, ⟨(il_nil (ids_slM ids_Fld _)), ⟨(il_rf rfl), ⟨(il_tok rfl (ids_map ids_Fld _)), ⟨(il_nil rfl), ⟨(il_nil rfl), ⟨(il_nil rfl), trivial⟩⟩⟩⟩⟩⟩, ⟨⟨(il_nil rfl), ⟨(il_nil rfl), ⟨(il_nil rfl), ⟨(il_nil rfl), ⟨(il_nil rfl), ⟨(il_nil rfl), ⟨(il_nil rfl), ⟨(il_nil (ids_slM (fun _ => rfl) _)), ⟨(il_nil rfl), ⟨(il_nil (ids_slM ids_Term _)), ⟨(il_nil (ids_slM ids_Entry _)), ⟨(il_nil rfl), ⟨(il_nil rfl), ⟨(il_nil (ids_slM ids_Typ _)), ⟨(il_nil (ids_slM (fun _ => rfl) _)), ⟨(il_nil (ids_slM (fun _ => rfl) _)), ⟨(il_nil rfl), ⟨(il_nil rfl), trivial⟩⟩⟩⟩⟩⟩⟩⟩⟩⟩⟩⟩⟩⟩⟩⟩⟩⟩, trivial⟩⟩
   ·rintro s4 h; replace h : check_narrowed_j1 (fun y0 y1 => g1_f (y0, y1)) s2 s4 = some r := h; unfold check_narrowed_j1 at h
    change BW _ _ _ ⟨[(0, (PV.sl none 2 (List.map ofFld a0))), (3, (PV.rf 0 0)), (6, (PV.sl (some 1) 2 (List.map ofFld ([] : (List (Str × V)))))), (7, (I64 s4)), (17, (I64 ((((a1.names).length : Nat) : Int)))), (18, (I64 s2))], [.box 34 [(I64 a1.kind), (I64 a1.of), (I64 ((a1.only).kind)), (BO ((a1.only).bool)), (I64 ((a1.only).int)), (PV.v (.float .f64 (a1.only).float)), (ofStr (a1.only).text), (PV.sl none 1 (List.map ofB (a1.only).bytes)), (PV.v (.int .u64 (a1.only).ref)), (PV.sl none 11 (List.map ofTerm (a1.only).list)), (PV.sl none 12 (List.map ofEntry (a1.only).fields)), (ofStr (a1.only).cls), (I64 ((a1.only).ver)), (PV.sl none 18 (List.map ofTyp a1.parts)), (PV.sl none 1 (List.map ofStr a1.names)), (PV.sl none 1 (List.map ofBool a1.lacks)), (BO a1.opn), (ofStr a1.cls)], .arr 43 (([] : (List (Str × V)))).length], _⟩ _
    refine bw_region ?_
    refine sS rfl rfl rfl (op1_addW rfl rfl rfl) ?_
    refine sM rfl rfl rfl rfl rfl (ao_nil ?_)
    exact ⟨rfl, (s4, (IntKind.i64.wrap (s2 + 1))), h, ⟨(.cons .same (.cons .same .nil)), (sC rfl (sC rfl (sC rfl (sC rfl (sC rfl (sC rfl sub_nil))))))⟩⟩
   ·refine bw_block ?_
    change BW _ _ _ _ _
    refine bR ?_
    refine sM rfl rfl rfl rfl rfl ?_
    refine sA rfl rfl rfl rfl rfl (ao_nil ?_)
    change BW _ _ _ _ _
    refine bR ?_
    refine sS rfl rfl rfl (op1_faR st_34 (i := 5) rfl rfl rfl) ?_
    refine sS rfl rfl rfl ((op1_ldR Try.underlying32 rfl rfl rfl rfl rfl)) ?_
    refine sM rfl rfl rfl rfl rfl ?_
    obtain ⟨x5, hx5, h⟩ := obind h
    refine sS rfl rfl rfl (op1_idxM Try.underlying32 inf_4 rfl rfl rfl hx5 rfl) ?_
    refine sS rfl rfl rfl (op1_ldP (y := (BO x5)) Try.underlying4 rfl rfl rfl rfl) ?_
    refine sS rfl rfl rfl (op1_not rfl rfl) (ao_nil ?_)
    change BW _ _ _ _ _
    refine bw_cond rfl ?_ ?_
    ·intro hc6; replace h := ocond_t hc6 h
     refine bw_region ?_
     refine sM rfl rfl rfl rfl rfl ?_
     refine sS rfl rfl rfl (op1_addW rfl rfl rfl) ?_
     refine sA rfl rfl rfl rfl rfl (ao_nil ?_)
     exact ⟨rfl, (IntKind.i64.wrap (s1 + 1)), h, ⟨(.cons .same (.cons .same .nil)), (sC rfl (sC rfl (sC rfl (sC rfl (sC rfl (sC rfl sub_nil))))))⟩⟩
    ·intro hc6; replace h := ocond_f hc6 h
     refine bw_skip ?_
     exact ⟨rfl, s1, h, ⟨(.cons .same (.cons .same .nil)), (sC rfl (sC rfl (sC rfl (sC rfl (sC rfl (sC rfl sub_nil))))))⟩⟩
  ·intro hc3; replace h := ocond_f hc3 h
   refine bw_exit ?_
   change BW _ _ _ _ _
   refine bw_seq ?_
   refine bR ?_
   refine sM rfl rfl rfl rfl rfl ?_
   refine sS rfl rfl rfl (op1_lenM Try.underlying45 rfl rfl) ?_
   refine sM rfl rfl rfl rfl rfl (ao_nil ?_)
   change BW _ _ _ _ _
   refine bw_block ?_
   change BW _ _ _ _ _
   unfold check_narrowed_l2 at h
   refine bw_loop (σ := ((List (Str × V)) × Int × Nat)) (fun i => [(3, (PV.rf 0 0)), (6, (PV.sl (some 1) 2 (List.map ofFld i.1))), (7, (I64 i.2.1)), (30, (PV.sl none 2 (List.map ofFld a0))), (31, (I64 ((((a0).length : Nat) : Int)))), (32, (I64 (((i.2.2 : Nat) : Int))))]) (fun i => [.box 34 [(I64 a1.kind), (I64 a1.of), (I64 ((a1.only).kind)), (BO ((a1.only).bool)), (I64 ((a1.only).int)), (PV.v (.float .f64 (a1.only).float)), (ofStr (a1.only).text), (PV.sl none 1 (List.map ofB (a1.only).bytes)), (PV.v (.int .u64 (a1.only).ref)), (PV.sl none 11 (List.map ofTerm (a1.only).list)), (PV.sl none 12 (List.map ofEntry (a1.only).fields)), (ofStr (a1.only).cls), (I64 ((a1.only).ver)), (PV.sl none 18 (List.map ofTyp a1.parts)), (PV.sl none 1 (List.map ofStr a1.names)), (PV.sl none 1 (List.map ofBool a1.lacks)), (BO a1.opn), (ofStr a1.cls)], .arr 43 (i.1).length]) (([] : (List (Str × V))), s1, 0) h ?_ ?_ ?_
   ·intro i; exact ⟨Nat.le_of_ble_eq_true rfl, ⟨(il_rf rfl), ⟨(il_tok rfl (ids_map ids_Fld _)), ⟨(il_nil rfl), ⟨(il_nil (ids_slM ids_Fld _)), ⟨(il_nil rfl), ⟨(il_nil rfl), trivial⟩⟩⟩⟩⟩⟩, ⟨⟨(il_nil rfl), ⟨(il_nil rfl), ⟨(il_nil rfl), ⟨(il_nil rfl), ⟨(il_nil rfl), ⟨(il_nil rfl), ⟨(il_nil rfl), ⟨(il_nil (ids_slM (fun _ => rfl) _)), ⟨(il_nil rfl), ⟨(il_nil (ids_slM ids_Term _)), ⟨(il_nil (ids_slM ids_Entry _)), ⟨(il_nil rfl), ⟨(il_nil rfl), ⟨(il_nil (ids_slM ids_Typ _)), ⟨(il_nil (ids_slM (fun _ => rfl) _)), ⟨(il_nil (ids_slM (fun _ => rfl) _)), ⟨(il_nil rfl), ⟨(il_nil rfl), trivial⟩⟩⟩⟩⟩⟩⟩⟩⟩⟩⟩⟩⟩⟩⟩⟩⟩⟩, trivial⟩⟩
   ·exact ⟨(.cons .same (.cons .same .nil)), (sC rfl (sC rfl (sC rfl (sC rfl (sC rfl (sC rfl sub_nil))))))⟩
   ·rintro g2_f ⟨s7, s8, s9⟩ h; replace h : check_narrowed_l2b r_check_narrow a0 a1 (fun y0 y1 y2 => g2_f (y0, y1, y2)) s7 s8 s9 = some r := h; unfold check_narrowed_l2b at h
    change BW _ _ _ ⟨[(3, (PV.rf 0 0)), (6, (PV.sl (some 1) 2 (List.map ofFld s7))), (7, (I64 s8)), (30, (PV.sl none 2 (List.map ofFld a0))), (31, (I64 ((((a0).length : Nat) : Int)))), (32, (I64 (((s9 : Nat) : Int))))], [.box 34 [(I64 a1.kind), (I64 a1.of), (I64 ((a1.only).kind)), (BO ((a1.only).bool)), (I64 ((a1.only).int)), (PV.v (.float .f64 (a1.only).float)), (ofStr (a1.only).text), (PV.sl none 1 (List.map ofB (a1.only).bytes)), (PV.v (.int .u64 (a1.only).ref)), (PV.sl none 11 (List.map ofTerm (a1.only).list)), (PV.sl none 12 (List.map ofEntry (a1.only).fields)), (ofStr (a1.only).cls), (I64 ((a1.only).ver)), (PV.sl none 18 (List.map ofTyp a1.parts)), (PV.sl none 1 (List.map ofStr a1.names)), (PV.sl none 1 (List.map ofBool a1.lacks)), (BO a1.opn), (ofStr a1.cls)], .arr 43 (s7).length], _⟩ _
    refine bR ?_
    refine sS rfl rfl rfl ((op1_cmp rfl rfl rfl rfl).cast (y := (BO ((decide (((s9 : Nat) : Int) < (((a0).length : Nat) : Int)))))) rfl rfl) (ao_nil ?_)
    change BW _ _ _ _ _
    refine bw_seq ?_
    refine bw_len (t := 30) rfl fun hb11 => ?_
    try rw [List.length_map] at hb11
    refine bw_cond rfl ?_ ?_
    ·intro hc10; replace h := ocond_t hc10 h
     have hc10_ := of_decide_eq_true hc10
     refine bw_skip ?_
     change BW _ _ _ _ _
     refine bw_seqJ (ι := ((List (Str × V)) × Int)) (fun i => check_narrowed_j2 (fun y0 y1 y2 => g2_f (y0, y1, y2)) s9 i.1 i.2 = some r) (fun i => [(3, (PV.rf 0 0)), (6, (PV.sl (some 1) 2 (List.map ofFld i.1))), (7, (I64 i.2)), (30, (PV.sl none 2 (List.map ofFld a0))), (31, (I64 ((((a0).length : Nat) : Int)))), (32, (I64 (((s9 : Nat) : Int))))]) (fun i => [.box 34 [(I64 a1.kind), (I64 a1.of), (I64 ((a1.only).kind)), (BO ((a1.only).bool)), (I64 ((a1.only).int)), (PV.v (.float .f64 (a1.only).float)), (ofStr (a1.only).text), (PV.sl none 1 (List.map ofB (a1.only).bytes)), (PV.v (.int .u64 (a1.only).ref)), (PV.sl none 11 (List.map ofTerm (a1.only).list)), (PV.sl none 12 (List.map ofEntry (a1.only).fields)), (ofStr (a1.only).cls), (I64 ((a1.only).ver)), (PV.sl none 18 (List.map ofTyp a1.parts)), (PV.sl none 1 (List.map ofStr a1.names)), (PV.sl none 1 (List.map ofBool a1.lacks)), (BO a1.opn), (ofStr a1.cls)], .arr 43 (i.1).length]) ?_ ?_ ?_
     ·intro i; exact ⟨Nat.le_of_ble_eq_true rfl, ⟨(il_rf rfl), ⟨(il_tok rfl (ids_map ids_Fld _)), ⟨(il_nil rfl), ⟨(il_nil (ids_slM ids_Fld _)), ⟨(il_nil rfl), ⟨(il_nil rfl), trivial⟩⟩⟩⟩⟩⟩, ⟨⟨(il_nil rfl), ⟨(il_nil rfl), ⟨(il_nil rfl), ⟨(il_nil rfl), ⟨(il_nil rfl), ⟨(il_nil rfl), ⟨(il_nil rfl), ⟨(il_nil (ids_slM (fun _ => rfl) _)), ⟨(il_nil rfl), ⟨(il_nil (ids_slM ids_Term _)), ⟨(il_nil (ids_slM ids_Entry _)), ⟨(il_nil rfl), ⟨(il_nil rfl), ⟨(il_nil (ids_slM ids_Typ _)), ⟨(il_nil (ids_slM (fun _ => rfl) _)), ⟨(il_nil (ids_slM (fun _ => rfl) _)), ⟨(il_nil rfl), ⟨(il_nil rfl), trivial⟩⟩⟩⟩⟩⟩⟩⟩⟩⟩⟩⟩⟩⟩⟩⟩⟩⟩, trivial⟩⟩
     ·rintro ⟨s12, s13⟩ h; replace h : check_narrowed_j2 (fun y0 y1 y2 => g2_f (y0, y1, y2)) s9 s12 s13 = some r := h; unfold check_narrowed_j2 at h
      change BW _ _ _ ⟨[(3, (PV.rf 0 0)), (6, (PV.sl (some 1) 2 (List.map ofFld s12))), (7, (I64 s13)), (30, (PV.sl none 2 (List.map ofFld a0))), (31, (I64 ((((a0).length : Nat) : Int)))), (32, (I64 (((s9 : Nat) : Int))))], [.box 34 [(I64 a1.kind), (I64 a1.of), (I64 ((a1.only).kind)), (BO ((a1.only).bool)), (I64 ((a1.only).int)), (PV.v (.float .f64 (a1.only).float)), (ofStr (a1.only).text), (PV.sl none 1 (List.map ofB (a1.only).bytes)), (PV.v (.int .u64 (a1.only).ref)), (PV.sl none 11 (List.map ofTerm (a1.only).list)), (PV.sl none 12 (List.map ofEntry (a1.only).fields)), (ofStr (a1.only).cls), (I64 ((a1.only).ver)), (PV.sl none 18 (List.map ofTyp a1.parts)), (PV.sl none 1 (List.map ofStr a1.names)), (PV.sl none 1 (List.map ofBool a1.lacks)), (BO a1.opn), (ofStr a1.cls)], .arr 43 (s12).length], _⟩ _
      refine bw_region ?_
      refine sS rfl rfl rfl (op1_incN (k := s9) (c := 1) rfl rfl rfl (by omega)) ?_
      refine sM rfl rfl rfl rfl rfl (ao_nil ?_)
      exact ⟨rfl, (s12, s13, (s9 + 1)), h, ⟨(.cons .same (.cons .same .nil)), (sC rfl (sC rfl (sC rfl (sC rfl (sC rfl (sC rfl sub_nil))))))⟩⟩
     ·refine bw_block ?_
      change BW _ _ _ _ _
      refine bR ?_
      obtain ⟨x14, hx14, h⟩ := obind h
      refine sS rfl rfl rfl (op1_idxN (i := s9) Try.underlying45 inf_43 rfl rfl rfl hx14 rfl) ?_
      refine sS rfl rfl rfl (op1_ldPW inf_43 Try.underlying43 rfl rfl rfl rfl rfl) ?_
      refine sS rfl rfl rfl (op1_alloc inf_43 rfl) ?_
      refine ao_step0 rfl rfl (op1_store inf_43 rfl rfl rfl rfl rfl rfl (Nat.le_of_ble_eq_true rfl) (by show List.all [(ofStr x14.1), (ofV x14.2)] one1 = true; simp only [List.all_cons, List.all_nil, one_V, one_RecP, Bool.and_true, Bool.true_and]; try rfl)) ?_
      refine ao_nil ?_
      change BW _ _ _ _ _
      refine bR ?_
      refine sS rfl rfl rfl (op1_faR st_34 (i := 4) rfl rfl rfl) ?_
      refine sS rfl rfl rfl ((op1_ldR Try.underlying31 rfl rfl rfl rfl rfl)) ?_
      refine sS rfl rfl rfl (op1_faR st_43 (i := 0) rfl rfl rfl) ?_
      refine sS rfl rfl rfl ((op1_ldR Try.underlying9 rfl rfl rfl rfl rfl)) ?_
      obtain ⟨x15, hx15, h⟩ := obind h
      refine sS rfl rfl rfl (op1_pcall rfl en_97 rfl (.cons (Wk.refl _) (.cons (Wk.refl _) .nil)) ⟨(ids_slM (fun _ => rfl) a1.names), ⟨rfl, trivial⟩⟩ (s_slices_Index_string_string a1.names x14.1 x15 hx15) rfl) ?_
      refine sA rfl rfl rfl rfl rfl (ao_nil ?_)
      change BW _ _ _ _ _
      refine bw_seq ?_
      refine bR ?_
      refine sM rfl rfl rfl rfl rfl ?_
      refine sS rfl rfl rfl ((op1_cmp rfl rfl rfl rfl).cast (y := (BO ((decide (x15 < 0))))) rfl rfl) (ao_nil ?_)
      change BW _ _ _ _ _
      refine bw_cond rfl ?_ ?_
      ·intro hc16; replace h := ocond_t hc16 h
       refine bw_seq ?_
       refine bR ?_
       refine sS rfl rfl rfl (op1_faR st_34 (i := 6) rfl rfl rfl) ?_
       refine sS rfl rfl rfl ((op1_ldR Try.underlying4 rfl rfl rfl rfl rfl)) (ao_nil ?_)
       change BW _ _ _ _ _
       refine bw_cond rfl ?_ ?_
       ·intro hc17; replace h := ocond_t hc17 h
        refine bw_region ?_
        refine sM rfl rfl rfl rfl rfl ?_
        refine sS rfl rfl rfl ((op1_ldRA inf_43 Try.underlying43 rfl rfl rfl rfl rfl rfl)) ?_
        refine sS rfl rfl rfl ((op1_bslice (xs := [(PV.agg [(ofStr x14.1), (ofV x14.2)])]) Try.underlying45 inf_43 rfl rfl rfl (by simp only [List.all_cons, List.all_nil, cok_V, cok_RecP, Bool.and_true, Bool.true_and]; try rfl) (by simp only [List.all_cons, List.all_nil, csz_V, csz_RecP, cells_V, cells_RecP]; try rfl) rfl ⟨Nat.le_of_ble_eq_true rfl, Nat.le_of_ble_eq_true rfl⟩ (by simp only [zipN, afill, List.flatMap_cons, List.flatMap_nil, cells_V, cells_RecP]; try rfl)).cast (y := (PV.sl (some 3) 2 (List.map ofFld ([x14] : (List (Str × V)))))) rfl rfl) ?_
        obtain ⟨x18, hx18, h⟩ := obind h
        refine sS rfl rfl rfl (op1_appM Try.underlying45 inf_43 rfl Try.underlying45 rfl rfl rfl rfl csz_Fld call1_Fld hx18 rfl) ?_
        refine sA rfl rfl rfl rfl rfl (ao_nil ?_)
        change BW _ _ _ _ _
        refine bw_exit ?_
        exact ⟨rfl, (x18, s8), h, ⟨(.cons .same (.cons .same .nil)), (sC rfl (sC rfl (sC rfl (sC rfl (sC rfl (sC rfl sub_nil))))))⟩⟩
       ·intro hc17; replace h := ocond_f hc17 h
        refine bw_skip ?_
        change BW _ _ _ _ _
        refine bw_exit ?_
        exact ⟨rfl, (s7, s8), h, ⟨(.cons .same (.cons .same .nil)), (sC rfl (sC rfl (sC rfl (sC rfl (sC rfl (sC rfl sub_nil))))))⟩⟩
      ·intro hc16; replace h := ocond_f hc16 h
       refine bw_skip ?_
       change BW _ _ _ _ _
       refine bw_seq (bw_tail 12 [] [0, 2] mo (by kernel_rfl) ?_)
       refine ac_go rfl rfl rfl rfl (fun H hp => op1_faR st_43 (i := 1) rfl rfl rfl) ?_
       refine ac_go rfl rfl rfl rfl (fun H hp => (op1_ldR Try.underlying20 rfl rfl rfl (hp.at rfl rfl) rfl)) ?_
       refine ac_go rfl rfl rfl rfl (fun H hp => op1_faR st_34 (i := 3) rfl rfl rfl) ?_
       refine ac_go rfl rfl rfl rfl (fun H hp => (op1_ldR Try.underlying30 rfl rfl rfl (hp.at rfl rfl) rfl)) ?_
       refine ac_go rfl rfl rfl rfl (fun H hp => op1_move rfl rfl) ?_
       obtain ⟨x19, hx19, h⟩ := obind h
       refine ac_go rfl rfl rfl rfl (fun H hp => op1_idxM Try.underlying30 inf_34 rfl rfl rfl hx19 (ofTyp_eq _)) ?_
       refine ac_go rfl rfl rfl rfl (fun H hp => op1_ldPW inf_34 Try.underlying34 rfl rfl rfl rfl rfl) ?_
       obtain ⟨x20, hx20, h⟩ := obind h
       refine ac_go rfl rfl rfl rfl (fun H hp => op1_pcall rfl en_36 rfl (.cons (Wk.refl _) (.cons (Wk.refl _) .nil)) ⟨(ids_V x14.2), ⟨(ids_TypX x19), trivial⟩⟩ (c_check_narrow x14.2 x19 x20 hx20) (ids_tup_cons (ids_V x20.1) (ids_tup_cons rfl ids_tup_nil))) ?_
       refine ac_go rfl rfl rfl rfl (fun H hp => op1_move rfl rfl) ?_
       refine ac_go rfl rfl rfl rfl (fun H hp => op1_ext rfl rfl rfl) ?_
       refine ac_go rfl rfl rfl rfl (fun H hp => op1_ext rfl rfl rfl) ?_
       refine ac_go rfl rfl rfl rfl (fun H hp => op1_assign rfl rfl) ?_
       refine ac_nil ?_
       change AO _ _ _ _ _
       refine sA rfl rfl rfl rfl rfl (ao_nil ?_)
       change BW _ _ _ _ _
       refine bR ?_
       refine sM rfl rfl rfl rfl rfl (ao_nil ?_)
       change BW _ _ _ _ _
       refine bw_cond rfl ?_ ?_
       ·intro hc21; replace h := ocond_t hc21 h
        refine bR ?_
        refine sM rfl rfl rfl rfl rfl ?_
        refine sS rfl rfl rfl (op1_faR st_43 (i := 0) rfl rfl rfl) ?_
        refine sS rfl rfl rfl ((op1_ldR Try.underlying9 rfl rfl rfl rfl rfl)) ?_
        refine sM rfl rfl rfl rfl rfl ?_
        refine sS rfl rfl rfl (op1_build (cs := [(ofStr x14.1), (ofV x20.1)]) st_43 inf_43 rfl rfl (by simp only [List.all_cons, List.all_nil, cok_V, cok_RecP, Bool.and_true, Bool.true_and]; try rfl) (by simp only [afill, List.getElem?_cons_zero, List.getElem?_cons_succ, cells_V, cells_RecP]; rfl)) ?_
        refine sS rfl rfl rfl ((op1_bslice (xs := [(PV.agg [(ofStr x14.1), (ofV x20.1)])]) Try.underlying45 inf_43 rfl rfl rfl (by simp only [List.all_cons, List.all_nil, cok_V, cok_RecP, Bool.and_true, Bool.true_and]; try rfl) (by simp only [List.all_cons, List.all_nil, csz_V, csz_RecP, cells_V, cells_RecP]; try rfl) rfl ⟨Nat.le_of_ble_eq_true rfl, Nat.le_of_ble_eq_true rfl⟩ (by simp only [zipN, afill, List.flatMap_cons, List.flatMap_nil, cells_V, cells_RecP]; try rfl)).cast (y := (PV.sl (some 3) 2 (List.map ofFld ([(x14.1, x20.1)] : (List (Str × V)))))) rfl rfl) ?_
        obtain ⟨x22, hx22, h⟩ := obind h
        refine sS rfl rfl rfl (op1_appM Try.underlying45 inf_43 rfl Try.underlying45 rfl rfl rfl rfl csz_Fld call1_Fld hx22 rfl) ?_
        refine sA rfl rfl rfl rfl rfl (ao_nil ?_)
        change BW _ _ _ _ _
        refine bR ?_
        refine sS rfl rfl rfl (op1_faR st_34 (i := 5) rfl rfl rfl) ?_
        refine sS rfl rfl rfl ((op1_ldR Try.underlying32 rfl rfl rfl rfl rfl)) ?_
        refine sM rfl rfl rfl rfl rfl ?_
        obtain ⟨x23, hx23, h⟩ := obind h
        refine sS rfl rfl rfl (op1_idxM Try.underlying32 inf_4 rfl rfl rfl hx23 rfl) ?_
        refine sS rfl rfl rfl (op1_ldP (y := (BO x23)) Try.underlying4 rfl rfl rfl rfl) ?_
        refine sS rfl rfl rfl (op1_not rfl rfl) (ao_nil ?_)
        change BW _ _ _ _ _
        refine bw_cond rfl ?_ ?_
        ·intro hc24; replace h := ocond_t hc24 h
         refine bw_region ?_
         refine sM rfl rfl rfl rfl rfl ?_
         refine sS rfl rfl rfl (op1_subW rfl rfl rfl) ?_
         refine sA rfl rfl rfl rfl rfl (ao_nil ?_)
         exact ⟨rfl, (x22, (IntKind.i64.wrap (s8 - 1))), h, ⟨(.cons .same (.cons .same .nil)), (sC rfl (sC rfl (sC rfl (sC rfl (sC rfl (sC rfl sub_nil))))))⟩⟩
        ·intro hc24; replace h := ocond_f hc24 h
         refine bw_skip ?_
         exact ⟨rfl, (x22, s8), h, ⟨(.cons .same (.cons .same .nil)), (sC rfl (sC rfl (sC rfl (sC rfl (sC rfl (sC rfl sub_nil))))))⟩⟩
       ·intro hc21; replace h := ocond_f hc21 h
        refine bw_skip ?_
        exact ⟨rfl, (s7, s8), h, ⟨(.cons .same (.cons .same .nil)), (sC rfl (sC rfl (sC rfl (sC rfl (sC rfl (sC rfl sub_nil))))))⟩⟩
    ·intro hc10; replace h := ocond_f hc10 h
     refine bw_exit ?_
     change BW _ _ _ _ _
     refine bw_seq ?_
     refine bR ?_
     refine sM rfl rfl rfl rfl rfl ?_
     refine sS rfl rfl rfl ((op1_cmp rfl rfl rfl rfl).cast (y := (BO ((decide (s8 > 0))))) rfl rfl) (ao_nil ?_)
     change BW _ _ _ _ _
     refine bw_cond rfl ?_ ?_
     ·intro hc25; replace h := ocond_t hc25 h
      refine bR ?_
      refine sA rfl rfl rfl rfl rfl ?_
      refine sA rfl rfl rfl rfl rfl (ao_nil ?_)
      change BW _ _ _ _ _
      refine bw_ret ?_
      change ∃ xs, _ = some xs ∧ EndOk _ _ _ _
      obtain rfl := Option.some.inj h
      exact ⟨_, rfl, endOk0 (y := (PV.tup [(ofV V.nil), (BO false)])) (Wk.tup (.cons (Wk.eq mk_nil.symm) (.cons (Wk.refl _) .nil))) (ids_tup_cons (ids_V V.nil) (ids_tup_cons rfl ids_tup_nil)) ⟨rfl, rfl⟩⟩
     ·intro hc25; replace h := ocond_f hc25 h
      refine bw_skip ?_
      change BW _ _ _ _ _
      refine bR ?_
      refine sM rfl rfl rfl rfl rfl ?_
      refine sS rfl rfl rfl ((op1_mkI Try.underlying45 rfl rfl rfl).wk ((Wk.iface Wk.tok).trans (Wk.eq (mk_dict _).symm))) ?_
      refine sA rfl rfl rfl rfl rfl ?_
      refine sA rfl rfl rfl rfl rfl (ao_nil ?_)
      change BW _ _ _ _ _
      refine bw_ret ?_
      change ∃ xs, _ = some xs ∧ EndOk _ _ _ _
      obtain rfl := Option.some.inj h
      exact ⟨_, rfl, endOk0 (y := (PV.tup [(ofV (V.dict s7)), (BO true)])) (Wk.refl _) (ids_tup_cons (ids_V (V.dict s7)) (ids_tup_cons rfl ids_tup_nil)) ⟨rfl, rfl⟩⟩
theorem t_check_narrow (r_check_narrowed : (List (Str × V)) → Typ → Option (V × Bool)) (c_check_narrowed : ∀ (a0 : (List (Str × V))) (a1 : Typ) r, r_check_narrowed a0 a1 = some r → PCalls Try.prog 67 [(PV.sl none 2 (List.map ofFld a0)), (ofTypX a1)] (PV.tup [(ofV r.1), (BO r.2)])) (r_check_narrow : V → Typ → Option (V × Bool)) (c_check_narrow : ∀ (a0 : V) (a1 : Typ) r, r_check_narrow a0 a1 = some r → PCalls Try.prog 36 [(ofV a0), (ofTypX a1)] (PV.tup [(ofV r.1), (BO r.2)])) (a0 : V) (a1 : Typ) (r : (V × Bool)) (h : b_check_narrow r_check_narrowed r_check_narrow a0 a1 = some r) : PCalls Try.prog 36 [(ofV a0), (ofTypX a1)] (PV.tup [(ofV r.1), (BO r.2)]) := by
 unfold b_check_narrow at h
 refine acalls_of Try.func36 rfl Try.ntmps36 Try.results36 rfl (aw_of_bw ?_)
 change BW _ _ _ ⟨[(0, (ofV a0)), (1, (ofTypX a1))], [], _⟩ _
 refine bR ?_
 refine sS rfl rfl rfl (op1_box rfl rfl rfl) ?_
 refine sA rfl rfl rfl rfl rfl ?_
 refine sA rfl rfl rfl rfl rfl (ao_nil ?_)
 change BW _ _ _ _ _
 refine bw_seq ?_
 refine bR ?_
 refine sM rfl rfl rfl rfl rfl ?_
 refine sS rfl rfl rfl ((op1_ldRA inf_34 Try.underlying34 rfl rfl rfl rfl rfl rfl)) ?_
 obtain ⟨x1, hx1, h⟩ := obind h
 refine sS rfl rfl rfl (op1_pcall rfl en_31 rfl (.cons (Wk.refl _) (.cons (Wk.refl _) (.cons (Wk.refl _) .nil))) ⟨(ids_V a0), ⟨(ids_TypX (Typ.mk a1.kind a1.of (a1.only) a1.parts a1.names a1.lacks a1.opn a1.cls)), ⟨rfl, trivial⟩⟩⟩ (s_check_is a0 (Typ.mk a1.kind a1.of (a1.only) a1.parts a1.names a1.lacks a1.opn a1.cls) 0 x1 hx1) (ids_tup_cons rfl (ids_tup_cons rfl ids_tup_nil))) ?_
 refine sM rfl rfl rfl rfl rfl ?_
 refine sS rfl rfl rfl (op1_ext rfl rfl rfl) ?_
 refine sS rfl rfl rfl (op1_ext rfl rfl rfl) ?_
 refine sA rfl rfl rfl rfl rfl ?_
 refine sA rfl rfl rfl rfl rfl (ao_nil ?_)
 change BW _ _ _ _ _
 refine bR ?_
 refine sM rfl rfl rfl rfl rfl (ao_nil ?_)
 change BW _ _ _ _ _
 refine bw_cond rfl ?_ ?_
 ·intro hc2; replace h := ocond_t hc2 h
  refine bR ?_
  refine sM rfl rfl rfl rfl rfl ?_
  refine sA rfl rfl rfl rfl rfl ?_
  refine sA rfl rfl rfl rfl rfl (ao_nil ?_)
  change BW _ _ _ _ _
  refine bw_ret ?_
  change ∃ xs, _ = some xs ∧ EndOk _ _ _ _
  obtain rfl := Option.some.inj h
  exact ⟨_, rfl, endOk0 (y := (PV.tup [(ofV a0), (BO true)])) (Wk.refl _) (ids_tup_cons (ids_V a0) (ids_tup_cons rfl ids_tup_nil)) ⟨rfl, rfl⟩⟩
 ·intro hc2; replace h := ocond_f hc2 h
  refine bw_skip ?_
  change BW _ _ _ _ _
  refine bw_seqJ (ι := Unit) (fun i => check_narrow_j1 = some r) (fun i => []) (fun i => []) ?_ ?_ ?_
  ·intro i; exact ⟨Nat.le_of_ble_eq_true rfl, trivial, trivial⟩
  ·rintro ⟨⟩ h; replace h : check_narrow_j1 = some r := h; unfold check_narrow_j1 at h
   change BW _ _ _ ⟨[], [], _⟩ _
   refine bR ?_
   refine sA rfl rfl rfl rfl rfl ?_
   refine sA rfl rfl rfl rfl rfl (ao_nil ?_)
   change BW _ _ _ _ _
   refine bw_ret ?_
   change ∃ xs, _ = some xs ∧ EndOk _ _ _ _
   obtain rfl := Option.some.inj h
   exact ⟨_, rfl, endOk0 (y := (PV.tup [(ofV V.nil), (BO false)])) (Wk.tup (.cons (Wk.eq mk_nil.symm) (.cons (Wk.refl _) .nil))) (ids_tup_cons (ids_V V.nil) (ids_tup_cons rfl ids_tup_nil)) ⟨rfl, rfl⟩⟩
  ·refine bR ?_
   refine sS rfl rfl rfl (op1_faR st_34 (i := 0) rfl rfl rfl) ?_
   refine sS rfl rfl rfl ((op1_ldR Try.underlying3 rfl rfl rfl rfl rfl)) (ao_nil ?_)
   change BW _ _ _ _ _
   refine bw_block ?_
   change BW _ _ _ _ _
   refine bR ?_
   refine sS rfl rfl rfl ((op1_cmp rfl rfl rfl rfl).cast (y := (BO ((a1.kind == 5)))) rfl rfl) ?_
   refine sA rfl rfl rfl rfl rfl (ao_nil ?_)
   change BW _ _ _ _ _
   refine bw_cond rfl ?_ ?_
   ·intro hc3; replace h := ocond_t hc3 h
    refine bR ?_
    refine sM rfl rfl rfl rfl rfl ?_
    refine sS rfl rfl rfl (op1_taList rfl rfl) ?_
    refine sM rfl rfl rfl rfl rfl ?_
    refine sS rfl rfl rfl (op1_ext rfl rfl rfl) ?_
    refine sS rfl rfl rfl (op1_ext rfl rfl rfl) ?_
    refine sA rfl rfl rfl rfl rfl ?_
    refine sA rfl rfl rfl rfl rfl (ao_nil ?_)
    change BW _ _ _ _ _
    refine bw_seq ?_
    refine bR ?_
    refine sM rfl rfl rfl rfl rfl ?_
    refine sS rfl rfl rfl (op1_not rfl rfl) (ao_nil ?_)
    change BW _ _ _ _ _
    refine bw_cond rfl ?_ ?_
    ·intro hc4; replace h := ocond_t hc4 h
     refine bR ?_
     refine sA rfl rfl rfl rfl rfl ?_
     refine sA rfl rfl rfl rfl rfl (ao_nil ?_)
     change BW _ _ _ _ _
     refine bw_ret ?_
     change ∃ xs, _ = some xs ∧ EndOk _ _ _ _
     obtain rfl := Option.some.inj h
     exact ⟨_, rfl, endOk0 (y := (PV.tup [(ofV V.nil), (BO false)])) (Wk.tup (.cons (Wk.eq mk_nil.symm) (.cons (Wk.refl _) .nil))) (ids_tup_cons (ids_V V.nil) (ids_tup_cons rfl ids_tup_nil)) ⟨rfl, rfl⟩⟩
    ·intro hc4; replace h := ocond_f hc4 h
     refine bw_skip ?_
     change BW _ _ _ _ _
     refine bR ?_
     refine sS rfl rfl rfl ((op1_bslice (xs := []) Try.underlying37 inf_20 rfl rfl rfl rfl rfl rfl ⟨Nat.le_of_ble_eq_true rfl, Nat.le_of_ble_eq_true rfl⟩ rfl).cast (y := (PV.sl (some 1) 1 (List.map ofV ([] : (List V))))) rfl rfl) ?_
     refine sA rfl rfl rfl rfl rfl (ao_nil ?_)
     change BW _ _ _ _ _
     refine bw_seq ?_
     refine bR ?_
     refine sM rfl rfl rfl rfl rfl ?_
     refine sS rfl rfl rfl (op1_lenM Try.underlying37 rfl rfl) ?_
     refine sM rfl rfl rfl rfl rfl (ao_nil ?_)
     change BW _ _ _ _ _
     refine bw_block ?_
     change BW _ _ _ _ _
     unfold check_narrow_l1 at h
     refine bw_loop (σ := ((List V) × Nat)) (fun i => [(3, (PV.rf 0 0)), (10, (PV.sl (some 1) 1 (List.map ofV i.1))), (41, (PV.sl none 1 (List.map ofV (a0).asList))), (42, (I64 (((((a0).asList).length : Nat) : Int)))), (43, (I64 (((i.2 : Nat) : Int))))]) (fun i => [.box 34 [(I64 a1.kind), (I64 a1.of), (I64 ((a1.only).kind)), (BO ((a1.only).bool)), (I64 ((a1.only).int)), (PV.v (.float .f64 (a1.only).float)), (ofStr (a1.only).text), (PV.sl none 1 (List.map ofB (a1.only).bytes)), (PV.v (.int .u64 (a1.only).ref)), (PV.sl none 11 (List.map ofTerm (a1.only).list)), (PV.sl none 12 (List.map ofEntry (a1.only).fields)), (ofStr (a1.only).cls), (I64 ((a1.only).ver)), (PV.sl none 18 (List.map ofTyp a1.parts)), (PV.sl none 1 (List.map ofStr a1.names)), (PV.sl none 1 (List.map ofBool a1.lacks)), (BO a1.opn), (ofStr a1.cls)], .arr 20 (i.1).length]) (([] : (List V)), 0) h ?_ ?_ ?_
     ·intro i; exact ⟨Nat.le_of_ble_eq_true rfl, ⟨(il_rf rfl), ⟨(il_tok rfl (ids_map ids_V _)), ⟨(il_nil (ids_slM ids_V _)), ⟨(il_nil rfl), ⟨(il_nil rfl), trivial⟩⟩⟩⟩⟩, ⟨⟨(il_nil rfl), ⟨(il_nil rfl), ⟨(il_nil rfl), ⟨(il_nil rfl), ⟨(il_nil rfl), ⟨(il_nil rfl), ⟨(il_nil rfl), ⟨(il_nil (ids_slM (fun _ => rfl) _)), ⟨(il_nil rfl), ⟨(il_nil (ids_slM ids_Term _)), ⟨(il_nil (ids_slM ids_Entry _)), ⟨(il_nil rfl), ⟨(il_nil rfl), ⟨(il_nil (ids_slM ids_Typ _)), ⟨(il_nil (ids_slM (fun _ => rfl) _)), ⟨(il_nil (ids_slM (fun _ => rfl) _)), ⟨(il_nil rfl), ⟨(il_nil rfl), trivial⟩⟩⟩⟩⟩⟩⟩⟩⟩⟩⟩⟩⟩⟩⟩⟩⟩⟩, trivial⟩⟩
     ·exact ⟨(.cons .same (.cons .same .nil)), (sC rfl (sC rfl (sC rfl (sC rfl (sC rfl sub_nil)))))⟩
     ·rintro g1_f ⟨s5, s6⟩ h; replace h : check_narrow_l1b r_check_narrow a0 a1 (fun y0 y1 => g1_f (y0, y1)) s5 s6 = some r := h; unfold check_narrow_l1b at h
      change BW _ _ _ ⟨[(3, (PV.rf 0 0)), (10, (PV.sl (some 1) 1 (List.map ofV s5))), (41, (PV.sl none 1 (List.map ofV (a0).asList))), (42, (I64 (((((a0).asList).length : Nat) : Int)))), (43, (I64 (((s6 : Nat) : Int))))], [.box 34 [(I64 a1.kind), (I64 a1.of), (I64 ((a1.only).kind)), (BO ((a1.only).bool)), (I64 ((a1.only).int)), (PV.v (.float .f64 (a1.only).float)), (ofStr (a1.only).text), (PV.sl none 1 (List.map ofB (a1.only).bytes)), (PV.v (.int .u64 (a1.only).ref)), (PV.sl none 11 (List.map ofTerm (a1.only).list)), (PV.sl none 12 (List.map ofEntry (a1.only).fields)), (ofStr (a1.only).cls), (I64 ((a1.only).ver)), (PV.sl none 18 (List.map ofTyp a1.parts)), (PV.sl none 1 (List.map ofStr a1.names)), (PV.sl none 1 (List.map ofBool a1.lacks)), (BO a1.opn), (ofStr a1.cls)], .arr 20 (s5).length], _⟩ _
      refine bR ?_
      refine sS rfl rfl rfl ((op1_cmp rfl rfl rfl rfl).cast (y := (BO ((decide (((s6 : Nat) : Int) < ((((a0).asList).length : Nat) : Int)))))) rfl rfl) (ao_nil ?_)
      change BW _ _ _ _ _
      refine bw_seq ?_
      refine bw_len (t := 41) rfl fun hb8 => ?_
      try rw [List.length_map] at hb8
      refine bw_cond rfl ?_ ?_
      ·intro hc7; replace h := ocond_t hc7 h
       have hc7_ := of_decide_eq_true hc7
       refine bw_skip ?_
       change BW _ _ _ _ _
       refine bw_seqJ (ι := (List V)) (fun i => check_narrow_j2 (fun y0 y1 => g1_f (y0, y1)) s6 i = some r) (fun i => [(3, (PV.rf 0 0)), (10, (PV.sl (some 1) 1 (List.map ofV i))), (41, (PV.sl none 1 (List.map ofV (a0).asList))), (42, (I64 (((((a0).asList).length : Nat) : Int)))), (43, (I64 (((s6 : Nat) : Int))))]) (fun i => [.box 34 [(I64 a1.kind), (I64 a1.of), (I64 ((a1.only).kind)), (BO ((a1.only).bool)), (I64 ((a1.only).int)), (PV.v (.float .f64 (a1.only).float)), (ofStr (a1.only).text), (PV.sl none 1 (List.map ofB (a1.only).bytes)), (PV.v (.int .u64 (a1.only).ref)), (PV.sl none 11 (List.map ofTerm (a1.only).list)), (PV.sl none 12 (List.map ofEntry (a1.only).fields)), (ofStr (a1.only).cls), (I64 ((a1.only).ver)), (PV.sl none 18 (List.map ofTyp a1.parts)), (PV.sl none 1 (List.map ofStr a1.names)), (PV.sl none 1 (List.map ofBool a1.lacks)), (BO a1.opn), (ofStr a1.cls)], .arr 20 (i).length]) ?_ ?_ ?_
       ·intro i; exact ⟨Nat.le_of_ble_eq_true rfl, ⟨(il_rf rfl), ⟨(il_tok rfl (ids_map ids_V _)), ⟨(il_nil (ids_slM ids_V _)), ⟨(il_nil rfl), ⟨(il_nil rfl), trivial⟩⟩⟩⟩⟩, ⟨⟨(il_nil rfl), ⟨(il_nil rfl), ⟨(il_nil rfl), ⟨(il_nil rfl), ⟨(il_nil rfl), ⟨(il_nil rfl), ⟨(il_nil rfl), ⟨(il_nil (ids_slM (fun _ => rfl) _)), ⟨(il_nil rfl), ⟨(il_nil (ids_slM ids_Term _)), ⟨(il_nil (ids_slM ids_Entry _)), ⟨(il_nil rfl), ⟨(il_nil rfl), ⟨(il_nil (ids_slM ids_Typ _)), ⟨(il_nil (ids_slM (fun _ => rfl) _)), ⟨(il_nil (ids_slM (fun _ => rfl) _)), ⟨(il_nil rfl), ⟨(il_nil rfl), trivial⟩⟩⟩⟩⟩⟩⟩⟩⟩⟩⟩⟩⟩⟩⟩⟩⟩⟩, trivial⟩⟩
       ·rintro s9 h; replace h : check_narrow_j2 (fun y0 y1 => g1_f (y0, y1)) s6 s9 = some r := h; unfold check_narrow_j2 at h
        change BW _ _ _ ⟨[(3, (PV.rf 0 0)), (10, (PV.sl (some 1) 1 (List.map ofV s9))), (41, (PV.sl none 1 (List.map ofV (a0).asList))), (42, (I64 (((((a0).asList).length : Nat) : Int)))), (43, (I64 (((s6 : Nat) : Int))))], [.box 34 [(I64 a1.kind), (I64 a1.of), (I64 ((a1.only).kind)), (BO ((a1.only).bool)), (I64 ((a1.only).int)), (PV.v (.float .f64 (a1.only).float)), (ofStr (a1.only).text), (PV.sl none 1 (List.map ofB (a1.only).bytes)), (PV.v (.int .u64 (a1.only).ref)), (PV.sl none 11 (List.map ofTerm (a1.only).list)), (PV.sl none 12 (List.map ofEntry (a1.only).fields)), (ofStr (a1.only).cls), (I64 ((a1.only).ver)), (PV.sl none 18 (List.map ofTyp a1.parts)), (PV.sl none 1 (List.map ofStr a1.names)), (PV.sl none 1 (List.map ofBool a1.lacks)), (BO a1.opn), (ofStr a1.cls)], .arr 20 (s9).length], _⟩ _
        refine bw_region ?_
        refine sS rfl rfl rfl (op1_incN (k := s6) (c := 1) rfl rfl rfl (by omega)) ?_
        refine sM rfl rfl rfl rfl rfl (ao_nil ?_)
        exact ⟨rfl, (s9, (s6 + 1)), h, ⟨(.cons .same (.cons .same .nil)), (sC rfl (sC rfl (sC rfl (sC rfl (sC rfl sub_nil)))))⟩⟩
       ·refine bw_block ?_
        change BW _ _ _ _ _
        refine bR ?_
        obtain ⟨x10, hx10, h⟩ := obind h
        refine sS rfl rfl rfl (op1_idxN (i := s6) Try.underlying37 inf_20 rfl rfl rfl hx10 rfl) ?_
        refine sS rfl rfl rfl (op1_ldP (y := (ofV x10)) Try.underlying20 rfl rfl rfl (by rw [cells_V]; rfl)) ?_
        refine sA rfl rfl rfl rfl rfl (ao_nil ?_)
        change BW _ _ _ _ _
        refine bR ?_
        refine sM rfl rfl rfl rfl rfl ?_
        refine sS rfl rfl rfl (op1_faR st_34 (i := 3) rfl rfl rfl) ?_
        refine sS rfl rfl rfl ((op1_ldR Try.underlying30 rfl rfl rfl rfl rfl)) ?_
        obtain ⟨x11, hx11, h⟩ := obind h
        refine sS rfl rfl rfl (op1_idxN (i := 0) Try.underlying30 inf_34 rfl rfl rfl hx11 (ofTyp_eq _)) ?_
        refine sS rfl rfl rfl (op1_ldPW inf_34 Try.underlying34 rfl rfl rfl rfl rfl) ?_
        obtain ⟨x12, hx12, h⟩ := obind h
        refine sS rfl rfl rfl (op1_pcall rfl en_36 rfl (.cons (Wk.refl _) (.cons (Wk.refl _) .nil)) ⟨(ids_V x10), ⟨(ids_TypX x11), trivial⟩⟩ (c_check_narrow x10 x11 x12 hx12) (ids_tup_cons (ids_V x12.1) (ids_tup_cons rfl ids_tup_nil))) ?_
        refine sM rfl rfl rfl rfl rfl ?_
        refine sS rfl rfl rfl (op1_ext rfl rfl rfl) ?_
        refine sS rfl rfl rfl (op1_ext rfl rfl rfl) ?_
        refine sA rfl rfl rfl rfl rfl ?_
        refine sA rfl rfl rfl rfl rfl (ao_nil ?_)
        change BW _ _ _ _ _
        refine bR ?_
        refine sM rfl rfl rfl rfl rfl (ao_nil ?_)
        change BW _ _ _ _ _
        refine bw_cond rfl ?_ ?_
        ·intro hc13; replace h := ocond_t hc13 h
         refine bw_region ?_
         refine sM rfl rfl rfl rfl rfl ?_
         refine sM rfl rfl rfl rfl rfl ?_
         refine sS rfl rfl rfl ((op1_bslice (xs := [(ofV x12.1)]) Try.underlying37 inf_20 rfl rfl rfl (by simp only [List.all_cons, List.all_nil, cok_V, cok_RecP, Bool.and_true, Bool.true_and]; try rfl) (by simp only [List.all_cons, List.all_nil, csz_V, csz_RecP, cells_V, cells_RecP]; try rfl) rfl ⟨Nat.le_of_ble_eq_true rfl, Nat.le_of_ble_eq_true rfl⟩ (by simp only [zipN, afill, List.flatMap_cons, List.flatMap_nil, cells_V, cells_RecP]; try rfl)).cast (y := (PV.sl (some 2) 1 (List.map ofV ([x12.1] : (List V))))) rfl rfl) ?_
         obtain ⟨x14, hx14, h⟩ := obind h
         refine sS rfl rfl rfl (op1_appM Try.underlying37 inf_20 rfl Try.underlying37 rfl rfl rfl rfl csz_V call1_V hx14 rfl) ?_
         refine sA rfl rfl rfl rfl rfl (ao_nil ?_)
         exact ⟨rfl, x14, h, ⟨(.cons .same (.cons .same .nil)), (sC rfl (sC rfl (sC rfl (sC rfl (sC rfl sub_nil)))))⟩⟩
        ·intro hc13; replace h := ocond_f hc13 h
         refine bw_skip ?_
         exact ⟨rfl, s5, h, ⟨(.cons .same (.cons .same .nil)), (sC rfl (sC rfl (sC rfl (sC rfl (sC rfl sub_nil)))))⟩⟩
      ·intro hc7; replace h := ocond_f hc7 h
       refine bw_exit ?_
       change BW _ _ _ _ _
       refine bR ?_
       refine sM rfl rfl rfl rfl rfl ?_
       refine sS rfl rfl rfl ((op1_mkI Try.underlying37 rfl rfl rfl).wk ((Wk.iface Wk.tok).trans (Wk.eq (mk_list _).symm))) ?_
       refine sA rfl rfl rfl rfl rfl ?_
       refine sA rfl rfl rfl rfl rfl (ao_nil ?_)
       change BW _ _ _ _ _
       refine bw_ret ?_
       change ∃ xs, _ = some xs ∧ EndOk _ _ _ _
       obtain rfl := Option.some.inj h
       exact ⟨_, rfl, endOk0 (y := (PV.tup [(ofV (V.list s5)), (BO true)])) (Wk.refl _) (ids_tup_cons (ids_V (V.list s5)) (ids_tup_cons rfl ids_tup_nil)) ⟨rfl, rfl⟩⟩
   ·intro hc3; replace h := ocond_f hc3 h
    refine bR ?_
    refine sS rfl rfl rfl ((op1_cmp rfl rfl rfl rfl).cast (y := (BO ((a1.kind == 6)))) rfl rfl) ?_
    refine sA rfl rfl rfl rfl rfl (ao_nil ?_)
    change BW _ _ _ _ _
    refine bw_cond rfl ?_ ?_
    ·intro hc15; replace h := ocond_t hc15 h
     refine bR ?_
     refine sM rfl rfl rfl rfl rfl ?_
     refine sS rfl rfl rfl (op1_taDict rfl rfl) ?_
     refine sM rfl rfl rfl rfl rfl ?_
     refine sS rfl rfl rfl (op1_ext rfl rfl rfl) ?_
     refine sS rfl rfl rfl (op1_ext rfl rfl rfl) ?_
     refine sA rfl rfl rfl rfl rfl ?_
     refine sA rfl rfl rfl rfl rfl (ao_nil ?_)
     change BW _ _ _ _ _
     refine bR ?_
     refine sM rfl rfl rfl rfl rfl (ao_nil ?_)
     change BW _ _ _ _ _
     refine bw_cond rfl ?_ ?_
     ·intro hc16; replace h := ocond_t hc16 h
      refine bR ?_
      refine sM rfl rfl rfl rfl rfl ?_
      refine sS rfl rfl rfl ((op1_ldRA inf_34 Try.underlying34 rfl rfl rfl rfl rfl rfl)) ?_
      obtain ⟨x17, hx17, h⟩ := obind h
      refine sS rfl rfl rfl (op1_pcall rfl en_67 rfl (.cons (Wk.refl _) (.cons (Wk.refl _) .nil)) ⟨(ids_slM ids_Fld ((a0).asDict)), ⟨(ids_TypX (Typ.mk a1.kind a1.of (a1.only) a1.parts a1.names a1.lacks a1.opn a1.cls)), trivial⟩⟩ (c_check_narrowed ((a0).asDict) (Typ.mk a1.kind a1.of (a1.only) a1.parts a1.names a1.lacks a1.opn a1.cls) x17 hx17) (ids_tup_cons (ids_V x17.1) (ids_tup_cons rfl ids_tup_nil))) ?_
      refine sS rfl rfl rfl (op1_ext rfl rfl rfl) ?_
      refine sS rfl rfl rfl (op1_ext rfl rfl rfl) ?_
      refine sA rfl rfl rfl rfl rfl ?_
      refine sA rfl rfl rfl rfl rfl (ao_nil ?_)
      change BW _ _ _ _ _
      refine bw_ret ?_
      change ∃ xs, _ = some xs ∧ EndOk _ _ _ _
      obtain rfl := Option.some.inj h
      exact ⟨_, rfl, endOk0 (y := (PV.tup [(ofV x17.1), (BO x17.2)])) (Wk.refl _) (ids_tup_cons (ids_V x17.1) (ids_tup_cons rfl ids_tup_nil)) ⟨rfl, rfl⟩⟩
     ·intro hc16; replace h := ocond_f hc16 h
      refine bw_skip ?_
      exact ⟨rfl, (), h, ⟨.nil, sub_nil⟩⟩
    ·intro hc15; replace h := ocond_f hc15 h
     refine bR ?_
     refine sS rfl rfl rfl ((op1_cmp rfl rfl rfl rfl).cast (y := (BO ((a1.kind == 7)))) rfl rfl) ?_
     refine sA rfl rfl rfl rfl rfl (ao_nil ?_)
     change BW _ _ _ _ _
     refine bw_cond rfl ?_ ?_
     ·intro hc18; replace h := ocond_t hc18 h
      refine bR ?_
      refine sS rfl rfl rfl (op1_faR st_34 (i := 3) rfl rfl rfl) ?_
      refine sS rfl rfl rfl ((op1_ldR Try.underlying30 rfl rfl rfl rfl rfl)) ?_
      refine sS rfl rfl rfl (op1_lenM Try.underlying30 rfl rfl) ?_
      refine sM rfl rfl rfl rfl rfl (ao_nil ?_)
      change BW _ _ _ _ _
      refine bw_block ?_
      change BW _ _ _ _ _
      unfold check_narrow_l2 at h
      refine bw_loop (σ := Nat) (fun i => [(0, (ofV a0)), (80, (PV.sl none 18 (List.map ofTyp a1.parts))), (81, (I64 ((((a1.parts).length : Nat) : Int)))), (82, (I64 (((i : Nat) : Int))))]) (fun i => []) 0 h ?_ ?_ ?_
      ·intro i; exact ⟨Nat.le_of_ble_eq_true rfl, ⟨(il_nil (ids_V _)), ⟨(il_nil (ids_slM ids_Typ _)), ⟨(il_nil rfl), ⟨(il_nil rfl), trivial⟩⟩⟩⟩, trivial⟩
      ·exact ⟨.nil, (sC rfl (sC rfl (sC rfl (sC rfl sub_nil))))⟩
      ·rintro g1_f s19 h; replace h : check_narrow_l2b r_check_narrow a0 a1 (fun y0 => g1_f y0) s19 = some r := h; unfold check_narrow_l2b at h
       change BW _ _ _ ⟨[(0, (ofV a0)), (80, (PV.sl none 18 (List.map ofTyp a1.parts))), (81, (I64 ((((a1.parts).length : Nat) : Int)))), (82, (I64 (((s19 : Nat) : Int))))], [], _⟩ _
       refine bR ?_
       refine sS rfl rfl rfl ((op1_cmp rfl rfl rfl rfl).cast (y := (BO ((decide (((s19 : Nat) : Int) < (((a1.parts).length : Nat) : Int)))))) rfl rfl) (ao_nil ?_)
       change BW _ _ _ _ _
       refine bw_seq ?_
       refine bw_len (t := 80) rfl fun hb21 => ?_
       try rw [List.length_map] at hb21
       refine bw_cond rfl ?_ ?_
       ·intro hc20; replace h := ocond_t hc20 h
        have hc20_ := of_decide_eq_true hc20
        refine bw_skip ?_
        change BW _ _ _ _ _
        refine bw_seq ?_
        refine bw_block ?_
        change BW _ _ _ _ _
        refine bR ?_
        obtain ⟨x22, hx22, h⟩ := obind h
        refine sS rfl rfl rfl (op1_idxN (i := s19) Try.underlying30 inf_34 rfl rfl rfl hx22 (ofTyp_eq _)) ?_
        refine sS rfl rfl rfl (op1_ldPW inf_34 Try.underlying34 rfl rfl rfl rfl rfl) ?_
        refine sS rfl rfl rfl (op1_alloc inf_34 rfl) ?_
        refine ao_step0 rfl rfl (op1_store inf_34 rfl rfl rfl rfl rfl rfl (Nat.le_of_ble_eq_true rfl) rfl) ?_
        refine ao_nil ?_
        change BW _ _ _ _ _
        refine bR ?_
        refine sM rfl rfl rfl rfl rfl ?_
        refine sS rfl rfl rfl ((op1_ldRA inf_34 Try.underlying34 rfl rfl rfl rfl rfl rfl)) ?_
        obtain ⟨x23, hx23, h⟩ := obind h
        refine sS rfl rfl rfl (op1_pcall rfl en_36 rfl (.cons (Wk.refl _) (.cons (Wk.refl _) .nil)) ⟨(ids_V a0), ⟨(ids_TypX (Typ.mk x22.kind x22.of (x22.only) x22.parts x22.names x22.lacks x22.opn x22.cls)), trivial⟩⟩ (c_check_narrow a0 (Typ.mk x22.kind x22.of (x22.only) x22.parts x22.names x22.lacks x22.opn x22.cls) x23 hx23) (ids_tup_cons (ids_V x23.1) (ids_tup_cons rfl ids_tup_nil))) ?_
        refine sM rfl rfl rfl rfl rfl ?_
        refine sS rfl rfl rfl (op1_ext rfl rfl rfl) ?_
        refine sS rfl rfl rfl (op1_ext rfl rfl rfl) ?_
        refine sA rfl rfl rfl rfl rfl ?_
        refine sA rfl rfl rfl rfl rfl (ao_nil ?_)
        change BW _ _ _ _ _
        refine bR ?_
        refine sM rfl rfl rfl rfl rfl (ao_nil ?_)
        change BW _ _ _ _ _
        refine bw_cond rfl ?_ ?_
        ·intro hc24; replace h := ocond_t hc24 h
         refine bR ?_
         refine sM rfl rfl rfl rfl rfl ?_
         refine sA rfl rfl rfl rfl rfl ?_
         refine sA rfl rfl rfl rfl rfl (ao_nil ?_)
         change BW _ _ _ _ _
         refine bw_ret ?_
         change ∃ xs, _ = some xs ∧ EndOk _ _ _ _
         obtain rfl := Option.some.inj h
         exact ⟨_, rfl, endOk0 (y := (PV.tup [(ofV x23.1), (BO true)])) (Wk.refl _) (ids_tup_cons (ids_V x23.1) (ids_tup_cons rfl ids_tup_nil)) ⟨rfl, rfl⟩⟩
        ·intro hc24; replace h := ocond_f hc24 h
         refine bw_skip ?_
         change BW _ _ _ _ _
         refine bw_region ?_
         refine sS rfl rfl rfl (op1_incN (k := s19) (c := 1) rfl rfl rfl (by omega)) ?_
         refine sM rfl rfl rfl rfl rfl (ao_nil ?_)
         exact ⟨rfl, (s19 + 1), h, ⟨.nil, (sC rfl (sC rfl (sC rfl (sC rfl sub_nil))))⟩⟩
       ·intro hc20; replace h := ocond_f hc20 h
        refine bw_exit ?_
        exact ⟨rfl, (), h, ⟨.nil, sub_nil⟩⟩
     ·intro hc18; replace h := ocond_f hc18 h
      refine bw_skip ?_
      exact ⟨rfl, (), h, ⟨.nil, sub_nil⟩⟩
theorem C_check_narrowed.sound : ∀ (i : C_check_narrowed) (r : i.R), fixO C_check_narrowed.F i = some r → C_check_narrowed.Q i r := by
 refine fixO_ind (Φ := C_check_narrowed.F) (Q := C_check_narrowed.Q) ?_
 intro g hg i r h
 cases i with
 | k_check_narrowed a0 a1 => exact t_check_narrowed (fun a0 a1 => g (.k_check_narrowed a0 a1)) (fun a0 a1 r hr => hg (.k_check_narrowed a0 a1) r hr) (fun a0 a1 => g (.k_check_narrow a0 a1)) (fun a0 a1 r hr => hg (.k_check_narrow a0 a1) r hr) a0 a1 r h
 | k_check_narrow a0 a1 => exact t_check_narrow (fun a0 a1 => g (.k_check_narrowed a0 a1)) (fun a0 a1 r hr => hg (.k_check_narrowed a0 a1) r hr) (fun a0 a1 => g (.k_check_narrow a0 a1)) (fun a0 a1 r hr => hg (.k_check_narrow a0 a1) r hr) a0 a1 r h
theorem s_check_narrowed (a0 : (List (Str × V))) (a1 : Typ) (r : (V × Bool)) (h : p_check_narrowed a0 a1 = some r) : PCalls Try.prog 67 [(PV.sl none 2 (List.map ofFld a0)), (ofTypX a1)] (PV.tup [(ofV r.1), (BO r.2)]) := C_check_narrowed.sound (.k_check_narrowed a0 a1) r h
theorem s_check_narrow (a0 : V) (a1 : Typ) (r : (V × Bool)) (h : p_check_narrow a0 a1 = some r) : PCalls Try.prog 36 [(ofV a0), (ofTypX a1)] (PV.tup [(ofV r.1), (BO r.2)]) := C_check_narrowed.sound (.k_check_narrow a0 a1) r h
noncomputable def value_copiedDict_l1b (r_value_copied : V → Option V) (a0 : (List (Str × V))) (g1 : (List (Str × V)) → Nat → Option (List (Str × V))) (s2 : (List (Str × V))) (s3 : Nat) : Option (List (Str × V)) :=
 bif (decide (((s3 : Nat) : Int) < (((a0).length : Nat) : Int))) then (
  Option.bind ((a0)[s3]?) fun x6 =>
  Option.bind (r_value_copied x6.2) fun x7 =>
  Option.bind (appO 32 s2 ([(x6.1, x7)] : (List (Str × V)))) fun x8 =>
  g1 x8 (s3 + 1)
 ) else (
  some s2
 )
theorem value_copiedDict_l1b_cm {ι : Type} {ρ : ι → Type} (r_value_copied : (∀ i, Option (ρ i)) → V → Option V) (h_r_value_copied : ∀ y0, CM (fun G => r_value_copied G y0)) (g1 : (∀ i, Option (ρ i)) → (List (Str × V)) → Nat → Option (List (Str × V))) (h_g1 : ∀ y0 y1, CM (fun G => g1 G y0 y1)) (a0 : (List (Str × V))) (s2 : (List (Str × V))) (s3 : Nat) : CM (fun G : (∀ i, Option (ρ i)) => value_copiedDict_l1b (r_value_copied G) a0 (g1 G) s2 s3) := by
 simp only [value_copiedDict_l1b]
 repeat (first | exact cm_const | exact h_r_value_copied _ | exact h_g1 _ _ | refine cm_cond ?_ ?_ | refine cm_bind ?_ (fun _ => ?_))
noncomputable def value_copiedDict_l1 (r_value_copied : V → Option V) (a0 : (List (Str × V))) (s2 : (List (Str × V))) (s3 : Nat) : Option (List (Str × V)) :=
 fixO (ι := ((List (Str × V)) × Nat)) (ρ := fun _ => (List (Str × V))) (fun g i => value_copiedDict_l1b r_value_copied a0 (fun s2 s3 => g (s2, s3)) i.1 i.2) (s2, s3)
theorem value_copiedDict_l1_eq (r_value_copied : V → Option V) (a0 : (List (Str × V))) (s2 : (List (Str × V))) (s3 : Nat) : value_copiedDict_l1 r_value_copied a0 s2 s3 = value_copiedDict_l1b r_value_copied a0 (value_copiedDict_l1 r_value_copied a0) s2 s3 :=
 fixO_eq (ι := ((List (Str × V)) × Nat)) (ρ := fun _ => (List (Str × V))) (Φ := fun g i => value_copiedDict_l1b r_value_copied a0 (fun s2 s3 => g (s2, s3)) i.1 i.2) (fun i => value_copiedDict_l1b_cm (ι := ((List (Str × V)) × Nat)) (ρ := fun _ => (List (Str × V))) (fun _ => r_value_copied) (fun _ => cm_const) (fun g => (fun s2 s3 => g (s2, s3))) (fun _ _ => cm_app) a0 i.1 i.2) (s2, s3)
theorem value_copiedDict_l1_cm {ι : Type} {ρ : ι → Type} (r_value_copied : (∀ i, Option (ρ i)) → V → Option V) (h_r_value_copied : ∀ y0, CM (fun G => r_value_copied G y0)) (a0 : (List (Str × V))) (s2 : (List (Str × V))) (s3 : Nat) : CM (fun G : (∀ i, Option (ρ i)) => value_copiedDict_l1 (r_value_copied G) a0 s2 s3) :=
 cm_fix (κ := ((List (Str × V)) × Nat)) (τ := fun _ => (List (Str × V))) (Φ := fun G g i => value_copiedDict_l1b (r_value_copied G) a0 (fun s2 s3 => g (s2, s3)) i.1 i.2) (fun g i => value_copiedDict_l1b_cm r_value_copied h_r_value_copied (fun _ => (fun s2 s3 => g (s2, s3))) (fun _ _ => cm_const) a0 i.1 i.2) (fun G i => value_copiedDict_l1b_cm (ι := ((List (Str × V)) × Nat)) (ρ := fun _ => (List (Str × V))) (fun _ => r_value_copied G) (fun _ => cm_const) (fun g => (fun s2 s3 => g (s2, s3))) (fun _ _ => cm_app) a0 i.1 i.2) (s2, s3)
noncomputable def b_value_copiedDict (r_value_copiedDict : (List (Str × V)) → Option (List (Str × V))) (r_value_copied : V → Option V) (a0 : (List (Str × V))) : Option (List (Str × V)) :=
 Option.bind (roomO ((a0).length) 32) fun x1 =>
 value_copiedDict_l1 r_value_copied a0 ([] : (List (Str × V))) 0
theorem b_value_copiedDict_cm {ι : Type} {ρ : ι → Type} (r_value_copiedDict : (∀ i, Option (ρ i)) → (List (Str × V)) → Option (List (Str × V))) (h_r_value_copiedDict : ∀ y0, CM (fun G => r_value_copiedDict G y0)) (r_value_copied : (∀ i, Option (ρ i)) → V → Option V) (h_r_value_copied : ∀ y0, CM (fun G => r_value_copied G y0)) (a0 : (List (Str × V))) : CM (fun G : (∀ i, Option (ρ i)) => b_value_copiedDict (r_value_copiedDict G) (r_value_copied G) a0) := by
 simp only [b_value_copiedDict]
 repeat (first | exact cm_const | exact h_r_value_copiedDict _ | exact h_r_value_copied _ | apply value_copiedDict_l1_cm | refine cm_cond ?_ ?_ | refine cm_bind ?_ (fun _ => ?_) | intro _ | assumption)
noncomputable def value_copied_l1b (r_value_copied : V → Option V) (a0 : V) (g1 : (List V) → Nat → Option V) (s5 : (List V)) (s6 : Nat) : Option V :=
 bif (decide (((s6 : Nat) : Int) < ((((a0).asList).length : Nat) : Int))) then (
  Option.bind (((a0).asList)[s6]?) fun x9 =>
  Option.bind (r_value_copied x9) fun x10 =>
  Option.bind (appO 16 s5 ([x10] : (List V))) fun x11 =>
  g1 x11 (s6 + 1)
 ) else (
  some (V.list s5)
 )
theorem value_copied_l1b_cm {ι : Type} {ρ : ι → Type} (r_value_copied : (∀ i, Option (ρ i)) → V → Option V) (h_r_value_copied : ∀ y0, CM (fun G => r_value_copied G y0)) (g1 : (∀ i, Option (ρ i)) → (List V) → Nat → Option V) (h_g1 : ∀ y0 y1, CM (fun G => g1 G y0 y1)) (a0 : V) (s5 : (List V)) (s6 : Nat) : CM (fun G : (∀ i, Option (ρ i)) => value_copied_l1b (r_value_copied G) a0 (g1 G) s5 s6) := by
 simp only [value_copied_l1b]
 repeat (first | exact cm_const | exact h_r_value_copied _ | exact h_g1 _ _ | refine cm_cond ?_ ?_ | refine cm_bind ?_ (fun _ => ?_))
noncomputable def value_copied_l1 (r_value_copied : V → Option V) (a0 : V) (s5 : (List V)) (s6 : Nat) : Option V :=
 fixO (ι := ((List V) × Nat)) (ρ := fun _ => V) (fun g i => value_copied_l1b r_value_copied a0 (fun s5 s6 => g (s5, s6)) i.1 i.2) (s5, s6)
theorem value_copied_l1_eq (r_value_copied : V → Option V) (a0 : V) (s5 : (List V)) (s6 : Nat) : value_copied_l1 r_value_copied a0 s5 s6 = value_copied_l1b r_value_copied a0 (value_copied_l1 r_value_copied a0) s5 s6 :=
 fixO_eq (ι := ((List V) × Nat)) (ρ := fun _ => V) (Φ := fun g i => value_copied_l1b r_value_copied a0 (fun s5 s6 => g (s5, s6)) i.1 i.2) (fun i => value_copied_l1b_cm (ι := ((List V) × Nat)) (ρ := fun _ => V) (fun _ => r_value_copied) (fun _ => cm_const) (fun g => (fun s5 s6 => g (s5, s6))) (fun _ _ => cm_app) a0 i.1 i.2) (s5, s6)
theorem value_copied_l1_cm {ι : Type} {ρ : ι → Type} (r_value_copied : (∀ i, Option (ρ i)) → V → Option V) (h_r_value_copied : ∀ y0, CM (fun G => r_value_copied G y0)) (a0 : V) (s5 : (List V)) (s6 : Nat) : CM (fun G : (∀ i, Option (ρ i)) => value_copied_l1 (r_value_copied G) a0 s5 s6) :=
 cm_fix (κ := ((List V) × Nat)) (τ := fun _ => V) (Φ := fun G g i => value_copied_l1b (r_value_copied G) a0 (fun s5 s6 => g (s5, s6)) i.1 i.2) (fun g i => value_copied_l1b_cm r_value_copied h_r_value_copied (fun _ => (fun s5 s6 => g (s5, s6))) (fun _ _ => cm_const) a0 i.1 i.2) (fun G i => value_copied_l1b_cm (ι := ((List V) × Nat)) (ρ := fun _ => V) (fun _ => r_value_copied G) (fun _ => cm_const) (fun g => (fun s5 s6 => g (s5, s6))) (fun _ _ => cm_app) a0 i.1 i.2) (s5, s6)
noncomputable def b_value_copied (r_value_copiedDict : (List (Str × V)) → Option (List (Str × V))) (r_value_copied : V → Option V) (a0 : V) : Option V :=
 bif (a0).isBytes then (
  Option.bind (appO 1 ([] : Str) ((a0).asBytes)) fun x2 =>
  some (V.bytes x2)
 ) else (
  bif (a0).isList then (
   Option.bind (roomO (((a0).asList).length) 16) fun x4 =>
   value_copied_l1 r_value_copied a0 ([] : (List V)) 0
  ) else (
   bif (a0).isDict then (
    Option.bind (r_value_copiedDict ((a0).asDict)) fun x13 =>
    some (V.dict x13)
   ) else (
    bif (a0).isRec then (
     Option.bind ((a0).asRec) fun x15 =>
     Option.bind (r_value_copiedDict x15.fields) fun x16 =>
     some (V.record x15.cls x15.ver x16)
    ) else (
     some a0
    )
   )
  )
 )
theorem b_value_copied_cm {ι : Type} {ρ : ι → Type} (r_value_copiedDict : (∀ i, Option (ρ i)) → (List (Str × V)) → Option (List (Str × V))) (h_r_value_copiedDict : ∀ y0, CM (fun G => r_value_copiedDict G y0)) (r_value_copied : (∀ i, Option (ρ i)) → V → Option V) (h_r_value_copied : ∀ y0, CM (fun G => r_value_copied G y0)) (a0 : V) : CM (fun G : (∀ i, Option (ρ i)) => b_value_copied (r_value_copiedDict G) (r_value_copied G) a0) := by
 simp only [b_value_copied]
 repeat (first | exact cm_const | exact h_r_value_copiedDict _ | exact h_r_value_copied _ | apply value_copied_l1_cm | refine cm_cond ?_ ?_ | refine cm_bind ?_ (fun _ => ?_) | intro _ | assumption)
inductive C_value_copiedDict where
 | k_value_copiedDict (a0 : (List (Str × V)))
 | k_value_copied (a0 : V)
def C_value_copiedDict.R : C_value_copiedDict → Type
 | .k_value_copiedDict _ => (List (Str × V))
 | .k_value_copied _ => V
noncomputable def C_value_copiedDict.F (g : ∀ i : C_value_copiedDict, Option i.R) : ∀ i : C_value_copiedDict, Option i.R
 | .k_value_copiedDict a0 => b_value_copiedDict (fun a0 => g (.k_value_copiedDict a0)) (fun a0 => g (.k_value_copied a0)) a0
 | .k_value_copied a0 => b_value_copied (fun a0 => g (.k_value_copiedDict a0)) (fun a0 => g (.k_value_copied a0)) a0
noncomputable def p_value_copiedDict (a0 : (List (Str × V))) : Option (List (Str × V)) := fixO C_value_copiedDict.F (.k_value_copiedDict a0)
noncomputable def p_value_copied (a0 : V) : Option V := fixO C_value_copiedDict.F (.k_value_copied a0)
theorem C_value_copiedDict.cm (i : C_value_copiedDict) : CM (fun g : (∀ i : C_value_copiedDict, Option i.R) => C_value_copiedDict.F g i) := by
 cases i with
 | k_value_copiedDict a0 => exact b_value_copiedDict_cm (fun (g : ∀ i : C_value_copiedDict, Option i.R) a0 => g (.k_value_copiedDict a0)) (fun a0 => cm_app (i := C_value_copiedDict.k_value_copiedDict a0)) (fun (g : ∀ i : C_value_copiedDict, Option i.R) a0 => g (.k_value_copied a0)) (fun a0 => cm_app (i := C_value_copiedDict.k_value_copied a0)) a0
 | k_value_copied a0 => exact b_value_copied_cm (fun (g : ∀ i : C_value_copiedDict, Option i.R) a0 => g (.k_value_copiedDict a0)) (fun a0 => cm_app (i := C_value_copiedDict.k_value_copiedDict a0)) (fun (g : ∀ i : C_value_copiedDict, Option i.R) a0 => g (.k_value_copied a0)) (fun a0 => cm_app (i := C_value_copiedDict.k_value_copied a0)) a0
theorem e_value_copiedDict (a0 : (List (Str × V))) : p_value_copiedDict a0 = b_value_copiedDict p_value_copiedDict p_value_copied a0 := fixO_eq C_value_copiedDict.cm (.k_value_copiedDict a0)
theorem e_value_copied (a0 : V) : p_value_copied a0 = b_value_copied p_value_copiedDict p_value_copied a0 := fixO_eq C_value_copiedDict.cm (.k_value_copied a0)
def C_value_copiedDict.Q : ∀ i : C_value_copiedDict, i.R → Prop
 | .k_value_copiedDict a0 => fun (r : (List (Str × V))) => PCalls Try.prog 99 [(PV.sl none 2 (List.map ofFld a0))] (PV.sl none 2 (List.map ofFld r))
 | .k_value_copied a0 => fun (r : V) => PCalls Try.prog 69 [(ofV a0)] (ofV r)
theorem t_value_copiedDict (r_value_copiedDict : (List (Str × V)) → Option (List (Str × V))) (c_value_copiedDict : ∀ (a0 : (List (Str × V))) r, r_value_copiedDict a0 = some r → PCalls Try.prog 99 [(PV.sl none 2 (List.map ofFld a0))] (PV.sl none 2 (List.map ofFld r))) (r_value_copied : V → Option V) (c_value_copied : ∀ (a0 : V) r, r_value_copied a0 = some r → PCalls Try.prog 69 [(ofV a0)] (ofV r)) (a0 : (List (Str × V))) (r : (List (Str × V))) (h : b_value_copiedDict r_value_copiedDict r_value_copied a0 = some r) : PCalls Try.prog 99 [(PV.sl none 2 (List.map ofFld a0))] (PV.sl none 2 (List.map ofFld r)) := by
 unfold b_value_copiedDict at h
 refine acalls_of Try.func99 rfl Try.ntmps99 Try.results99 rfl (aw_of_bw ?_)
 change BW _ _ _ ⟨[(0, (PV.sl none 2 (List.map ofFld a0)))], [], _⟩ _
 refine bR ?_
 refine sA rfl rfl rfl rfl rfl (ao_nil ?_)
 change BW _ _ _ _ _
 refine bR ?_
 refine sM rfl rfl rfl rfl rfl ?_
 refine sS rfl rfl rfl (op1_lenM Try.underlying45 rfl rfl) ?_
 obtain ⟨x1, hx1, h⟩ := obind h
 refine sS rfl rfl rfl ((op1_mkM (f := ofFld) (c := ((a0).length)) Try.underlying45 inf_43 rfl rfl rfl rfl hx1 (p := (PV.agg [(ofStr []), (PV.v .nilIface)])) rfl).cast (y := (PV.sl (some 0) 2 (List.map ofFld ([] : (List (Str × V)))))) rfl rfl) ?_
 refine sA rfl rfl rfl rfl rfl (ao_nil ?_)
 change BW _ _ _ _ _
 refine bw_seq ?_
 refine bR ?_
 refine sM rfl rfl rfl rfl rfl ?_
 refine sS rfl rfl rfl (op1_lenM Try.underlying45 rfl rfl) ?_
 refine sM rfl rfl rfl rfl rfl (ao_nil ?_)
 change BW _ _ _ _ _
 refine bw_block ?_
 change BW _ _ _ _ _
 unfold value_copiedDict_l1 at h
 refine bw_loop (σ := ((List (Str × V)) × Nat)) (fun i => [(3, (PV.sl (some 0) 2 (List.map ofFld i.1))), (9, (PV.sl none 2 (List.map ofFld a0))), (10, (I64 ((((a0).length : Nat) : Int)))), (11, (I64 (((i.2 : Nat) : Int))))]) (fun i => [.arr 43 (i.1).length]) (([] : (List (Str × V))), 0) h ?_ ?_ ?_
 ·intro i; exact ⟨Nat.le_of_ble_eq_true rfl, ⟨(il_tok rfl (ids_map ids_Fld _)), ⟨(il_nil (ids_slM ids_Fld _)), ⟨(il_nil rfl), ⟨(il_nil rfl), trivial⟩⟩⟩⟩, trivial⟩
 ·exact ⟨(.cons .same .nil), (sC rfl (sC rfl (sC rfl (sC rfl sub_nil))))⟩
 ·rintro g1_f ⟨s2, s3⟩ h; replace h : value_copiedDict_l1b r_value_copied a0 (fun y0 y1 => g1_f (y0, y1)) s2 s3 = some r := h; unfold value_copiedDict_l1b at h
  change BW _ _ _ ⟨[(3, (PV.sl (some 0) 2 (List.map ofFld s2))), (9, (PV.sl none 2 (List.map ofFld a0))), (10, (I64 ((((a0).length : Nat) : Int)))), (11, (I64 (((s3 : Nat) : Int))))], [.arr 43 (s2).length], _⟩ _
  refine bR ?_
  refine sS rfl rfl rfl ((op1_cmp rfl rfl rfl rfl).cast (y := (BO ((decide (((s3 : Nat) : Int) < (((a0).length : Nat) : Int)))))) rfl rfl) (ao_nil ?_)
  change BW _ _ _ _ _
  refine bw_seq ?_
  refine bw_len (t := 9) rfl fun hb5 => ?_
  try rw [List.length_map] at hb5
  refine bw_cond rfl ?_ ?_
  ·intro hc4; replace h := ocond_t hc4 h
   have hc4_ := of_decide_eq_true hc4
   refine bw_skip ?_
   change BW _ _ _ _ _
   refine bw_seq ?_
   refine bw_block ?_
   change BW _ _ _ _ _
   refine bR ?_
   obtain ⟨x6, hx6, h⟩ := obind h
   refine sS rfl rfl rfl (op1_idxN (i := s3) Try.underlying45 inf_43 rfl rfl rfl hx6 rfl) ?_
   refine sS rfl rfl rfl (op1_ldPW inf_43 Try.underlying43 rfl rfl rfl rfl rfl) ?_
   refine sS rfl rfl rfl (op1_alloc inf_43 rfl) ?_
   refine ao_step0 rfl rfl (op1_store inf_43 rfl rfl rfl rfl rfl rfl (Nat.le_of_ble_eq_true rfl) (by show List.all [(ofStr x6.1), (ofV x6.2)] one1 = true; simp only [List.all_cons, List.all_nil, one_V, one_RecP, Bool.and_true, Bool.true_and]; try rfl)) ?_
   refine ao_nil ?_
   change BW _ _ _ _ _
   refine bw_tail 8 [7] [1] mo (by kernel_rfl) ?_
   refine ac_go rfl rfl rfl rfl (fun H hp => op1_move rfl rfl) ?_
   refine ac_go rfl rfl rfl rfl (fun H hp => op1_faR st_43 (i := 0) rfl rfl rfl) ?_
   refine ac_go rfl rfl rfl rfl (fun H hp => (op1_ldR Try.underlying9 rfl rfl rfl (hp.at rfl rfl) rfl)) ?_
   refine ac_go rfl rfl rfl rfl (fun H hp => op1_faR st_43 (i := 1) rfl rfl rfl) ?_
   refine ac_go rfl rfl rfl rfl (fun H hp => (op1_ldR Try.underlying20 rfl rfl rfl (hp.at rfl rfl) rfl)) ?_
   obtain ⟨x7, hx7, h⟩ := obind h
   refine ac_go rfl rfl rfl rfl (fun H hp => op1_pcall rfl en_69 rfl (.cons (Wk.refl _) .nil) ⟨(ids_V x6.2), trivial⟩ (c_value_copied x6.2 x7 hx7) (ids_V x7)) ?_
   refine ac_go rfl rfl rfl rfl (fun H hp => op1_build (cs := [(ofStr x6.1), (ofV x7)]) st_43 inf_43 rfl rfl (by simp only [List.all_cons, List.all_nil, cok_V, cok_RecP, Bool.and_true, Bool.true_and]; try rfl) (by simp only [afill, List.getElem?_cons_zero, List.getElem?_cons_succ, cells_V, cells_RecP]; rfl)) ?_
   refine ac_lgo rfl rfl rfl rfl ((op1_bslice (xs := [(PV.agg [(ofStr x6.1), (ofV x7)])]) Try.underlying45 inf_43 rfl rfl rfl (by simp only [List.all_cons, List.all_nil, cok_V, cok_RecP, Bool.and_true, Bool.true_and]; try rfl) (by simp only [List.all_cons, List.all_nil, csz_V, csz_RecP, cells_V, cells_RecP]; try rfl) rfl ⟨Nat.le_of_ble_eq_true rfl, Nat.le_of_ble_eq_true rfl⟩ (by simp only [zipN, afill, List.flatMap_cons, List.flatMap_nil, cells_V, cells_RecP]; try rfl)).cast (y := (PV.sl (some 2) 2 (List.map ofFld ([(x6.1, x7)] : (List (Str × V)))))) rfl rfl) ⟨rfl, trivial⟩ ?_
   refine ac_nil ?_
   change AO _ _ _ _ _
   obtain ⟨x8, hx8, h⟩ := obind h
   refine sS rfl rfl rfl (op1_appM Try.underlying45 inf_43 rfl Try.underlying45 rfl rfl rfl rfl csz_Fld call1_Fld hx8 rfl) ?_
   refine sA rfl rfl rfl rfl rfl (ao_nil ?_)
   change BW _ _ _ _ _
   refine bw_region ?_
   refine sS rfl rfl rfl (op1_incN (k := s3) (c := 1) rfl rfl rfl (by omega)) ?_
   refine sM rfl rfl rfl rfl rfl (ao_nil ?_)
   exact ⟨rfl, (x8, (s3 + 1)), h, ⟨(.cons .same .nil), (sC rfl (sC rfl (sC rfl (sC rfl sub_nil))))⟩⟩
  ·intro hc4; replace h := ocond_f hc4 h
   refine bw_exit ?_
   change BW _ _ _ _ _
   refine bR ?_
   refine sM rfl rfl rfl rfl rfl ?_
   refine sA rfl rfl rfl rfl rfl (ao_nil ?_)
   change BW _ _ _ _ _
   refine bw_ret ?_
   change ∃ xs, _ = some xs ∧ EndOk _ _ _ _
   obtain rfl := Option.some.inj h
   exact ⟨_, rfl, endOk0 (y := (PV.sl none 2 (List.map ofFld s2))) Wk.tok (ids_slM ids_Fld s2) ⟨rfl, rfl⟩⟩
theorem t_value_copied (r_value_copiedDict : (List (Str × V)) → Option (List (Str × V))) (c_value_copiedDict : ∀ (a0 : (List (Str × V))) r, r_value_copiedDict a0 = some r → PCalls Try.prog 99 [(PV.sl none 2 (List.map ofFld a0))] (PV.sl none 2 (List.map ofFld r))) (r_value_copied : V → Option V) (c_value_copied : ∀ (a0 : V) r, r_value_copied a0 = some r → PCalls Try.prog 69 [(ofV a0)] (ofV r)) (a0 : V) (r : V) (h : b_value_copied r_value_copiedDict r_value_copied a0 = some r) : PCalls Try.prog 69 [(ofV a0)] (ofV r) := by
 unfold b_value_copied at h
 refine acalls_of Try.func69 rfl Try.ntmps69 Try.results69 rfl (aw_of_bw ?_)
 change BW _ _ _ ⟨[(0, (ofV a0))], [], _⟩ _
 refine bR ?_
 refine sA rfl rfl rfl rfl rfl (ao_nil ?_)
 change BW _ _ _ _ _
 refine bw_seq ?_
 refine bR ?_
 refine sM rfl rfl rfl rfl rfl (ao_nil ?_)
 change BW _ _ _ _ _
 refine bw_block ?_
 change BW _ _ _ _ _
 refine bR ?_
 refine sS rfl rfl rfl (op1_taBytes rfl rfl) ?_
 refine sS rfl rfl rfl (op1_ext rfl rfl rfl) ?_
 refine sS rfl rfl rfl (op1_ext rfl rfl rfl) (ao_nil ?_)
 change BW _ _ _ _ _
 refine bw_cond rfl ?_ ?_
 ·intro hc1; replace h := ocond_t hc1 h
  refine bR ?_
  refine sA rfl rfl rfl rfl rfl (ao_nil ?_)
  change BW _ _ _ _ _
  refine bR ?_
  refine sS rfl rfl rfl ((op1_bslice (xs := []) Try.underlying23 inf_5 rfl rfl rfl rfl rfl rfl ⟨Nat.le_of_ble_eq_true rfl, Nat.le_of_ble_eq_true rfl⟩ rfl).cast (y := (PV.sl (some 0) 1 (List.map ofB ([] : Str)))) rfl rfl) ?_
  refine sM rfl rfl rfl rfl rfl ?_
  obtain ⟨x2, hx2, h⟩ := obind h
  refine sS rfl rfl rfl (op1_appM Try.underlying23 inf_5 rfl Try.underlying23 rfl rfl rfl rfl (fun _ => rfl) (fun _ => rfl) hx2 rfl) ?_
  refine sS rfl rfl rfl ((op1_mkI Try.underlying23 rfl rfl rfl).wk ((Wk.iface Wk.tok).trans (Wk.eq (mk_bytes _).symm))) ?_
  refine sA rfl rfl rfl rfl rfl (ao_nil ?_)
  change BW _ _ _ _ _
  refine bw_ret ?_
  change ∃ xs, _ = some xs ∧ EndOk _ _ _ _
  obtain rfl := Option.some.inj h
  exact ⟨_, rfl, endOk0 (y := (ofV (V.bytes x2))) (Wk.refl _) (ids_V (V.bytes x2)) ⟨rfl, rfl⟩⟩
 ·intro hc1; replace h := ocond_f hc1 h
  refine bR ?_
  refine sS rfl rfl rfl (op1_taList rfl rfl) ?_
  refine sS rfl rfl rfl (op1_ext rfl rfl rfl) ?_
  refine sS rfl rfl rfl (op1_ext rfl rfl rfl) (ao_nil ?_)
  change BW _ _ _ _ _
  refine bw_cond rfl ?_ ?_
  ·intro hc3; replace h := ocond_t hc3 h
   refine bR ?_
   refine sA rfl rfl rfl rfl rfl (ao_nil ?_)
   change BW _ _ _ _ _
   refine bR ?_
   refine sM rfl rfl rfl rfl rfl ?_
   refine sS rfl rfl rfl (op1_lenM Try.underlying37 rfl rfl) ?_
   obtain ⟨x4, hx4, h⟩ := obind h
   refine sS rfl rfl rfl ((op1_mkM (f := ofV) (c := (((a0).asList).length)) Try.underlying37 inf_20 rfl rfl rfl rfl hx4 (p := (PV.v .nilIface)) rfl).cast (y := (PV.sl (some 0) 1 (List.map ofV ([] : (List V))))) rfl rfl) ?_
   refine sA rfl rfl rfl rfl rfl (ao_nil ?_)
   change BW _ _ _ _ _
   refine bw_seq ?_
   refine bR ?_
   refine sM rfl rfl rfl rfl rfl ?_
   refine sS rfl rfl rfl (op1_lenM Try.underlying37 rfl rfl) ?_
   refine sM rfl rfl rfl rfl rfl (ao_nil ?_)
   change BW _ _ _ _ _
   refine bw_block ?_
   change BW _ _ _ _ _
   unfold value_copied_l1 at h
   refine bw_loop (σ := ((List V) × Nat)) (fun i => [(5, (PV.sl (some 0) 1 (List.map ofV i.1))), (24, (PV.sl none 1 (List.map ofV (a0).asList))), (25, (I64 (((((a0).asList).length : Nat) : Int)))), (26, (I64 (((i.2 : Nat) : Int))))]) (fun i => [.arr 20 (i.1).length]) (([] : (List V)), 0) h ?_ ?_ ?_
   ·intro i; exact ⟨Nat.le_of_ble_eq_true rfl, ⟨(il_tok rfl (ids_map ids_V _)), ⟨(il_nil (ids_slM ids_V _)), ⟨(il_nil rfl), ⟨(il_nil rfl), trivial⟩⟩⟩⟩, trivial⟩
   ·exact ⟨(.cons .same .nil), (sC rfl (sC rfl (sC rfl (sC rfl sub_nil))))⟩
   ·rintro g1_f ⟨s5, s6⟩ h; replace h : value_copied_l1b r_value_copied a0 (fun y0 y1 => g1_f (y0, y1)) s5 s6 = some r := h; unfold value_copied_l1b at h
    change BW _ _ _ ⟨[(5, (PV.sl (some 0) 1 (List.map ofV s5))), (24, (PV.sl none 1 (List.map ofV (a0).asList))), (25, (I64 (((((a0).asList).length : Nat) : Int)))), (26, (I64 (((s6 : Nat) : Int))))], [.arr 20 (s5).length], _⟩ _
    refine bR ?_
    refine sS rfl rfl rfl ((op1_cmp rfl rfl rfl rfl).cast (y := (BO ((decide (((s6 : Nat) : Int) < ((((a0).asList).length : Nat) : Int)))))) rfl rfl) (ao_nil ?_)
    change BW _ _ _ _ _
    refine bw_seq ?_
    refine bw_len (t := 24) rfl fun hb8 => ?_
    try rw [List.length_map] at hb8
    refine bw_cond rfl ?_ ?_
    ·intro hc7; replace h := ocond_t hc7 h
     have hc7_ := of_decide_eq_true hc7
     refine bw_skip ?_
     change BW _ _ _ _ _
     refine bw_seq ?_
     refine bw_block ?_
     change BW _ _ _ _ _
     refine bR ?_
     obtain ⟨x9, hx9, h⟩ := obind h
     refine sS rfl rfl rfl (op1_idxN (i := s6) Try.underlying37 inf_20 rfl rfl rfl hx9 rfl) ?_
     refine sS rfl rfl rfl (op1_ldP (y := (ofV x9)) Try.underlying20 rfl rfl rfl (by rw [cells_V]; rfl)) ?_
     refine sA rfl rfl rfl rfl rfl (ao_nil ?_)
     change BW _ _ _ _ _
     refine bw_region ?_
     refine sM rfl rfl rfl rfl rfl ?_
     refine sM rfl rfl rfl rfl rfl ?_
     obtain ⟨x10, hx10, h⟩ := obind h
     refine sS rfl rfl rfl (op1_pcall rfl en_69 rfl (.cons (Wk.refl _) .nil) ⟨(ids_V x9), trivial⟩ (c_value_copied x9 x10 hx10) (ids_V x10)) ?_
     refine sS rfl rfl rfl ((op1_bslice (xs := [(ofV x10)]) Try.underlying37 inf_20 rfl rfl rfl (by simp only [List.all_cons, List.all_nil, cok_V, cok_RecP, Bool.and_true, Bool.true_and]; try rfl) (by simp only [List.all_cons, List.all_nil, csz_V, csz_RecP, cells_V, cells_RecP]; try rfl) rfl ⟨Nat.le_of_ble_eq_true rfl, Nat.le_of_ble_eq_true rfl⟩ (by simp only [zipN, afill, List.flatMap_cons, List.flatMap_nil, cells_V, cells_RecP]; try rfl)).cast (y := (PV.sl (some 1) 1 (List.map ofV ([x10] : (List V))))) rfl rfl) ?_
     obtain ⟨x11, hx11, h⟩ := obind h
     refine sS rfl rfl rfl (op1_appM Try.underlying37 inf_20 rfl Try.underlying37 rfl rfl rfl rfl csz_V call1_V hx11 rfl) ?_
     refine sA rfl rfl rfl rfl rfl (ao_nil ?_)
     change BW _ _ _ _ _
     refine bw_region ?_
     refine sS rfl rfl rfl (op1_incN (k := s6) (c := 1) rfl rfl rfl (by omega)) ?_
     refine sM rfl rfl rfl rfl rfl (ao_nil ?_)
     exact ⟨rfl, (x11, (s6 + 1)), h, ⟨(.cons .same .nil), (sC rfl (sC rfl (sC rfl (sC rfl sub_nil))))⟩⟩
    ·intro hc7; replace h := ocond_f hc7 h
     refine bw_exit ?_
     change BW _ _ _ _ _
     refine bR ?_
     refine sM rfl rfl rfl rfl rfl ?_
     refine sS rfl rfl rfl ((op1_mkI Try.underlying37 rfl rfl rfl).wk ((Wk.iface Wk.tok).trans (Wk.eq (mk_list _).symm))) ?_
     refine sA rfl rfl rfl rfl rfl (ao_nil ?_)
     change BW _ _ _ _ _
     refine bw_ret ?_
     change ∃ xs, _ = some xs ∧ EndOk _ _ _ _
     obtain rfl := Option.some.inj h
     exact ⟨_, rfl, endOk0 (y := (ofV (V.list s5))) (Wk.refl _) (ids_V (V.list s5)) ⟨rfl, rfl⟩⟩
  ·intro hc3; replace h := ocond_f hc3 h
   refine bR ?_
   refine sS rfl rfl rfl (op1_taDict rfl rfl) ?_
   refine sS rfl rfl rfl (op1_ext rfl rfl rfl) ?_
   refine sS rfl rfl rfl (op1_ext rfl rfl rfl) (ao_nil ?_)
   change BW _ _ _ _ _
   refine bw_cond rfl ?_ ?_
   ·intro hc12; replace h := ocond_t hc12 h
    refine bR ?_
    refine sA rfl rfl rfl rfl rfl (ao_nil ?_)
    change BW _ _ _ _ _
    refine bR ?_
    refine sM rfl rfl rfl rfl rfl ?_
    obtain ⟨x13, hx13, h⟩ := obind h
    refine sS rfl rfl rfl (op1_pcall rfl en_99 rfl (.cons (Wk.refl _) .nil) ⟨(ids_slM ids_Fld ((a0).asDict)), trivial⟩ (c_value_copiedDict ((a0).asDict) x13 hx13) (ids_slM ids_Fld x13)) ?_
    refine sS rfl rfl rfl ((op1_mkI Try.underlying45 rfl rfl rfl).wk ((Wk.iface (Wk.refl _)).trans (Wk.eq (mk_dict _).symm))) ?_
    refine sA rfl rfl rfl rfl rfl (ao_nil ?_)
    change BW _ _ _ _ _
    refine bw_ret ?_
    change ∃ xs, _ = some xs ∧ EndOk _ _ _ _
    obtain rfl := Option.some.inj h
    exact ⟨_, rfl, endOk0 (y := (ofV (V.dict x13))) (Wk.refl _) (ids_V (V.dict x13)) ⟨rfl, rfl⟩⟩
   ·intro hc12; replace h := ocond_f hc12 h
    refine bR ?_
    refine sS rfl rfl rfl (op1_taRec rfl rfl) ?_
    refine sS rfl rfl rfl (op1_ext rfl rfl rfl) ?_
    refine sS rfl rfl rfl (op1_ext rfl rfl rfl) (ao_nil ?_)
    change BW _ _ _ _ _
    refine bw_cond rfl ?_ ?_
    ·intro hc14; replace h := ocond_t hc14 h
     refine bR ?_
     refine sA rfl rfl rfl rfl rfl (ao_nil ?_)
     change BW _ _ _ _ _
     refine bw_seq (bw_tail 13 [] [] mo (by kernel_rfl) ?_)
     refine ac_go rfl rfl rfl rfl (fun H hp => op1_move rfl rfl) ?_
     obtain ⟨x15, hx15, h⟩ := obind h
     refine ac_go rfl rfl rfl rfl (fun H hp => op1_pNil rfl rfl hx15) ?_
     refine ac_go rfl rfl rfl rfl (fun H hp => op1_faP st_72 (i := 0) rfl rfl rfl) ?_
     refine ac_go rfl rfl rfl rfl (fun H hp => op1_ldP (y := (ofStr x15.cls)) Try.underlying9 rfl rfl rfl rfl) ?_
     refine ac_go rfl rfl rfl rfl (fun H hp => op1_move rfl rfl) ?_
     refine ac_go rfl rfl rfl rfl (fun H hp => op1_pNil rfl rfl hx15) ?_
     refine ac_go rfl rfl rfl rfl (fun H hp => op1_faP st_72 (i := 1) rfl rfl rfl) ?_
     refine ac_go rfl rfl rfl rfl (fun H hp => op1_ldP (y := (I64 x15.ver)) Try.underlying3 rfl rfl rfl rfl) ?_
     refine ac_go rfl rfl rfl rfl (fun H hp => op1_move rfl rfl) ?_
     refine ac_go rfl rfl rfl rfl (fun H hp => op1_pNil rfl rfl hx15) ?_
     refine ac_go rfl rfl rfl rfl (fun H hp => op1_faP st_72 (i := 2) rfl rfl rfl) ?_
     refine ac_go rfl rfl rfl rfl (fun H hp => op1_ldP (y := (PV.sl none 2 (List.map ofFld x15.fields))) Try.underlying45 rfl rfl rfl rfl) ?_
     obtain ⟨x16, hx16, h⟩ := obind h
     refine ac_go rfl rfl rfl rfl (fun H hp => op1_pcall rfl en_99 rfl (.cons (Wk.refl _) .nil) ⟨(ids_slM ids_Fld x15.fields), trivial⟩ (c_value_copiedDict x15.fields x16 hx16) (ids_slM ids_Fld x16)) ?_
     refine ac_nil ?_
     change AO _ _ _ _ _
     refine sS rfl rfl rfl (op1_build (cs := [(ofStr x15.cls), (I64 x15.ver), (PV.sl none 2 (List.map ofFld x16))]) st_72 inf_72 rfl rfl rfl rfl) ?_
     refine sS rfl rfl rfl (op1_box rfl rfl rfl) ?_
     refine sS rfl rfl rfl (op1_mkI Try.underlying70 rfl rfl rfl) ?_
     refine sA rfl rfl rfl rfl rfl (ao_nil ?_)
     change BW _ _ _ _ _
     refine bw_thaw 0 2 (y := (ofV (V.record x15.cls x15.ver x16))) rfl rfl ((Wk.iface (Wk.pt (x := .agg [(ofStr x15.cls), (I64 x15.ver), (PV.sl none 2 (List.map ofFld x16))]) (y := ofRec (Rec.mk x15.cls x15.ver x16)) (.cons (Wk.refl _) (.cons (Wk.refl _) (.cons (Wk.refl _) .nil))))).trans (Wk.eq (mk_rec (some (Rec.mk x15.cls x15.ver x16))).symm)) ?_
     refine bw_ret ?_
     change ∃ xs, _ = some xs ∧ EndOk _ _ _ _
     obtain rfl := Option.some.inj h
     exact ⟨_, rfl, endOk0 (y := (ofV (V.record x15.cls x15.ver x16))) (Wk.refl _) (ids_V (V.record x15.cls x15.ver x16)) ⟨rfl, rfl⟩⟩
    ·intro hc14; replace h := ocond_f hc14 h
     refine bw_skip ?_
     change BW _ _ _ _ _
     refine bR ?_
     refine sM rfl rfl rfl rfl rfl ?_
     refine sA rfl rfl rfl rfl rfl (ao_nil ?_)
     change BW _ _ _ _ _
     refine bw_ret ?_
     change ∃ xs, _ = some xs ∧ EndOk _ _ _ _
     obtain rfl := Option.some.inj h
     exact ⟨_, rfl, endOk0 (y := (ofV a0)) (Wk.refl _) (ids_V a0) ⟨rfl, rfl⟩⟩
theorem C_value_copiedDict.sound : ∀ (i : C_value_copiedDict) (r : i.R), fixO C_value_copiedDict.F i = some r → C_value_copiedDict.Q i r := by
 refine fixO_ind (Φ := C_value_copiedDict.F) (Q := C_value_copiedDict.Q) ?_
 intro g hg i r h
 cases i with
 | k_value_copiedDict a0 => exact t_value_copiedDict (fun a0 => g (.k_value_copiedDict a0)) (fun a0 r hr => hg (.k_value_copiedDict a0) r hr) (fun a0 => g (.k_value_copied a0)) (fun a0 r hr => hg (.k_value_copied a0) r hr) a0 r h
 | k_value_copied a0 => exact t_value_copied (fun a0 => g (.k_value_copiedDict a0)) (fun a0 r hr => hg (.k_value_copiedDict a0) r hr) (fun a0 => g (.k_value_copied a0)) (fun a0 r hr => hg (.k_value_copied a0) r hr) a0 r h
theorem s_value_copiedDict (a0 : (List (Str × V))) (r : (List (Str × V))) (h : p_value_copiedDict a0 = some r) : PCalls Try.prog 99 [(PV.sl none 2 (List.map ofFld a0))] (PV.sl none 2 (List.map ofFld r)) := C_value_copiedDict.sound (.k_value_copiedDict a0) r h
theorem s_value_copied (a0 : V) (r : V) (h : p_value_copied a0 = some r) : PCalls Try.prog 69 [(ofV a0)] (ofV r) := C_value_copiedDict.sound (.k_value_copied a0) r h
noncomputable def p_value_Copy (a0 : V) : Option (V × Int) :=
 Option.bind (p_value_check a0) fun x1 =>
 bif (x1.2 != 0) then (
  some (V.nil, x1.2)
 ) else (
  Option.bind (p_value_copied a0) fun x3 =>
  some (x3, 0)
 )
theorem s_value_Copy (a0 : V) (r : (V × Int)) (h : p_value_Copy a0 = some r) : PCalls Try.prog 37 [(ofV a0)] (PV.tup [(ofV r.1), (I64 r.2)]) := by
 unfold p_value_Copy at h
 refine acalls_of Try.func37 rfl Try.ntmps37 Try.results37 rfl (aw_of_bw ?_)
 change BW _ _ _ ⟨[(0, (ofV a0))], [], _⟩ _
 refine bR ?_
 refine sA rfl rfl rfl rfl rfl ?_
 refine sA rfl rfl rfl rfl rfl (ao_nil ?_)
 change BW _ _ _ _ _
 refine bw_seq ?_
 refine bR ?_
 refine sM rfl rfl rfl rfl rfl ?_
 obtain ⟨x1, hx1, h⟩ := obind h
 refine sS rfl rfl rfl (op1_pcall rfl en_68 rfl (.cons (Wk.refl _) .nil) ⟨(ids_V a0), trivial⟩ (s_value_check a0 x1 hx1) (ids_tup_cons rfl (ids_tup_cons rfl ids_tup_nil))) ?_
 refine sM rfl rfl rfl rfl rfl ?_
 refine sS rfl rfl rfl (op1_ext rfl rfl rfl) ?_
 refine sS rfl rfl rfl (op1_ext rfl rfl rfl) ?_
 refine sA rfl rfl rfl rfl rfl ?_
 refine sA rfl rfl rfl rfl rfl (ao_nil ?_)
 change BW _ _ _ _ _
 refine bR ?_
 refine sM rfl rfl rfl rfl rfl ?_
 refine sS rfl rfl rfl ((op1_cmp rfl rfl rfl rfl).cast (y := (BO ((x1.2 != 0)))) rfl rfl) (ao_nil ?_)
 change BW _ _ _ _ _
 refine bw_cond rfl ?_ ?_
 ·intro hc2; replace h := ocond_t hc2 h
  refine bR ?_
  refine sM rfl rfl rfl rfl rfl ?_
  refine sA rfl rfl rfl rfl rfl ?_
  refine sA rfl rfl rfl rfl rfl (ao_nil ?_)
  change BW _ _ _ _ _
  refine bw_ret ?_
  change ∃ xs, _ = some xs ∧ EndOk _ _ _ _
  obtain rfl := Option.some.inj h
  exact ⟨_, rfl, endOk0 (y := (PV.tup [(ofV V.nil), (I64 x1.2)])) (Wk.tup (.cons (Wk.eq mk_nil.symm) (.cons (Wk.refl _) .nil))) (ids_tup_cons (ids_V V.nil) (ids_tup_cons rfl ids_tup_nil)) ⟨rfl, rfl⟩⟩
 ·intro hc2; replace h := ocond_f hc2 h
  refine bw_skip ?_
  change BW _ _ _ _ _
  refine bR ?_
  refine sM rfl rfl rfl rfl rfl ?_
  obtain ⟨x3, hx3, h⟩ := obind h
  refine sS rfl rfl rfl (op1_pcall rfl en_69 rfl (.cons (Wk.refl _) .nil) ⟨(ids_V a0), trivial⟩ (s_value_copied a0 x3 hx3) (ids_V x3)) ?_
  refine sA rfl rfl rfl rfl rfl ?_
  refine sA rfl rfl rfl rfl rfl (ao_nil ?_)
  change BW _ _ _ _ _
  refine bw_ret ?_
  change ∃ xs, _ = some xs ∧ EndOk _ _ _ _
  obtain rfl := Option.some.inj h
  exact ⟨_, rfl, endOk0 (y := (PV.tup [(ofV x3), (I64 0)])) (Wk.refl _) (ids_tup_cons (ids_V x3) (ids_tup_cons rfl ids_tup_nil)) ⟨rfl, rfl⟩⟩
end Go.Proofs.Ytiapdjdhaclmnaa
