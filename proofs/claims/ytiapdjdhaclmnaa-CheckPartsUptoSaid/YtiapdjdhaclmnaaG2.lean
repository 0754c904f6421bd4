/- Pure functions, and that calls answer as they say. Written by gen.py. -/
import Derived.Test.YtiapdjdhaclmnaaG1
namespace Go.Proofs.Ytiapdjdhaclmnaa
open Go Aw
set_option linter.unusedVariables false
set_option linter.unusedSimpArgs false
set_option maxRecDepth 20000
set_option maxHeartbeats 2000000
noncomputable def check_room_all_l1b (r_check_room_can : S_check_room → Typ → Int → Option (Bool × S_check_room)) (a1 : (List Typ)) (a2 : Int) (g1 : Nat → Int → Option (Bool × S_check_room)) (s1 : Nat) (s2 : Int) : Option (Bool × S_check_room) :=
 bif (decide (((s1 : Nat) : Int) < (((a1).length : Nat) : Int))) then (
  Option.bind ((a1)[s1]?) fun x5 =>
  Option.bind (r_check_room_can (S_check_room.mk s2) x5 (IntKind.i64.wrap (a2 + 1))) fun x6 =>
  bif (!x6.1) then (
   some (false, (x6.2))
  ) else (
   g1 (s1 + 1) ((x6.2).f_left)
  )
 ) else (
  some (true, (S_check_room.mk s2))
 )
theorem check_room_all_l1b_cm {ι : Type} {ρ : ι → Type} (r_check_room_can : (∀ i, Option (ρ i)) → S_check_room → Typ → Int → Option (Bool × S_check_room)) (h_r_check_room_can : ∀ y0 y1 y2, CM (fun G => r_check_room_can G y0 y1 y2)) (g1 : (∀ i, Option (ρ i)) → Nat → Int → Option (Bool × S_check_room)) (h_g1 : ∀ y0 y1, CM (fun G => g1 G y0 y1)) (a1 : (List Typ)) (a2 : Int) (s1 : Nat) (s2 : Int) : CM (fun G : (∀ i, Option (ρ i)) => check_room_all_l1b (r_check_room_can G) a1 a2 (g1 G) s1 s2) := by
 simp only [check_room_all_l1b]
 repeat (first | exact cm_const | exact h_r_check_room_can _ _ _ | exact h_g1 _ _ | refine cm_cond ?_ ?_ | refine cm_bind ?_ (fun _ => ?_))
noncomputable def check_room_all_l1 (r_check_room_can : S_check_room → Typ → Int → Option (Bool × S_check_room)) (a1 : (List Typ)) (a2 : Int) (s1 : Nat) (s2 : Int) : Option (Bool × S_check_room) :=
 fixO (ι := (Nat × Int)) (ρ := fun _ => (Bool × S_check_room)) (fun g i => check_room_all_l1b r_check_room_can a1 a2 (fun s1 s2 => g (s1, s2)) i.1 i.2) (s1, s2)
theorem check_room_all_l1_eq (r_check_room_can : S_check_room → Typ → Int → Option (Bool × S_check_room)) (a1 : (List Typ)) (a2 : Int) (s1 : Nat) (s2 : Int) : check_room_all_l1 r_check_room_can a1 a2 s1 s2 = check_room_all_l1b r_check_room_can a1 a2 (check_room_all_l1 r_check_room_can a1 a2) s1 s2 :=
 fixO_eq (ι := (Nat × Int)) (ρ := fun _ => (Bool × S_check_room)) (Φ := fun g i => check_room_all_l1b r_check_room_can a1 a2 (fun s1 s2 => g (s1, s2)) i.1 i.2) (fun i => check_room_all_l1b_cm (ι := (Nat × Int)) (ρ := fun _ => (Bool × S_check_room)) (fun _ => r_check_room_can) (fun _ _ _ => cm_const) (fun g => (fun s1 s2 => g (s1, s2))) (fun _ _ => cm_app) a1 a2 i.1 i.2) (s1, s2)
theorem check_room_all_l1_cm {ι : Type} {ρ : ι → Type} (r_check_room_can : (∀ i, Option (ρ i)) → S_check_room → Typ → Int → Option (Bool × S_check_room)) (h_r_check_room_can : ∀ y0 y1 y2, CM (fun G => r_check_room_can G y0 y1 y2)) (a1 : (List Typ)) (a2 : Int) (s1 : Nat) (s2 : Int) : CM (fun G : (∀ i, Option (ρ i)) => check_room_all_l1 (r_check_room_can G) a1 a2 s1 s2) :=
 cm_fix (κ := (Nat × Int)) (τ := fun _ => (Bool × S_check_room)) (Φ := fun G g i => check_room_all_l1b (r_check_room_can G) a1 a2 (fun s1 s2 => g (s1, s2)) i.1 i.2) (fun g i => check_room_all_l1b_cm r_check_room_can h_r_check_room_can (fun _ => (fun s1 s2 => g (s1, s2))) (fun _ _ => cm_const) a1 a2 i.1 i.2) (fun G i => check_room_all_l1b_cm (ι := (Nat × Int)) (ρ := fun _ => (Bool × S_check_room)) (fun _ => r_check_room_can G) (fun _ _ _ => cm_const) (fun g => (fun s1 s2 => g (s1, s2))) (fun _ _ => cm_app) a1 a2 i.1 i.2) (s1, s2)
noncomputable def b_check_room_all (r_check_room_all : S_check_room → (List Typ) → Int → Option (Bool × S_check_room)) (r_check_room_can : S_check_room → Typ → Int → Option (Bool × S_check_room)) (a0 : S_check_room) (a1 : (List Typ)) (a2 : Int) : Option (Bool × S_check_room) :=
 check_room_all_l1 r_check_room_can a1 a2 0 a0.f_left
theorem b_check_room_all_cm {ι : Type} {ρ : ι → Type} (r_check_room_all : (∀ i, Option (ρ i)) → S_check_room → (List Typ) → Int → Option (Bool × S_check_room)) (h_r_check_room_all : ∀ y0 y1 y2, CM (fun G => r_check_room_all G y0 y1 y2)) (r_check_room_can : (∀ i, Option (ρ i)) → S_check_room → Typ → Int → Option (Bool × S_check_room)) (h_r_check_room_can : ∀ y0 y1 y2, CM (fun G => r_check_room_can G y0 y1 y2)) (a0 : S_check_room) (a1 : (List Typ)) (a2 : Int) : CM (fun G : (∀ i, Option (ρ i)) => b_check_room_all (r_check_room_all G) (r_check_room_can G) a0 a1 a2) := by
 simp only [b_check_room_all]
 repeat (first | exact cm_const | exact h_r_check_room_all _ _ _ | exact h_r_check_room_can _ _ _ | apply check_room_all_l1_cm | refine cm_cond ?_ ?_ | refine cm_bind ?_ (fun _ => ?_) | intro _ | assumption)
noncomputable def check_room_can_j4 (g1 : Nat → Option (Bool × S_check_room)) (a0 : S_check_room) (s20 : Nat) (s24 : Bool) : Option (Bool × S_check_room) :=
 bif s24 then (
  some (false, (S_check_room.mk (IntKind.i64.wrap (a0.f_left - 1))))
 ) else (
  g1 (s20 + 1)
 )
theorem check_room_can_j4_cm {ι : Type} {ρ : ι → Type} (g1 : (∀ i, Option (ρ i)) → Nat → Option (Bool × S_check_room)) (h_g1 : ∀ y0, CM (fun G => g1 G y0)) (a0 : S_check_room) (s20 : Nat) (s24 : Bool) : CM (fun G : (∀ i, Option (ρ i)) => check_room_can_j4 (g1 G) a0 s20 s24) := by
 simp only [check_room_can_j4]
 repeat (first | exact cm_const | exact h_g1 _ | refine cm_cond ?_ ?_ | refine cm_bind ?_ (fun _ => ?_))
noncomputable def check_room_can_l1b (r_check_room_all : S_check_room → (List Typ) → Int → Option (Bool × S_check_room)) (a0 : S_check_room) (a1 : Typ) (a2 : Int) (g1 : Nat → Option (Bool × S_check_room)) (s20 : Nat) : Option (Bool × S_check_room) :=
 bif (decide (((s20 : Nat) : Int) < (((a1.names).length : Nat) : Int))) then (
  Option.bind ((a1.names)[s20]?) fun x23 =>
  Option.bind (p_check_name x23) fun x26 =>
  bif (!x26) then (
   check_room_can_j4 g1 a0 s20 true
  ) else (
   bif (decide (((s20 : Nat) : Int) > 0)) then (
    Option.bind (idxI a1.names (IntKind.i64.wrap (((s20 : Nat) : Int) - 1))) fun x29 =>
    check_room_can_j4 g1 a0 s20 (Op.bytesLess x23 x29 || x23 == x29)
   ) else (
    check_room_can_j4 g1 a0 s20 false
   )
  )
 ) else (
  Option.bind (r_check_room_all (S_check_room.mk (IntKind.i64.wrap (a0.f_left - 1))) a1.parts a2) fun x30 =>
  some (x30.1, (x30.2))
 )
theorem check_room_can_l1b_cm {ι : Type} {ρ : ι → Type} (r_check_room_all : (∀ i, Option (ρ i)) → S_check_room → (List Typ) → Int → Option (Bool × S_check_room)) (h_r_check_room_all : ∀ y0 y1 y2, CM (fun G => r_check_room_all G y0 y1 y2)) (g1 : (∀ i, Option (ρ i)) → Nat → Option (Bool × S_check_room)) (h_g1 : ∀ y0, CM (fun G => g1 G y0)) (a0 : S_check_room) (a1 : Typ) (a2 : Int) (s20 : Nat) : CM (fun G : (∀ i, Option (ρ i)) => check_room_can_l1b (r_check_room_all G) a0 a1 a2 (g1 G) s20) := by
 simp only [check_room_can_l1b]
 repeat (first | exact cm_const | exact h_r_check_room_all _ _ _ | exact h_g1 _ | apply check_room_can_j4_cm | refine cm_cond ?_ ?_ | refine cm_bind ?_ (fun _ => ?_) | intro _ | assumption)
noncomputable def check_room_can_l1 (r_check_room_all : S_check_room → (List Typ) → Int → Option (Bool × S_check_room)) (a0 : S_check_room) (a1 : Typ) (a2 : Int) (s20 : Nat) : Option (Bool × S_check_room) :=
 fixO (ι := Nat) (ρ := fun _ => (Bool × S_check_room)) (fun g i => check_room_can_l1b r_check_room_all a0 a1 a2 (fun s20 => g s20) i) s20
theorem check_room_can_l1_eq (r_check_room_all : S_check_room → (List Typ) → Int → Option (Bool × S_check_room)) (a0 : S_check_room) (a1 : Typ) (a2 : Int) (s20 : Nat) : check_room_can_l1 r_check_room_all a0 a1 a2 s20 = check_room_can_l1b r_check_room_all a0 a1 a2 (check_room_can_l1 r_check_room_all a0 a1 a2) s20 :=
 fixO_eq (ι := Nat) (ρ := fun _ => (Bool × S_check_room)) (Φ := fun g i => check_room_can_l1b r_check_room_all a0 a1 a2 (fun s20 => g s20) i) (fun i => check_room_can_l1b_cm (ι := Nat) (ρ := fun _ => (Bool × S_check_room)) (fun _ => r_check_room_all) (fun _ _ _ => cm_const) (fun g => (fun s20 => g s20)) (fun _ => cm_app) a0 a1 a2 i) s20
theorem check_room_can_l1_cm {ι : Type} {ρ : ι → Type} (r_check_room_all : (∀ i, Option (ρ i)) → S_check_room → (List Typ) → Int → Option (Bool × S_check_room)) (h_r_check_room_all : ∀ y0 y1 y2, CM (fun G => r_check_room_all G y0 y1 y2)) (a0 : S_check_room) (a1 : Typ) (a2 : Int) (s20 : Nat) : CM (fun G : (∀ i, Option (ρ i)) => check_room_can_l1 (r_check_room_all G) a0 a1 a2 s20) :=
 cm_fix (κ := Nat) (τ := fun _ => (Bool × S_check_room)) (Φ := fun G g i => check_room_can_l1b (r_check_room_all G) a0 a1 a2 (fun s20 => g s20) i) (fun g i => check_room_can_l1b_cm r_check_room_all h_r_check_room_all (fun _ => (fun s20 => g s20)) (fun _ => cm_const) a0 a1 a2 i) (fun G i => check_room_can_l1b_cm (ι := Nat) (ρ := fun _ => (Bool × S_check_room)) (fun _ => r_check_room_all G) (fun _ _ _ => cm_const) (fun g => (fun s20 => g s20)) (fun _ => cm_app) a0 a1 a2 i) s20
noncomputable def check_room_can_j3 (r_check_room_all : S_check_room → (List Typ) → Int → Option (Bool × S_check_room)) (a0 : S_check_room) (a1 : Typ) (a2 : Int) (s18 : Bool) : Option (Bool × S_check_room) :=
 bif s18 then (
  some (false, (S_check_room.mk (IntKind.i64.wrap (a0.f_left - 1))))
 ) else (
  check_room_can_l1 r_check_room_all a0 a1 a2 0
 )
theorem check_room_can_j3_cm {ι : Type} {ρ : ι → Type} (r_check_room_all : (∀ i, Option (ρ i)) → S_check_room → (List Typ) → Int → Option (Bool × S_check_room)) (h_r_check_room_all : ∀ y0 y1 y2, CM (fun G => r_check_room_all G y0 y1 y2)) (a0 : S_check_room) (a1 : Typ) (a2 : Int) (s18 : Bool) : CM (fun G : (∀ i, Option (ρ i)) => check_room_can_j3 (r_check_room_all G) a0 a1 a2 s18) := by
 simp only [check_room_can_j3]
 repeat (first | exact cm_const | exact h_r_check_room_all _ _ _ | apply check_room_can_l1_cm | refine cm_cond ?_ ?_ | refine cm_bind ?_ (fun _ => ?_) | intro _ | assumption)
noncomputable def check_room_can_j2 (r_check_room_all : S_check_room → (List Typ) → Int → Option (Bool × S_check_room)) (a0 : S_check_room) (a1 : Typ) (a2 : Int) (s3 : Bool) : Option (Bool × S_check_room) :=
 bif s3 then (
  some (true, (S_check_room.mk (IntKind.i64.wrap (a0.f_left - 1))))
 ) else (
  bif (a1.kind == 3) then (
   bif (decide (a1.of ≥ 1)) then (
    some ((decide (a1.of ≤ 10)), (S_check_room.mk (IntKind.i64.wrap (a0.f_left - 1))))
   ) else (
    some (false, (S_check_room.mk (IntKind.i64.wrap (a0.f_left - 1))))
   )
  ) else (
   bif (a1.kind == 4) then (
    Option.bind (p_value_Of (a1.only)) fun x8 =>
    some ((x8.2 == 0), (S_check_room.mk (IntKind.i64.wrap (a0.f_left - 1))))
   ) else (
    bif (a1.kind == 8) then (
     Option.bind (p_check_name a1.cls) fun x10 =>
     some (x10, (S_check_room.mk (IntKind.i64.wrap (a0.f_left - 1))))
    ) else (
     bif (a1.kind == 5) then (
      bif ((((a1.parts).length : Nat) : Int) == 1) then (
       Option.bind (r_check_room_all (S_check_room.mk (IntKind.i64.wrap (a0.f_left - 1))) a1.parts a2) fun x13 =>
       some (x13.1, (x13.2))
      ) else (
       some (false, (S_check_room.mk (IntKind.i64.wrap (a0.f_left - 1))))
      )
     ) else (
      bif (a1.kind == 7) then (
       bif (decide ((((a1.parts).length : Nat) : Int) > 1)) then (
        Option.bind (r_check_room_all (S_check_room.mk (IntKind.i64.wrap (a0.f_left - 1))) a1.parts a2) fun x16 =>
        some (x16.1, (x16.2))
       ) else (
        some (false, (S_check_room.mk (IntKind.i64.wrap (a0.f_left - 1))))
       )
      ) else (
       bif (a1.kind == 6) then (
        bif (decide ((((a1.names).length : Nat) : Int) > 4096)) then (
         check_room_can_j3 r_check_room_all a0 a1 a2 true
        ) else (
         bif ((((a1.parts).length : Nat) : Int) != (((a1.names).length : Nat) : Int)) then (
          check_room_can_j3 r_check_room_all a0 a1 a2 true
         ) else (
          check_room_can_j3 r_check_room_all a0 a1 a2 ((((a1.lacks).length : Nat) : Int) != (((a1.names).length : Nat) : Int))
         )
        )
       ) else (
        some (false, (S_check_room.mk (IntKind.i64.wrap (a0.f_left - 1))))
       )
      )
     )
    )
   )
  )
 )
theorem check_room_can_j2_cm {ι : Type} {ρ : ι → Type} (r_check_room_all : (∀ i, Option (ρ i)) → S_check_room → (List Typ) → Int → Option (Bool × S_check_room)) (h_r_check_room_all : ∀ y0 y1 y2, CM (fun G => r_check_room_all G y0 y1 y2)) (a0 : S_check_room) (a1 : Typ) (a2 : Int) (s3 : Bool) : CM (fun G : (∀ i, Option (ρ i)) => check_room_can_j2 (r_check_room_all G) a0 a1 a2 s3) := by
 simp only [check_room_can_j2]
 repeat (first | exact cm_const | exact h_r_check_room_all _ _ _ | apply check_room_can_j3_cm | refine cm_cond ?_ ?_ | refine cm_bind ?_ (fun _ => ?_) | intro _ | assumption)
noncomputable def check_room_can_j1 (r_check_room_all : S_check_room → (List Typ) → Int → Option (Bool × S_check_room)) (a0 : S_check_room) (a1 : Typ) (a2 : Int) (s1 : Bool) : Option (Bool × S_check_room) :=
 bif s1 then (
  some (false, (S_check_room.mk (IntKind.i64.wrap (a0.f_left - 1))))
 ) else (
  bif (a1.kind == 1) then (
   check_room_can_j2 r_check_room_all a0 a1 a2 (a1.kind == 1)
  ) else (
   check_room_can_j2 r_check_room_all a0 a1 a2 (a1.kind == 2)
  )
 )
theorem check_room_can_j1_cm {ι : Type} {ρ : ι → Type} (r_check_room_all : (∀ i, Option (ρ i)) → S_check_room → (List Typ) → Int → Option (Bool × S_check_room)) (h_r_check_room_all : ∀ y0 y1 y2, CM (fun G => r_check_room_all G y0 y1 y2)) (a0 : S_check_room) (a1 : Typ) (a2 : Int) (s1 : Bool) : CM (fun G : (∀ i, Option (ρ i)) => check_room_can_j1 (r_check_room_all G) a0 a1 a2 s1) := by
 simp only [check_room_can_j1]
 repeat (first | exact cm_const | exact h_r_check_room_all _ _ _ | apply check_room_can_j2_cm | refine cm_cond ?_ ?_ | refine cm_bind ?_ (fun _ => ?_) | intro _ | assumption)
noncomputable def b_check_room_can (r_check_room_all : S_check_room → (List Typ) → Int → Option (Bool × S_check_room)) (r_check_room_can : S_check_room → Typ → Int → Option (Bool × S_check_room)) (a0 : S_check_room) (a1 : Typ) (a2 : Int) : Option (Bool × S_check_room) :=
 bif (decide ((IntKind.i64.wrap (a0.f_left - 1)) < 0)) then (
  check_room_can_j1 r_check_room_all a0 a1 a2 true
 ) else (
  check_room_can_j1 r_check_room_all a0 a1 a2 (decide (a2 > 64))
 )
theorem b_check_room_can_cm {ι : Type} {ρ : ι → Type} (r_check_room_all : (∀ i, Option (ρ i)) → S_check_room → (List Typ) → Int → Option (Bool × S_check_room)) (h_r_check_room_all : ∀ y0 y1 y2, CM (fun G => r_check_room_all G y0 y1 y2)) (r_check_room_can : (∀ i, Option (ρ i)) → S_check_room → Typ → Int → Option (Bool × S_check_room)) (h_r_check_room_can : ∀ y0 y1 y2, CM (fun G => r_check_room_can G y0 y1 y2)) (a0 : S_check_room) (a1 : Typ) (a2 : Int) : CM (fun G : (∀ i, Option (ρ i)) => b_check_room_can (r_check_room_all G) (r_check_room_can G) a0 a1 a2) := by
 simp only [b_check_room_can]
 repeat (first | exact cm_const | exact h_r_check_room_all _ _ _ | exact h_r_check_room_can _ _ _ | apply check_room_can_j1_cm | refine cm_cond ?_ ?_ | refine cm_bind ?_ (fun _ => ?_) | intro _ | assumption)
inductive C_check_room_all where
 | k_check_room_all (a0 : S_check_room) (a1 : (List Typ)) (a2 : Int)
 | k_check_room_can (a0 : S_check_room) (a1 : Typ) (a2 : Int)
def C_check_room_all.R : C_check_room_all → Type
 | .k_check_room_all _ _ _ => (Bool × S_check_room)
 | .k_check_room_can _ _ _ => (Bool × S_check_room)
noncomputable def C_check_room_all.F (g : ∀ i : C_check_room_all, Option i.R) : ∀ i : C_check_room_all, Option i.R
 | .k_check_room_all a0 a1 a2 => b_check_room_all (fun a0 a1 a2 => g (.k_check_room_all a0 a1 a2)) (fun a0 a1 a2 => g (.k_check_room_can a0 a1 a2)) a0 a1 a2
 | .k_check_room_can a0 a1 a2 => b_check_room_can (fun a0 a1 a2 => g (.k_check_room_all a0 a1 a2)) (fun a0 a1 a2 => g (.k_check_room_can a0 a1 a2)) a0 a1 a2
noncomputable def p_check_room_all (a0 : S_check_room) (a1 : (List Typ)) (a2 : Int) : Option (Bool × S_check_room) := fixO C_check_room_all.F (.k_check_room_all a0 a1 a2)
noncomputable def p_check_room_can (a0 : S_check_room) (a1 : Typ) (a2 : Int) : Option (Bool × S_check_room) := fixO C_check_room_all.F (.k_check_room_can a0 a1 a2)
theorem C_check_room_all.cm (i : C_check_room_all) : CM (fun g : (∀ i : C_check_room_all, Option i.R) => C_check_room_all.F g i) := by
 cases i with
 | k_check_room_all a0 a1 a2 => exact b_check_room_all_cm (fun (g : ∀ i : C_check_room_all, Option i.R) a0 a1 a2 => g (.k_check_room_all a0 a1 a2)) (fun a0 a1 a2 => cm_app (i := C_check_room_all.k_check_room_all a0 a1 a2)) (fun (g : ∀ i : C_check_room_all, Option i.R) a0 a1 a2 => g (.k_check_room_can a0 a1 a2)) (fun a0 a1 a2 => cm_app (i := C_check_room_all.k_check_room_can a0 a1 a2)) a0 a1 a2
 | k_check_room_can a0 a1 a2 => exact b_check_room_can_cm (fun (g : ∀ i : C_check_room_all, Option i.R) a0 a1 a2 => g (.k_check_room_all a0 a1 a2)) (fun a0 a1 a2 => cm_app (i := C_check_room_all.k_check_room_all a0 a1 a2)) (fun (g : ∀ i : C_check_room_all, Option i.R) a0 a1 a2 => g (.k_check_room_can a0 a1 a2)) (fun a0 a1 a2 => cm_app (i := C_check_room_all.k_check_room_can a0 a1 a2)) a0 a1 a2
theorem e_check_room_all (a0 : S_check_room) (a1 : (List Typ)) (a2 : Int) : p_check_room_all a0 a1 a2 = b_check_room_all p_check_room_all p_check_room_can a0 a1 a2 := fixO_eq C_check_room_all.cm (.k_check_room_all a0 a1 a2)
theorem e_check_room_can (a0 : S_check_room) (a1 : Typ) (a2 : Int) : p_check_room_can a0 a1 a2 = b_check_room_can p_check_room_all p_check_room_can a0 a1 a2 := fixO_eq C_check_room_all.cm (.k_check_room_can a0 a1 a2)
def C_check_room_all.Q : ∀ i : C_check_room_all, i.R → Prop
 | .k_check_room_all a0 a1 a2 => fun (r : (Bool × S_check_room)) => BCalls Try.prog 92 [(PV.rf 0 0), (PV.sl none 18 (List.map ofTyp a1)), (I64 a2)] (.box 119 [(I64 a0.f_left)]) (BO r.1) (.box 119 [(I64 ((r.2).f_left))])
 | .k_check_room_can a0 a1 a2 => fun (r : (Bool × S_check_room)) => BCalls Try.prog 59 [(PV.rf 0 0), (ofTypX a1), (I64 a2)] (.box 119 [(I64 a0.f_left)]) (BO r.1) (.box 119 [(I64 ((r.2).f_left))])
theorem t_check_room_all (r_check_room_all : S_check_room → (List Typ) → Int → Option (Bool × S_check_room)) (c_check_room_all : ∀ (a0 : S_check_room) (a1 : (List Typ)) (a2 : Int) r, r_check_room_all a0 a1 a2 = some r → BCalls Try.prog 92 [(PV.rf 0 0), (PV.sl none 18 (List.map ofTyp a1)), (I64 a2)] (.box 119 [(I64 a0.f_left)]) (BO r.1) (.box 119 [(I64 ((r.2).f_left))])) (r_check_room_can : S_check_room → Typ → Int → Option (Bool × S_check_room)) (c_check_room_can : ∀ (a0 : S_check_room) (a1 : Typ) (a2 : Int) r, r_check_room_can a0 a1 a2 = some r → BCalls Try.prog 59 [(PV.rf 0 0), (ofTypX a1), (I64 a2)] (.box 119 [(I64 a0.f_left)]) (BO r.1) (.box 119 [(I64 ((r.2).f_left))])) (a0 : S_check_room) (a1 : (List Typ)) (a2 : Int) (r : (Bool × S_check_room)) (h : b_check_room_all r_check_room_all r_check_room_can a0 a1 a2 = some r) : BCalls Try.prog 92 [(PV.rf 0 0), (PV.sl none 18 (List.map ofTyp a1)), (I64 a2)] (.box 119 [(I64 a0.f_left)]) (BO r.1) (.box 119 [(I64 ((r.2).f_left))]) := by
 unfold b_check_room_all at h
 refine acalls_of Try.func92 rfl Try.ntmps92 Try.results92 rfl (aw_of_bw ?_)
 change BW _ _ _ ⟨[(0, (PV.rf 0 0)), (1, (PV.sl none 18 (List.map ofTyp a1))), (2, (I64 a2))], [.box 119 [(I64 a0.f_left)]], _⟩ _
 refine bR ?_
 refine sA rfl rfl rfl rfl rfl (ao_nil ?_)
 change BW _ _ _ _ _
 refine bw_seq ?_
 refine bR ?_
 refine sM rfl rfl rfl rfl rfl ?_
 refine sS rfl rfl rfl (op1_lenM Try.underlying30 rfl rfl) ?_
 refine sM rfl rfl rfl rfl rfl (ao_nil ?_)
 change BW _ _ _ _ _
 refine bw_block ?_
 change BW _ _ _ _ _
 unfold check_room_all_l1 at h
 refine bw_loop (σ := (Nat × Int)) (fun i => [(0, (PV.rf 0 0)), (2, (I64 a2)), (9, (PV.sl none 18 (List.map ofTyp a1))), (10, (I64 ((((a1).length : Nat) : Int)))), (11, (I64 (((i.1 : Nat) : Int))))]) (fun i => [.box 119 [(I64 i.2)]]) (0, a0.f_left) h ?_ ?_ ?_
 ·intro i; exact ⟨Nat.le_of_ble_eq_true rfl, ⟨(il_rf rfl), ⟨(il_nil rfl), ⟨(il_nil (ids_slM ids_Typ _)), ⟨(il_nil rfl), ⟨(il_nil rfl), trivial⟩⟩⟩⟩⟩, ⟨⟨(il_nil rfl), trivial⟩, trivial⟩⟩
 ·exact ⟨(.cons .same .nil), (sC rfl (sC rfl (sC rfl (sC rfl (sC rfl sub_nil)))))⟩
 ·rintro g1_f ⟨s1, s2⟩ h; replace h : check_room_all_l1b r_check_room_can a1 a2 (fun y0 y1 => g1_f (y0, y1)) s1 s2 = some r := h; unfold check_room_all_l1b at h
  change BW _ _ _ ⟨[(0, (PV.rf 0 0)), (2, (I64 a2)), (9, (PV.sl none 18 (List.map ofTyp a1))), (10, (I64 ((((a1).length : Nat) : Int)))), (11, (I64 (((s1 : Nat) : Int))))], [.box 119 [(I64 s2)]], _⟩ _
  refine bR ?_
  refine sS rfl rfl rfl ((op1_cmp rfl rfl rfl rfl).cast (y := (BO ((decide (((s1 : Nat) : Int) < (((a1).length : Nat) : Int)))))) rfl rfl) (ao_nil ?_)
  change BW _ _ _ _ _
  refine bw_seq ?_
  refine bw_len (t := 9) rfl fun hb4 => ?_
  try rw [List.length_map] at hb4
  refine bw_cond rfl ?_ ?_
  ·intro hc3; replace h := ocond_t hc3 h
   have hc3_ := of_decide_eq_true hc3
   refine bw_skip ?_
   change BW _ _ _ _ _
   refine bw_seq ?_
   refine bw_block ?_
   change BW _ _ _ _ _
   refine bR ?_
   obtain ⟨x5, hx5, h⟩ := obind h
   refine sS rfl rfl rfl (op1_idxN (i := s1) Try.underlying30 inf_34 rfl rfl rfl hx5 (ofTyp_eq _)) ?_
   refine sS rfl rfl rfl (op1_ldPW inf_34 Try.underlying34 rfl rfl rfl rfl rfl) ?_
   refine sS rfl rfl rfl (op1_alloc inf_34 rfl) ?_
   refine ao_step0 rfl rfl (op1_store inf_34 rfl rfl rfl rfl rfl rfl (Nat.le_of_ble_eq_true rfl) rfl) ?_
   refine ao_nil ?_
   change BW _ _ _ _ _
   refine bR ?_
   refine sM rfl rfl rfl rfl rfl ?_
   refine sS rfl rfl rfl ((op1_ldRA inf_34 Try.underlying34 rfl rfl rfl rfl rfl rfl)) ?_
   refine sM rfl rfl rfl rfl rfl ?_
   refine sS rfl rfl rfl (op1_addW rfl rfl rfl) ?_
   obtain ⟨x6, hx6, h⟩ := obind h
   refine sS rfl rfl rfl (op1_bcall 0 rfl en_59 rfl (.cons (Wk.refl _) (.cons (Wk.refl _) (.cons (Wk.refl _) .nil))) (.box (.val (ids_TypX x5) (.val rfl .nil))) rfl (idsL_cons rfl rfl) (c_check_room_can (S_check_room.mk s2) x5 (IntKind.i64.wrap (a2 + 1)) x6 hx6) rfl (idsL_cons rfl rfl)) ?_
   refine sS rfl rfl rfl (op1_not rfl rfl) (ao_nil ?_)
   change BW _ _ _ _ _
   refine bw_cond rfl ?_ ?_
   ·intro hc7; replace h := ocond_t hc7 h
    refine bR ?_
    refine sA rfl rfl rfl rfl rfl (ao_nil ?_)
    change BW _ _ _ _ _
    refine bw_ret ?_
    change ∃ xs, _ = some xs ∧ EndOk _ _ _ _
    obtain rfl := Option.some.inj h
    exact ⟨_, rfl, endOk1 (y := (BO false)) (e := .box 119 [(I64 (((x6.2)).f_left))]) (Wk.refl _) rfl rfl (idsL_cons rfl rfl) ⟨rfl, rfl⟩⟩
   ·intro hc7; replace h := ocond_f hc7 h
    refine bw_skip ?_
    change BW _ _ _ _ _
    refine bw_region ?_
    refine sS rfl rfl rfl (op1_incN (k := s1) (c := 1) rfl rfl rfl (by omega)) ?_
    refine sM rfl rfl rfl rfl rfl (ao_nil ?_)
    exact ⟨rfl, ((s1 + 1), (x6.2).f_left), h, ⟨(.cons .same .nil), (sC rfl (sC rfl (sC rfl (sC rfl (sC rfl sub_nil)))))⟩⟩
  ·intro hc3; replace h := ocond_f hc3 h
   refine bw_exit ?_
   change BW _ _ _ _ _
   refine bR ?_
   refine sA rfl rfl rfl rfl rfl (ao_nil ?_)
   change BW _ _ _ _ _
   refine bw_ret ?_
   change ∃ xs, _ = some xs ∧ EndOk _ _ _ _
   obtain rfl := Option.some.inj h
   exact ⟨_, rfl, endOk1 (y := (BO true)) (e := .box 119 [(I64 (((S_check_room.mk s2)).f_left))]) (Wk.refl _) rfl rfl (idsL_cons rfl rfl) ⟨rfl, rfl⟩⟩
theorem t_check_room_can (r_check_room_all : S_check_room → (List Typ) → Int → Option (Bool × S_check_room)) (c_check_room_all : ∀ (a0 : S_check_room) (a1 : (List Typ)) (a2 : Int) r, r_check_room_all a0 a1 a2 = some r → BCalls Try.prog 92 [(PV.rf 0 0), (PV.sl none 18 (List.map ofTyp a1)), (I64 a2)] (.box 119 [(I64 a0.f_left)]) (BO r.1) (.box 119 [(I64 ((r.2).f_left))])) (r_check_room_can : S_check_room → Typ → Int → Option (Bool × S_check_room)) (c_check_room_can : ∀ (a0 : S_check_room) (a1 : Typ) (a2 : Int) r, r_check_room_can a0 a1 a2 = some r → BCalls Try.prog 59 [(PV.rf 0 0), (ofTypX a1), (I64 a2)] (.box 119 [(I64 a0.f_left)]) (BO r.1) (.box 119 [(I64 ((r.2).f_left))])) (a0 : S_check_room) (a1 : Typ) (a2 : Int) (r : (Bool × S_check_room)) (h : b_check_room_can r_check_room_all r_check_room_can a0 a1 a2 = some r) : BCalls Try.prog 59 [(PV.rf 0 0), (ofTypX a1), (I64 a2)] (.box 119 [(I64 a0.f_left)]) (BO r.1) (.box 119 [(I64 ((r.2).f_left))]) := by
 unfold b_check_room_can at h
 refine acalls_of Try.func59 rfl Try.ntmps59 Try.results59 rfl (aw_of_bw ?_)
 change BW _ _ _ ⟨[(0, (PV.rf 0 0)), (1, (ofTypX a1)), (2, (I64 a2))], [.box 119 [(I64 a0.f_left)]], _⟩ _
 refine bR ?_
 refine sS rfl rfl rfl (op1_box rfl rfl rfl) ?_
 refine sA rfl rfl rfl rfl rfl (ao_nil ?_)
 change BW _ _ _ _ _
 refine bR ?_
 refine sM rfl rfl rfl rfl rfl ?_
 refine sS rfl rfl rfl (op1_nilR rfl rfl) ?_
 refine sS rfl rfl rfl (op1_faR st_119 (i := 0) rfl rfl rfl) ?_
 refine sS rfl rfl rfl ((op1_ldR Try.underlying3 rfl rfl rfl rfl rfl)) ?_
 refine sS rfl rfl rfl (op1_subW rfl rfl rfl) ?_
 refine sS rfl rfl rfl (op1_nilR rfl rfl) ?_
 refine sS rfl rfl rfl (op1_faR st_119 (i := 0) rfl rfl rfl) ?_
 refine ao_step0 rfl rfl (op1_store inf_3 rfl rfl rfl rfl rfl rfl (Nat.le_of_ble_eq_true rfl) rfl) ?_
 refine ao_nil ?_
 change BW _ _ _ _ _
 refine bw_seq ?_
 refine bw_seqJ (ι := Bool) (fun i => check_room_can_j1 r_check_room_all a0 a1 a2 i = some r) (fun i => [(0, (PV.rf 0 0)), (2, (I64 a2)), (4, (PV.rf 1 0)), (26, (BO i))]) (fun i => [.box 119 [(I64 ((IntKind.i64.wrap (a0.f_left - 1))))], .box 34 [(I64 a1.kind), (I64 a1.of), (I64 ((a1.only).kind)), (BO ((a1.only).bool)), (I64 ((a1.only).int)), (PV.v (.float .f64 (a1.only).float)), (ofStr (a1.only).text), (PV.sl none 1 (List.map ofB (a1.only).bytes)), (PV.v (.int .u64 (a1.only).ref)), (PV.sl none 11 (List.map ofTerm (a1.only).list)), (PV.sl none 12 (List.map ofEntry (a1.only).fields)), (ofStr (a1.only).cls), (I64 ((a1.only).ver)), (PV.sl none 18 (List.map ofTyp a1.parts)), (PV.sl none 1 (List.map ofStr a1.names)), (PV.sl none 1 (List.map ofBool a1.lacks)), (BO a1.opn), (ofStr a1.cls)]]) ?_ ?_ ?_
 ·intro i; exact ⟨Nat.le_of_ble_eq_true rfl, ⟨(il_rf rfl), ⟨(il_nil rfl), ⟨(il_rf rfl), ⟨(il_nil rfl), trivial⟩⟩⟩⟩, ⟨⟨(il_nil rfl), trivial⟩, ⟨⟨(il_nil rfl), ⟨(il_nil rfl), ⟨(il_nil rfl), ⟨(il_nil rfl), ⟨(il_nil rfl), ⟨(il_nil rfl), ⟨(il_nil rfl), ⟨(il_nil (ids_slM (fun _ => rfl) _)), ⟨(il_nil rfl), ⟨(il_nil (ids_slM ids_Term _)), ⟨(il_nil (ids_slM ids_Entry _)), ⟨(il_nil rfl), ⟨(il_nil rfl), ⟨(il_nil (ids_slM ids_Typ _)), ⟨(il_nil (ids_slM (fun _ => rfl) _)), ⟨(il_nil (ids_slM (fun _ => rfl) _)), ⟨(il_nil rfl), ⟨(il_nil rfl), trivial⟩⟩⟩⟩⟩⟩⟩⟩⟩⟩⟩⟩⟩⟩⟩⟩⟩⟩, trivial⟩⟩⟩
 ·rintro s1 h; replace h : check_room_can_j1 r_check_room_all a0 a1 a2 s1 = some r := h; unfold check_room_can_j1 at h
  change BW _ _ _ ⟨[(0, (PV.rf 0 0)), (2, (I64 a2)), (4, (PV.rf 1 0)), (26, (BO s1))], [.box 119 [(I64 ((IntKind.i64.wrap (a0.f_left - 1))))], .box 34 [(I64 a1.kind), (I64 a1.of), (I64 ((a1.only).kind)), (BO ((a1.only).bool)), (I64 ((a1.only).int)), (PV.v (.float .f64 (a1.only).float)), (ofStr (a1.only).text), (PV.sl none 1 (List.map ofB (a1.only).bytes)), (PV.v (.int .u64 (a1.only).ref)), (PV.sl none 11 (List.map ofTerm (a1.only).list)), (PV.sl none 12 (List.map ofEntry (a1.only).fields)), (ofStr (a1.only).cls), (I64 ((a1.only).ver)), (PV.sl none 18 (List.map ofTyp a1.parts)), (PV.sl none 1 (List.map ofStr a1.names)), (PV.sl none 1 (List.map ofBool a1.lacks)), (BO a1.opn), (ofStr a1.cls)]], _⟩ _
  refine bw_cond rfl ?_ ?_
  ·intro hc2; replace h := ocond_t hc2 h
   refine bR ?_
   refine sA rfl rfl rfl rfl rfl (ao_nil ?_)
   change BW _ _ _ _ _
   refine bw_ret ?_
   change ∃ xs, _ = some xs ∧ EndOk _ _ _ _
   obtain rfl := Option.some.inj h
   exact ⟨_, rfl, endOk1 (y := (BO false)) (e := .box 119 [(I64 (((S_check_room.mk (IntKind.i64.wrap (a0.f_left - 1)))).f_left))]) (Wk.refl _) rfl rfl (idsL_cons rfl rfl) ⟨rfl, rfl⟩⟩
  ·intro hc2; replace h := ocond_f hc2 h
   refine bw_skip ?_
   change BW _ _ _ _ _
   refine bw_seq ?_
   refine bR ?_
   refine sS rfl rfl rfl (op1_faR st_34 (i := 0) rfl rfl rfl) ?_
   refine sS rfl rfl rfl ((op1_ldR Try.underlying3 rfl rfl rfl rfl rfl)) (ao_nil ?_)
   change BW _ _ _ _ _
   refine bw_block ?_
   change BW _ _ _ _ _
   refine bw_seqJ (ι := Bool) (fun i => check_room_can_j2 r_check_room_all a0 a1 a2 i = some r) (fun i => [(0, (PV.rf 0 0)), (2, (I64 a2)), (4, (PV.rf 1 0)), (28, (I64 a1.kind)), (29, (BO i))]) (fun i => [.box 119 [(I64 ((IntKind.i64.wrap (a0.f_left - 1))))], .box 34 [(I64 a1.kind), (I64 a1.of), (I64 ((a1.only).kind)), (BO ((a1.only).bool)), (I64 ((a1.only).int)), (PV.v (.float .f64 (a1.only).float)), (ofStr (a1.only).text), (PV.sl none 1 (List.map ofB (a1.only).bytes)), (PV.v (.int .u64 (a1.only).ref)), (PV.sl none 11 (List.map ofTerm (a1.only).list)), (PV.sl none 12 (List.map ofEntry (a1.only).fields)), (ofStr (a1.only).cls), (I64 ((a1.only).ver)), (PV.sl none 18 (List.map ofTyp a1.parts)), (PV.sl none 1 (List.map ofStr a1.names)), (PV.sl none 1 (List.map ofBool a1.lacks)), (BO a1.opn), (ofStr a1.cls)]]) ?_ ?_ ?_
   ·intro i; exact ⟨Nat.le_of_ble_eq_true rfl, ⟨(il_rf rfl), ⟨(il_nil rfl), ⟨(il_rf rfl), ⟨(il_nil rfl), ⟨(il_nil rfl), trivial⟩⟩⟩⟩⟩, ⟨⟨(il_nil rfl), trivial⟩, ⟨⟨(il_nil rfl), ⟨(il_nil rfl), ⟨(il_nil rfl), ⟨(il_nil rfl), ⟨(il_nil rfl), ⟨(il_nil rfl), ⟨(il_nil rfl), ⟨(il_nil (ids_slM (fun _ => rfl) _)), ⟨(il_nil rfl), ⟨(il_nil (ids_slM ids_Term _)), ⟨(il_nil (ids_slM ids_Entry _)), ⟨(il_nil rfl), ⟨(il_nil rfl), ⟨(il_nil (ids_slM ids_Typ _)), ⟨(il_nil (ids_slM (fun _ => rfl) _)), ⟨(il_nil (ids_slM (fun _ => rfl) _)), ⟨(il_nil rfl), ⟨(il_nil rfl), trivial⟩⟩⟩⟩⟩⟩⟩⟩⟩⟩⟩⟩⟩⟩⟩⟩⟩⟩, trivial⟩⟩⟩
   ·rintro s3 h; replace h : check_room_can_j2 r_check_room_all a0 a1 a2 s3 = some r := h; unfold check_room_can_j2 at h
    change BW _ _ _ ⟨[(0, (PV.rf 0 0)), (2, (I64 a2)), (4, (PV.rf 1 0)), (28, (I64 a1.kind)), (29, (BO s3))], [.box 119 [(I64 ((IntKind.i64.wrap (a0.f_left - 1))))], .box 34 [(I64 a1.kind), (I64 a1.of), (I64 ((a1.only).kind)), (BO ((a1.only).bool)), (I64 ((a1.only).int)), (PV.v (.float .f64 (a1.only).float)), (ofStr (a1.only).text), (PV.sl none 1 (List.map ofB (a1.only).bytes)), (PV.v (.int .u64 (a1.only).ref)), (PV.sl none 11 (List.map ofTerm (a1.only).list)), (PV.sl none 12 (List.map ofEntry (a1.only).fields)), (ofStr (a1.only).cls), (I64 ((a1.only).ver)), (PV.sl none 18 (List.map ofTyp a1.parts)), (PV.sl none 1 (List.map ofStr a1.names)), (PV.sl none 1 (List.map ofBool a1.lacks)), (BO a1.opn), (ofStr a1.cls)]], _⟩ _
    refine bw_cond rfl ?_ ?_
    ·intro hc4; replace h := ocond_t hc4 h
     refine bR ?_
     refine sA rfl rfl rfl rfl rfl (ao_nil ?_)
     change BW _ _ _ _ _
     refine bw_ret ?_
     change ∃ xs, _ = some xs ∧ EndOk _ _ _ _
     obtain rfl := Option.some.inj h
     exact ⟨_, rfl, endOk1 (y := (BO true)) (e := .box 119 [(I64 (((S_check_room.mk (IntKind.i64.wrap (a0.f_left - 1)))).f_left))]) (Wk.refl _) rfl rfl (idsL_cons rfl rfl) ⟨rfl, rfl⟩⟩
    ·intro hc4; replace h := ocond_f hc4 h
     refine bR ?_
     refine sS rfl rfl rfl ((op1_cmp rfl rfl rfl rfl).cast (y := (BO ((a1.kind == 3)))) rfl rfl) ?_
     refine sA rfl rfl rfl rfl rfl (ao_nil ?_)
     change BW _ _ _ _ _
     refine bw_cond rfl ?_ ?_
     ·intro hc5; replace h := ocond_t hc5 h
      refine bR ?_
      refine sS rfl rfl rfl (op1_faR st_34 (i := 1) rfl rfl rfl) ?_
      refine sS rfl rfl rfl ((op1_ldR Try.underlying3 rfl rfl rfl rfl rfl)) ?_
      refine sS rfl rfl rfl ((op1_cmp rfl rfl rfl rfl).cast (y := (BO ((decide (a1.of ≥ 1))))) rfl rfl) ?_
      refine sM rfl rfl rfl rfl rfl ?_
      refine ao_cases (t := 37) rfl ?_ ?_
      ·intro hb6; replace h := ocond_t hb6 h
       refine ao_yes rfl rfl rfl rfl rfl rfl (op1_faR st_34 (i := 1) rfl rfl rfl) ?_
       refine ao_yes rfl rfl rfl rfl rfl rfl ((op1_ldR Try.underlying3 rfl rfl rfl rfl rfl)) ?_
       refine ao_yes rfl rfl rfl rfl rfl rfl ((op1_cmp rfl rfl rfl rfl).cast (y := (BO ((decide (a1.of ≤ 10))))) rfl rfl) ?_
       refine sS rfl rfl rfl (op1_pickT rfl rfl rfl) ?_
       refine sA rfl rfl rfl rfl rfl (ao_nil ?_)
       change BW _ _ _ _ _
       refine bw_ret ?_
       change ∃ xs, _ = some xs ∧ EndOk _ _ _ _
       obtain rfl := Option.some.inj h
       exact ⟨_, rfl, endOk1 (y := (BO ((decide (a1.of ≤ 10))))) (e := .box 119 [(I64 (((S_check_room.mk (IntKind.i64.wrap (a0.f_left - 1)))).f_left))]) (Wk.refl _) rfl rfl (idsL_cons rfl rfl) ⟨rfl, rfl⟩⟩
      ·intro hb6; replace h := ocond_f hb6 h
       refine ao_no rfl rfl rfl rfl rfl rfl ?_
       refine ao_no rfl rfl rfl rfl rfl rfl ?_
       refine ao_no rfl rfl rfl rfl rfl rfl ?_
       refine sS rfl rfl rfl (op1_pickF rfl rfl rfl) ?_
       refine sA rfl rfl rfl rfl rfl (ao_nil ?_)
       change BW _ _ _ _ _
       refine bw_ret ?_
       change ∃ xs, _ = some xs ∧ EndOk _ _ _ _
       obtain rfl := Option.some.inj h
       exact ⟨_, rfl, endOk1 (y := (BO false)) (e := .box 119 [(I64 (((S_check_room.mk (IntKind.i64.wrap (a0.f_left - 1)))).f_left))]) (Wk.refl _) rfl rfl (idsL_cons rfl rfl) ⟨rfl, rfl⟩⟩
     ·intro hc5; replace h := ocond_f hc5 h
      refine bR ?_
      refine sS rfl rfl rfl ((op1_cmp rfl rfl rfl rfl).cast (y := (BO ((a1.kind == 4)))) rfl rfl) ?_
      refine sA rfl rfl rfl rfl rfl (ao_nil ?_)
      change BW _ _ _ _ _
      refine bw_cond rfl ?_ ?_
      ·intro hc7; replace h := ocond_t hc7 h
       refine bR ?_
       refine sS rfl rfl rfl (op1_faR st_34 (i := 2) rfl rfl rfl) ?_
       refine sS rfl rfl rfl ((op1_ldRA inf_29 Try.underlying29 rfl rfl rfl rfl rfl rfl)) ?_
       obtain ⟨x8, hx8, h⟩ := obind h
       refine sS rfl rfl rfl (op1_pcall rfl en_53 rfl (.cons (Wk.refl _) .nil) ⟨(ids_TermX (a1.only)), trivial⟩ (s_value_Of (a1.only) x8 hx8) (ids_tup_cons (ids_V x8.1) (ids_tup_cons rfl ids_tup_nil))) ?_
       refine sM rfl rfl rfl rfl rfl ?_
       refine sS rfl rfl rfl (op1_ext rfl rfl rfl) ?_
       refine sS rfl rfl rfl (op1_ext rfl rfl rfl) ?_
       refine sA rfl rfl rfl rfl rfl ?_
       refine sA rfl rfl rfl rfl rfl (ao_nil ?_)
       change BW _ _ _ _ _
       refine bR ?_
       refine sM rfl rfl rfl rfl rfl ?_
       refine sS rfl rfl rfl ((op1_cmp rfl rfl rfl rfl).cast (y := (BO ((x8.2 == 0)))) rfl rfl) ?_
       refine sA rfl rfl rfl rfl rfl (ao_nil ?_)
       change BW _ _ _ _ _
       refine bw_ret ?_
       change ∃ xs, _ = some xs ∧ EndOk _ _ _ _
       obtain rfl := Option.some.inj h
       exact ⟨_, rfl, endOk1 (y := (BO ((x8.2 == 0)))) (e := .box 119 [(I64 (((S_check_room.mk (IntKind.i64.wrap (a0.f_left - 1)))).f_left))]) (Wk.refl _) rfl rfl (idsL_cons rfl rfl) ⟨rfl, rfl⟩⟩
      ·intro hc7; replace h := ocond_f hc7 h
       refine bR ?_
       refine sS rfl rfl rfl ((op1_cmp rfl rfl rfl rfl).cast (y := (BO ((a1.kind == 8)))) rfl rfl) ?_
       refine sA rfl rfl rfl rfl rfl (ao_nil ?_)
       change BW _ _ _ _ _
       refine bw_cond rfl ?_ ?_
       ·intro hc9; replace h := ocond_t hc9 h
        refine bR ?_
        refine sS rfl rfl rfl (op1_faR st_34 (i := 7) rfl rfl rfl) ?_
        refine sS rfl rfl rfl ((op1_ldR Try.underlying9 rfl rfl rfl rfl rfl)) ?_
        obtain ⟨x10, hx10, h⟩ := obind h
        refine sS rfl rfl rfl (op1_pcall rfl en_91 rfl (.cons (Wk.refl _) .nil) ⟨rfl, trivial⟩ (s_check_name a1.cls x10 hx10) rfl) ?_
        refine sA rfl rfl rfl rfl rfl (ao_nil ?_)
        change BW _ _ _ _ _
        refine bw_ret ?_
        change ∃ xs, _ = some xs ∧ EndOk _ _ _ _
        obtain rfl := Option.some.inj h
        exact ⟨_, rfl, endOk1 (y := (BO x10)) (e := .box 119 [(I64 (((S_check_room.mk (IntKind.i64.wrap (a0.f_left - 1)))).f_left))]) (Wk.refl _) rfl rfl (idsL_cons rfl rfl) ⟨rfl, rfl⟩⟩
       ·intro hc9; replace h := ocond_f hc9 h
        refine bR ?_
        refine sS rfl rfl rfl ((op1_cmp rfl rfl rfl rfl).cast (y := (BO ((a1.kind == 5)))) rfl rfl) ?_
        refine sA rfl rfl rfl rfl rfl (ao_nil ?_)
        change BW _ _ _ _ _
        refine bw_cond rfl ?_ ?_
        ·intro hc11; replace h := ocond_t hc11 h
         refine bR ?_
         refine sS rfl rfl rfl (op1_faR st_34 (i := 3) rfl rfl rfl) ?_
         refine sS rfl rfl rfl ((op1_ldR Try.underlying30 rfl rfl rfl rfl rfl)) ?_
         refine sS rfl rfl rfl (op1_lenM Try.underlying30 rfl rfl) ?_
         refine sS rfl rfl rfl ((op1_cmp rfl rfl rfl rfl).cast (y := (BO (((((a1.parts).length : Nat) : Int) == 1)))) rfl rfl) ?_
         refine sM rfl rfl rfl rfl rfl ?_
         refine ao_cases (t := 63) rfl ?_ ?_
         ·intro hb12; replace h := ocond_t hb12 h
          refine ao_yes rfl rfl rfl rfl rfl rfl (op1_move rfl rfl) ?_
          refine ao_yes rfl rfl rfl rfl rfl rfl (op1_faR st_34 (i := 3) rfl rfl rfl) ?_
          refine ao_yes rfl rfl rfl rfl rfl rfl ((op1_ldR Try.underlying30 rfl rfl rfl rfl rfl)) ?_
          refine ao_yes rfl rfl rfl rfl rfl rfl (op1_move rfl rfl) ?_
          obtain ⟨x13, hx13, h⟩ := obind h
          refine ao_yes rfl rfl rfl rfl rfl rfl (op1_bcall 0 rfl en_92 rfl (.cons (Wk.refl _) (.cons (Wk.refl _) (.cons (Wk.refl _) .nil))) (.box (.val (ids_slM ids_Typ a1.parts) (.val rfl .nil))) rfl (idsL_cons rfl rfl) (c_check_room_all (S_check_room.mk (IntKind.i64.wrap (a0.f_left - 1))) a1.parts a2 x13 hx13) rfl (idsL_cons rfl rfl)) ?_
          refine sS rfl rfl rfl (op1_pickT rfl rfl rfl) ?_
          refine sA rfl rfl rfl rfl rfl (ao_nil ?_)
          change BW _ _ _ _ _
          refine bw_ret ?_
          change ∃ xs, _ = some xs ∧ EndOk _ _ _ _
          obtain rfl := Option.some.inj h
          exact ⟨_, rfl, endOk1 (y := (BO x13.1)) (e := .box 119 [(I64 (((x13.2)).f_left))]) (Wk.refl _) rfl rfl (idsL_cons rfl rfl) ⟨rfl, rfl⟩⟩
         ·intro hb12; replace h := ocond_f hb12 h
          refine ao_no rfl rfl rfl rfl rfl rfl ?_
          refine ao_no rfl rfl rfl rfl rfl rfl ?_
          refine ao_no rfl rfl rfl rfl rfl rfl ?_
          refine ao_no rfl rfl rfl rfl rfl rfl ?_
          refine ao_no rfl rfl rfl rfl rfl rfl ?_
          refine sS rfl rfl rfl (op1_pickF rfl rfl rfl) ?_
          refine sA rfl rfl rfl rfl rfl (ao_nil ?_)
          change BW _ _ _ _ _
          refine bw_ret ?_
          change ∃ xs, _ = some xs ∧ EndOk _ _ _ _
          obtain rfl := Option.some.inj h
          exact ⟨_, rfl, endOk1 (y := (BO false)) (e := .box 119 [(I64 (((S_check_room.mk (IntKind.i64.wrap (a0.f_left - 1)))).f_left))]) (Wk.refl _) rfl rfl (idsL_cons rfl rfl) ⟨rfl, rfl⟩⟩
        ·intro hc11; replace h := ocond_f hc11 h
         refine bR ?_
         refine sS rfl rfl rfl ((op1_cmp rfl rfl rfl rfl).cast (y := (BO ((a1.kind == 7)))) rfl rfl) ?_
         refine sA rfl rfl rfl rfl rfl (ao_nil ?_)
         change BW _ _ _ _ _
         refine bw_cond rfl ?_ ?_
         ·intro hc14; replace h := ocond_t hc14 h
          refine bR ?_
          refine sS rfl rfl rfl (op1_faR st_34 (i := 3) rfl rfl rfl) ?_
          refine sS rfl rfl rfl ((op1_ldR Try.underlying30 rfl rfl rfl rfl rfl)) ?_
          refine sS rfl rfl rfl (op1_lenM Try.underlying30 rfl rfl) ?_
          refine sS rfl rfl rfl ((op1_cmp rfl rfl rfl rfl).cast (y := (BO ((decide ((((a1.parts).length : Nat) : Int) > 1))))) rfl rfl) ?_
          refine sM rfl rfl rfl rfl rfl ?_
          refine ao_cases (t := 76) rfl ?_ ?_
          ·intro hb15; replace h := ocond_t hb15 h
           refine ao_yes rfl rfl rfl rfl rfl rfl (op1_move rfl rfl) ?_
           refine ao_yes rfl rfl rfl rfl rfl rfl (op1_faR st_34 (i := 3) rfl rfl rfl) ?_
           refine ao_yes rfl rfl rfl rfl rfl rfl ((op1_ldR Try.underlying30 rfl rfl rfl rfl rfl)) ?_
           refine ao_yes rfl rfl rfl rfl rfl rfl (op1_move rfl rfl) ?_
           obtain ⟨x16, hx16, h⟩ := obind h
           refine ao_yes rfl rfl rfl rfl rfl rfl (op1_bcall 0 rfl en_92 rfl (.cons (Wk.refl _) (.cons (Wk.refl _) (.cons (Wk.refl _) .nil))) (.box (.val (ids_slM ids_Typ a1.parts) (.val rfl .nil))) rfl (idsL_cons rfl rfl) (c_check_room_all (S_check_room.mk (IntKind.i64.wrap (a0.f_left - 1))) a1.parts a2 x16 hx16) rfl (idsL_cons rfl rfl)) ?_
           refine sS rfl rfl rfl (op1_pickT rfl rfl rfl) ?_
           refine sA rfl rfl rfl rfl rfl (ao_nil ?_)
           change BW _ _ _ _ _
           refine bw_ret ?_
           change ∃ xs, _ = some xs ∧ EndOk _ _ _ _
           obtain rfl := Option.some.inj h
           exact ⟨_, rfl, endOk1 (y := (BO x16.1)) (e := .box 119 [(I64 (((x16.2)).f_left))]) (Wk.refl _) rfl rfl (idsL_cons rfl rfl) ⟨rfl, rfl⟩⟩
          ·intro hb15; replace h := ocond_f hb15 h
           refine ao_no rfl rfl rfl rfl rfl rfl ?_
           refine ao_no rfl rfl rfl rfl rfl rfl ?_
           refine ao_no rfl rfl rfl rfl rfl rfl ?_
           refine ao_no rfl rfl rfl rfl rfl rfl ?_
           refine ao_no rfl rfl rfl rfl rfl rfl ?_
           refine sS rfl rfl rfl (op1_pickF rfl rfl rfl) ?_
           refine sA rfl rfl rfl rfl rfl (ao_nil ?_)
           change BW _ _ _ _ _
           refine bw_ret ?_
           change ∃ xs, _ = some xs ∧ EndOk _ _ _ _
           obtain rfl := Option.some.inj h
           exact ⟨_, rfl, endOk1 (y := (BO false)) (e := .box 119 [(I64 (((S_check_room.mk (IntKind.i64.wrap (a0.f_left - 1)))).f_left))]) (Wk.refl _) rfl rfl (idsL_cons rfl rfl) ⟨rfl, rfl⟩⟩
         ·intro hc14; replace h := ocond_f hc14 h
          refine bR ?_
          refine sS rfl rfl rfl ((op1_cmp rfl rfl rfl rfl).cast (y := (BO ((a1.kind == 6)))) rfl rfl) ?_
          refine sA rfl rfl rfl rfl rfl (ao_nil ?_)
          change BW _ _ _ _ _
          refine bw_cond rfl ?_ ?_
          ·intro hc17; replace h := ocond_t hc17 h
           refine bw_seq ?_
           refine bw_seqJ (ι := Bool) (fun i => check_room_can_j3 r_check_room_all a0 a1 a2 i = some r) (fun i => [(0, (PV.rf 0 0)), (2, (I64 a2)), (4, (PV.rf 1 0)), (106, (BO i))]) (fun i => [.box 119 [(I64 ((IntKind.i64.wrap (a0.f_left - 1))))], .box 34 [(I64 a1.kind), (I64 a1.of), (I64 ((a1.only).kind)), (BO ((a1.only).bool)), (I64 ((a1.only).int)), (PV.v (.float .f64 (a1.only).float)), (ofStr (a1.only).text), (PV.sl none 1 (List.map ofB (a1.only).bytes)), (PV.v (.int .u64 (a1.only).ref)), (PV.sl none 11 (List.map ofTerm (a1.only).list)), (PV.sl none 12 (List.map ofEntry (a1.only).fields)), (ofStr (a1.only).cls), (I64 ((a1.only).ver)), (PV.sl none 18 (List.map ofTyp a1.parts)), (PV.sl none 1 (List.map ofStr a1.names)), (PV.sl none 1 (List.map ofBool a1.lacks)), (BO a1.opn), (ofStr a1.cls)]]) ?_ ?_ ?_
           ·intro i; exact ⟨Nat.le_of_ble_eq_true rfl, ⟨(il_rf rfl), ⟨(il_nil rfl), ⟨(il_rf rfl), ⟨(il_nil rfl), trivial⟩⟩⟩⟩, ⟨⟨(il_nil rfl), trivial⟩, ⟨⟨(il_nil rfl), ⟨(il_nil rfl), ⟨(il_nil rfl), ⟨(il_nil rfl), ⟨(il_nil rfl), ⟨(il_nil rfl), ⟨(il_nil rfl), ⟨(il_nil (ids_slM (fun _ => rfl) _)), ⟨(il_nil rfl), ⟨(il_nil (ids_slM ids_Term _)), ⟨(il_nil (ids_slM ids_Entry _)), ⟨(il_nil rfl), ⟨(il_nil rfl), ⟨(il_nil (ids_slM ids_Typ _)), ⟨(il_nil (ids_slM (fun _ => rfl) _)), ⟨(il_nil (ids_slM (fun _ => rfl) _)), ⟨(il_nil rfl), ⟨(il_nil rfl), trivial⟩⟩⟩⟩⟩⟩⟩⟩⟩⟩⟩⟩⟩⟩⟩⟩⟩⟩, trivial⟩⟩⟩
           ·rintro s18 h; replace h : check_room_can_j3 r_check_room_all a0 a1 a2 s18 = some r := h; unfold check_room_can_j3 at h
            change BW _ _ _ ⟨[(0, (PV.rf 0 0)), (2, (I64 a2)), (4, (PV.rf 1 0)), (106, (BO s18))], [.box 119 [(I64 ((IntKind.i64.wrap (a0.f_left - 1))))], .box 34 [(I64 a1.kind), (I64 a1.of), (I64 ((a1.only).kind)), (BO ((a1.only).bool)), (I64 ((a1.only).int)), (PV.v (.float .f64 (a1.only).float)), (ofStr (a1.only).text), (PV.sl none 1 (List.map ofB (a1.only).bytes)), (PV.v (.int .u64 (a1.only).ref)), (PV.sl none 11 (List.map ofTerm (a1.only).list)), (PV.sl none 12 (List.map ofEntry (a1.only).fields)), (ofStr (a1.only).cls), (I64 ((a1.only).ver)), (PV.sl none 18 (List.map ofTyp a1.parts)), (PV.sl none 1 (List.map ofStr a1.names)), (PV.sl none 1 (List.map ofBool a1.lacks)), (BO a1.opn), (ofStr a1.cls)]], _⟩ _
            refine bw_cond rfl ?_ ?_
            ·intro hc19; replace h := ocond_t hc19 h
             refine bR ?_
             refine sA rfl rfl rfl rfl rfl (ao_nil ?_)
             change BW _ _ _ _ _
             refine bw_ret ?_
             change ∃ xs, _ = some xs ∧ EndOk _ _ _ _
             obtain rfl := Option.some.inj h
             exact ⟨_, rfl, endOk1 (y := (BO false)) (e := .box 119 [(I64 (((S_check_room.mk (IntKind.i64.wrap (a0.f_left - 1)))).f_left))]) (Wk.refl _) rfl rfl (idsL_cons rfl rfl) ⟨rfl, rfl⟩⟩
            ·intro hc19; replace h := ocond_f hc19 h
             refine bw_skip ?_
             change BW _ _ _ _ _
             refine bw_seq ?_
             refine bR ?_
             refine sS rfl rfl rfl (op1_faR st_34 (i := 4) rfl rfl rfl) ?_
             refine sS rfl rfl rfl ((op1_ldR Try.underlying31 rfl rfl rfl rfl rfl)) ?_
             refine sS rfl rfl rfl (op1_lenM Try.underlying31 rfl rfl) ?_
             refine sM rfl rfl rfl rfl rfl (ao_nil ?_)
             change BW _ _ _ _ _
             refine bw_block ?_
             change BW _ _ _ _ _
             unfold check_room_can_l1 at h
             refine bw_loop (σ := Nat) (fun i => [(0, (PV.rf 0 0)), (2, (I64 a2)), (4, (PV.rf 1 0)), (108, (PV.sl none 1 (List.map ofStr a1.names))), (109, (I64 ((((a1.names).length : Nat) : Int)))), (110, (I64 (((i : Nat) : Int))))]) (fun i => [.box 119 [(I64 ((IntKind.i64.wrap (a0.f_left - 1))))], .box 34 [(I64 a1.kind), (I64 a1.of), (I64 ((a1.only).kind)), (BO ((a1.only).bool)), (I64 ((a1.only).int)), (PV.v (.float .f64 (a1.only).float)), (ofStr (a1.only).text), (PV.sl none 1 (List.map ofB (a1.only).bytes)), (PV.v (.int .u64 (a1.only).ref)), (PV.sl none 11 (List.map ofTerm (a1.only).list)), (PV.sl none 12 (List.map ofEntry (a1.only).fields)), (ofStr (a1.only).cls), (I64 ((a1.only).ver)), (PV.sl none 18 (List.map ofTyp a1.parts)), (PV.sl none 1 (List.map ofStr a1.names)), (PV.sl none 1 (List.map ofBool a1.lacks)), (BO a1.opn), (ofStr a1.cls)]]) 0 h ?_ ?_ ?_
             ·intro i; exact ⟨Nat.le_of_ble_eq_true rfl, ⟨(il_rf rfl), ⟨(il_nil rfl), ⟨(il_rf rfl), ⟨(il_nil (ids_slM (fun _ => rfl) _)), ⟨(il_nil rfl), ⟨(il_nil rfl), trivial⟩⟩⟩⟩⟩⟩, ⟨⟨(il_nil rfl), trivial⟩, ⟨⟨(il_nil rfl), ⟨(il_nil rfl), ⟨(il_nil rfl), ⟨(il_nil rfl), ⟨(il_nil rfl), ⟨(il_nil rfl), ⟨(il_nil rfl), ⟨(il_nil (ids_slM (fun _ => rfl) _)), ⟨(il_nil rfl), ⟨(il_nil (ids_slM ids_Term _)), ⟨(il_nil (ids_slM ids_Entry _)), ⟨(il_nil rfl), ⟨(il_nil rfl), ⟨(il_nil (ids_slM ids_Typ _)), ⟨(il_nil (ids_slM (fun _ => rfl) _)), ⟨(il_nil (ids_slM (fun _ => rfl) _)), ⟨(il_nil rfl), ⟨(il_nil rfl), trivial⟩⟩⟩⟩⟩⟩⟩⟩⟩⟩⟩⟩⟩⟩⟩⟩⟩⟩, trivial⟩⟩⟩
             ·exact ⟨(.cons .same (.cons .same .nil)), (sC rfl (sC rfl (sC rfl (sC rfl (sC rfl (sC rfl sub_nil))))))⟩
             ·rintro g1_f s20 h; replace h : check_room_can_l1b r_check_room_all a0 a1 a2 (fun y0 => g1_f y0) s20 = some r := h; unfold check_room_can_l1b at h
              change BW _ _ _ ⟨[(0, (PV.rf 0 0)), (2, (I64 a2)), (4, (PV.rf 1 0)), (108, (PV.sl none 1 (List.map ofStr a1.names))), (109, (I64 ((((a1.names).length : Nat) : Int)))), (110, (I64 (((s20 : Nat) : Int))))], [.box 119 [(I64 ((IntKind.i64.wrap (a0.f_left - 1))))], .box 34 [(I64 a1.kind), (I64 a1.of), (I64 ((a1.only).kind)), (BO ((a1.only).bool)), (I64 ((a1.only).int)), (PV.v (.float .f64 (a1.only).float)), (ofStr (a1.only).text), (PV.sl none 1 (List.map ofB (a1.only).bytes)), (PV.v (.int .u64 (a1.only).ref)), (PV.sl none 11 (List.map ofTerm (a1.only).list)), (PV.sl none 12 (List.map ofEntry (a1.only).fields)), (ofStr (a1.only).cls), (I64 ((a1.only).ver)), (PV.sl none 18 (List.map ofTyp a1.parts)), (PV.sl none 1 (List.map ofStr a1.names)), (PV.sl none 1 (List.map ofBool a1.lacks)), (BO a1.opn), (ofStr a1.cls)]], _⟩ _
              refine bR ?_
              refine sS rfl rfl rfl ((op1_cmp rfl rfl rfl rfl).cast (y := (BO ((decide (((s20 : Nat) : Int) < (((a1.names).length : Nat) : Int)))))) rfl rfl) (ao_nil ?_)
              change BW _ _ _ _ _
              refine bw_seq ?_
              refine bw_len (t := 108) rfl fun hb22 => ?_
              try rw [List.length_map] at hb22
              refine bw_cond rfl ?_ ?_
              ·intro hc21; replace h := ocond_t hc21 h
               have hc21_ := of_decide_eq_true hc21
               refine bw_skip ?_
               change BW _ _ _ _ _
               refine bw_seq ?_
               refine bw_block ?_
               change BW _ _ _ _ _
               refine bR ?_
               refine sM rfl rfl rfl rfl rfl ?_
               obtain ⟨x23, hx23, h⟩ := obind h
               refine sS rfl rfl rfl (op1_idxN (i := s20) Try.underlying31 inf_9 rfl rfl rfl hx23 rfl) ?_
               refine sS rfl rfl rfl (op1_ldP (y := (ofStr x23)) Try.underlying9 rfl rfl rfl rfl) ?_
               refine sA rfl rfl rfl rfl rfl ?_
               refine sA rfl rfl rfl rfl rfl (ao_nil ?_)
               change BW _ _ _ _ _
               refine bw_seqJ (ι := Bool) (fun i => check_room_can_j4 (fun y0 => g1_f y0) a0 s20 i = some r) (fun i => [(0, (PV.rf 0 0)), (2, (I64 a2)), (4, (PV.rf 1 0)), (108, (PV.sl none 1 (List.map ofStr a1.names))), (109, (I64 ((((a1.names).length : Nat) : Int)))), (110, (I64 (((s20 : Nat) : Int)))), (131, (BO i))]) (fun i => [.box 119 [(I64 ((IntKind.i64.wrap (a0.f_left - 1))))], .box 34 [(I64 a1.kind), (I64 a1.of), (I64 ((a1.only).kind)), (BO ((a1.only).bool)), (I64 ((a1.only).int)), (PV.v (.float .f64 (a1.only).float)), (ofStr (a1.only).text), (PV.sl none 1 (List.map ofB (a1.only).bytes)), (PV.v (.int .u64 (a1.only).ref)), (PV.sl none 11 (List.map ofTerm (a1.only).list)), (PV.sl none 12 (List.map ofEntry (a1.only).fields)), (ofStr (a1.only).cls), (I64 ((a1.only).ver)), (PV.sl none 18 (List.map ofTyp a1.parts)), (PV.sl none 1 (List.map ofStr a1.names)), (PV.sl none 1 (List.map ofBool a1.lacks)), (BO a1.opn), (ofStr a1.cls)]]) ?_ ?_ ?_
               ·intro i; exact ⟨Nat.le_of_ble_eq_true rfl, ⟨(il_rf rfl), ⟨(il_nil rfl), ⟨(il_rf rfl), ⟨(il_nil (ids_slM (fun _ => rfl) _)), ⟨(il_nil rfl), ⟨(il_nil rfl), ⟨(il_nil rfl), trivial⟩⟩⟩⟩⟩⟩⟩, ⟨⟨(il_nil rfl), trivial⟩, ⟨⟨(il_nil rfl), ⟨(il_nil rfl), ⟨(il_nil rfl), ⟨(il_nil rfl), ⟨(il_nil rfl), ⟨(il_nil rfl), ⟨(il_nil rfl), ⟨(il_nil (ids_slM (fun _ => rfl) _)), ⟨(il_nil rfl), ⟨(il_nil (ids_slM ids_Term _)), ⟨(il_nil (ids_slM ids_Entry _)), ⟨(il_nil rfl), ⟨(il_nil rfl), ⟨(il_nil (ids_slM ids_Typ _)), ⟨(il_nil (ids_slM (fun _ => rfl) _)), ⟨(il_nil (ids_slM (fun _ => rfl) _)), ⟨(il_nil rfl), ⟨(il_nil rfl), trivial⟩⟩⟩⟩⟩⟩⟩⟩⟩⟩⟩⟩⟩⟩⟩⟩⟩⟩, trivial⟩⟩⟩
               ·rintro s24 h; replace h : check_room_can_j4 (fun y0 => g1_f y0) a0 s20 s24 = some r := h; unfold check_room_can_j4 at h
                change BW _ _ _ ⟨[(0, (PV.rf 0 0)), (2, (I64 a2)), (4, (PV.rf 1 0)), (108, (PV.sl none 1 (List.map ofStr a1.names))), (109, (I64 ((((a1.names).length : Nat) : Int)))), (110, (I64 (((s20 : Nat) : Int)))), (131, (BO s24))], [.box 119 [(I64 ((IntKind.i64.wrap (a0.f_left - 1))))], .box 34 [(I64 a1.kind), (I64 a1.of), (I64 ((a1.only).kind)), (BO ((a1.only).bool)), (I64 ((a1.only).int)), (PV.v (.float .f64 (a1.only).float)), (ofStr (a1.only).text), (PV.sl none 1 (List.map ofB (a1.only).bytes)), (PV.v (.int .u64 (a1.only).ref)), (PV.sl none 11 (List.map ofTerm (a1.only).list)), (PV.sl none 12 (List.map ofEntry (a1.only).fields)), (ofStr (a1.only).cls), (I64 ((a1.only).ver)), (PV.sl none 18 (List.map ofTyp a1.parts)), (PV.sl none 1 (List.map ofStr a1.names)), (PV.sl none 1 (List.map ofBool a1.lacks)), (BO a1.opn), (ofStr a1.cls)]], _⟩ _
                refine bw_cond rfl ?_ ?_
                ·intro hc25; replace h := ocond_t hc25 h
                 refine bR ?_
                 refine sA rfl rfl rfl rfl rfl (ao_nil ?_)
                 change BW _ _ _ _ _
                 refine bw_ret ?_
                 change ∃ xs, _ = some xs ∧ EndOk _ _ _ _
                 obtain rfl := Option.some.inj h
                 exact ⟨_, rfl, endOk1 (y := (BO false)) (e := .box 119 [(I64 (((S_check_room.mk (IntKind.i64.wrap (a0.f_left - 1)))).f_left))]) (Wk.refl _) rfl rfl (idsL_cons rfl rfl) ⟨rfl, rfl⟩⟩
                ·intro hc25; replace h := ocond_f hc25 h
                 refine bw_skip ?_
                 change BW _ _ _ _ _
                 refine bw_region ?_
                 refine sS rfl rfl rfl (op1_incN (k := s20) (c := 1) rfl rfl rfl (by omega)) ?_
                 refine sM rfl rfl rfl rfl rfl (ao_nil ?_)
                 exact ⟨rfl, (s20 + 1), h, ⟨(.cons .same (.cons .same .nil)), (sC rfl (sC rfl (sC rfl (sC rfl (sC rfl (sC rfl sub_nil))))))⟩⟩
               ·refine bw_region ?_
                refine sM rfl rfl rfl rfl rfl ?_
                obtain ⟨x26, hx26, h⟩ := obind h
                refine sS rfl rfl rfl (op1_pcall rfl en_91 rfl (.cons (Wk.refl _) .nil) ⟨rfl, trivial⟩ (s_check_name x23 x26 hx26) rfl) ?_
                refine sS rfl rfl rfl (op1_not rfl rfl) ?_
                refine sM rfl rfl rfl rfl rfl ?_
                refine ao_cases (t := 118) rfl ?_ ?_
                ·intro hb27; replace h := ocond_t hb27 h
                 refine ao_no rfl rfl rfl rfl rfl rfl ?_
                 refine ao_no rfl rfl rfl rfl rfl rfl ?_
                 refine ao_no rfl rfl rfl rfl rfl rfl ?_
                 refine ao_no rfl rfl rfl rfl rfl rfl ?_
                 refine ao_no rfl rfl rfl rfl rfl rfl ?_
                 refine ao_no rfl rfl rfl rfl rfl rfl ?_
                 refine ao_no rfl rfl rfl rfl rfl rfl ?_
                 refine ao_no rfl rfl rfl rfl rfl rfl ?_
                 refine ao_no rfl rfl rfl rfl rfl rfl ?_
                 refine ao_no rfl rfl rfl rfl rfl rfl ?_
                 refine ao_no rfl rfl rfl rfl rfl rfl ?_
                 refine ao_no rfl rfl rfl rfl rfl rfl ?_
                 refine sS rfl rfl rfl (op1_pickT rfl rfl rfl) (ao_nil ?_)
                 exact ⟨rfl, true, h, ⟨(.cons .same (.cons .same .nil)), (sC rfl (sC rfl (sC rfl (sC rfl (sC rfl (sC rfl (sC rfl sub_nil)))))))⟩⟩
                ·intro hb27; replace h := ocond_f hb27 h
                 refine ao_yes rfl rfl rfl rfl rfl rfl (op1_move rfl rfl) ?_
                 refine ao_yes rfl rfl rfl rfl rfl rfl ((op1_cmp rfl rfl rfl rfl).cast (y := (BO ((decide (((s20 : Nat) : Int) > 0))))) rfl rfl) ?_
                 refine ao_yes rfl rfl rfl rfl rfl rfl (op1_move rfl rfl) ?_
                 refine ao_cases (t := 121) rfl ?_ ?_
                 ·intro hb28; replace h := ocond_t hb28 h
                  refine ao_yes rfl rfl rfl rfl rfl rfl (op1_move rfl rfl) ?_
                  refine ao_yes rfl rfl rfl rfl rfl rfl (op1_faR st_34 (i := 4) rfl rfl rfl) ?_
                  refine ao_yes rfl rfl rfl rfl rfl rfl ((op1_ldR Try.underlying31 rfl rfl rfl rfl rfl)) ?_
                  refine ao_yes rfl rfl rfl rfl rfl rfl (op1_move rfl rfl) ?_
                  refine ao_yes rfl rfl rfl rfl rfl rfl (op1_subW rfl rfl rfl) ?_
                  obtain ⟨x29, hx29, h⟩ := obind h
                  refine ao_yes rfl rfl rfl rfl rfl rfl (op1_idxM Try.underlying31 inf_9 rfl rfl rfl hx29 rfl) ?_
                  refine ao_yes rfl rfl rfl rfl rfl rfl (op1_ldP (y := (ofStr x29)) Try.underlying9 rfl rfl rfl rfl) ?_
                  refine ao_yes rfl rfl rfl rfl rfl rfl ((op1_cmpT (a := x23) (b := x29) rfl rfl rfl rfl).cast (y := (BO ((Op.bytesLess x23 x29 || x23 == x29)))) rfl rfl) ?_
                  refine ao_yes rfl rfl rfl rfl rfl rfl (op1_pickT rfl rfl rfl) ?_
                  refine sS rfl rfl rfl (op1_pickF rfl rfl rfl) (ao_nil ?_)
                  exact ⟨rfl, (Op.bytesLess x23 x29 || x23 == x29), h, ⟨(.cons .same (.cons .same .nil)), (sC rfl (sC rfl (sC rfl (sC rfl (sC rfl (sC rfl (sC rfl sub_nil)))))))⟩⟩
                 ·intro hb28; replace h := ocond_f hb28 h
                  refine ao_no rfl rfl rfl rfl rfl rfl ?_
                  refine ao_no rfl rfl rfl rfl rfl rfl ?_
                  refine ao_no rfl rfl rfl rfl rfl rfl ?_
                  refine ao_no rfl rfl rfl rfl rfl rfl ?_
                  refine ao_no rfl rfl rfl rfl rfl rfl ?_
                  refine ao_no rfl rfl rfl rfl rfl rfl ?_
                  refine ao_no rfl rfl rfl rfl rfl rfl ?_
                  refine ao_no rfl rfl rfl rfl rfl rfl ?_
                  refine ao_yes rfl rfl rfl rfl rfl rfl (op1_pickF rfl rfl rfl) ?_
                  refine sS rfl rfl rfl (op1_pickF rfl rfl rfl) (ao_nil ?_)
                  exact ⟨rfl, false, h, ⟨(.cons .same (.cons .same .nil)), (sC rfl (sC rfl (sC rfl (sC rfl (sC rfl (sC rfl (sC rfl sub_nil)))))))⟩⟩
              ·intro hc21; replace h := ocond_f hc21 h
               refine bw_exit ?_
               change BW _ _ _ _ _
               refine bR ?_
               refine sM rfl rfl rfl rfl rfl ?_
               refine sS rfl rfl rfl (op1_faR st_34 (i := 3) rfl rfl rfl) ?_
               refine sS rfl rfl rfl ((op1_ldR Try.underlying30 rfl rfl rfl rfl rfl)) ?_
               refine sM rfl rfl rfl rfl rfl ?_
               obtain ⟨x30, hx30, h⟩ := obind h
               refine sS rfl rfl rfl (op1_bcall 0 rfl en_92 rfl (.cons (Wk.refl _) (.cons (Wk.refl _) (.cons (Wk.refl _) .nil))) (.box (.val (ids_slM ids_Typ a1.parts) (.val rfl .nil))) rfl (idsL_cons rfl rfl) (c_check_room_all (S_check_room.mk (IntKind.i64.wrap (a0.f_left - 1))) a1.parts a2 x30 hx30) rfl (idsL_cons rfl rfl)) ?_
               refine sA rfl rfl rfl rfl rfl (ao_nil ?_)
               change BW _ _ _ _ _
               refine bw_ret ?_
               change ∃ xs, _ = some xs ∧ EndOk _ _ _ _
               obtain rfl := Option.some.inj h
               exact ⟨_, rfl, endOk1 (y := (BO x30.1)) (e := .box 119 [(I64 (((x30.2)).f_left))]) (Wk.refl _) rfl rfl (idsL_cons rfl rfl) ⟨rfl, rfl⟩⟩
           ·refine bw_region ?_
            refine sS rfl rfl rfl (op1_faR st_34 (i := 4) rfl rfl rfl) ?_
            refine sS rfl rfl rfl ((op1_ldR Try.underlying31 rfl rfl rfl rfl rfl)) ?_
            refine sS rfl rfl rfl (op1_lenM Try.underlying31 rfl rfl) ?_
            refine sS rfl rfl rfl ((op1_cmp rfl rfl rfl rfl).cast (y := (BO ((decide ((((a1.names).length : Nat) : Int) > 4096))))) rfl rfl) ?_
            refine sM rfl rfl rfl rfl rfl ?_
            refine ao_cases (t := 89) rfl ?_ ?_
            ·intro hb31; replace h := ocond_t hb31 h
             refine ao_no rfl rfl rfl rfl rfl rfl ?_
             refine ao_no rfl rfl rfl rfl rfl rfl ?_
             refine ao_no rfl rfl rfl rfl rfl rfl ?_
             refine ao_no rfl rfl rfl rfl rfl rfl ?_
             refine ao_no rfl rfl rfl rfl rfl rfl ?_
             refine ao_no rfl rfl rfl rfl rfl rfl ?_
             refine ao_no rfl rfl rfl rfl rfl rfl ?_
             refine sS rfl rfl rfl (op1_pickT rfl rfl rfl) ?_
             refine sM rfl rfl rfl rfl rfl ?_
             refine ao_no rfl rfl rfl rfl rfl rfl ?_
             refine ao_no rfl rfl rfl rfl rfl rfl ?_
             refine ao_no rfl rfl rfl rfl rfl rfl ?_
             refine ao_no rfl rfl rfl rfl rfl rfl ?_
             refine ao_no rfl rfl rfl rfl rfl rfl ?_
             refine ao_no rfl rfl rfl rfl rfl rfl ?_
             refine ao_no rfl rfl rfl rfl rfl rfl ?_
             refine sS rfl rfl rfl (op1_pickT rfl rfl rfl) (ao_nil ?_)
             exact ⟨rfl, true, h, ⟨(.cons .same (.cons .same .nil)), (sC rfl (sC rfl (sC rfl (sC rfl sub_nil))))⟩⟩
            ·intro hb31; replace h := ocond_f hb31 h
             refine ao_yes rfl rfl rfl rfl rfl rfl (op1_faR st_34 (i := 3) rfl rfl rfl) ?_
             refine ao_yes rfl rfl rfl rfl rfl rfl ((op1_ldR Try.underlying30 rfl rfl rfl rfl rfl)) ?_
             refine ao_yes rfl rfl rfl rfl rfl rfl (op1_lenM Try.underlying30 rfl rfl) ?_
             refine ao_yes rfl rfl rfl rfl rfl rfl (op1_faR st_34 (i := 4) rfl rfl rfl) ?_
             refine ao_yes rfl rfl rfl rfl rfl rfl ((op1_ldR Try.underlying31 rfl rfl rfl rfl rfl)) ?_
             refine ao_yes rfl rfl rfl rfl rfl rfl (op1_lenM Try.underlying31 rfl rfl) ?_
             refine ao_yes rfl rfl rfl rfl rfl rfl ((op1_cmp rfl rfl rfl rfl).cast (y := (BO (((((a1.parts).length : Nat) : Int) != (((a1.names).length : Nat) : Int))))) rfl rfl) ?_
             refine sS rfl rfl rfl (op1_pickF rfl rfl rfl) ?_
             refine sM rfl rfl rfl rfl rfl ?_
             refine ao_cases (t := 98) rfl ?_ ?_
             ·intro hb32; replace h := ocond_t hb32 h
              refine ao_no rfl rfl rfl rfl rfl rfl ?_
              refine ao_no rfl rfl rfl rfl rfl rfl ?_
              refine ao_no rfl rfl rfl rfl rfl rfl ?_
              refine ao_no rfl rfl rfl rfl rfl rfl ?_
              refine ao_no rfl rfl rfl rfl rfl rfl ?_
              refine ao_no rfl rfl rfl rfl rfl rfl ?_
              refine ao_no rfl rfl rfl rfl rfl rfl ?_
              refine sS rfl rfl rfl (op1_pickT rfl rfl rfl) (ao_nil ?_)
              exact ⟨rfl, true, h, ⟨(.cons .same (.cons .same .nil)), (sC rfl (sC rfl (sC rfl (sC rfl sub_nil))))⟩⟩
             ·intro hb32; replace h := ocond_f hb32 h
              refine ao_yes rfl rfl rfl rfl rfl rfl (op1_faR st_34 (i := 5) rfl rfl rfl) ?_
              refine ao_yes rfl rfl rfl rfl rfl rfl ((op1_ldR Try.underlying32 rfl rfl rfl rfl rfl)) ?_
              refine ao_yes rfl rfl rfl rfl rfl rfl (op1_lenM Try.underlying32 rfl rfl) ?_
              refine ao_yes rfl rfl rfl rfl rfl rfl (op1_faR st_34 (i := 4) rfl rfl rfl) ?_
              refine ao_yes rfl rfl rfl rfl rfl rfl ((op1_ldR Try.underlying31 rfl rfl rfl rfl rfl)) ?_
              refine ao_yes rfl rfl rfl rfl rfl rfl (op1_lenM Try.underlying31 rfl rfl) ?_
              refine ao_yes rfl rfl rfl rfl rfl rfl ((op1_cmp rfl rfl rfl rfl).cast (y := (BO (((((a1.lacks).length : Nat) : Int) != (((a1.names).length : Nat) : Int))))) rfl rfl) ?_
              refine sS rfl rfl rfl (op1_pickF rfl rfl rfl) (ao_nil ?_)
              exact ⟨rfl, ((((a1.lacks).length : Nat) : Int) != (((a1.names).length : Nat) : Int)), h, ⟨(.cons .same (.cons .same .nil)), (sC rfl (sC rfl (sC rfl (sC rfl sub_nil))))⟩⟩
          ·intro hc17; replace h := ocond_f hc17 h
           refine bw_skip ?_
           change BW _ _ _ _ _
           refine bR ?_
           refine sA rfl rfl rfl rfl rfl (ao_nil ?_)
           change BW _ _ _ _ _
           refine bw_ret ?_
           change ∃ xs, _ = some xs ∧ EndOk _ _ _ _
           obtain rfl := Option.some.inj h
           exact ⟨_, rfl, endOk1 (y := (BO false)) (e := .box 119 [(I64 (((S_check_room.mk (IntKind.i64.wrap (a0.f_left - 1)))).f_left))]) (Wk.refl _) rfl rfl (idsL_cons rfl rfl) ⟨rfl, rfl⟩⟩
   ·refine bR ?_
    refine sS rfl rfl rfl ((op1_cmp rfl rfl rfl rfl).cast (y := (BO ((a1.kind == 1)))) rfl rfl) ?_
    refine sA rfl rfl rfl rfl rfl (ao_nil ?_)
    change BW _ _ _ _ _
    refine bw_cond rfl ?_ ?_
    ·intro hc33; replace h := ocond_t hc33 h
     refine bw_skip ?_
     exact ⟨rfl, (a1.kind == 1), h, ⟨(.cons .same (.cons .same .nil)), (sC rfl (sC rfl (sC rfl (sC rfl (sC rfl sub_nil)))))⟩⟩
    ·intro hc33; replace h := ocond_f hc33 h
     refine bw_region ?_
     refine sS rfl rfl rfl ((op1_cmp rfl rfl rfl rfl).cast (y := (BO ((a1.kind == 2)))) rfl rfl) ?_
     refine sA rfl rfl rfl rfl rfl (ao_nil ?_)
     exact ⟨rfl, (a1.kind == 2), h, ⟨(.cons .same (.cons .same .nil)), (sC rfl (sC rfl (sC rfl (sC rfl (sC rfl sub_nil)))))⟩⟩
 ·refine bw_region ?_
  refine sM rfl rfl rfl rfl rfl ?_
  refine sS rfl rfl rfl (op1_nilR rfl rfl) ?_
  refine sS rfl rfl rfl (op1_faR st_119 (i := 0) rfl rfl rfl) ?_
  refine sS rfl rfl rfl ((op1_ldR Try.underlying3 rfl rfl rfl rfl rfl)) ?_
  refine sS rfl rfl rfl ((op1_cmp rfl rfl rfl rfl).cast (y := (BO ((decide ((IntKind.i64.wrap (a0.f_left - 1)) < 0))))) rfl rfl) ?_
  refine sM rfl rfl rfl rfl rfl ?_
  refine ao_cases (t := 23) rfl ?_ ?_
  ·intro hb34; replace h := ocond_t hb34 h
   refine ao_no rfl rfl rfl rfl rfl rfl ?_
   refine ao_no rfl rfl rfl rfl rfl rfl ?_
   refine sS rfl rfl rfl (op1_pickT rfl rfl rfl) (ao_nil ?_)
   exact ⟨rfl, true, h, ⟨(.cons .same (.cons .same .nil)), (sC rfl (sC rfl (sC rfl (sC rfl sub_nil))))⟩⟩
  ·intro hb34; replace h := ocond_f hb34 h
   refine ao_yes rfl rfl rfl rfl rfl rfl (op1_move rfl rfl) ?_
   refine ao_yes rfl rfl rfl rfl rfl rfl ((op1_cmp rfl rfl rfl rfl).cast (y := (BO ((decide (a2 > 64))))) rfl rfl) ?_
   refine sS rfl rfl rfl (op1_pickF rfl rfl rfl) (ao_nil ?_)
   exact ⟨rfl, (decide (a2 > 64)), h, ⟨(.cons .same (.cons .same .nil)), (sC rfl (sC rfl (sC rfl (sC rfl sub_nil))))⟩⟩
theorem C_check_room_all.sound : ∀ (i : C_check_room_all) (r : i.R), fixO C_check_room_all.F i = some r → C_check_room_all.Q i r := by
 refine fixO_ind (Φ := C_check_room_all.F) (Q := C_check_room_all.Q) ?_
 intro g hg i r h
 cases i with
 | k_check_room_all a0 a1 a2 => exact t_check_room_all (fun a0 a1 a2 => g (.k_check_room_all a0 a1 a2)) (fun a0 a1 a2 r hr => hg (.k_check_room_all a0 a1 a2) r hr) (fun a0 a1 a2 => g (.k_check_room_can a0 a1 a2)) (fun a0 a1 a2 r hr => hg (.k_check_room_can a0 a1 a2) r hr) a0 a1 a2 r h
 | k_check_room_can a0 a1 a2 => exact t_check_room_can (fun a0 a1 a2 => g (.k_check_room_all a0 a1 a2)) (fun a0 a1 a2 r hr => hg (.k_check_room_all a0 a1 a2) r hr) (fun a0 a1 a2 => g (.k_check_room_can a0 a1 a2)) (fun a0 a1 a2 r hr => hg (.k_check_room_can a0 a1 a2) r hr) a0 a1 a2 r h
theorem s_check_room_all (a0 : S_check_room) (a1 : (List Typ)) (a2 : Int) (r : (Bool × S_check_room)) (h : p_check_room_all a0 a1 a2 = some r) : BCalls Try.prog 92 [(PV.rf 0 0), (PV.sl none 18 (List.map ofTyp a1)), (I64 a2)] (.box 119 [(I64 a0.f_left)]) (BO r.1) (.box 119 [(I64 ((r.2).f_left))]) := C_check_room_all.sound (.k_check_room_all a0 a1 a2) r h
theorem s_check_room_can (a0 : S_check_room) (a1 : Typ) (a2 : Int) (r : (Bool × S_check_room)) (h : p_check_room_can a0 a1 a2 = some r) : BCalls Try.prog 59 [(PV.rf 0 0), (ofTypX a1), (I64 a2)] (.box 119 [(I64 a0.f_left)]) (BO r.1) (.box 119 [(I64 ((r.2).f_left))]) := C_check_room_all.sound (.k_check_room_can a0 a1 a2) r h
noncomputable def p_check_valid (a0 : Typ) : Option Bool :=
 Option.bind (p_check_room_can (S_check_room.mk 16384) a0 1) fun x1 =>
 some x1.1
theorem s_check_valid (a0 : Typ) (r : Bool) (h : p_check_valid a0 = some r) : PCalls Try.prog 33 [(ofTypX a0)] (BO r) := by
 unfold p_check_valid at h
 refine acalls_of Try.func33 rfl Try.ntmps33 Try.results33 rfl (aw_of_bw ?_)
 change BW _ _ _ ⟨[(0, (ofTypX a0))], [], _⟩ _
 refine bR ?_
 refine sS rfl rfl rfl (op1_box rfl rfl rfl) ?_
 refine sA rfl rfl rfl rfl rfl (ao_nil ?_)
 change BW _ _ _ _ _
 refine bR ?_
 refine sS rfl rfl rfl (op1_build (cs := [(I64 16384)]) st_119 inf_119 rfl rfl rfl rfl) ?_
 refine sS rfl rfl rfl (op1_alloc inf_119 rfl) ?_
 refine ao_step0 rfl rfl (op1_store inf_119 rfl rfl rfl rfl rfl rfl (Nat.le_of_ble_eq_true rfl) rfl) ?_
 refine ao_nil ?_
 change BW _ _ _ _ _
 refine bR ?_
 refine sS rfl rfl rfl ((op1_ldRA inf_34 Try.underlying34 rfl rfl rfl rfl rfl rfl)) ?_
 obtain ⟨x1, hx1, h⟩ := obind h
 refine sS rfl rfl rfl (op1_bcall 1 rfl en_59 rfl (.cons (Wk.refl _) (.cons (Wk.refl _) (.cons (Wk.refl _) .nil))) (.box (.val (ids_TypX a0) (.val rfl .nil))) rfl (idsL_cons rfl rfl) (s_check_room_can (S_check_room.mk 16384) a0 1 x1 hx1) rfl (idsL_cons rfl rfl)) ?_
 refine sA rfl rfl rfl rfl rfl (ao_nil ?_)
 change BW _ _ _ _ _
 refine bw_ret ?_
 change ∃ xs, _ = some xs ∧ EndOk _ _ _ _
 obtain rfl := Option.some.inj h
 exact ⟨_, rfl, endOk0 (y := (BO x1.1)) (Wk.refl _) rfl ⟨rfl, rfl⟩⟩
noncomputable def p_check_can (a0 : V) (a1 : Typ) : Option Int :=
 Option.bind (p_value_Check a0) fun x1 =>
 bif (x1.2 != 0) then (
  some x1.2
 ) else (
  Option.bind (p_check_valid a1) fun x3 =>
  bif (!x3) then (
   some 70
  ) else (
   some 0
  )
 )
theorem s_check_can (a0 : V) (a1 : Typ) (r : Int) (h : p_check_can a0 a1 = some r) : PCalls Try.prog 30 [(ofV a0), (ofTypX a1)] (I64 r) := by
 unfold p_check_can at h
 refine acalls_of Try.func30 rfl Try.ntmps30 Try.results30 rfl (aw_of_bw ?_)
 change BW _ _ _ ⟨[(0, (ofV a0)), (1, (ofTypX a1))], [], _⟩ _
 refine bR ?_
 refine sS rfl rfl rfl (op1_box rfl rfl rfl) ?_
 refine sA rfl rfl rfl rfl rfl (ao_nil ?_)
 change BW _ _ _ _ _
 refine bw_seq ?_
 refine bR ?_
 refine sM rfl rfl rfl rfl rfl ?_
 obtain ⟨x1, hx1, h⟩ := obind h
 refine sS rfl rfl rfl (op1_pcall rfl en_48 rfl (.cons (Wk.refl _) .nil) ⟨(ids_V a0), trivial⟩ (s_value_Check a0 x1 hx1) (ids_tup_cons rfl (ids_tup_cons rfl ids_tup_nil))) ?_
 refine sM rfl rfl rfl rfl rfl ?_
 refine sS rfl rfl rfl (op1_ext rfl rfl rfl) ?_
 refine sS rfl rfl rfl (op1_ext rfl rfl rfl) ?_
 refine sA rfl rfl rfl rfl rfl ?_
 refine sA rfl rfl rfl rfl rfl (ao_nil ?_)
 change BW _ _ _ _ _
 refine bR ?_
 refine sM rfl rfl rfl rfl rfl ?_
 refine sS rfl rfl rfl ((op1_cmp rfl rfl rfl rfl).cast (y := (BO ((x1.2 != 0)))) rfl rfl) (ao_nil ?_)
 change BW _ _ _ _ _
 refine bw_cond rfl ?_ ?_
 ·intro hc2; replace h := ocond_t hc2 h
  refine bR ?_
  refine sM rfl rfl rfl rfl rfl ?_
  refine sA rfl rfl rfl rfl rfl (ao_nil ?_)
  change BW _ _ _ _ _
  refine bw_ret ?_
  change ∃ xs, _ = some xs ∧ EndOk _ _ _ _
  obtain rfl := Option.some.inj h
  exact ⟨_, rfl, endOk0 (y := (I64 x1.2)) (Wk.refl _) rfl ⟨rfl, rfl⟩⟩
 ·intro hc2; replace h := ocond_f hc2 h
  refine bw_skip ?_
  change BW _ _ _ _ _
  refine bw_seq ?_
  refine bR ?_
  refine sS rfl rfl rfl ((op1_ldRA inf_34 Try.underlying34 rfl rfl rfl rfl rfl rfl)) ?_
  obtain ⟨x3, hx3, h⟩ := obind h
  refine sS rfl rfl rfl (op1_pcall rfl en_33 rfl (.cons (Wk.refl _) .nil) ⟨(ids_TypX a1), trivial⟩ (s_check_valid a1 x3 hx3) rfl) ?_
  refine sS rfl rfl rfl (op1_not rfl rfl) (ao_nil ?_)
  change BW _ _ _ _ _
  refine bw_cond rfl ?_ ?_
  ·intro hc4; replace h := ocond_t hc4 h
   refine bR ?_
   refine sA rfl rfl rfl rfl rfl (ao_nil ?_)
   change BW _ _ _ _ _
   refine bw_ret ?_
   change ∃ xs, _ = some xs ∧ EndOk _ _ _ _
   obtain rfl := Option.some.inj h
   exact ⟨_, rfl, endOk0 (y := (I64 70)) (Wk.refl _) rfl ⟨rfl, rfl⟩⟩
  ·intro hc4; replace h := ocond_f hc4 h
   refine bw_skip ?_
   change BW _ _ _ _ _
   refine bR ?_
   refine sA rfl rfl rfl rfl rfl (ao_nil ?_)
   change BW _ _ _ _ _
   refine bw_ret ?_
   change ∃ xs, _ = some xs ∧ EndOk _ _ _ _
   obtain rfl := Option.some.inj h
   exact ⟨_, rfl, endOk0 (y := (I64 0)) (Wk.refl _) rfl ⟨rfl, rfl⟩⟩
noncomputable def p_value_Kind (a0 : V) : Option Int :=
 Option.bind (p_value_kind a0) fun x1 =>
 some x1
theorem s_value_Kind (a0 : V) (r : Int) (h : p_value_Kind a0 = some r) : PCalls Try.prog 52 [(ofV a0)] (I64 r) := by
 unfold p_value_Kind at h
 refine acalls_of Try.func52 rfl Try.ntmps52 Try.results52 rfl (aw_of_bw ?_)
 change BW _ _ _ ⟨[(0, (ofV a0))], [], _⟩ _
 refine bR ?_
 refine sA rfl rfl rfl rfl rfl (ao_nil ?_)
 change BW _ _ _ _ _
 refine bR ?_
 refine sM rfl rfl rfl rfl rfl ?_
 obtain ⟨x1, hx1, h⟩ := obind h
 refine sS rfl rfl rfl (op1_pcall rfl en_86 rfl (.cons (Wk.refl _) .nil) ⟨(ids_V a0), trivial⟩ (s_value_kind a0 x1 hx1) rfl) ?_
 refine sA rfl rfl rfl rfl rfl (ao_nil ?_)
 change BW _ _ _ _ _
 refine bw_ret ?_
 change ∃ xs, _ = some xs ∧ EndOk _ _ _ _
 obtain rfl := Option.some.inj h
 exact ⟨_, rfl, endOk0 (y := (I64 x1)) (Wk.refl _) rfl ⟨rfl, rfl⟩⟩
noncomputable def p_value_cmp_int (a0 : Int) (a1 : Int) : Option Int :=
 bif (decide (a0 < a1)) then (
  some (-1)
 ) else (
  bif (decide (a0 > a1)) then (
   some 1
  ) else (
   some 0
  )
 )
theorem s_value_cmp_int (a0 : Int) (a1 : Int) (r : Int) (h : p_value_cmp_int a0 a1 = some r) : PCalls Try.prog 104 [(I64 a0), (I64 a1)] (I64 r) := by
 unfold p_value_cmp_int at h
 refine acalls_of Try.func104 rfl Try.ntmps104 Try.results104 rfl (aw_of_bw ?_)
 change BW _ _ _ ⟨[(0, (I64 a0)), (1, (I64 a1))], [], _⟩ _
 refine bR ?_
 refine sA rfl rfl rfl rfl rfl (ao_nil ?_)
 change BW _ _ _ _ _
 refine bw_seq ?_
 refine bw_block ?_
 change BW _ _ _ _ _
 refine bR ?_
 refine sM rfl rfl rfl rfl rfl ?_
 refine sM rfl rfl rfl rfl rfl ?_
 refine sS rfl rfl rfl ((op1_cmp rfl rfl rfl rfl).cast (y := (BO ((decide (a0 < a1))))) rfl rfl) ?_
 refine sA rfl rfl rfl rfl rfl (ao_nil ?_)
 change BW _ _ _ _ _
 refine bw_cond rfl ?_ ?_
 ·intro hc1; replace h := ocond_t hc1 h
  refine bR ?_
  refine sA rfl rfl rfl rfl rfl (ao_nil ?_)
  change BW _ _ _ _ _
  refine bw_ret ?_
  change ∃ xs, _ = some xs ∧ EndOk _ _ _ _
  obtain rfl := Option.some.inj h
  exact ⟨_, rfl, endOk0 (y := (I64 ((-1)))) (Wk.refl _) rfl ⟨rfl, rfl⟩⟩
 ·intro hc1; replace h := ocond_f hc1 h
  refine bR ?_
  refine sM rfl rfl rfl rfl rfl ?_
  refine sM rfl rfl rfl rfl rfl ?_
  refine sS rfl rfl rfl ((op1_cmp rfl rfl rfl rfl).cast (y := (BO ((decide (a0 > a1))))) rfl rfl) ?_
  refine sA rfl rfl rfl rfl rfl (ao_nil ?_)
  change BW _ _ _ _ _
  refine bw_cond rfl ?_ ?_
  ·intro hc2; replace h := ocond_t hc2 h
   refine bR ?_
   refine sA rfl rfl rfl rfl rfl (ao_nil ?_)
   change BW _ _ _ _ _
   refine bw_ret ?_
   change ∃ xs, _ = some xs ∧ EndOk _ _ _ _
   obtain rfl := Option.some.inj h
   exact ⟨_, rfl, endOk0 (y := (I64 1)) (Wk.refl _) rfl ⟨rfl, rfl⟩⟩
  ·intro hc2; replace h := ocond_f hc2 h
   refine bw_skip ?_
   change BW _ _ _ _ _
   refine bR ?_
   refine sA rfl rfl rfl rfl rfl (ao_nil ?_)
   change BW _ _ _ _ _
   refine bw_ret ?_
   change ∃ xs, _ = some xs ∧ EndOk _ _ _ _
   obtain rfl := Option.some.inj h
   exact ⟨_, rfl, endOk0 (y := (I64 0)) (Wk.refl _) rfl ⟨rfl, rfl⟩⟩
noncomputable def p_value_truth (a0 : Bool) : Option Int :=
 bif a0 then (
  some 1
 ) else (
  some 0
 )
theorem s_value_truth (a0 : Bool) (r : Int) (h : p_value_truth a0 = some r) : PCalls Try.prog 105 [(BO a0)] (I64 r) := by
 unfold p_value_truth at h
 refine acalls_of Try.func105 rfl Try.ntmps105 Try.results105 rfl (aw_of_bw ?_)
 change BW _ _ _ ⟨[(0, (BO a0))], [], _⟩ _
 refine bR ?_
 refine sA rfl rfl rfl rfl rfl (ao_nil ?_)
 change BW _ _ _ _ _
 refine bw_seq ?_
 refine bR ?_
 refine sM rfl rfl rfl rfl rfl (ao_nil ?_)
 change BW _ _ _ _ _
 refine bw_cond rfl ?_ ?_
 ·intro hc1; replace h := ocond_t hc1 h
  refine bR ?_
  refine sA rfl rfl rfl rfl rfl (ao_nil ?_)
  change BW _ _ _ _ _
  refine bw_ret ?_
  change ∃ xs, _ = some xs ∧ EndOk _ _ _ _
  obtain rfl := Option.some.inj h
  exact ⟨_, rfl, endOk0 (y := (I64 1)) (Wk.refl _) rfl ⟨rfl, rfl⟩⟩
 ·intro hc1; replace h := ocond_f hc1 h
  refine bw_skip ?_
  change BW _ _ _ _ _
  refine bR ?_
  refine sA rfl rfl rfl rfl rfl (ao_nil ?_)
  change BW _ _ _ _ _
  refine bw_ret ?_
  change ∃ xs, _ = some xs ∧ EndOk _ _ _ _
  obtain rfl := Option.some.inj h
  exact ⟨_, rfl, endOk0 (y := (I64 0)) (Wk.refl _) rfl ⟨rfl, rfl⟩⟩
noncomputable def p_value_cmp_int64 (a0 : Int) (a1 : Int) : Option Int :=
 bif (decide (a0 < a1)) then (
  some (-1)
 ) else (
  bif (decide (a0 > a1)) then (
   some 1
  ) else (
   some 0
  )
 )
theorem s_value_cmp_int64 (a0 : Int) (a1 : Int) (r : Int) (h : p_value_cmp_int64 a0 a1 = some r) : PCalls Try.prog 106 [(I64 a0), (I64 a1)] (I64 r) := by
 unfold p_value_cmp_int64 at h
 refine acalls_of Try.func106 rfl Try.ntmps106 Try.results106 rfl (aw_of_bw ?_)
 change BW _ _ _ ⟨[(0, (I64 a0)), (1, (I64 a1))], [], _⟩ _
 refine bR ?_
 refine sA rfl rfl rfl rfl rfl (ao_nil ?_)
 change BW _ _ _ _ _
 refine bw_seq ?_
 refine bw_block ?_
 change BW _ _ _ _ _
 refine bR ?_
 refine sM rfl rfl rfl rfl rfl ?_
 refine sM rfl rfl rfl rfl rfl ?_
 refine sS rfl rfl rfl ((op1_cmp rfl rfl rfl rfl).cast (y := (BO ((decide (a0 < a1))))) rfl rfl) ?_
 refine sA rfl rfl rfl rfl rfl (ao_nil ?_)
 change BW _ _ _ _ _
 refine bw_cond rfl ?_ ?_
 ·intro hc1; replace h := ocond_t hc1 h
  refine bR ?_
  refine sA rfl rfl rfl rfl rfl (ao_nil ?_)
  change BW _ _ _ _ _
  refine bw_ret ?_
  change ∃ xs, _ = some xs ∧ EndOk _ _ _ _
  obtain rfl := Option.some.inj h
  exact ⟨_, rfl, endOk0 (y := (I64 ((-1)))) (Wk.refl _) rfl ⟨rfl, rfl⟩⟩
 ·intro hc1; replace h := ocond_f hc1 h
  refine bR ?_
  refine sM rfl rfl rfl rfl rfl ?_
  refine sM rfl rfl rfl rfl rfl ?_
  refine sS rfl rfl rfl ((op1_cmp rfl rfl rfl rfl).cast (y := (BO ((decide (a0 > a1))))) rfl rfl) ?_
  refine sA rfl rfl rfl rfl rfl (ao_nil ?_)
  change BW _ _ _ _ _
  refine bw_cond rfl ?_ ?_
  ·intro hc2; replace h := ocond_t hc2 h
   refine bR ?_
   refine sA rfl rfl rfl rfl rfl (ao_nil ?_)
   change BW _ _ _ _ _
   refine bw_ret ?_
   change ∃ xs, _ = some xs ∧ EndOk _ _ _ _
   obtain rfl := Option.some.inj h
   exact ⟨_, rfl, endOk0 (y := (I64 1)) (Wk.refl _) rfl ⟨rfl, rfl⟩⟩
  ·intro hc2; replace h := ocond_f hc2 h
   refine bw_skip ?_
   change BW _ _ _ _ _
   refine bR ?_
   refine sA rfl rfl rfl rfl rfl (ao_nil ?_)
   change BW _ _ _ _ _
   refine bw_ret ?_
   change ∃ xs, _ = some xs ∧ EndOk _ _ _ _
   obtain rfl := Option.some.inj h
   exact ⟨_, rfl, endOk0 (y := (I64 0)) (Wk.refl _) rfl ⟨rfl, rfl⟩⟩
noncomputable def p_value_place (a0 : Nat) : Option Int :=
 bif ((shrK .u64 ((a0 : Nat) : Int) 63) == 1) then (
  some (notK .u64 ((a0 : Nat) : Int))
 ) else (
  some (orK .u64 ((a0 : Nat) : Int) 9223372036854775808)
 )
theorem s_value_place (a0 : Nat) (r : Int) (h : p_value_place a0 = some r) : PCalls Try.prog 108 [(PV.v (.float .f64 a0))] (PV.v (.int .u64 r)) := by
 unfold p_value_place at h
 refine acalls_of Try.func108 rfl Try.ntmps108 Try.results108 rfl (aw_of_bw ?_)
 change BW _ _ _ ⟨[(0, (PV.v (.float .f64 a0)))], [], _⟩ _
 refine bR ?_
 refine sA rfl rfl rfl rfl rfl (ao_nil ?_)
 change BW _ _ _ _ _
 refine bR ?_
 refine sM rfl rfl rfl rfl rfl ?_
 refine sS rfl rfl rfl (op1_f64bits rfl rfl) ?_
 refine sA rfl rfl rfl rfl rfl (ao_nil ?_)
 change BW _ _ _ _ _
 refine bw_seq ?_
 refine bR ?_
 refine sM rfl rfl rfl rfl rfl ?_
 refine sS rfl rfl rfl ((op1_shr rfl rfl rfl (by decide)).cast (y := (PV.v (.int .u64 (shrK .u64 ((a0 : Nat) : Int) 63)))) rfl rfl) ?_
 refine sS rfl rfl rfl ((op1_cmp rfl rfl rfl rfl).cast (y := (BO (((shrK .u64 ((a0 : Nat) : Int) 63) == 1)))) rfl rfl) (ao_nil ?_)
 change BW _ _ _ _ _
 refine bw_cond rfl ?_ ?_
 ·intro hc1; replace h := ocond_t hc1 h
  refine bR ?_
  refine sM rfl rfl rfl rfl rfl ?_
  refine sS rfl rfl rfl (op1_xorU rfl rfl) ?_
  refine sA rfl rfl rfl rfl rfl (ao_nil ?_)
  change BW _ _ _ _ _
  refine bw_ret ?_
  change ∃ xs, _ = some xs ∧ EndOk _ _ _ _
  obtain rfl := Option.some.inj h
  exact ⟨_, rfl, endOk0 (y := (PV.v (.int .u64 (notK .u64 ((a0 : Nat) : Int))))) (Wk.refl _) rfl ⟨rfl, rfl⟩⟩
 ·intro hc1; replace h := ocond_f hc1 h
  refine bw_skip ?_
  change BW _ _ _ _ _
  refine bR ?_
  refine sM rfl rfl rfl rfl rfl ?_
  refine sS rfl rfl rfl ((op1_orW rfl rfl rfl).cast (y := (PV.v (.int .u64 (orK .u64 ((a0 : Nat) : Int) 9223372036854775808)))) rfl rfl) ?_
  refine sA rfl rfl rfl rfl rfl (ao_nil ?_)
  change BW _ _ _ _ _
  refine bw_ret ?_
  change ∃ xs, _ = some xs ∧ EndOk _ _ _ _
  obtain rfl := Option.some.inj h
  exact ⟨_, rfl, endOk0 (y := (PV.v (.int .u64 (orK .u64 ((a0 : Nat) : Int) 9223372036854775808)))) (Wk.refl _) rfl ⟨rfl, rfl⟩⟩
noncomputable def p_value_cmp_uint64 (a0 : Int) (a1 : Int) : Option Int :=
 bif (decide (a0 < a1)) then (
  some (-1)
 ) else (
  bif (decide (a0 > a1)) then (
   some 1
  ) else (
   some 0
  )
 )
theorem s_value_cmp_uint64 (a0 : Int) (a1 : Int) (r : Int) (h : p_value_cmp_uint64 a0 a1 = some r) : PCalls Try.prog 107 [(PV.v (.int .u64 a0)), (PV.v (.int .u64 a1))] (I64 r) := by
 unfold p_value_cmp_uint64 at h
 refine acalls_of Try.func107 rfl Try.ntmps107 Try.results107 rfl (aw_of_bw ?_)
 change BW _ _ _ ⟨[(0, (PV.v (.int .u64 a0))), (1, (PV.v (.int .u64 a1)))], [], _⟩ _
 refine bR ?_
 refine sA rfl rfl rfl rfl rfl (ao_nil ?_)
 change BW _ _ _ _ _
 refine bw_seq ?_
 refine bw_block ?_
 change BW _ _ _ _ _
 refine bR ?_
 refine sM rfl rfl rfl rfl rfl ?_
 refine sM rfl rfl rfl rfl rfl ?_
 refine sS rfl rfl rfl ((op1_cmp rfl rfl rfl rfl).cast (y := (BO ((decide (a0 < a1))))) rfl rfl) ?_
 refine sA rfl rfl rfl rfl rfl (ao_nil ?_)
 change BW _ _ _ _ _
 refine bw_cond rfl ?_ ?_
 ·intro hc1; replace h := ocond_t hc1 h
  refine bR ?_
  refine sA rfl rfl rfl rfl rfl (ao_nil ?_)
  change BW _ _ _ _ _
  refine bw_ret ?_
  change ∃ xs, _ = some xs ∧ EndOk _ _ _ _
  obtain rfl := Option.some.inj h
  exact ⟨_, rfl, endOk0 (y := (I64 ((-1)))) (Wk.refl _) rfl ⟨rfl, rfl⟩⟩
 ·intro hc1; replace h := ocond_f hc1 h
  refine bR ?_
  refine sM rfl rfl rfl rfl rfl ?_
  refine sM rfl rfl rfl rfl rfl ?_
  refine sS rfl rfl rfl ((op1_cmp rfl rfl rfl rfl).cast (y := (BO ((decide (a0 > a1))))) rfl rfl) ?_
  refine sA rfl rfl rfl rfl rfl (ao_nil ?_)
  change BW _ _ _ _ _
  refine bw_cond rfl ?_ ?_
  ·intro hc2; replace h := ocond_t hc2 h
   refine bR ?_
   refine sA rfl rfl rfl rfl rfl (ao_nil ?_)
   change BW _ _ _ _ _
   refine bw_ret ?_
   change ∃ xs, _ = some xs ∧ EndOk _ _ _ _
   obtain rfl := Option.some.inj h
   exact ⟨_, rfl, endOk0 (y := (I64 1)) (Wk.refl _) rfl ⟨rfl, rfl⟩⟩
  ·intro hc2; replace h := ocond_f hc2 h
   refine bw_skip ?_
   change BW _ _ _ _ _
   refine bR ?_
   refine sA rfl rfl rfl rfl rfl (ao_nil ?_)
   change BW _ _ _ _ _
   refine bw_ret ?_
   change ∃ xs, _ = some xs ∧ EndOk _ _ _ _
   obtain rfl := Option.some.inj h
   exact ⟨_, rfl, endOk0 (y := (I64 0)) (Wk.refl _) rfl ⟨rfl, rfl⟩⟩
noncomputable def p_value_cmp_string (a0 : Str) (a1 : Str) : Option Int :=
 bif (Op.bytesLess a0 a1) then (
  some (-1)
 ) else (
  bif (!(Op.bytesLess a0 a1 || a0 == a1)) then (
   some 1
  ) else (
   some 0
  )
 )
theorem s_value_cmp_string (a0 : Str) (a1 : Str) (r : Int) (h : p_value_cmp_string a0 a1 = some r) : PCalls Try.prog 109 [(ofStr a0), (ofStr a1)] (I64 r) := by
 unfold p_value_cmp_string at h
 refine acalls_of Try.func109 rfl Try.ntmps109 Try.results109 rfl (aw_of_bw ?_)
 change BW _ _ _ ⟨[(0, (ofStr a0)), (1, (ofStr a1))], [], _⟩ _
 refine bR ?_
 refine sA rfl rfl rfl rfl rfl (ao_nil ?_)
 change BW _ _ _ _ _
 refine bw_seq ?_
 refine bw_block ?_
 change BW _ _ _ _ _
 refine bR ?_
 refine sM rfl rfl rfl rfl rfl ?_
 refine sM rfl rfl rfl rfl rfl ?_
 refine sS rfl rfl rfl ((op1_cmpT (a := a0) (b := a1) rfl rfl rfl rfl).cast (y := (BO ((Op.bytesLess a0 a1)))) rfl rfl) ?_
 refine sA rfl rfl rfl rfl rfl (ao_nil ?_)
 change BW _ _ _ _ _
 refine bw_cond rfl ?_ ?_
 ·intro hc1; replace h := ocond_t hc1 h
  refine bR ?_
  refine sA rfl rfl rfl rfl rfl (ao_nil ?_)
  change BW _ _ _ _ _
  refine bw_ret ?_
  change ∃ xs, _ = some xs ∧ EndOk _ _ _ _
  obtain rfl := Option.some.inj h
  exact ⟨_, rfl, endOk0 (y := (I64 ((-1)))) (Wk.refl _) rfl ⟨rfl, rfl⟩⟩
 ·intro hc1; replace h := ocond_f hc1 h
  refine bR ?_
  refine sM rfl rfl rfl rfl rfl ?_
  refine sM rfl rfl rfl rfl rfl ?_
  refine sS rfl rfl rfl ((op1_cmpT (a := a0) (b := a1) rfl rfl rfl rfl).cast (y := (BO ((!(Op.bytesLess a0 a1 || a0 == a1))))) rfl rfl) ?_
  refine sA rfl rfl rfl rfl rfl (ao_nil ?_)
  change BW _ _ _ _ _
  refine bw_cond rfl ?_ ?_
  ·intro hc2; replace h := ocond_t hc2 h
   refine bR ?_
   refine sA rfl rfl rfl rfl rfl (ao_nil ?_)
   change BW _ _ _ _ _
   refine bw_ret ?_
   change ∃ xs, _ = some xs ∧ EndOk _ _ _ _
   obtain rfl := Option.some.inj h
   exact ⟨_, rfl, endOk0 (y := (I64 1)) (Wk.refl _) rfl ⟨rfl, rfl⟩⟩
  ·intro hc2; replace h := ocond_f hc2 h
   refine bw_skip ?_
   change BW _ _ _ _ _
   refine bR ?_
   refine sA rfl rfl rfl rfl rfl (ao_nil ?_)
   change BW _ _ _ _ _
   refine bw_ret ?_
   change ∃ xs, _ = some xs ∧ EndOk _ _ _ _
   obtain rfl := Option.some.inj h
   exact ⟨_, rfl, endOk0 (y := (I64 0)) (Wk.refl _) rfl ⟨rfl, rfl⟩⟩
noncomputable def p_cmp_isNaN_byte (a0 : UInt8) : Option Bool :=
 some (((a0).toNat : Int) != ((a0).toNat : Int))
theorem s_cmp_isNaN_byte (a0 : UInt8) (r : Bool) (h : p_cmp_isNaN_byte a0 = some r) : PCalls Try.prog 123 [(ofB a0)] (BO r) := by
 unfold p_cmp_isNaN_byte at h
 refine acalls_of Try.func123 rfl Try.ntmps123 Try.results123 rfl (aw_of_bw ?_)
 change BW _ _ _ ⟨[(0, (ofB a0))], [], _⟩ _
 refine bR ?_
 refine sA rfl rfl rfl rfl rfl (ao_nil ?_)
 change BW _ _ _ _ _
 refine bR ?_
 refine sM rfl rfl rfl rfl rfl ?_
 refine sM rfl rfl rfl rfl rfl ?_
 refine sS rfl rfl rfl ((op1_cmp rfl rfl rfl rfl).cast (y := (BO ((((a0).toNat : Int) != ((a0).toNat : Int))))) rfl rfl) ?_
 refine sA rfl rfl rfl rfl rfl (ao_nil ?_)
 change BW _ _ _ _ _
 refine bw_ret ?_
 change ∃ xs, _ = some xs ∧ EndOk _ _ _ _
 obtain rfl := Option.some.inj h
 exact ⟨_, rfl, endOk0 (y := (BO ((((a0).toNat : Int) != ((a0).toNat : Int))))) (Wk.refl _) rfl ⟨rfl, rfl⟩⟩
noncomputable def p_cmp_Compare_byte (a0 : UInt8) (a1 : UInt8) : Option Int :=
 Option.bind (p_cmp_isNaN_byte a0) fun x1 =>
 Option.bind (p_cmp_isNaN_byte a1) fun x2 =>
 bif x1 then (
  bif x2 then (
   some 0
  ) else (
   some (-1)
  )
 ) else (
  bif x2 then (
   some 1
  ) else (
   bif (decide (((a0).toNat : Int) < ((a1).toNat : Int))) then (
    some (-1)
   ) else (
    bif (decide (((a0).toNat : Int) > ((a1).toNat : Int))) then (
     some 1
    ) else (
     some 0
    )
   )
  )
 )
theorem s_cmp_Compare_byte (a0 : UInt8) (a1 : UInt8) (r : Int) (h : p_cmp_Compare_byte a0 a1 = some r) : PCalls Try.prog 120 [(ofB a0), (ofB a1)] (I64 r) := by
 unfold p_cmp_Compare_byte at h
 refine acalls_of Try.func120 rfl Try.ntmps120 Try.results120 rfl (aw_of_bw ?_)
 change BW _ _ _ ⟨[(0, (ofB a0)), (1, (ofB a1))], [], _⟩ _
 refine bR ?_
 refine sA rfl rfl rfl rfl rfl (ao_nil ?_)
 change BW _ _ _ _ _
 refine bR ?_
 refine sM rfl rfl rfl rfl rfl ?_
 obtain ⟨x1, hx1, h⟩ := obind h
 refine sS rfl rfl rfl (op1_pcall rfl en_123 rfl (.cons (Wk.refl _) .nil) ⟨rfl, trivial⟩ (s_cmp_isNaN_byte a0 x1 hx1) rfl) ?_
 refine sA rfl rfl rfl rfl rfl (ao_nil ?_)
 change BW _ _ _ _ _
 refine bR ?_
 refine sM rfl rfl rfl rfl rfl ?_
 obtain ⟨x2, hx2, h⟩ := obind h
 refine sS rfl rfl rfl (op1_pcall rfl en_123 rfl (.cons (Wk.refl _) .nil) ⟨rfl, trivial⟩ (s_cmp_isNaN_byte a1 x2 hx2) rfl) ?_
 refine sA rfl rfl rfl rfl rfl (ao_nil ?_)
 change BW _ _ _ _ _
 refine bw_seq ?_
 refine bR ?_
 refine sM rfl rfl rfl rfl rfl (ao_nil ?_)
 change BW _ _ _ _ _
 refine bw_cond rfl ?_ ?_
 ·intro hc3; replace h := ocond_t hc3 h
  refine bw_seq ?_
  refine bR ?_
  refine sM rfl rfl rfl rfl rfl (ao_nil ?_)
  change BW _ _ _ _ _
  refine bw_cond rfl ?_ ?_
  ·intro hc4; replace h := ocond_t hc4 h
   refine bR ?_
   refine sA rfl rfl rfl rfl rfl (ao_nil ?_)
   change BW _ _ _ _ _
   refine bw_ret ?_
   change ∃ xs, _ = some xs ∧ EndOk _ _ _ _
   obtain rfl := Option.some.inj h
   exact ⟨_, rfl, endOk0 (y := (I64 0)) (Wk.refl _) rfl ⟨rfl, rfl⟩⟩
  ·intro hc4; replace h := ocond_f hc4 h
   refine bw_skip ?_
   change BW _ _ _ _ _
   refine bR ?_
   refine sA rfl rfl rfl rfl rfl (ao_nil ?_)
   change BW _ _ _ _ _
   refine bw_ret ?_
   change ∃ xs, _ = some xs ∧ EndOk _ _ _ _
   obtain rfl := Option.some.inj h
   exact ⟨_, rfl, endOk0 (y := (I64 ((-1)))) (Wk.refl _) rfl ⟨rfl, rfl⟩⟩
 ·intro hc3; replace h := ocond_f hc3 h
  refine bw_skip ?_
  change BW _ _ _ _ _
  refine bw_seq ?_
  refine bR ?_
  refine sM rfl rfl rfl rfl rfl (ao_nil ?_)
  change BW _ _ _ _ _
  refine bw_cond rfl ?_ ?_
  ·intro hc5; replace h := ocond_t hc5 h
   refine bR ?_
   refine sA rfl rfl rfl rfl rfl (ao_nil ?_)
   change BW _ _ _ _ _
   refine bw_ret ?_
   change ∃ xs, _ = some xs ∧ EndOk _ _ _ _
   obtain rfl := Option.some.inj h
   exact ⟨_, rfl, endOk0 (y := (I64 1)) (Wk.refl _) rfl ⟨rfl, rfl⟩⟩
  ·intro hc5; replace h := ocond_f hc5 h
   refine bw_skip ?_
   change BW _ _ _ _ _
   refine bw_seq ?_
   refine bR ?_
   refine sM rfl rfl rfl rfl rfl ?_
   refine sM rfl rfl rfl rfl rfl ?_
   refine sS rfl rfl rfl ((op1_cmp rfl rfl rfl rfl).cast (y := (BO ((decide (((a0).toNat : Int) < ((a1).toNat : Int)))))) rfl rfl) (ao_nil ?_)
   change BW _ _ _ _ _
   refine bw_cond rfl ?_ ?_
   ·intro hc6; replace h := ocond_t hc6 h
    refine bR ?_
    refine sA rfl rfl rfl rfl rfl (ao_nil ?_)
    change BW _ _ _ _ _
    refine bw_ret ?_
    change ∃ xs, _ = some xs ∧ EndOk _ _ _ _
    obtain rfl := Option.some.inj h
    exact ⟨_, rfl, endOk0 (y := (I64 ((-1)))) (Wk.refl _) rfl ⟨rfl, rfl⟩⟩
   ·intro hc6; replace h := ocond_f hc6 h
    refine bw_skip ?_
    change BW _ _ _ _ _
    refine bw_seq ?_
    refine bR ?_
    refine sM rfl rfl rfl rfl rfl ?_
    refine sM rfl rfl rfl rfl rfl ?_
    refine sS rfl rfl rfl ((op1_cmp rfl rfl rfl rfl).cast (y := (BO ((decide (((a0).toNat : Int) > ((a1).toNat : Int)))))) rfl rfl) (ao_nil ?_)
    change BW _ _ _ _ _
    refine bw_cond rfl ?_ ?_
    ·intro hc7; replace h := ocond_t hc7 h
     refine bR ?_
     refine sA rfl rfl rfl rfl rfl (ao_nil ?_)
     change BW _ _ _ _ _
     refine bw_ret ?_
     change ∃ xs, _ = some xs ∧ EndOk _ _ _ _
     obtain rfl := Option.some.inj h
     exact ⟨_, rfl, endOk0 (y := (I64 1)) (Wk.refl _) rfl ⟨rfl, rfl⟩⟩
    ·intro hc7; replace h := ocond_f hc7 h
     refine bw_skip ?_
     change BW _ _ _ _ _
     refine bR ?_
     refine sA rfl rfl rfl rfl rfl (ao_nil ?_)
     change BW _ _ _ _ _
     refine bw_ret ?_
     change ∃ xs, _ = some xs ∧ EndOk _ _ _ _
     obtain rfl := Option.some.inj h
     exact ⟨_, rfl, endOk0 (y := (I64 0)) (Wk.refl _) rfl ⟨rfl, rfl⟩⟩
end Go.Proofs.Ytiapdjdhaclmnaa
