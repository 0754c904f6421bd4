/- Pure functions, and that calls answer as they say. Written by gen.py. -/
import Derived.Test.YtiapdjdhaclmnaaG0
namespace Go.Proofs.Ytiapdjdhaclmnaa
open Go Aw
set_option linter.unusedVariables false
set_option linter.unusedSimpArgs false
set_option maxRecDepth 20000
set_option maxHeartbeats 2000000
noncomputable def value_count_all_l1b (r_value_count_part : S_value_count → V → Int → Option (Bool × S_value_count)) (a1 : (List (Str × V))) (a2 : Int) (g1 : Nat → Int → Int → Int → Option (Bool × S_value_count)) (s1 : Nat) (s2 : Int) (s3 : Int) (s4 : Int) : Option (Bool × S_value_count) :=
 bif (decide (((s1 : Nat) : Int) < (((a1).length : Nat) : Int))) then (
  Option.bind ((a1)[s1]?) fun x7 =>
  Option.bind (r_value_count_part (S_value_count.mk s2 s3 s4) x7.2 (IntKind.i64.wrap (a2 + 1))) fun x8 =>
  bif (!x8.1) then (
   some (false, (x8.2))
  ) else (
   g1 (s1 + 1) ((x8.2).f_n) ((x8.2).f_deep) ((x8.2).f_why)
  )
 ) else (
  some (true, (S_value_count.mk s2 s3 s4))
 )
theorem value_count_all_l1b_cm {ι : Type} {ρ : ι → Type} (r_value_count_part : (∀ i, Option (ρ i)) → S_value_count → V → Int → Option (Bool × S_value_count)) (h_r_value_count_part : ∀ y0 y1 y2, CM (fun G => r_value_count_part G y0 y1 y2)) (g1 : (∀ i, Option (ρ i)) → Nat → Int → Int → Int → Option (Bool × S_value_count)) (h_g1 : ∀ y0 y1 y2 y3, CM (fun G => g1 G y0 y1 y2 y3)) (a1 : (List (Str × V))) (a2 : Int) (s1 : Nat) (s2 : Int) (s3 : Int) (s4 : Int) : CM (fun G : (∀ i, Option (ρ i)) => value_count_all_l1b (r_value_count_part G) a1 a2 (g1 G) s1 s2 s3 s4) := by
 simp only [value_count_all_l1b]
 repeat (first | exact cm_const | exact h_r_value_count_part _ _ _ | exact h_g1 _ _ _ _ | refine cm_cond ?_ ?_ | refine cm_bind ?_ (fun _ => ?_))
noncomputable def value_count_all_l1 (r_value_count_part : S_value_count → V → Int → Option (Bool × S_value_count)) (a1 : (List (Str × V))) (a2 : Int) (s1 : Nat) (s2 : Int) (s3 : Int) (s4 : Int) : Option (Bool × S_value_count) :=
 fixO (ι := (Nat × Int × Int × Int)) (ρ := fun _ => (Bool × S_value_count)) (fun g i => value_count_all_l1b r_value_count_part a1 a2 (fun s1 s2 s3 s4 => g (s1, s2, s3, s4)) i.1 i.2.1 i.2.2.1 i.2.2.2) (s1, s2, s3, s4)
theorem value_count_all_l1_eq (r_value_count_part : S_value_count → V → Int → Option (Bool × S_value_count)) (a1 : (List (Str × V))) (a2 : Int) (s1 : Nat) (s2 : Int) (s3 : Int) (s4 : Int) : value_count_all_l1 r_value_count_part a1 a2 s1 s2 s3 s4 = value_count_all_l1b r_value_count_part a1 a2 (value_count_all_l1 r_value_count_part a1 a2) s1 s2 s3 s4 :=
 fixO_eq (ι := (Nat × Int × Int × Int)) (ρ := fun _ => (Bool × S_value_count)) (Φ := fun g i => value_count_all_l1b r_value_count_part a1 a2 (fun s1 s2 s3 s4 => g (s1, s2, s3, s4)) i.1 i.2.1 i.2.2.1 i.2.2.2) (fun i => value_count_all_l1b_cm (ι := (Nat × Int × Int × Int)) (ρ := fun _ => (Bool × S_value_count)) (fun _ => r_value_count_part) (fun _ _ _ => cm_const) (fun g => (fun s1 s2 s3 s4 => g (s1, s2, s3, s4))) (fun _ _ _ _ => cm_app) a1 a2 i.1 i.2.1 i.2.2.1 i.2.2.2) (s1, s2, s3, s4)
theorem value_count_all_l1_cm {ι : Type} {ρ : ι → Type} (r_value_count_part : (∀ i, Option (ρ i)) → S_value_count → V → Int → Option (Bool × S_value_count)) (h_r_value_count_part : ∀ y0 y1 y2, CM (fun G => r_value_count_part G y0 y1 y2)) (a1 : (List (Str × V))) (a2 : Int) (s1 : Nat) (s2 : Int) (s3 : Int) (s4 : Int) : CM (fun G : (∀ i, Option (ρ i)) => value_count_all_l1 (r_value_count_part G) a1 a2 s1 s2 s3 s4) :=
 cm_fix (κ := (Nat × Int × Int × Int)) (τ := fun _ => (Bool × S_value_count)) (Φ := fun G g i => value_count_all_l1b (r_value_count_part G) a1 a2 (fun s1 s2 s3 s4 => g (s1, s2, s3, s4)) i.1 i.2.1 i.2.2.1 i.2.2.2) (fun g i => value_count_all_l1b_cm r_value_count_part h_r_value_count_part (fun _ => (fun s1 s2 s3 s4 => g (s1, s2, s3, s4))) (fun _ _ _ _ => cm_const) a1 a2 i.1 i.2.1 i.2.2.1 i.2.2.2) (fun G i => value_count_all_l1b_cm (ι := (Nat × Int × Int × Int)) (ρ := fun _ => (Bool × S_value_count)) (fun _ => r_value_count_part G) (fun _ _ _ => cm_const) (fun g => (fun s1 s2 s3 s4 => g (s1, s2, s3, s4))) (fun _ _ _ _ => cm_app) a1 a2 i.1 i.2.1 i.2.2.1 i.2.2.2) (s1, s2, s3, s4)
noncomputable def b_value_count_all (r_value_count_all : S_value_count → (List (Str × V)) → Int → Option (Bool × S_value_count)) (r_value_count_part : S_value_count → V → Int → Option (Bool × S_value_count)) (a0 : S_value_count) (a1 : (List (Str × V))) (a2 : Int) : Option (Bool × S_value_count) :=
 value_count_all_l1 r_value_count_part a1 a2 0 a0.f_n a0.f_deep a0.f_why
theorem b_value_count_all_cm {ι : Type} {ρ : ι → Type} (r_value_count_all : (∀ i, Option (ρ i)) → S_value_count → (List (Str × V)) → Int → Option (Bool × S_value_count)) (h_r_value_count_all : ∀ y0 y1 y2, CM (fun G => r_value_count_all G y0 y1 y2)) (r_value_count_part : (∀ i, Option (ρ i)) → S_value_count → V → Int → Option (Bool × S_value_count)) (h_r_value_count_part : ∀ y0 y1 y2, CM (fun G => r_value_count_part G y0 y1 y2)) (a0 : S_value_count) (a1 : (List (Str × V))) (a2 : Int) : CM (fun G : (∀ i, Option (ρ i)) => b_value_count_all (r_value_count_all G) (r_value_count_part G) a0 a1 a2) := by
 simp only [b_value_count_all]
 repeat (first | exact cm_const | exact h_r_value_count_all _ _ _ | exact h_r_value_count_part _ _ _ | apply value_count_all_l1_cm | refine cm_cond ?_ ?_ | refine cm_bind ?_ (fun _ => ?_) | intro _ | assumption)
noncomputable def value_count_part_j1 (s3 : Int) (s4 : Int) (s5 : Int) : Option (Bool × S_value_count) :=
 some (true, (S_value_count.mk s3 s4 s5))
noncomputable def value_count_part_l1b (r_value_count_part : S_value_count → V → Int → Option (Bool × S_value_count)) (a1 : V) (a2 : Int) (g1 : Nat → Int → Int → Int → Option (Bool × S_value_count)) (s7 : Nat) (s8 : Int) (s9 : Int) (s10 : Int) : Option (Bool × S_value_count) :=
 bif (decide (((s7 : Nat) : Int) < ((((a1).asList).length : Nat) : Int))) then (
  Option.bind (((a1).asList)[s7]?) fun x13 =>
  Option.bind (r_value_count_part (S_value_count.mk s8 s9 s10) x13 (IntKind.i64.wrap (a2 + 1))) fun x14 =>
  bif (!x14.1) then (
   some (false, (x14.2))
  ) else (
   g1 (s7 + 1) ((x14.2).f_n) ((x14.2).f_deep) ((x14.2).f_why)
  )
 ) else (
  value_count_part_j1 s8 s9 s10
 )
theorem value_count_part_l1b_cm {ι : Type} {ρ : ι → Type} (r_value_count_part : (∀ i, Option (ρ i)) → S_value_count → V → Int → Option (Bool × S_value_count)) (h_r_value_count_part : ∀ y0 y1 y2, CM (fun G => r_value_count_part G y0 y1 y2)) (g1 : (∀ i, Option (ρ i)) → Nat → Int → Int → Int → Option (Bool × S_value_count)) (h_g1 : ∀ y0 y1 y2 y3, CM (fun G => g1 G y0 y1 y2 y3)) (a1 : V) (a2 : Int) (s7 : Nat) (s8 : Int) (s9 : Int) (s10 : Int) : CM (fun G : (∀ i, Option (ρ i)) => value_count_part_l1b (r_value_count_part G) a1 a2 (g1 G) s7 s8 s9 s10) := by
 simp only [value_count_part_l1b]
 repeat (first | exact cm_const | exact h_r_value_count_part _ _ _ | exact h_g1 _ _ _ _ | apply value_count_part_j1_cm | refine cm_cond ?_ ?_ | refine cm_bind ?_ (fun _ => ?_) | intro _ | assumption)
noncomputable def value_count_part_l1 (r_value_count_part : S_value_count → V → Int → Option (Bool × S_value_count)) (a1 : V) (a2 : Int) (s7 : Nat) (s8 : Int) (s9 : Int) (s10 : Int) : Option (Bool × S_value_count) :=
 fixO (ι := (Nat × Int × Int × Int)) (ρ := fun _ => (Bool × S_value_count)) (fun g i => value_count_part_l1b r_value_count_part a1 a2 (fun s7 s8 s9 s10 => g (s7, s8, s9, s10)) i.1 i.2.1 i.2.2.1 i.2.2.2) (s7, s8, s9, s10)
theorem value_count_part_l1_eq (r_value_count_part : S_value_count → V → Int → Option (Bool × S_value_count)) (a1 : V) (a2 : Int) (s7 : Nat) (s8 : Int) (s9 : Int) (s10 : Int) : value_count_part_l1 r_value_count_part a1 a2 s7 s8 s9 s10 = value_count_part_l1b r_value_count_part a1 a2 (value_count_part_l1 r_value_count_part a1 a2) s7 s8 s9 s10 :=
 fixO_eq (ι := (Nat × Int × Int × Int)) (ρ := fun _ => (Bool × S_value_count)) (Φ := fun g i => value_count_part_l1b r_value_count_part a1 a2 (fun s7 s8 s9 s10 => g (s7, s8, s9, s10)) i.1 i.2.1 i.2.2.1 i.2.2.2) (fun i => value_count_part_l1b_cm (ι := (Nat × Int × Int × Int)) (ρ := fun _ => (Bool × S_value_count)) (fun _ => r_value_count_part) (fun _ _ _ => cm_const) (fun g => (fun s7 s8 s9 s10 => g (s7, s8, s9, s10))) (fun _ _ _ _ => cm_app) a1 a2 i.1 i.2.1 i.2.2.1 i.2.2.2) (s7, s8, s9, s10)
theorem value_count_part_l1_cm {ι : Type} {ρ : ι → Type} (r_value_count_part : (∀ i, Option (ρ i)) → S_value_count → V → Int → Option (Bool × S_value_count)) (h_r_value_count_part : ∀ y0 y1 y2, CM (fun G => r_value_count_part G y0 y1 y2)) (a1 : V) (a2 : Int) (s7 : Nat) (s8 : Int) (s9 : Int) (s10 : Int) : CM (fun G : (∀ i, Option (ρ i)) => value_count_part_l1 (r_value_count_part G) a1 a2 s7 s8 s9 s10) :=
 cm_fix (κ := (Nat × Int × Int × Int)) (τ := fun _ => (Bool × S_value_count)) (Φ := fun G g i => value_count_part_l1b (r_value_count_part G) a1 a2 (fun s7 s8 s9 s10 => g (s7, s8, s9, s10)) i.1 i.2.1 i.2.2.1 i.2.2.2) (fun g i => value_count_part_l1b_cm r_value_count_part h_r_value_count_part (fun _ => (fun s7 s8 s9 s10 => g (s7, s8, s9, s10))) (fun _ _ _ _ => cm_const) a1 a2 i.1 i.2.1 i.2.2.1 i.2.2.2) (fun G i => value_count_part_l1b_cm (ι := (Nat × Int × Int × Int)) (ρ := fun _ => (Bool × S_value_count)) (fun _ => r_value_count_part G) (fun _ _ _ => cm_const) (fun g => (fun s7 s8 s9 s10 => g (s7, s8, s9, s10))) (fun _ _ _ _ => cm_app) a1 a2 i.1 i.2.1 i.2.2.1 i.2.2.2) (s7, s8, s9, s10)
noncomputable def b_value_count_part (r_value_count_all : S_value_count → (List (Str × V)) → Int → Option (Bool × S_value_count)) (r_value_count_part : S_value_count → V → Int → Option (Bool × S_value_count)) (a0 : S_value_count) (a1 : V) (a2 : Int) : Option (Bool × S_value_count) :=
 Option.bind (p_value_own a1 a0.f_n a2) fun x1 =>
 bif (x1 != 0) then (
  some (false, (S_value_count.mk a0.f_n a0.f_deep x1))
 ) else (
  bif (a1).isList then (
   value_count_part_l1 r_value_count_part a1 a2 0 (IntKind.i64.wrap (a0.f_n + 1)) (if a2 > a0.f_deep then a2 else a0.f_deep) x1
  ) else (
   bif (a1).isDict then (
    Option.bind (r_value_count_all (S_value_count.mk (IntKind.i64.wrap (a0.f_n + 1)) (if a2 > a0.f_deep then a2 else a0.f_deep) x1) ((a1).asDict) a2) fun x17 =>
    some (x17.1, (x17.2))
   ) else (
    bif (a1).isRec then (
     Option.bind ((a1).asRec) fun x19 =>
     Option.bind (r_value_count_all (S_value_count.mk (IntKind.i64.wrap (a0.f_n + 1)) (if a2 > a0.f_deep then a2 else a0.f_deep) x1) x19.fields a2) fun x20 =>
     some (x20.1, (x20.2))
    ) else (
     value_count_part_j1 (IntKind.i64.wrap (a0.f_n + 1)) (if a2 > a0.f_deep then a2 else a0.f_deep) x1
    )
   )
  )
 )
theorem b_value_count_part_cm {ι : Type} {ρ : ι → Type} (r_value_count_all : (∀ i, Option (ρ i)) → S_value_count → (List (Str × V)) → Int → Option (Bool × S_value_count)) (h_r_value_count_all : ∀ y0 y1 y2, CM (fun G => r_value_count_all G y0 y1 y2)) (r_value_count_part : (∀ i, Option (ρ i)) → S_value_count → V → Int → Option (Bool × S_value_count)) (h_r_value_count_part : ∀ y0 y1 y2, CM (fun G => r_value_count_part G y0 y1 y2)) (a0 : S_value_count) (a1 : V) (a2 : Int) : CM (fun G : (∀ i, Option (ρ i)) => b_value_count_part (r_value_count_all G) (r_value_count_part G) a0 a1 a2) := by
 simp only [b_value_count_part]
 repeat (first | exact cm_const | exact h_r_value_count_all _ _ _ | exact h_r_value_count_part _ _ _ | apply value_count_part_j1_cm | apply value_count_part_l1_cm | refine cm_cond ?_ ?_ | refine cm_bind ?_ (fun _ => ?_) | intro _ | assumption)
inductive C_value_count_all where
 | k_value_count_all (a0 : S_value_count) (a1 : (List (Str × V))) (a2 : Int)
 | k_value_count_part (a0 : S_value_count) (a1 : V) (a2 : Int)
def C_value_count_all.R : C_value_count_all → Type
 | .k_value_count_all _ _ _ => (Bool × S_value_count)
 | .k_value_count_part _ _ _ => (Bool × S_value_count)
noncomputable def C_value_count_all.F (g : ∀ i : C_value_count_all, Option i.R) : ∀ i : C_value_count_all, Option i.R
 | .k_value_count_all a0 a1 a2 => b_value_count_all (fun a0 a1 a2 => g (.k_value_count_all a0 a1 a2)) (fun a0 a1 a2 => g (.k_value_count_part a0 a1 a2)) a0 a1 a2
 | .k_value_count_part a0 a1 a2 => b_value_count_part (fun a0 a1 a2 => g (.k_value_count_all a0 a1 a2)) (fun a0 a1 a2 => g (.k_value_count_part a0 a1 a2)) a0 a1 a2
noncomputable def p_value_count_all (a0 : S_value_count) (a1 : (List (Str × V))) (a2 : Int) : Option (Bool × S_value_count) := fixO C_value_count_all.F (.k_value_count_all a0 a1 a2)
noncomputable def p_value_count_part (a0 : S_value_count) (a1 : V) (a2 : Int) : Option (Bool × S_value_count) := fixO C_value_count_all.F (.k_value_count_part a0 a1 a2)
theorem C_value_count_all.cm (i : C_value_count_all) : CM (fun g : (∀ i : C_value_count_all, Option i.R) => C_value_count_all.F g i) := by
 cases i with
 | k_value_count_all a0 a1 a2 => exact b_value_count_all_cm (fun (g : ∀ i : C_value_count_all, Option i.R) a0 a1 a2 => g (.k_value_count_all a0 a1 a2)) (fun a0 a1 a2 => cm_app (i := C_value_count_all.k_value_count_all a0 a1 a2)) (fun (g : ∀ i : C_value_count_all, Option i.R) a0 a1 a2 => g (.k_value_count_part a0 a1 a2)) (fun a0 a1 a2 => cm_app (i := C_value_count_all.k_value_count_part a0 a1 a2)) a0 a1 a2
 | k_value_count_part a0 a1 a2 => exact b_value_count_part_cm (fun (g : ∀ i : C_value_count_all, Option i.R) a0 a1 a2 => g (.k_value_count_all a0 a1 a2)) (fun a0 a1 a2 => cm_app (i := C_value_count_all.k_value_count_all a0 a1 a2)) (fun (g : ∀ i : C_value_count_all, Option i.R) a0 a1 a2 => g (.k_value_count_part a0 a1 a2)) (fun a0 a1 a2 => cm_app (i := C_value_count_all.k_value_count_part a0 a1 a2)) a0 a1 a2
theorem e_value_count_all (a0 : S_value_count) (a1 : (List (Str × V))) (a2 : Int) : p_value_count_all a0 a1 a2 = b_value_count_all p_value_count_all p_value_count_part a0 a1 a2 := fixO_eq C_value_count_all.cm (.k_value_count_all a0 a1 a2)
theorem e_value_count_part (a0 : S_value_count) (a1 : V) (a2 : Int) : p_value_count_part a0 a1 a2 = b_value_count_part p_value_count_all p_value_count_part a0 a1 a2 := fixO_eq C_value_count_all.cm (.k_value_count_part a0 a1 a2)
def C_value_count_all.Q : ∀ i : C_value_count_all, i.R → Prop
 | .k_value_count_all a0 a1 a2 => fun (r : (Bool × S_value_count)) => BCalls Try.prog 118 [(PV.rf 0 0), (PV.sl none 2 (List.map ofFld a1)), (I64 a2)] (.box 148 [(I64 a0.f_n), (I64 a0.f_deep), (I64 a0.f_why)]) (BO r.1) (.box 148 [(I64 ((r.2).f_n)), (I64 ((r.2).f_deep)), (I64 ((r.2).f_why))])
 | .k_value_count_part a0 a1 a2 => fun (r : (Bool × S_value_count)) => BCalls Try.prog 98 [(PV.rf 0 0), (ofV a1), (I64 a2)] (.box 148 [(I64 a0.f_n), (I64 a0.f_deep), (I64 a0.f_why)]) (BO r.1) (.box 148 [(I64 ((r.2).f_n)), (I64 ((r.2).f_deep)), (I64 ((r.2).f_why))])
theorem t_value_count_all (r_value_count_all : S_value_count → (List (Str × V)) → Int → Option (Bool × S_value_count)) (c_value_count_all : ∀ (a0 : S_value_count) (a1 : (List (Str × V))) (a2 : Int) r, r_value_count_all a0 a1 a2 = some r → BCalls Try.prog 118 [(PV.rf 0 0), (PV.sl none 2 (List.map ofFld a1)), (I64 a2)] (.box 148 [(I64 a0.f_n), (I64 a0.f_deep), (I64 a0.f_why)]) (BO r.1) (.box 148 [(I64 ((r.2).f_n)), (I64 ((r.2).f_deep)), (I64 ((r.2).f_why))])) (r_value_count_part : S_value_count → V → Int → Option (Bool × S_value_count)) (c_value_count_part : ∀ (a0 : S_value_count) (a1 : V) (a2 : Int) r, r_value_count_part a0 a1 a2 = some r → BCalls Try.prog 98 [(PV.rf 0 0), (ofV a1), (I64 a2)] (.box 148 [(I64 a0.f_n), (I64 a0.f_deep), (I64 a0.f_why)]) (BO r.1) (.box 148 [(I64 ((r.2).f_n)), (I64 ((r.2).f_deep)), (I64 ((r.2).f_why))])) (a0 : S_value_count) (a1 : (List (Str × V))) (a2 : Int) (r : (Bool × S_value_count)) (h : b_value_count_all r_value_count_all r_value_count_part a0 a1 a2 = some r) : BCalls Try.prog 118 [(PV.rf 0 0), (PV.sl none 2 (List.map ofFld a1)), (I64 a2)] (.box 148 [(I64 a0.f_n), (I64 a0.f_deep), (I64 a0.f_why)]) (BO r.1) (.box 148 [(I64 ((r.2).f_n)), (I64 ((r.2).f_deep)), (I64 ((r.2).f_why))]) := by
 unfold b_value_count_all at h
 refine acalls_of Try.func118 rfl Try.ntmps118 Try.results118 rfl (aw_of_bw ?_)
 change BW _ _ _ ⟨[(0, (PV.rf 0 0)), (1, (PV.sl none 2 (List.map ofFld a1))), (2, (I64 a2))], [.box 148 [(I64 a0.f_n), (I64 a0.f_deep), (I64 a0.f_why)]], _⟩ _
 refine bR ?_
 refine sA rfl rfl rfl rfl rfl (ao_nil ?_)
 change BW _ _ _ _ _
 refine bw_seq ?_
 refine bR ?_
 refine sM rfl rfl rfl rfl rfl ?_
 refine sS rfl rfl rfl (op1_lenM Try.underlying45 rfl rfl) ?_
 refine sM rfl rfl rfl rfl rfl (ao_nil ?_)
 change BW _ _ _ _ _
 refine bw_block ?_
 change BW _ _ _ _ _
 unfold value_count_all_l1 at h
 refine bw_loop (σ := (Nat × Int × Int × Int)) (fun i => [(0, (PV.rf 0 0)), (2, (I64 a2)), (9, (PV.sl none 2 (List.map ofFld a1))), (10, (I64 ((((a1).length : Nat) : Int)))), (11, (I64 (((i.1 : Nat) : Int))))]) (fun i => [.box 148 [(I64 i.2.1), (I64 i.2.2.1), (I64 i.2.2.2)]]) (0, a0.f_n, a0.f_deep, a0.f_why) h ?_ ?_ ?_
 ·intro i; exact ⟨Nat.le_of_ble_eq_true rfl, ⟨(il_rf rfl), ⟨(il_nil rfl), ⟨(il_nil (ids_slM ids_Fld _)), ⟨(il_nil rfl), ⟨(il_nil rfl), trivial⟩⟩⟩⟩⟩, ⟨⟨(il_nil rfl), ⟨(il_nil rfl), ⟨(il_nil rfl), trivial⟩⟩⟩, trivial⟩⟩
 ·exact ⟨(.cons .same .nil), (sC rfl (sC rfl (sC rfl (sC rfl (sC rfl sub_nil)))))⟩
 ·rintro g1_f ⟨s1, s2, s3, s4⟩ h; replace h : value_count_all_l1b r_value_count_part a1 a2 (fun y0 y1 y2 y3 => g1_f (y0, y1, y2, y3)) s1 s2 s3 s4 = some r := h; unfold value_count_all_l1b at h
  change BW _ _ _ ⟨[(0, (PV.rf 0 0)), (2, (I64 a2)), (9, (PV.sl none 2 (List.map ofFld a1))), (10, (I64 ((((a1).length : Nat) : Int)))), (11, (I64 (((s1 : Nat) : Int))))], [.box 148 [(I64 s2), (I64 s3), (I64 s4)]], _⟩ _
  refine bR ?_
  refine sS rfl rfl rfl ((op1_cmp rfl rfl rfl rfl).cast (y := (BO ((decide (((s1 : Nat) : Int) < (((a1).length : Nat) : Int)))))) rfl rfl) (ao_nil ?_)
  change BW _ _ _ _ _
  refine bw_seq ?_
  refine bw_len (t := 9) rfl fun hb6 => ?_
  try rw [List.length_map] at hb6
  refine bw_cond rfl ?_ ?_
  ·intro hc5; replace h := ocond_t hc5 h
   have hc5_ := of_decide_eq_true hc5
   refine bw_skip ?_
   change BW _ _ _ _ _
   refine bw_seq ?_
   refine bw_block ?_
   change BW _ _ _ _ _
   refine bR ?_
   obtain ⟨x7, hx7, h⟩ := obind h
   refine sS rfl rfl rfl (op1_idxN (i := s1) Try.underlying45 inf_43 rfl rfl rfl hx7 rfl) ?_
   refine sS rfl rfl rfl (op1_ldPW inf_43 Try.underlying43 rfl rfl rfl rfl rfl) ?_
   refine sS rfl rfl rfl (op1_alloc inf_43 rfl) ?_
   refine ao_step0 rfl rfl (op1_store inf_43 rfl rfl rfl rfl rfl rfl (Nat.le_of_ble_eq_true rfl) (by show List.all [(ofStr x7.1), (ofV x7.2)] one1 = true; simp only [List.all_cons, List.all_nil, one_V, one_RecP, Bool.and_true, Bool.true_and]; try rfl)) ?_
   refine ao_nil ?_
   change BW _ _ _ _ _
   refine bR ?_
   refine sM rfl rfl rfl rfl rfl ?_
   refine sS rfl rfl rfl (op1_faR st_43 (i := 1) rfl rfl rfl) ?_
   refine sS rfl rfl rfl ((op1_ldR Try.underlying20 rfl rfl rfl rfl rfl)) ?_
   refine sM rfl rfl rfl rfl rfl ?_
   refine sS rfl rfl rfl (op1_addW rfl rfl rfl) ?_
   obtain ⟨x8, hx8, h⟩ := obind h
   refine sS rfl rfl rfl (op1_bcall 0 rfl en_98 rfl (.cons (Wk.refl _) (.cons (Wk.refl _) (.cons (Wk.refl _) .nil))) (.box (.val (ids_V x7.2) (.val rfl .nil))) rfl (idsL_cons rfl (idsL_cons rfl (idsL_cons rfl rfl))) (c_value_count_part (S_value_count.mk s2 s3 s4) x7.2 (IntKind.i64.wrap (a2 + 1)) x8 hx8) rfl (idsL_cons rfl (idsL_cons rfl (idsL_cons rfl rfl)))) ?_
   refine sS rfl rfl rfl (op1_not rfl rfl) (ao_nil ?_)
   change BW _ _ _ _ _
   refine bw_cond rfl ?_ ?_
   ·intro hc9; replace h := ocond_t hc9 h
    refine bR ?_
    refine sA rfl rfl rfl rfl rfl (ao_nil ?_)
    change BW _ _ _ _ _
    refine bw_ret ?_
    change ∃ xs, _ = some xs ∧ EndOk _ _ _ _
    obtain rfl := Option.some.inj h
    exact ⟨_, rfl, endOk1 (y := (BO false)) (e := .box 148 [(I64 (((x8.2)).f_n)), (I64 (((x8.2)).f_deep)), (I64 (((x8.2)).f_why))]) (Wk.refl _) rfl rfl (idsL_cons rfl (idsL_cons rfl (idsL_cons rfl rfl))) ⟨rfl, rfl⟩⟩
   ·intro hc9; replace h := ocond_f hc9 h
    refine bw_skip ?_
    change BW _ _ _ _ _
    refine bw_region ?_
    refine sS rfl rfl rfl (op1_incN (k := s1) (c := 1) rfl rfl rfl (by omega)) ?_
    refine sM rfl rfl rfl rfl rfl (ao_nil ?_)
    exact ⟨rfl, ((s1 + 1), (x8.2).f_n, (x8.2).f_deep, (x8.2).f_why), h, ⟨(.cons .same .nil), (sC rfl (sC rfl (sC rfl (sC rfl (sC rfl sub_nil)))))⟩⟩
  ·intro hc5; replace h := ocond_f hc5 h
   refine bw_exit ?_
   change BW _ _ _ _ _
   refine bR ?_
   refine sA rfl rfl rfl rfl rfl (ao_nil ?_)
   change BW _ _ _ _ _
   refine bw_ret ?_
   change ∃ xs, _ = some xs ∧ EndOk _ _ _ _
   obtain rfl := Option.some.inj h
   exact ⟨_, rfl, endOk1 (y := (BO true)) (e := .box 148 [(I64 (((S_value_count.mk s2 s3 s4)).f_n)), (I64 (((S_value_count.mk s2 s3 s4)).f_deep)), (I64 (((S_value_count.mk s2 s3 s4)).f_why))]) (Wk.refl _) rfl rfl (idsL_cons rfl (idsL_cons rfl (idsL_cons rfl rfl))) ⟨rfl, rfl⟩⟩
theorem t_value_count_part (r_value_count_all : S_value_count → (List (Str × V)) → Int → Option (Bool × S_value_count)) (c_value_count_all : ∀ (a0 : S_value_count) (a1 : (List (Str × V))) (a2 : Int) r, r_value_count_all a0 a1 a2 = some r → BCalls Try.prog 118 [(PV.rf 0 0), (PV.sl none 2 (List.map ofFld a1)), (I64 a2)] (.box 148 [(I64 a0.f_n), (I64 a0.f_deep), (I64 a0.f_why)]) (BO r.1) (.box 148 [(I64 ((r.2).f_n)), (I64 ((r.2).f_deep)), (I64 ((r.2).f_why))])) (r_value_count_part : S_value_count → V → Int → Option (Bool × S_value_count)) (c_value_count_part : ∀ (a0 : S_value_count) (a1 : V) (a2 : Int) r, r_value_count_part a0 a1 a2 = some r → BCalls Try.prog 98 [(PV.rf 0 0), (ofV a1), (I64 a2)] (.box 148 [(I64 a0.f_n), (I64 a0.f_deep), (I64 a0.f_why)]) (BO r.1) (.box 148 [(I64 ((r.2).f_n)), (I64 ((r.2).f_deep)), (I64 ((r.2).f_why))])) (a0 : S_value_count) (a1 : V) (a2 : Int) (r : (Bool × S_value_count)) (h : b_value_count_part r_value_count_all r_value_count_part a0 a1 a2 = some r) : BCalls Try.prog 98 [(PV.rf 0 0), (ofV a1), (I64 a2)] (.box 148 [(I64 a0.f_n), (I64 a0.f_deep), (I64 a0.f_why)]) (BO r.1) (.box 148 [(I64 ((r.2).f_n)), (I64 ((r.2).f_deep)), (I64 ((r.2).f_why))]) := by
 unfold b_value_count_part at h
 refine acalls_of Try.func98 rfl Try.ntmps98 Try.results98 rfl (aw_of_bw ?_)
 change BW _ _ _ ⟨[(0, (PV.rf 0 0)), (1, (ofV a1)), (2, (I64 a2))], [.box 148 [(I64 a0.f_n), (I64 a0.f_deep), (I64 a0.f_why)]], _⟩ _
 refine bR ?_
 refine sA rfl rfl rfl rfl rfl (ao_nil ?_)
 change BW _ _ _ _ _
 refine bw_seq ?_
 refine bR ?_
 refine sM rfl rfl rfl rfl rfl ?_
 refine sM rfl rfl rfl rfl rfl ?_
 refine sM rfl rfl rfl rfl rfl ?_
 refine sS rfl rfl rfl (op1_nilR rfl rfl) ?_
 refine sS rfl rfl rfl (op1_faR st_148 (i := 0) rfl rfl rfl) ?_
 refine sS rfl rfl rfl ((op1_ldR Try.underlying3 rfl rfl rfl rfl rfl)) ?_
 refine sM rfl rfl rfl rfl rfl ?_
 obtain ⟨x1, hx1, h⟩ := obind h
 refine sS rfl rfl rfl (op1_pcall rfl en_117 rfl (.cons (Wk.refl _) (.cons (Wk.refl _) (.cons (Wk.refl _) .nil))) ⟨(ids_V a1), ⟨rfl, ⟨rfl, trivial⟩⟩⟩ (s_value_own a1 a0.f_n a2 x1 hx1) rfl) ?_
 refine sS rfl rfl rfl (op1_nilR rfl rfl) ?_
 refine sS rfl rfl rfl (op1_faR st_148 (i := 2) rfl rfl rfl) ?_
 refine ao_step0 rfl rfl (op1_store inf_39 rfl rfl rfl rfl rfl rfl (Nat.le_of_ble_eq_true rfl) rfl) ?_
 refine ao_nil ?_
 change BW _ _ _ _ _
 refine bR ?_
 refine sM rfl rfl rfl rfl rfl ?_
 refine sS rfl rfl rfl (op1_nilR rfl rfl) ?_
 refine sS rfl rfl rfl (op1_faR st_148 (i := 2) rfl rfl rfl) ?_
 refine sS rfl rfl rfl ((op1_ldR Try.underlying39 rfl rfl rfl rfl rfl)) ?_
 refine sS rfl rfl rfl ((op1_cmp rfl rfl rfl rfl).cast (y := (BO ((x1 != 0)))) rfl rfl) (ao_nil ?_)
 change BW _ _ _ _ _
 refine bw_cond rfl ?_ ?_
 ·intro hc2; replace h := ocond_t hc2 h
  refine bR ?_
  refine sA rfl rfl rfl rfl rfl (ao_nil ?_)
  change BW _ _ _ _ _
  refine bw_ret ?_
  change ∃ xs, _ = some xs ∧ EndOk _ _ _ _
  obtain rfl := Option.some.inj h
  exact ⟨_, rfl, endOk1 (y := (BO false)) (e := .box 148 [(I64 (((S_value_count.mk a0.f_n a0.f_deep x1)).f_n)), (I64 (((S_value_count.mk a0.f_n a0.f_deep x1)).f_deep)), (I64 (((S_value_count.mk a0.f_n a0.f_deep x1)).f_why))]) (Wk.refl _) rfl rfl (idsL_cons rfl (idsL_cons rfl (idsL_cons rfl rfl))) ⟨rfl, rfl⟩⟩
 ·intro hc2; replace h := ocond_f hc2 h
  refine bw_skip ?_
  change BW _ _ _ _ _
  refine bR ?_
  refine sM rfl rfl rfl rfl rfl ?_
  refine sS rfl rfl rfl (op1_nilR rfl rfl) ?_
  refine sS rfl rfl rfl (op1_faR st_148 (i := 0) rfl rfl rfl) ?_
  refine sS rfl rfl rfl ((op1_ldR Try.underlying3 rfl rfl rfl rfl rfl)) ?_
  refine sS rfl rfl rfl (op1_addW rfl rfl rfl) ?_
  refine sS rfl rfl rfl (op1_nilR rfl rfl) ?_
  refine sS rfl rfl rfl (op1_faR st_148 (i := 0) rfl rfl rfl) ?_
  refine ao_step0 rfl rfl (op1_store inf_3 rfl rfl rfl rfl rfl rfl (Nat.le_of_ble_eq_true rfl) rfl) ?_
  refine ao_nil ?_
  change BW _ _ _ _ _
  refine bR ?_
  refine sM rfl rfl rfl rfl rfl ?_
  refine sM rfl rfl rfl rfl rfl ?_
  refine sS rfl rfl rfl (op1_nilR rfl rfl) ?_
  refine sS rfl rfl rfl (op1_faR st_148 (i := 1) rfl rfl rfl) ?_
  refine sS rfl rfl rfl ((op1_ldR Try.underlying3 rfl rfl rfl rfl rfl)) ?_
  refine sM rfl rfl rfl rfl rfl ?_
  refine sS rfl rfl rfl (op1_maxI (args := []) rfl rfl rfl) ?_
  refine sS rfl rfl rfl (op1_nilR rfl rfl) ?_
  refine sS rfl rfl rfl (op1_faR st_148 (i := 1) rfl rfl rfl) ?_
  refine ao_step0 rfl rfl (op1_store inf_3 rfl rfl rfl rfl rfl rfl (Nat.le_of_ble_eq_true rfl) rfl) ?_
  refine ao_nil ?_
  change BW _ _ _ _ _
  refine bw_seqJ (ι := (Int × Int × Int)) (fun i => value_count_part_j1 i.1 i.2.1 i.2.2 = some r) (fun i => [(0, (PV.rf 0 0))]) (fun i => [.box 148 [(I64 i.1), (I64 i.2.1), (I64 i.2.2)]]) ?_ ?_ ?_
  ·intro i; exact ⟨Nat.le_of_ble_eq_true rfl, ⟨(il_rf rfl), trivial⟩, ⟨⟨(il_nil rfl), ⟨(il_nil rfl), ⟨(il_nil rfl), trivial⟩⟩⟩, trivial⟩⟩
  ·rintro ⟨s3, s4, s5⟩ h; replace h : value_count_part_j1 s3 s4 s5 = some r := h; unfold value_count_part_j1 at h
   change BW _ _ _ ⟨[(0, (PV.rf 0 0))], [.box 148 [(I64 s3), (I64 s4), (I64 s5)]], _⟩ _
   refine bR ?_
   refine sA rfl rfl rfl rfl rfl (ao_nil ?_)
   change BW _ _ _ _ _
   refine bw_ret ?_
   change ∃ xs, _ = some xs ∧ EndOk _ _ _ _
   obtain rfl := Option.some.inj h
   exact ⟨_, rfl, endOk1 (y := (BO true)) (e := .box 148 [(I64 (((S_value_count.mk s3 s4 s5)).f_n)), (I64 (((S_value_count.mk s3 s4 s5)).f_deep)), (I64 (((S_value_count.mk s3 s4 s5)).f_why))]) (Wk.refl _) rfl rfl (idsL_cons rfl (idsL_cons rfl (idsL_cons rfl rfl))) ⟨rfl, rfl⟩⟩
  ·refine bR ?_
   refine sM rfl rfl rfl rfl rfl (ao_nil ?_)
   change BW _ _ _ _ _
   refine bw_block ?_
   change BW _ _ _ _ _
   refine bR ?_
   refine sS rfl rfl rfl (op1_taList rfl rfl) ?_
   refine sS rfl rfl rfl (op1_ext rfl rfl rfl) ?_
   refine sS rfl rfl rfl (op1_ext rfl rfl rfl) (ao_nil ?_)
   change BW _ _ _ _ _
   refine bw_cond rfl ?_ ?_
   ·intro hc6; replace h := ocond_t hc6 h
    refine bR ?_
    refine sA rfl rfl rfl rfl rfl (ao_nil ?_)
    change BW _ _ _ _ _
    refine bR ?_
    refine sM rfl rfl rfl rfl rfl ?_
    refine sS rfl rfl rfl (op1_lenM Try.underlying37 rfl rfl) ?_
    refine sM rfl rfl rfl rfl rfl (ao_nil ?_)
    change BW _ _ _ _ _
    refine bw_block ?_
    change BW _ _ _ _ _
    unfold value_count_part_l1 at h
    refine bw_loop (σ := (Nat × Int × Int × Int)) (fun i => [(0, (PV.rf 0 0)), (2, (I64 a2)), (47, (PV.sl none 1 (List.map ofV (a1).asList))), (48, (I64 (((((a1).asList).length : Nat) : Int)))), (49, (I64 (((i.1 : Nat) : Int))))]) (fun i => [.box 148 [(I64 i.2.1), (I64 i.2.2.1), (I64 i.2.2.2)]]) (0, (IntKind.i64.wrap (a0.f_n + 1)), (if a2 > a0.f_deep then a2 else a0.f_deep), x1) h ?_ ?_ ?_
    ·intro i; exact ⟨Nat.le_of_ble_eq_true rfl, ⟨(il_rf rfl), ⟨(il_nil rfl), ⟨(il_nil (ids_slM ids_V _)), ⟨(il_nil rfl), ⟨(il_nil rfl), trivial⟩⟩⟩⟩⟩, ⟨⟨(il_nil rfl), ⟨(il_nil rfl), ⟨(il_nil rfl), trivial⟩⟩⟩, trivial⟩⟩
    ·exact ⟨(.cons .same .nil), (sC rfl (sC rfl (sC rfl (sC rfl (sC rfl sub_nil)))))⟩
    ·rintro g1_f ⟨s7, s8, s9, s10⟩ h; replace h : value_count_part_l1b r_value_count_part a1 a2 (fun y0 y1 y2 y3 => g1_f (y0, y1, y2, y3)) s7 s8 s9 s10 = some r := h; unfold value_count_part_l1b at h
     change BW _ _ _ ⟨[(0, (PV.rf 0 0)), (2, (I64 a2)), (47, (PV.sl none 1 (List.map ofV (a1).asList))), (48, (I64 (((((a1).asList).length : Nat) : Int)))), (49, (I64 (((s7 : Nat) : Int))))], [.box 148 [(I64 s8), (I64 s9), (I64 s10)]], _⟩ _
     refine bR ?_
     refine sS rfl rfl rfl ((op1_cmp rfl rfl rfl rfl).cast (y := (BO ((decide (((s7 : Nat) : Int) < ((((a1).asList).length : Nat) : Int)))))) rfl rfl) (ao_nil ?_)
     change BW _ _ _ _ _
     refine bw_seq ?_
     refine bw_len (t := 47) rfl fun hb12 => ?_
     try rw [List.length_map] at hb12
     refine bw_cond rfl ?_ ?_
     ·intro hc11; replace h := ocond_t hc11 h
      have hc11_ := of_decide_eq_true hc11
      refine bw_skip ?_
      change BW _ _ _ _ _
      refine bw_seq ?_
      refine bw_block ?_
      change BW _ _ _ _ _
      refine bR ?_
      obtain ⟨x13, hx13, h⟩ := obind h
      refine sS rfl rfl rfl (op1_idxN (i := s7) Try.underlying37 inf_20 rfl rfl rfl hx13 rfl) ?_
      refine sS rfl rfl rfl (op1_ldP (y := (ofV x13)) Try.underlying20 rfl rfl rfl (by rw [cells_V]; rfl)) ?_
      refine sA rfl rfl rfl rfl rfl (ao_nil ?_)
      change BW _ _ _ _ _
      refine bR ?_
      refine sM rfl rfl rfl rfl rfl ?_
      refine sM rfl rfl rfl rfl rfl ?_
      refine sM rfl rfl rfl rfl rfl ?_
      refine sS rfl rfl rfl (op1_addW rfl rfl rfl) ?_
      obtain ⟨x14, hx14, h⟩ := obind h
      refine sS rfl rfl rfl (op1_bcall 0 rfl en_98 rfl (.cons (Wk.refl _) (.cons (Wk.refl _) (.cons (Wk.refl _) .nil))) (.box (.val (ids_V x13) (.val rfl .nil))) rfl (idsL_cons rfl (idsL_cons rfl (idsL_cons rfl rfl))) (c_value_count_part (S_value_count.mk s8 s9 s10) x13 (IntKind.i64.wrap (a2 + 1)) x14 hx14) rfl (idsL_cons rfl (idsL_cons rfl (idsL_cons rfl rfl)))) ?_
      refine sS rfl rfl rfl (op1_not rfl rfl) (ao_nil ?_)
      change BW _ _ _ _ _
      refine bw_cond rfl ?_ ?_
      ·intro hc15; replace h := ocond_t hc15 h
       refine bR ?_
       refine sA rfl rfl rfl rfl rfl (ao_nil ?_)
       change BW _ _ _ _ _
       refine bw_ret ?_
       change ∃ xs, _ = some xs ∧ EndOk _ _ _ _
       obtain rfl := Option.some.inj h
       exact ⟨_, rfl, endOk1 (y := (BO false)) (e := .box 148 [(I64 (((x14.2)).f_n)), (I64 (((x14.2)).f_deep)), (I64 (((x14.2)).f_why))]) (Wk.refl _) rfl rfl (idsL_cons rfl (idsL_cons rfl (idsL_cons rfl rfl))) ⟨rfl, rfl⟩⟩
      ·intro hc15; replace h := ocond_f hc15 h
       refine bw_skip ?_
       change BW _ _ _ _ _
       refine bw_region ?_
       refine sS rfl rfl rfl (op1_incN (k := s7) (c := 1) rfl rfl rfl (by omega)) ?_
       refine sM rfl rfl rfl rfl rfl (ao_nil ?_)
       exact ⟨rfl, ((s7 + 1), (x14.2).f_n, (x14.2).f_deep, (x14.2).f_why), h, ⟨(.cons .same .nil), (sC rfl (sC rfl (sC rfl (sC rfl (sC rfl sub_nil)))))⟩⟩
     ·intro hc11; replace h := ocond_f hc11 h
      refine bw_exit ?_
      exact ⟨rfl, (s8, s9, s10), h, ⟨(.cons .same .nil), (sC rfl sub_nil)⟩⟩
   ·intro hc6; replace h := ocond_f hc6 h
    refine bR ?_
    refine sS rfl rfl rfl (op1_taDict rfl rfl) ?_
    refine sS rfl rfl rfl (op1_ext rfl rfl rfl) ?_
    refine sS rfl rfl rfl (op1_ext rfl rfl rfl) (ao_nil ?_)
    change BW _ _ _ _ _
    refine bw_cond rfl ?_ ?_
    ·intro hc16; replace h := ocond_t hc16 h
     refine bR ?_
     refine sA rfl rfl rfl rfl rfl (ao_nil ?_)
     change BW _ _ _ _ _
     refine bR ?_
     refine sM rfl rfl rfl rfl rfl ?_
     refine sM rfl rfl rfl rfl rfl ?_
     refine sM rfl rfl rfl rfl rfl ?_
     obtain ⟨x17, hx17, h⟩ := obind h
     refine sS rfl rfl rfl (op1_bcall 0 rfl en_118 rfl (.cons (Wk.refl _) (.cons (Wk.refl _) (.cons (Wk.refl _) .nil))) (.box (.val (ids_slM ids_Fld ((a1).asDict)) (.val rfl .nil))) rfl (idsL_cons rfl (idsL_cons rfl (idsL_cons rfl rfl))) (c_value_count_all (S_value_count.mk (IntKind.i64.wrap (a0.f_n + 1)) (if a2 > a0.f_deep then a2 else a0.f_deep) x1) ((a1).asDict) a2 x17 hx17) rfl (idsL_cons rfl (idsL_cons rfl (idsL_cons rfl rfl)))) ?_
     refine sA rfl rfl rfl rfl rfl (ao_nil ?_)
     change BW _ _ _ _ _
     refine bw_ret ?_
     change ∃ xs, _ = some xs ∧ EndOk _ _ _ _
     obtain rfl := Option.some.inj h
     exact ⟨_, rfl, endOk1 (y := (BO x17.1)) (e := .box 148 [(I64 (((x17.2)).f_n)), (I64 (((x17.2)).f_deep)), (I64 (((x17.2)).f_why))]) (Wk.refl _) rfl rfl (idsL_cons rfl (idsL_cons rfl (idsL_cons rfl rfl))) ⟨rfl, rfl⟩⟩
    ·intro hc16; replace h := ocond_f hc16 h
     refine bR ?_
     refine sS rfl rfl rfl (op1_taRec rfl rfl) ?_
     refine sS rfl rfl rfl (op1_ext rfl rfl rfl) ?_
     refine sS rfl rfl rfl (op1_ext rfl rfl rfl) (ao_nil ?_)
     change BW _ _ _ _ _
     refine bw_cond rfl ?_ ?_
     ·intro hc18; replace h := ocond_t hc18 h
      refine bR ?_
      refine sA rfl rfl rfl rfl rfl (ao_nil ?_)
      change BW _ _ _ _ _
      refine bR ?_
      refine sM rfl rfl rfl rfl rfl ?_
      refine sM rfl rfl rfl rfl rfl ?_
      obtain ⟨x19, hx19, h⟩ := obind h
      refine sS rfl rfl rfl (op1_pNil rfl rfl hx19) ?_
      refine sS rfl rfl rfl (op1_faP st_72 (i := 2) rfl rfl rfl) ?_
      refine sS rfl rfl rfl (op1_ldP (y := (PV.sl none 2 (List.map ofFld x19.fields))) Try.underlying45 rfl rfl rfl rfl) ?_
      refine sM rfl rfl rfl rfl rfl ?_
      obtain ⟨x20, hx20, h⟩ := obind h
      refine sS rfl rfl rfl (op1_bcall 0 rfl en_118 rfl (.cons (Wk.refl _) (.cons (Wk.refl _) (.cons (Wk.refl _) .nil))) (.box (.val (ids_slM ids_Fld x19.fields) (.val rfl .nil))) rfl (idsL_cons rfl (idsL_cons rfl (idsL_cons rfl rfl))) (c_value_count_all (S_value_count.mk (IntKind.i64.wrap (a0.f_n + 1)) (if a2 > a0.f_deep then a2 else a0.f_deep) x1) x19.fields a2 x20 hx20) rfl (idsL_cons rfl (idsL_cons rfl (idsL_cons rfl rfl)))) ?_
      refine sA rfl rfl rfl rfl rfl (ao_nil ?_)
      change BW _ _ _ _ _
      refine bw_ret ?_
      change ∃ xs, _ = some xs ∧ EndOk _ _ _ _
      obtain rfl := Option.some.inj h
      exact ⟨_, rfl, endOk1 (y := (BO x20.1)) (e := .box 148 [(I64 (((x20.2)).f_n)), (I64 (((x20.2)).f_deep)), (I64 (((x20.2)).f_why))]) (Wk.refl _) rfl rfl (idsL_cons rfl (idsL_cons rfl (idsL_cons rfl rfl))) ⟨rfl, rfl⟩⟩
     ·intro hc18; replace h := ocond_f hc18 h
      refine bw_skip ?_
      exact ⟨rfl, ((IntKind.i64.wrap (a0.f_n + 1)), (if a2 > a0.f_deep then a2 else a0.f_deep), x1), h, ⟨(.cons .same .nil), (sC rfl sub_nil)⟩⟩
theorem C_value_count_all.sound : ∀ (i : C_value_count_all) (r : i.R), fixO C_value_count_all.F i = some r → C_value_count_all.Q i r := by
 refine fixO_ind (Φ := C_value_count_all.F) (Q := C_value_count_all.Q) ?_
 intro g hg i r h
 cases i with
 | k_value_count_all a0 a1 a2 => exact t_value_count_all (fun a0 a1 a2 => g (.k_value_count_all a0 a1 a2)) (fun a0 a1 a2 r hr => hg (.k_value_count_all a0 a1 a2) r hr) (fun a0 a1 a2 => g (.k_value_count_part a0 a1 a2)) (fun a0 a1 a2 r hr => hg (.k_value_count_part a0 a1 a2) r hr) a0 a1 a2 r h
 | k_value_count_part a0 a1 a2 => exact t_value_count_part (fun a0 a1 a2 => g (.k_value_count_all a0 a1 a2)) (fun a0 a1 a2 r hr => hg (.k_value_count_all a0 a1 a2) r hr) (fun a0 a1 a2 => g (.k_value_count_part a0 a1 a2)) (fun a0 a1 a2 r hr => hg (.k_value_count_part a0 a1 a2) r hr) a0 a1 a2 r h
theorem s_value_count_all (a0 : S_value_count) (a1 : (List (Str × V))) (a2 : Int) (r : (Bool × S_value_count)) (h : p_value_count_all a0 a1 a2 = some r) : BCalls Try.prog 118 [(PV.rf 0 0), (PV.sl none 2 (List.map ofFld a1)), (I64 a2)] (.box 148 [(I64 a0.f_n), (I64 a0.f_deep), (I64 a0.f_why)]) (BO r.1) (.box 148 [(I64 ((r.2).f_n)), (I64 ((r.2).f_deep)), (I64 ((r.2).f_why))]) := C_value_count_all.sound (.k_value_count_all a0 a1 a2) r h
theorem s_value_count_part (a0 : S_value_count) (a1 : V) (a2 : Int) (r : (Bool × S_value_count)) (h : p_value_count_part a0 a1 a2 = some r) : BCalls Try.prog 98 [(PV.rf 0 0), (ofV a1), (I64 a2)] (.box 148 [(I64 a0.f_n), (I64 a0.f_deep), (I64 a0.f_why)]) (BO r.1) (.box 148 [(I64 ((r.2).f_n)), (I64 ((r.2).f_deep)), (I64 ((r.2).f_why))]) := C_value_count_all.sound (.k_value_count_part a0 a1 a2) r h
noncomputable def p_value_check (a0 : V) : Option (Int × Int) :=
 Option.bind (p_value_count_part (S_value_count.mk 0 0 0) a0 1) fun x1 =>
 bif (!x1.1) then (
  some ((x1.2).f_n, (x1.2).f_why)
 ) else (
  some (0, 0)
 )
theorem s_value_check (a0 : V) (r : (Int × Int)) (h : p_value_check a0 = some r) : PCalls Try.prog 68 [(ofV a0)] (PV.tup [(I64 r.1), (I64 r.2)]) := by
 unfold p_value_check at h
 refine acalls_of Try.func68 rfl Try.ntmps68 Try.results68 rfl (aw_of_bw ?_)
 change BW _ _ _ ⟨[(0, (ofV a0))], [], _⟩ _
 refine bR ?_
 refine sA rfl rfl rfl rfl rfl ?_
 refine sA rfl rfl rfl rfl rfl (ao_nil ?_)
 change BW _ _ _ _ _
 refine bR ?_
 refine sS rfl rfl rfl (op1_alloc inf_148 rfl) (ao_nil ?_)
 change BW _ _ _ _ _
 refine bw_seq ?_
 refine bR ?_
 refine sM rfl rfl rfl rfl rfl ?_
 obtain ⟨x1, hx1, h⟩ := obind h
 refine sS rfl rfl rfl (op1_bcall 0 rfl en_98 rfl (.cons (Wk.refl _) (.cons (Wk.refl _) (.cons (Wk.refl _) .nil))) (.box (.val (ids_V a0) (.val rfl .nil))) rfl (idsL_cons rfl (idsL_cons rfl (idsL_cons rfl rfl))) (s_value_count_part (S_value_count.mk 0 0 0) a0 1 x1 hx1) rfl (idsL_cons rfl (idsL_cons rfl (idsL_cons rfl rfl)))) ?_
 refine sS rfl rfl rfl (op1_not rfl rfl) (ao_nil ?_)
 change BW _ _ _ _ _
 refine bw_cond rfl ?_ ?_
 ·intro hc2; replace h := ocond_t hc2 h
  refine bw_seq (bw_tail 5 [] [0] mo (by kernel_rfl) ?_)
  refine ac_go rfl rfl rfl rfl (fun H hp => op1_faR st_148 (i := 0) rfl rfl rfl) ?_
  refine ac_go rfl rfl rfl rfl (fun H hp => (op1_ldR Try.underlying3 rfl rfl rfl (hp.at rfl rfl) rfl)) ?_
  refine ac_go rfl rfl rfl rfl (fun H hp => op1_faR st_148 (i := 2) rfl rfl rfl) ?_
  refine ac_go rfl rfl rfl rfl (fun H hp => (op1_ldR Try.underlying39 rfl rfl rfl (hp.at rfl rfl) rfl)) ?_
  refine ac_go rfl rfl rfl rfl (fun H hp => op1_assign rfl rfl) ?_
  refine ac_nil ?_
  change AO _ _ _ _ _
  refine sA rfl rfl rfl rfl rfl (ao_nil ?_)
  change BW _ _ _ _ _
  refine bw_ret ?_
  change ∃ xs, _ = some xs ∧ EndOk _ _ _ _
  obtain rfl := Option.some.inj h
  exact ⟨_, rfl, endOk0 (y := (PV.tup [(I64 ((x1.2).f_n)), (I64 ((x1.2).f_why))])) (Wk.refl _) (ids_tup_cons rfl (ids_tup_cons rfl ids_tup_nil)) ⟨rfl, rfl⟩⟩
 ·intro hc2; replace h := ocond_f hc2 h
  refine bw_skip ?_
  change BW _ _ _ _ _
  refine bR ?_
  refine sA rfl rfl rfl rfl rfl ?_
  refine sA rfl rfl rfl rfl rfl (ao_nil ?_)
  change BW _ _ _ _ _
  refine bw_ret ?_
  change ∃ xs, _ = some xs ∧ EndOk _ _ _ _
  obtain rfl := Option.some.inj h
  exact ⟨_, rfl, endOk0 (y := (PV.tup [(I64 0), (I64 0)])) (Wk.refl _) (ids_tup_cons rfl (ids_tup_cons rfl ids_tup_nil)) ⟨rfl, rfl⟩⟩
noncomputable def p_value_Of (a0 : Term) : Option (V × Int) :=
 Option.bind (p_value_loose a0) fun x1 =>
 Option.bind (p_value_check x1) fun x2 =>
 bif (x2.2 != 0) then (
  some (V.nil, x2.2)
 ) else (
  some (x1, 0)
 )
theorem s_value_Of (a0 : Term) (r : (V × Int)) (h : p_value_Of a0 = some r) : PCalls Try.prog 53 [(ofTermX a0)] (PV.tup [(ofV r.1), (I64 r.2)]) := by
 unfold p_value_Of at h
 refine acalls_of Try.func53 rfl Try.ntmps53 Try.results53 rfl (aw_of_bw ?_)
 change BW _ _ _ ⟨[(0, (ofTermX a0))], [], _⟩ _
 refine bR ?_
 refine sS rfl rfl rfl (op1_box rfl rfl rfl) ?_
 refine sA rfl rfl rfl rfl rfl ?_
 refine sA rfl rfl rfl rfl rfl (ao_nil ?_)
 change BW _ _ _ _ _
 refine bR ?_
 refine sS rfl rfl rfl ((op1_ldRA inf_29 Try.underlying29 rfl rfl rfl rfl rfl rfl)) ?_
 obtain ⟨x1, hx1, h⟩ := obind h
 refine sS rfl rfl rfl (op1_pcall rfl en_87 rfl (.cons (Wk.refl _) .nil) ⟨(ids_TermX a0), trivial⟩ (s_value_loose a0 x1 hx1) (ids_V x1)) ?_
 refine sA rfl rfl rfl rfl rfl (ao_nil ?_)
 change BW _ _ _ _ _
 refine bw_seq ?_
 refine bR ?_
 refine sM rfl rfl rfl rfl rfl ?_
 obtain ⟨x2, hx2, h⟩ := obind h
 refine sS rfl rfl rfl (op1_pcall rfl en_68 rfl (.cons (Wk.refl _) .nil) ⟨(ids_V x1), trivial⟩ (s_value_check x1 x2 hx2) (ids_tup_cons rfl (ids_tup_cons rfl ids_tup_nil))) ?_
 refine sM rfl rfl rfl rfl rfl ?_
 refine sS rfl rfl rfl (op1_ext rfl rfl rfl) ?_
 refine sS rfl rfl rfl (op1_ext rfl rfl rfl) ?_
 refine sA rfl rfl rfl rfl rfl ?_
 refine sA rfl rfl rfl rfl rfl (ao_nil ?_)
 change BW _ _ _ _ _
 refine bR ?_
 refine sM rfl rfl rfl rfl rfl ?_
 refine sS rfl rfl rfl ((op1_cmp rfl rfl rfl rfl).cast (y := (BO ((x2.2 != 0)))) rfl rfl) (ao_nil ?_)
 change BW _ _ _ _ _
 refine bw_cond rfl ?_ ?_
 ·intro hc3; replace h := ocond_t hc3 h
  refine bR ?_
  refine sM rfl rfl rfl rfl rfl ?_
  refine sA rfl rfl rfl rfl rfl ?_
  refine sA rfl rfl rfl rfl rfl (ao_nil ?_)
  change BW _ _ _ _ _
  refine bw_ret ?_
  change ∃ xs, _ = some xs ∧ EndOk _ _ _ _
  obtain rfl := Option.some.inj h
  exact ⟨_, rfl, endOk0 (y := (PV.tup [(ofV V.nil), (I64 x2.2)])) (Wk.tup (.cons (Wk.eq mk_nil.symm) (.cons (Wk.refl _) .nil))) (ids_tup_cons (ids_V V.nil) (ids_tup_cons rfl ids_tup_nil)) ⟨rfl, rfl⟩⟩
 ·intro hc3; replace h := ocond_f hc3 h
  refine bw_skip ?_
  change BW _ _ _ _ _
  refine bR ?_
  refine sM rfl rfl rfl rfl rfl ?_
  refine sA rfl rfl rfl rfl rfl ?_
  refine sA rfl rfl rfl rfl rfl (ao_nil ?_)
  change BW _ _ _ _ _
  refine bw_ret ?_
  change ∃ xs, _ = some xs ∧ EndOk _ _ _ _
  obtain rfl := Option.some.inj h
  exact ⟨_, rfl, endOk0 (y := (PV.tup [(ofV x1), (I64 0)])) (Wk.refl _) (ids_tup_cons (ids_V x1) (ids_tup_cons rfl ids_tup_nil)) ⟨rfl, rfl⟩⟩
noncomputable def p_value_Kind (a0 : V) : Option Int :=
 Option.bind (p_value_kind a0) fun x1 =>
 some x1
theorem s_value_Kind (a0 : V) (r : Int) (h : p_value_Kind a0 = some r) : PCalls Try.prog 52 [(ofV a0)] (I64 r) := by
 unfold p_value_Kind at h
 refine acalls_of Try.func52 rfl Try.ntmps52 Try.results52 rfl (aw_of_bw ?_)
 change BW _ _ _ ⟨[(0, (ofV a0))], [], _⟩ _
 refine bR ?_
 refine sA rfl rfl rfl rfl rfl (ao_nil ?_)
 change BW _ _ _ _ _
 refine bR ?_
 refine sM rfl rfl rfl rfl rfl ?_
 obtain ⟨x1, hx1, h⟩ := obind h
 refine sS rfl rfl rfl (op1_pcall rfl en_86 rfl (.cons (Wk.refl _) .nil) ⟨(ids_V a0), trivial⟩ (s_value_kind a0 x1 hx1) rfl) ?_
 refine sA rfl rfl rfl rfl rfl (ao_nil ?_)
 change BW _ _ _ _ _
 refine bw_ret ?_
 change ∃ xs, _ = some xs ∧ EndOk _ _ _ _
 obtain rfl := Option.some.inj h
 exact ⟨_, rfl, endOk0 (y := (I64 x1)) (Wk.refl _) rfl ⟨rfl, rfl⟩⟩
noncomputable def p_value_cmp_int (a0 : Int) (a1 : Int) : Option Int :=
 bif (decide (a0 < a1)) then (
  some (-1)
 ) else (
  bif (decide (a0 > a1)) then (
   some 1
  ) else (
   some 0
  )
 )
theorem s_value_cmp_int (a0 : Int) (a1 : Int) (r : Int) (h : p_value_cmp_int a0 a1 = some r) : PCalls Try.prog 104 [(I64 a0), (I64 a1)] (I64 r) := by
 unfold p_value_cmp_int at h
 refine acalls_of Try.func104 rfl Try.ntmps104 Try.results104 rfl (aw_of_bw ?_)
 change BW _ _ _ ⟨[(0, (I64 a0)), (1, (I64 a1))], [], _⟩ _
 refine bR ?_
 refine sA rfl rfl rfl rfl rfl (ao_nil ?_)
 change BW _ _ _ _ _
 refine bw_seq ?_
 refine bw_block ?_
 change BW _ _ _ _ _
 refine bR ?_
 refine sM rfl rfl rfl rfl rfl ?_
 refine sM rfl rfl rfl rfl rfl ?_
 refine sS rfl rfl rfl ((op1_cmp rfl rfl rfl rfl).cast (y := (BO ((decide (a0 < a1))))) rfl rfl) ?_
 refine sA rfl rfl rfl rfl rfl (ao_nil ?_)
 change BW _ _ _ _ _
 refine bw_cond rfl ?_ ?_
 ·intro hc1; replace h := ocond_t hc1 h
  refine bR ?_
  refine sA rfl rfl rfl rfl rfl (ao_nil ?_)
  change BW _ _ _ _ _
  refine bw_ret ?_
  change ∃ xs, _ = some xs ∧ EndOk _ _ _ _
  obtain rfl := Option.some.inj h
  exact ⟨_, rfl, endOk0 (y := (I64 ((-1)))) (Wk.refl _) rfl ⟨rfl, rfl⟩⟩
 ·intro hc1; replace h := ocond_f hc1 h
  refine bR ?_
  refine sM rfl rfl rfl rfl rfl ?_
  refine sM rfl rfl rfl rfl rfl ?_
  refine sS rfl rfl rfl ((op1_cmp rfl rfl rfl rfl).cast (y := (BO ((decide (a0 > a1))))) rfl rfl) ?_
  refine sA rfl rfl rfl rfl rfl (ao_nil ?_)
  change BW _ _ _ _ _
  refine bw_cond rfl ?_ ?_
  ·intro hc2; replace h := ocond_t hc2 h
   refine bR ?_
   refine sA rfl rfl rfl rfl rfl (ao_nil ?_)
   change BW _ _ _ _ _
   refine bw_ret ?_
   change ∃ xs, _ = some xs ∧ EndOk _ _ _ _
   obtain rfl := Option.some.inj h
   exact ⟨_, rfl, endOk0 (y := (I64 1)) (Wk.refl _) rfl ⟨rfl, rfl⟩⟩
  ·intro hc2; replace h := ocond_f hc2 h
   refine bw_skip ?_
   change BW _ _ _ _ _
   refine bR ?_
   refine sA rfl rfl rfl rfl rfl (ao_nil ?_)
   change BW _ _ _ _ _
   refine bw_ret ?_
   change ∃ xs, _ = some xs ∧ EndOk _ _ _ _
   obtain rfl := Option.some.inj h
   exact ⟨_, rfl, endOk0 (y := (I64 0)) (Wk.refl _) rfl ⟨rfl, rfl⟩⟩
noncomputable def p_value_truth (a0 : Bool) : Option Int :=
 bif a0 then (
  some 1
 ) else (
  some 0
 )
theorem s_value_truth (a0 : Bool) (r : Int) (h : p_value_truth a0 = some r) : PCalls Try.prog 105 [(BO a0)] (I64 r) := by
 unfold p_value_truth at h
 refine acalls_of Try.func105 rfl Try.ntmps105 Try.results105 rfl (aw_of_bw ?_)
 change BW _ _ _ ⟨[(0, (BO a0))], [], _⟩ _
 refine bR ?_
 refine sA rfl rfl rfl rfl rfl (ao_nil ?_)
 change BW _ _ _ _ _
 refine bw_seq ?_
 refine bR ?_
 refine sM rfl rfl rfl rfl rfl (ao_nil ?_)
 change BW _ _ _ _ _
 refine bw_cond rfl ?_ ?_
 ·intro hc1; replace h := ocond_t hc1 h
  refine bR ?_
  refine sA rfl rfl rfl rfl rfl (ao_nil ?_)
  change BW _ _ _ _ _
  refine bw_ret ?_
  change ∃ xs, _ = some xs ∧ EndOk _ _ _ _
  obtain rfl := Option.some.inj h
  exact ⟨_, rfl, endOk0 (y := (I64 1)) (Wk.refl _) rfl ⟨rfl, rfl⟩⟩
 ·intro hc1; replace h := ocond_f hc1 h
  refine bw_skip ?_
  change BW _ _ _ _ _
  refine bR ?_
  refine sA rfl rfl rfl rfl rfl (ao_nil ?_)
  change BW _ _ _ _ _
  refine bw_ret ?_
  change ∃ xs, _ = some xs ∧ EndOk _ _ _ _
  obtain rfl := Option.some.inj h
  exact ⟨_, rfl, endOk0 (y := (I64 0)) (Wk.refl _) rfl ⟨rfl, rfl⟩⟩
noncomputable def p_value_cmp_int64 (a0 : Int) (a1 : Int) : Option Int :=
 bif (decide (a0 < a1)) then (
  some (-1)
 ) else (
  bif (decide (a0 > a1)) then (
   some 1
  ) else (
   some 0
  )
 )
theorem s_value_cmp_int64 (a0 : Int) (a1 : Int) (r : Int) (h : p_value_cmp_int64 a0 a1 = some r) : PCalls Try.prog 106 [(I64 a0), (I64 a1)] (I64 r) := by
 unfold p_value_cmp_int64 at h
 refine acalls_of Try.func106 rfl Try.ntmps106 Try.results106 rfl (aw_of_bw ?_)
 change BW _ _ _ ⟨[(0, (I64 a0)), (1, (I64 a1))], [], _⟩ _
 refine bR ?_
 refine sA rfl rfl rfl rfl rfl (ao_nil ?_)
 change BW _ _ _ _ _
 refine bw_seq ?_
 refine bw_block ?_
 change BW _ _ _ _ _
 refine bR ?_
 refine sM rfl rfl rfl rfl rfl ?_
 refine sM rfl rfl rfl rfl rfl ?_
 refine sS rfl rfl rfl ((op1_cmp rfl rfl rfl rfl).cast (y := (BO ((decide (a0 < a1))))) rfl rfl) ?_
 refine sA rfl rfl rfl rfl rfl (ao_nil ?_)
 change BW _ _ _ _ _
 refine bw_cond rfl ?_ ?_
 ·intro hc1; replace h := ocond_t hc1 h
  refine bR ?_
  refine sA rfl rfl rfl rfl rfl (ao_nil ?_)
  change BW _ _ _ _ _
  refine bw_ret ?_
  change ∃ xs, _ = some xs ∧ EndOk _ _ _ _
  obtain rfl := Option.some.inj h
  exact ⟨_, rfl, endOk0 (y := (I64 ((-1)))) (Wk.refl _) rfl ⟨rfl, rfl⟩⟩
 ·intro hc1; replace h := ocond_f hc1 h
  refine bR ?_
  refine sM rfl rfl rfl rfl rfl ?_
  refine sM rfl rfl rfl rfl rfl ?_
  refine sS rfl rfl rfl ((op1_cmp rfl rfl rfl rfl).cast (y := (BO ((decide (a0 > a1))))) rfl rfl) ?_
  refine sA rfl rfl rfl rfl rfl (ao_nil ?_)
  change BW _ _ _ _ _
  refine bw_cond rfl ?_ ?_
  ·intro hc2; replace h := ocond_t hc2 h
   refine bR ?_
   refine sA rfl rfl rfl rfl rfl (ao_nil ?_)
   change BW _ _ _ _ _
   refine bw_ret ?_
   change ∃ xs, _ = some xs ∧ EndOk _ _ _ _
   obtain rfl := Option.some.inj h
   exact ⟨_, rfl, endOk0 (y := (I64 1)) (Wk.refl _) rfl ⟨rfl, rfl⟩⟩
  ·intro hc2; replace h := ocond_f hc2 h
   refine bw_skip ?_
   change BW _ _ _ _ _
   refine bR ?_
   refine sA rfl rfl rfl rfl rfl (ao_nil ?_)
   change BW _ _ _ _ _
   refine bw_ret ?_
   change ∃ xs, _ = some xs ∧ EndOk _ _ _ _
   obtain rfl := Option.some.inj h
   exact ⟨_, rfl, endOk0 (y := (I64 0)) (Wk.refl _) rfl ⟨rfl, rfl⟩⟩
noncomputable def p_value_place (a0 : Nat) : Option Int :=
 bif ((shrK .u64 ((a0 : Nat) : Int) 63) == 1) then (
  some (notK .u64 ((a0 : Nat) : Int))
 ) else (
  some (orK .u64 ((a0 : Nat) : Int) 9223372036854775808)
 )
theorem s_value_place (a0 : Nat) (r : Int) (h : p_value_place a0 = some r) : PCalls Try.prog 108 [(PV.v (.float .f64 a0))] (PV.v (.int .u64 r)) := by
 unfold p_value_place at h
 refine acalls_of Try.func108 rfl Try.ntmps108 Try.results108 rfl (aw_of_bw ?_)
 change BW _ _ _ ⟨[(0, (PV.v (.float .f64 a0)))], [], _⟩ _
 refine bR ?_
 refine sA rfl rfl rfl rfl rfl (ao_nil ?_)
 change BW _ _ _ _ _
 refine bR ?_
 refine sM rfl rfl rfl rfl rfl ?_
 refine sS rfl rfl rfl (op1_f64bits rfl rfl) ?_
 refine sA rfl rfl rfl rfl rfl (ao_nil ?_)
 change BW _ _ _ _ _
 refine bw_seq ?_
 refine bR ?_
 refine sM rfl rfl rfl rfl rfl ?_
 refine sS rfl rfl rfl ((op1_shr rfl rfl rfl (by decide)).cast (y := (PV.v (.int .u64 (shrK .u64 ((a0 : Nat) : Int) 63)))) rfl rfl) ?_
 refine sS rfl rfl rfl ((op1_cmp rfl rfl rfl rfl).cast (y := (BO (((shrK .u64 ((a0 : Nat) : Int) 63) == 1)))) rfl rfl) (ao_nil ?_)
 change BW _ _ _ _ _
 refine bw_cond rfl ?_ ?_
 ·intro hc1; replace h := ocond_t hc1 h
  refine bR ?_
  refine sM rfl rfl rfl rfl rfl ?_
  refine sS rfl rfl rfl (op1_xorU rfl rfl) ?_
  refine sA rfl rfl rfl rfl rfl (ao_nil ?_)
  change BW _ _ _ _ _
  refine bw_ret ?_
  change ∃ xs, _ = some xs ∧ EndOk _ _ _ _
  obtain rfl := Option.some.inj h
  exact ⟨_, rfl, endOk0 (y := (PV.v (.int .u64 (notK .u64 ((a0 : Nat) : Int))))) (Wk.refl _) rfl ⟨rfl, rfl⟩⟩
 ·intro hc1; replace h := ocond_f hc1 h
  refine bw_skip ?_
  change BW _ _ _ _ _
  refine bR ?_
  refine sM rfl rfl rfl rfl rfl ?_
  refine sS rfl rfl rfl ((op1_orW rfl rfl rfl).cast (y := (PV.v (.int .u64 (orK .u64 ((a0 : Nat) : Int) 9223372036854775808)))) rfl rfl) ?_
  refine sA rfl rfl rfl rfl rfl (ao_nil ?_)
  change BW _ _ _ _ _
  refine bw_ret ?_
  change ∃ xs, _ = some xs ∧ EndOk _ _ _ _
  obtain rfl := Option.some.inj h
  exact ⟨_, rfl, endOk0 (y := (PV.v (.int .u64 (orK .u64 ((a0 : Nat) : Int) 9223372036854775808)))) (Wk.refl _) rfl ⟨rfl, rfl⟩⟩
noncomputable def p_value_cmp_uint64 (a0 : Int) (a1 : Int) : Option Int :=
 bif (decide (a0 < a1)) then (
  some (-1)
 ) else (
  bif (decide (a0 > a1)) then (
   some 1
  ) else (
   some 0
  )
 )
theorem s_value_cmp_uint64 (a0 : Int) (a1 : Int) (r : Int) (h : p_value_cmp_uint64 a0 a1 = some r) : PCalls Try.prog 107 [(PV.v (.int .u64 a0)), (PV.v (.int .u64 a1))] (I64 r) := by
 unfold p_value_cmp_uint64 at h
 refine acalls_of Try.func107 rfl Try.ntmps107 Try.results107 rfl (aw_of_bw ?_)
 change BW _ _ _ ⟨[(0, (PV.v (.int .u64 a0))), (1, (PV.v (.int .u64 a1)))], [], _⟩ _
 refine bR ?_
 refine sA rfl rfl rfl rfl rfl (ao_nil ?_)
 change BW _ _ _ _ _
 refine bw_seq ?_
 refine bw_block ?_
 change BW _ _ _ _ _
 refine bR ?_
 refine sM rfl rfl rfl rfl rfl ?_
 refine sM rfl rfl rfl rfl rfl ?_
 refine sS rfl rfl rfl ((op1_cmp rfl rfl rfl rfl).cast (y := (BO ((decide (a0 < a1))))) rfl rfl) ?_
 refine sA rfl rfl rfl rfl rfl (ao_nil ?_)
 change BW _ _ _ _ _
 refine bw_cond rfl ?_ ?_
 ·intro hc1; replace h := ocond_t hc1 h
  refine bR ?_
  refine sA rfl rfl rfl rfl rfl (ao_nil ?_)
  change BW _ _ _ _ _
  refine bw_ret ?_
  change ∃ xs, _ = some xs ∧ EndOk _ _ _ _
  obtain rfl := Option.some.inj h
  exact ⟨_, rfl, endOk0 (y := (I64 ((-1)))) (Wk.refl _) rfl ⟨rfl, rfl⟩⟩
 ·intro hc1; replace h := ocond_f hc1 h
  refine bR ?_
  refine sM rfl rfl rfl rfl rfl ?_
  refine sM rfl rfl rfl rfl rfl ?_
  refine sS rfl rfl rfl ((op1_cmp rfl rfl rfl rfl).cast (y := (BO ((decide (a0 > a1))))) rfl rfl) ?_
  refine sA rfl rfl rfl rfl rfl (ao_nil ?_)
  change BW _ _ _ _ _
  refine bw_cond rfl ?_ ?_
  ·intro hc2; replace h := ocond_t hc2 h
   refine bR ?_
   refine sA rfl rfl rfl rfl rfl (ao_nil ?_)
   change BW _ _ _ _ _
   refine bw_ret ?_
   change ∃ xs, _ = some xs ∧ EndOk _ _ _ _
   obtain rfl := Option.some.inj h
   exact ⟨_, rfl, endOk0 (y := (I64 1)) (Wk.refl _) rfl ⟨rfl, rfl⟩⟩
  ·intro hc2; replace h := ocond_f hc2 h
   refine bw_skip ?_
   change BW _ _ _ _ _
   refine bR ?_
   refine sA rfl rfl rfl rfl rfl (ao_nil ?_)
   change BW _ _ _ _ _
   refine bw_ret ?_
   change ∃ xs, _ = some xs ∧ EndOk _ _ _ _
   obtain rfl := Option.some.inj h
   exact ⟨_, rfl, endOk0 (y := (I64 0)) (Wk.refl _) rfl ⟨rfl, rfl⟩⟩
noncomputable def p_value_cmp_string (a0 : Str) (a1 : Str) : Option Int :=
 bif (Op.bytesLess a0 a1) then (
  some (-1)
 ) else (
  bif (!(Op.bytesLess a0 a1 || a0 == a1)) then (
   some 1
  ) else (
   some 0
  )
 )
theorem s_value_cmp_string (a0 : Str) (a1 : Str) (r : Int) (h : p_value_cmp_string a0 a1 = some r) : PCalls Try.prog 109 [(ofStr a0), (ofStr a1)] (I64 r) := by
 unfold p_value_cmp_string at h
 refine acalls_of Try.func109 rfl Try.ntmps109 Try.results109 rfl (aw_of_bw ?_)
 change BW _ _ _ ⟨[(0, (ofStr a0)), (1, (ofStr a1))], [], _⟩ _
 refine bR ?_
 refine sA rfl rfl rfl rfl rfl (ao_nil ?_)
 change BW _ _ _ _ _
 refine bw_seq ?_
 refine bw_block ?_
 change BW _ _ _ _ _
 refine bR ?_
 refine sM rfl rfl rfl rfl rfl ?_
 refine sM rfl rfl rfl rfl rfl ?_
 refine sS rfl rfl rfl ((op1_cmpT (a := a0) (b := a1) rfl rfl rfl rfl).cast (y := (BO ((Op.bytesLess a0 a1)))) rfl rfl) ?_
 refine sA rfl rfl rfl rfl rfl (ao_nil ?_)
 change BW _ _ _ _ _
 refine bw_cond rfl ?_ ?_
 ·intro hc1; replace h := ocond_t hc1 h
  refine bR ?_
  refine sA rfl rfl rfl rfl rfl (ao_nil ?_)
  change BW _ _ _ _ _
  refine bw_ret ?_
  change ∃ xs, _ = some xs ∧ EndOk _ _ _ _
  obtain rfl := Option.some.inj h
  exact ⟨_, rfl, endOk0 (y := (I64 ((-1)))) (Wk.refl _) rfl ⟨rfl, rfl⟩⟩
 ·intro hc1; replace h := ocond_f hc1 h
  refine bR ?_
  refine sM rfl rfl rfl rfl rfl ?_
  refine sM rfl rfl rfl rfl rfl ?_
  refine sS rfl rfl rfl ((op1_cmpT (a := a0) (b := a1) rfl rfl rfl rfl).cast (y := (BO ((!(Op.bytesLess a0 a1 || a0 == a1))))) rfl rfl) ?_
  refine sA rfl rfl rfl rfl rfl (ao_nil ?_)
  change BW _ _ _ _ _
  refine bw_cond rfl ?_ ?_
  ·intro hc2; replace h := ocond_t hc2 h
   refine bR ?_
   refine sA rfl rfl rfl rfl rfl (ao_nil ?_)
   change BW _ _ _ _ _
   refine bw_ret ?_
   change ∃ xs, _ = some xs ∧ EndOk _ _ _ _
   obtain rfl := Option.some.inj h
   exact ⟨_, rfl, endOk0 (y := (I64 1)) (Wk.refl _) rfl ⟨rfl, rfl⟩⟩
  ·intro hc2; replace h := ocond_f hc2 h
   refine bw_skip ?_
   change BW _ _ _ _ _
   refine bR ?_
   refine sA rfl rfl rfl rfl rfl (ao_nil ?_)
   change BW _ _ _ _ _
   refine bw_ret ?_
   change ∃ xs, _ = some xs ∧ EndOk _ _ _ _
   obtain rfl := Option.some.inj h
   exact ⟨_, rfl, endOk0 (y := (I64 0)) (Wk.refl _) rfl ⟨rfl, rfl⟩⟩
noncomputable def p_cmp_isNaN_byte (a0 : UInt8) : Option Bool :=
 some (((a0).toNat : Int) != ((a0).toNat : Int))
theorem s_cmp_isNaN_byte (a0 : UInt8) (r : Bool) (h : p_cmp_isNaN_byte a0 = some r) : PCalls Try.prog 123 [(ofB a0)] (BO r) := by
 unfold p_cmp_isNaN_byte at h
 refine acalls_of Try.func123 rfl Try.ntmps123 Try.results123 rfl (aw_of_bw ?_)
 change BW _ _ _ ⟨[(0, (ofB a0))], [], _⟩ _
 refine bR ?_
 refine sA rfl rfl rfl rfl rfl (ao_nil ?_)
 change BW _ _ _ _ _
 refine bR ?_
 refine sM rfl rfl rfl rfl rfl ?_
 refine sM rfl rfl rfl rfl rfl ?_
 refine sS rfl rfl rfl ((op1_cmp rfl rfl rfl rfl).cast (y := (BO ((((a0).toNat : Int) != ((a0).toNat : Int))))) rfl rfl) ?_
 refine sA rfl rfl rfl rfl rfl (ao_nil ?_)
 change BW _ _ _ _ _
 refine bw_ret ?_
 change ∃ xs, _ = some xs ∧ EndOk _ _ _ _
 obtain rfl := Option.some.inj h
 exact ⟨_, rfl, endOk0 (y := (BO ((((a0).toNat : Int) != ((a0).toNat : Int))))) (Wk.refl _) rfl ⟨rfl, rfl⟩⟩
noncomputable def p_cmp_Compare_byte (a0 : UInt8) (a1 : UInt8) : Option Int :=
 Option.bind (p_cmp_isNaN_byte a0) fun x1 =>
 Option.bind (p_cmp_isNaN_byte a1) fun x2 =>
 bif x1 then (
  bif x2 then (
   some 0
  ) else (
   some (-1)
  )
 ) else (
  bif x2 then (
   some 1
  ) else (
   bif (decide (((a0).toNat : Int) < ((a1).toNat : Int))) then (
    some (-1)
   ) else (
    bif (decide (((a0).toNat : Int) > ((a1).toNat : Int))) then (
     some 1
    ) else (
     some 0
    )
   )
  )
 )
theorem s_cmp_Compare_byte (a0 : UInt8) (a1 : UInt8) (r : Int) (h : p_cmp_Compare_byte a0 a1 = some r) : PCalls Try.prog 120 [(ofB a0), (ofB a1)] (I64 r) := by
 unfold p_cmp_Compare_byte at h
 refine acalls_of Try.func120 rfl Try.ntmps120 Try.results120 rfl (aw_of_bw ?_)
 change BW _ _ _ ⟨[(0, (ofB a0)), (1, (ofB a1))], [], _⟩ _
 refine bR ?_
 refine sA rfl rfl rfl rfl rfl (ao_nil ?_)
 change BW _ _ _ _ _
 refine bR ?_
 refine sM rfl rfl rfl rfl rfl ?_
 obtain ⟨x1, hx1, h⟩ := obind h
 refine sS rfl rfl rfl (op1_pcall rfl en_123 rfl (.cons (Wk.refl _) .nil) ⟨rfl, trivial⟩ (s_cmp_isNaN_byte a0 x1 hx1) rfl) ?_
 refine sA rfl rfl rfl rfl rfl (ao_nil ?_)
 change BW _ _ _ _ _
 refine bR ?_
 refine sM rfl rfl rfl rfl rfl ?_
 obtain ⟨x2, hx2, h⟩ := obind h
 refine sS rfl rfl rfl (op1_pcall rfl en_123 rfl (.cons (Wk.refl _) .nil) ⟨rfl, trivial⟩ (s_cmp_isNaN_byte a1 x2 hx2) rfl) ?_
 refine sA rfl rfl rfl rfl rfl (ao_nil ?_)
 change BW _ _ _ _ _
 refine bw_seq ?_
 refine bR ?_
 refine sM rfl rfl rfl rfl rfl (ao_nil ?_)
 change BW _ _ _ _ _
 refine bw_cond rfl ?_ ?_
 ·intro hc3; replace h := ocond_t hc3 h
  refine bw_seq ?_
  refine bR ?_
  refine sM rfl rfl rfl rfl rfl (ao_nil ?_)
  change BW _ _ _ _ _
  refine bw_cond rfl ?_ ?_
  ·intro hc4; replace h := ocond_t hc4 h
   refine bR ?_
   refine sA rfl rfl rfl rfl rfl (ao_nil ?_)
   change BW _ _ _ _ _
   refine bw_ret ?_
   change ∃ xs, _ = some xs ∧ EndOk _ _ _ _
   obtain rfl := Option.some.inj h
   exact ⟨_, rfl, endOk0 (y := (I64 0)) (Wk.refl _) rfl ⟨rfl, rfl⟩⟩
  ·intro hc4; replace h := ocond_f hc4 h
   refine bw_skip ?_
   change BW _ _ _ _ _
   refine bR ?_
   refine sA rfl rfl rfl rfl rfl (ao_nil ?_)
   change BW _ _ _ _ _
   refine bw_ret ?_
   change ∃ xs, _ = some xs ∧ EndOk _ _ _ _
   obtain rfl := Option.some.inj h
   exact ⟨_, rfl, endOk0 (y := (I64 ((-1)))) (Wk.refl _) rfl ⟨rfl, rfl⟩⟩
 ·intro hc3; replace h := ocond_f hc3 h
  refine bw_skip ?_
  change BW _ _ _ _ _
  refine bw_seq ?_
  refine bR ?_
  refine sM rfl rfl rfl rfl rfl (ao_nil ?_)
  change BW _ _ _ _ _
  refine bw_cond rfl ?_ ?_
  ·intro hc5; replace h := ocond_t hc5 h
   refine bR ?_
   refine sA rfl rfl rfl rfl rfl (ao_nil ?_)
   change BW _ _ _ _ _
   refine bw_ret ?_
   change ∃ xs, _ = some xs ∧ EndOk _ _ _ _
   obtain rfl := Option.some.inj h
   exact ⟨_, rfl, endOk0 (y := (I64 1)) (Wk.refl _) rfl ⟨rfl, rfl⟩⟩
  ·intro hc5; replace h := ocond_f hc5 h
   refine bw_skip ?_
   change BW _ _ _ _ _
   refine bw_seq ?_
   refine bR ?_
   refine sM rfl rfl rfl rfl rfl ?_
   refine sM rfl rfl rfl rfl rfl ?_
   refine sS rfl rfl rfl ((op1_cmp rfl rfl rfl rfl).cast (y := (BO ((decide (((a0).toNat : Int) < ((a1).toNat : Int)))))) rfl rfl) (ao_nil ?_)
   change BW _ _ _ _ _
   refine bw_cond rfl ?_ ?_
   ·intro hc6; replace h := ocond_t hc6 h
    refine bR ?_
    refine sA rfl rfl rfl rfl rfl (ao_nil ?_)
    change BW _ _ _ _ _
    refine bw_ret ?_
    change ∃ xs, _ = some xs ∧ EndOk _ _ _ _
    obtain rfl := Option.some.inj h
    exact ⟨_, rfl, endOk0 (y := (I64 ((-1)))) (Wk.refl _) rfl ⟨rfl, rfl⟩⟩
   ·intro hc6; replace h := ocond_f hc6 h
    refine bw_skip ?_
    change BW _ _ _ _ _
    refine bw_seq ?_
    refine bR ?_
    refine sM rfl rfl rfl rfl rfl ?_
    refine sM rfl rfl rfl rfl rfl ?_
    refine sS rfl rfl rfl ((op1_cmp rfl rfl rfl rfl).cast (y := (BO ((decide (((a0).toNat : Int) > ((a1).toNat : Int)))))) rfl rfl) (ao_nil ?_)
    change BW _ _ _ _ _
    refine bw_cond rfl ?_ ?_
    ·intro hc7; replace h := ocond_t hc7 h
     refine bR ?_
     refine sA rfl rfl rfl rfl rfl (ao_nil ?_)
     change BW _ _ _ _ _
     refine bw_ret ?_
     change ∃ xs, _ = some xs ∧ EndOk _ _ _ _
     obtain rfl := Option.some.inj h
     exact ⟨_, rfl, endOk0 (y := (I64 1)) (Wk.refl _) rfl ⟨rfl, rfl⟩⟩
    ·intro hc7; replace h := ocond_f hc7 h
     refine bw_skip ?_
     change BW _ _ _ _ _
     refine bR ?_
     refine sA rfl rfl rfl rfl rfl (ao_nil ?_)
     change BW _ _ _ _ _
     refine bw_ret ?_
     change ∃ xs, _ = some xs ∧ EndOk _ _ _ _
     obtain rfl := Option.some.inj h
     exact ⟨_, rfl, endOk0 (y := (I64 0)) (Wk.refl _) rfl ⟨rfl, rfl⟩⟩
noncomputable def slices_Compare_byte_byte_l1b (a0 : Str) (a1 : Str) (g1 : Nat → Option Int) (s1 : Nat) : Option Int :=
 bif (decide (((s1 : Nat) : Int) < (((a0).length : Nat) : Int))) then (
  Option.bind ((a0)[s1]?) fun x4 =>
  bif (decide (((s1 : Nat) : Int) ≥ (((a1).length : Nat) : Int))) then (
   some 1
  ) else (
   Option.bind ((a1)[s1]?) fun x6 =>
   Option.bind (p_cmp_Compare_byte x4 x6) fun x7 =>
   bif (x7 != 0) then (
    some x7
   ) else (
    g1 (s1 + 1)
   )
  )
 ) else (
  bif (decide ((((a0).length : Nat) : Int) < (((a1).length : Nat) : Int))) then (
   some (-1)
  ) else (
   some 0
  )
 )
theorem slices_Compare_byte_byte_l1b_cm {ι : Type} {ρ : ι → Type} (g1 : (∀ i, Option (ρ i)) → Nat → Option Int) (h_g1 : ∀ y0, CM (fun G => g1 G y0)) (a0 : Str) (a1 : Str) (s1 : Nat) : CM (fun G : (∀ i, Option (ρ i)) => slices_Compare_byte_byte_l1b a0 a1 (g1 G) s1) := by
 simp only [slices_Compare_byte_byte_l1b]
 repeat (first | exact cm_const | exact h_g1 _ | refine cm_cond ?_ ?_ | refine cm_bind ?_ (fun _ => ?_))
noncomputable def slices_Compare_byte_byte_l1 (a0 : Str) (a1 : Str) (s1 : Nat) : Option Int :=
 fixO (ι := Nat) (ρ := fun _ => Int) (fun g i => slices_Compare_byte_byte_l1b a0 a1 (fun s1 => g s1) i) s1
theorem slices_Compare_byte_byte_l1_eq (a0 : Str) (a1 : Str) (s1 : Nat) : slices_Compare_byte_byte_l1 a0 a1 s1 = slices_Compare_byte_byte_l1b a0 a1 (slices_Compare_byte_byte_l1 a0 a1) s1 :=
 fixO_eq (ι := Nat) (ρ := fun _ => Int) (Φ := fun g i => slices_Compare_byte_byte_l1b a0 a1 (fun s1 => g s1) i) (fun i => slices_Compare_byte_byte_l1b_cm (ι := Nat) (ρ := fun _ => Int) (fun g => (fun s1 => g s1)) (fun _ => cm_app) a0 a1 i) s1
noncomputable def p_slices_Compare_byte_byte (a0 : Str) (a1 : Str) : Option Int :=
 slices_Compare_byte_byte_l1 a0 a1 0
theorem s_slices_Compare_byte_byte (a0 : Str) (a1 : Str) (r : Int) (h : p_slices_Compare_byte_byte a0 a1 = some r) : PCalls Try.prog 110 [(PV.sl none 1 (List.map ofB a0)), (PV.sl none 1 (List.map ofB a1))] (I64 r) := by
 unfold p_slices_Compare_byte_byte at h
 refine acalls_of Try.func110 rfl Try.ntmps110 Try.results110 rfl (aw_of_bw ?_)
 change BW _ _ _ ⟨[(0, (PV.sl none 1 (List.map ofB a0))), (1, (PV.sl none 1 (List.map ofB a1)))], [], _⟩ _
 refine bR ?_
 refine sA rfl rfl rfl rfl rfl (ao_nil ?_)
 change BW _ _ _ _ _
 refine bw_seq ?_
 refine bR ?_
 refine sM rfl rfl rfl rfl rfl ?_
 refine sS rfl rfl rfl (op1_lenM Try.underlying23 rfl rfl) ?_
 refine sM rfl rfl rfl rfl rfl (ao_nil ?_)
 change BW _ _ _ _ _
 refine bw_block ?_
 change BW _ _ _ _ _
 unfold slices_Compare_byte_byte_l1 at h
 refine bw_loop (σ := Nat) (fun i => [(0, (PV.sl none 1 (List.map ofB a0))), (1, (PV.sl none 1 (List.map ofB a1))), (9, (PV.sl none 1 (List.map ofB a0))), (10, (I64 ((((a0).length : Nat) : Int)))), (11, (I64 (((i : Nat) : Int))))]) (fun i => []) 0 h ?_ ?_ ?_
 ·intro i; exact ⟨Nat.le_of_ble_eq_true rfl, ⟨(il_nil (ids_slM (fun _ => rfl) _)), ⟨(il_nil (ids_slM (fun _ => rfl) _)), ⟨(il_nil (ids_slM (fun _ => rfl) _)), ⟨(il_nil rfl), ⟨(il_nil rfl), trivial⟩⟩⟩⟩⟩, trivial⟩
 ·exact ⟨.nil, (sC rfl (sC rfl (sC rfl (sC rfl (sC rfl sub_nil)))))⟩
 ·rintro g1_f s1 h; replace h : slices_Compare_byte_byte_l1b a0 a1 (fun y0 => g1_f y0) s1 = some r := h; unfold slices_Compare_byte_byte_l1b at h
  change BW _ _ _ ⟨[(0, (PV.sl none 1 (List.map ofB a0))), (1, (PV.sl none 1 (List.map ofB a1))), (9, (PV.sl none 1 (List.map ofB a0))), (10, (I64 ((((a0).length : Nat) : Int)))), (11, (I64 (((s1 : Nat) : Int))))], [], _⟩ _
  refine bR ?_
  refine sS rfl rfl rfl ((op1_cmp rfl rfl rfl rfl).cast (y := (BO ((decide (((s1 : Nat) : Int) < (((a0).length : Nat) : Int)))))) rfl rfl) (ao_nil ?_)
  change BW _ _ _ _ _
  refine bw_seq ?_
  refine bw_len (t := 9) rfl fun hb3 => ?_
  try rw [List.length_map] at hb3
  refine bw_cond rfl ?_ ?_
  ·intro hc2; replace h := ocond_t hc2 h
   have hc2_ := of_decide_eq_true hc2
   refine bw_skip ?_
   change BW _ _ _ _ _
   refine bw_seq ?_
   refine bw_block ?_
   change BW _ _ _ _ _
   refine bR ?_
   refine sM rfl rfl rfl rfl rfl ?_
   obtain ⟨x4, hx4, h⟩ := obind h
   refine sS rfl rfl rfl (op1_idxN (i := s1) Try.underlying23 inf_5 rfl rfl rfl hx4 rfl) ?_
   refine sS rfl rfl rfl (op1_ldP (y := (ofB x4)) Try.underlying5 rfl rfl rfl rfl) ?_
   refine sA rfl rfl rfl rfl rfl ?_
   refine sA rfl rfl rfl rfl rfl (ao_nil ?_)
   change BW _ _ _ _ _
   refine bw_seq ?_
   refine bR ?_
   refine sM rfl rfl rfl rfl rfl ?_
   refine sM rfl rfl rfl rfl rfl ?_
   refine sS rfl rfl rfl (op1_lenM Try.underlying23 rfl rfl) ?_
   refine sS rfl rfl rfl ((op1_cmp rfl rfl rfl rfl).cast (y := (BO ((decide (((s1 : Nat) : Int) ≥ (((a1).length : Nat) : Int)))))) rfl rfl) (ao_nil ?_)
   change BW _ _ _ _ _
   refine bw_cond rfl ?_ ?_
   ·intro hc5; replace h := ocond_t hc5 h
    refine bR ?_
    refine sA rfl rfl rfl rfl rfl (ao_nil ?_)
    change BW _ _ _ _ _
    refine bw_ret ?_
    change ∃ xs, _ = some xs ∧ EndOk _ _ _ _
    obtain rfl := Option.some.inj h
    exact ⟨_, rfl, endOk0 (y := (I64 1)) (Wk.refl _) rfl ⟨rfl, rfl⟩⟩
   ·intro hc5; replace h := ocond_f hc5 h
    refine bw_skip ?_
    change BW _ _ _ _ _
    refine bR ?_
    refine sM rfl rfl rfl rfl rfl ?_
    refine sM rfl rfl rfl rfl rfl ?_
    obtain ⟨x6, hx6, h⟩ := obind h
    refine sS rfl rfl rfl (op1_idxN (i := s1) Try.underlying23 inf_5 rfl rfl rfl hx6 rfl) ?_
    refine sS rfl rfl rfl (op1_ldP (y := (ofB x6)) Try.underlying5 rfl rfl rfl rfl) ?_
    refine sA rfl rfl rfl rfl rfl (ao_nil ?_)
    change BW _ _ _ _ _
    refine bR ?_
    refine sM rfl rfl rfl rfl rfl ?_
    refine sM rfl rfl rfl rfl rfl ?_
    obtain ⟨x7, hx7, h⟩ := obind h
    refine sS rfl rfl rfl (op1_pcall rfl en_120 rfl (.cons (Wk.refl _) (.cons (Wk.refl _) .nil)) ⟨rfl, ⟨rfl, trivial⟩⟩ (s_cmp_Compare_byte x4 x6 x7 hx7) rfl) ?_
    refine sA rfl rfl rfl rfl rfl (ao_nil ?_)
    change BW _ _ _ _ _
    refine bR ?_
    refine sM rfl rfl rfl rfl rfl ?_
    refine sS rfl rfl rfl ((op1_cmp rfl rfl rfl rfl).cast (y := (BO ((x7 != 0)))) rfl rfl) (ao_nil ?_)
    change BW _ _ _ _ _
    refine bw_cond rfl ?_ ?_
    ·intro hc8; replace h := ocond_t hc8 h
     refine bR ?_
     refine sM rfl rfl rfl rfl rfl ?_
     refine sA rfl rfl rfl rfl rfl (ao_nil ?_)
     change BW _ _ _ _ _
     refine bw_ret ?_
     change ∃ xs, _ = some xs ∧ EndOk _ _ _ _
     obtain rfl := Option.some.inj h
     exact ⟨_, rfl, endOk0 (y := (I64 x7)) (Wk.refl _) rfl ⟨rfl, rfl⟩⟩
    ·intro hc8; replace h := ocond_f hc8 h
     refine bw_skip ?_
     change BW _ _ _ _ _
     refine bw_region ?_
     refine sS rfl rfl rfl (op1_incN (k := s1) (c := 1) rfl rfl rfl (by omega)) ?_
     refine sM rfl rfl rfl rfl rfl (ao_nil ?_)
     exact ⟨rfl, (s1 + 1), h, ⟨.nil, (sC rfl (sC rfl (sC rfl (sC rfl (sC rfl sub_nil)))))⟩⟩
  ·intro hc2; replace h := ocond_f hc2 h
   refine bw_exit ?_
   change BW _ _ _ _ _
   refine bw_seq ?_
   refine bR ?_
   refine sM rfl rfl rfl rfl rfl ?_
   refine sS rfl rfl rfl (op1_lenM Try.underlying23 rfl rfl) ?_
   refine sM rfl rfl rfl rfl rfl ?_
   refine sS rfl rfl rfl (op1_lenM Try.underlying23 rfl rfl) ?_
   refine sS rfl rfl rfl ((op1_cmp rfl rfl rfl rfl).cast (y := (BO ((decide ((((a0).length : Nat) : Int) < (((a1).length : Nat) : Int)))))) rfl rfl) (ao_nil ?_)
   change BW _ _ _ _ _
   refine bw_cond rfl ?_ ?_
   ·intro hc9; replace h := ocond_t hc9 h
    refine bR ?_
    refine sA rfl rfl rfl rfl rfl (ao_nil ?_)
    change BW _ _ _ _ _
    refine bw_ret ?_
    change ∃ xs, _ = some xs ∧ EndOk _ _ _ _
    obtain rfl := Option.some.inj h
    exact ⟨_, rfl, endOk0 (y := (I64 ((-1)))) (Wk.refl _) rfl ⟨rfl, rfl⟩⟩
   ·intro hc9; replace h := ocond_f hc9 h
    refine bw_skip ?_
    change BW _ _ _ _ _
    refine bR ?_
    refine sA rfl rfl rfl rfl rfl (ao_nil ?_)
    change BW _ _ _ _ _
    refine bw_ret ?_
    change ∃ xs, _ = some xs ∧ EndOk _ _ _ _
    obtain rfl := Option.some.inj h
    exact ⟨_, rfl, endOk0 (y := (I64 0)) (Wk.refl _) rfl ⟨rfl, rfl⟩⟩
noncomputable def p_value_cmp_api_Ref (a0 : Int) (a1 : Int) : Option Int :=
 bif (decide (a0 < a1)) then (
  some (-1)
 ) else (
  bif (decide (a0 > a1)) then (
   some 1
  ) else (
   some 0
  )
 )
theorem s_value_cmp_api_Ref (a0 : Int) (a1 : Int) (r : Int) (h : p_value_cmp_api_Ref a0 a1 = some r) : PCalls Try.prog 111 [(PV.v (.int .u64 a0)), (PV.v (.int .u64 a1))] (I64 r) := by
 unfold p_value_cmp_api_Ref at h
 refine acalls_of Try.func111 rfl Try.ntmps111 Try.results111 rfl (aw_of_bw ?_)
 change BW _ _ _ ⟨[(0, (PV.v (.int .u64 a0))), (1, (PV.v (.int .u64 a1)))], [], _⟩ _
 refine bR ?_
 refine sA rfl rfl rfl rfl rfl (ao_nil ?_)
 change BW _ _ _ _ _
 refine bw_seq ?_
 refine bw_block ?_
 change BW _ _ _ _ _
 refine bR ?_
 refine sM rfl rfl rfl rfl rfl ?_
 refine sM rfl rfl rfl rfl rfl ?_
 refine sS rfl rfl rfl ((op1_cmp rfl rfl rfl rfl).cast (y := (BO ((decide (a0 < a1))))) rfl rfl) ?_
 refine sA rfl rfl rfl rfl rfl (ao_nil ?_)
 change BW _ _ _ _ _
 refine bw_cond rfl ?_ ?_
 ·intro hc1; replace h := ocond_t hc1 h
  refine bR ?_
  refine sA rfl rfl rfl rfl rfl (ao_nil ?_)
  change BW _ _ _ _ _
  refine bw_ret ?_
  change ∃ xs, _ = some xs ∧ EndOk _ _ _ _
  obtain rfl := Option.some.inj h
  exact ⟨_, rfl, endOk0 (y := (I64 ((-1)))) (Wk.refl _) rfl ⟨rfl, rfl⟩⟩
 ·intro hc1; replace h := ocond_f hc1 h
  refine bR ?_
  refine sM rfl rfl rfl rfl rfl ?_
  refine sM rfl rfl rfl rfl rfl ?_
  refine sS rfl rfl rfl ((op1_cmp rfl rfl rfl rfl).cast (y := (BO ((decide (a0 > a1))))) rfl rfl) ?_
  refine sA rfl rfl rfl rfl rfl (ao_nil ?_)
  change BW _ _ _ _ _
  refine bw_cond rfl ?_ ?_
  ·intro hc2; replace h := ocond_t hc2 h
   refine bR ?_
   refine sA rfl rfl rfl rfl rfl (ao_nil ?_)
   change BW _ _ _ _ _
   refine bw_ret ?_
   change ∃ xs, _ = some xs ∧ EndOk _ _ _ _
   obtain rfl := Option.some.inj h
   exact ⟨_, rfl, endOk0 (y := (I64 1)) (Wk.refl _) rfl ⟨rfl, rfl⟩⟩
  ·intro hc2; replace h := ocond_f hc2 h
   refine bw_skip ?_
   change BW _ _ _ _ _
   refine bR ?_
   refine sA rfl rfl rfl rfl rfl (ao_nil ?_)
   change BW _ _ _ _ _
   refine bw_ret ?_
   change ∃ xs, _ = some xs ∧ EndOk _ _ _ _
   obtain rfl := Option.some.inj h
   exact ⟨_, rfl, endOk0 (y := (I64 0)) (Wk.refl _) rfl ⟨rfl, rfl⟩⟩
end Go.Proofs.Ytiapdjdhaclmnaa
