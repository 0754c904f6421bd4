/- Pure functions, and that calls answer as they say. Written by gen.py. -/
import Derived.Test.YtigadhiciinicaaG1
namespace Go.Proofs.Ytigadhiciinicaa
open Go Aw
set_option linter.unusedVariables false
set_option linter.unusedSimpArgs false
set_option maxRecDepth 20000
set_option maxHeartbeats 2000000
noncomputable def wire_reader_record_j1 (r_wire_reader_fields : S_wire_reader → Int → Int → Option (Xr (S_wire_fault × S_wire_reader) ((List (Str × V)) × S_wire_reader))) (a1 : Int) (a2 : Int) (x1 : (Str × S_wire_reader)) (x3 : (Int × S_wire_reader)) (s5 : Bool) : Option (Xr (S_wire_fault × S_wire_reader) (V × S_wire_reader)) :=
 bif s5 then (
  xbind (p_wire_reader_fail (x3.2) a1 1) (fun s => (s.1, (s.2))) fun x7 => none
 ) else (
  xbind (r_wire_reader_fields (x3.2) a1 a2) (fun s => (s.1, (s.2))) fun x9 =>
  some (.ret ((V.record x1.1 (IntKind.i64.wrap x3.1) x9.1), (x9.2)))
 )
theorem wire_reader_record_j1_cm {ι : Type} {ρ : ι → Type} (r_wire_reader_fields : (∀ i, Option (ρ i)) → S_wire_reader → Int → Int → Option (Xr (S_wire_fault × S_wire_reader) ((List (Str × V)) × S_wire_reader))) (h_r_wire_reader_fields : ∀ y0 y1 y2, CM (fun G => r_wire_reader_fields G y0 y1 y2)) (a1 : Int) (a2 : Int) (x1 : (Str × S_wire_reader)) (x3 : (Int × S_wire_reader)) (s5 : Bool) : CM (fun G : (∀ i, Option (ρ i)) => wire_reader_record_j1 (r_wire_reader_fields G) a1 a2 x1 x3 s5) := by
 simp only [wire_reader_record_j1]
 repeat (first | exact cm_const | exact h_r_wire_reader_fields _ _ _ | refine cm_cond ?_ ?_ | refine cm_xbind ?_ (fun _ => ?_) | refine cm_bind ?_ (fun _ => ?_))
noncomputable def b_wire_reader_record (r_wire_reader_record : S_wire_reader → Int → Int → Option (Xr (S_wire_fault × S_wire_reader) (V × S_wire_reader))) (r_wire_reader_fields : S_wire_reader → Int → Int → Option (Xr (S_wire_fault × S_wire_reader) ((List (Str × V)) × S_wire_reader))) (r_wire_reader_list : S_wire_reader → Int → Int → Option (Xr (S_wire_fault × S_wire_reader) (V × S_wire_reader))) (r_wire_reader_value : S_wire_reader → Int → Option (Xr (S_wire_fault × S_wire_reader) (V × S_wire_reader))) (a0 : S_wire_reader) (a1 : Int) (a2 : Int) : Option (Xr (S_wire_fault × S_wire_reader) (V × S_wire_reader)) :=
 xbind (p_wire_reader_name a0 a1) (fun s => (s.1, (s.2))) fun x1 =>
 xbind (p_wire_reader_number (x1.2)) (fun s => (s.1, (s.2))) fun x3 =>
 bif (decide (x3.1 < 1)) then (
  wire_reader_record_j1 r_wire_reader_fields a1 a2 x1 x3 true
 ) else (
  wire_reader_record_j1 r_wire_reader_fields a1 a2 x1 x3 (decide (x3.1 > 1000))
 )
theorem b_wire_reader_record_cm {ι : Type} {ρ : ι → Type} (r_wire_reader_record : (∀ i, Option (ρ i)) → S_wire_reader → Int → Int → Option (Xr (S_wire_fault × S_wire_reader) (V × S_wire_reader))) (h_r_wire_reader_record : ∀ y0 y1 y2, CM (fun G => r_wire_reader_record G y0 y1 y2)) (r_wire_reader_fields : (∀ i, Option (ρ i)) → S_wire_reader → Int → Int → Option (Xr (S_wire_fault × S_wire_reader) ((List (Str × V)) × S_wire_reader))) (h_r_wire_reader_fields : ∀ y0 y1 y2, CM (fun G => r_wire_reader_fields G y0 y1 y2)) (r_wire_reader_list : (∀ i, Option (ρ i)) → S_wire_reader → Int → Int → Option (Xr (S_wire_fault × S_wire_reader) (V × S_wire_reader))) (h_r_wire_reader_list : ∀ y0 y1 y2, CM (fun G => r_wire_reader_list G y0 y1 y2)) (r_wire_reader_value : (∀ i, Option (ρ i)) → S_wire_reader → Int → Option (Xr (S_wire_fault × S_wire_reader) (V × S_wire_reader))) (h_r_wire_reader_value : ∀ y0 y1, CM (fun G => r_wire_reader_value G y0 y1)) (a0 : S_wire_reader) (a1 : Int) (a2 : Int) : CM (fun G : (∀ i, Option (ρ i)) => b_wire_reader_record (r_wire_reader_record G) (r_wire_reader_fields G) (r_wire_reader_list G) (r_wire_reader_value G) a0 a1 a2) := by
 simp only [b_wire_reader_record]
 repeat (first | exact cm_const | exact h_r_wire_reader_record _ _ _ | exact h_r_wire_reader_fields _ _ _ | exact h_r_wire_reader_list _ _ _ | exact h_r_wire_reader_value _ _ | apply wire_reader_record_j1_cm | refine cm_cond ?_ ?_ | refine cm_xbind ?_ (fun _ => ?_) | refine cm_bind ?_ (fun _ => ?_) | intro _ | assumption)
noncomputable def wire_reader_fields_j1 (g1 : (List (Str × V)) → Str → Int → Str → Int → Int → Bool → Option (Xr (S_wire_fault × S_wire_reader) ((List (Str × V)) × S_wire_reader))) (s5 : Int) (s11 : (List (Str × V))) (s12 : Str) (s13 : Str) (s14 : Int) (s15 : Int) (s16 : Bool) : Option (Xr (S_wire_fault × S_wire_reader) ((List (Str × V)) × S_wire_reader)) :=
 g1 s11 s12 (IntKind.i64.wrap (s5 + 1)) s13 s14 s15 s16
theorem wire_reader_fields_j1_cm {ι : Type} {ρ : ι → Type} (g1 : (∀ i, Option (ρ i)) → (List (Str × V)) → Str → Int → Str → Int → Int → Bool → Option (Xr (S_wire_fault × S_wire_reader) ((List (Str × V)) × S_wire_reader))) (h_g1 : ∀ y0 y1 y2 y3 y4 y5 y6, CM (fun G => g1 G y0 y1 y2 y3 y4 y5 y6)) (s5 : Int) (s11 : (List (Str × V))) (s12 : Str) (s13 : Str) (s14 : Int) (s15 : Int) (s16 : Bool) : CM (fun G : (∀ i, Option (ρ i)) => wire_reader_fields_j1 (g1 G) s5 s11 s12 s13 s14 s15 s16) := by
 simp only [wire_reader_fields_j1]
 repeat (first | exact cm_const | exact h_g1 _ _ _ _ _ _ _ | refine cm_cond ?_ ?_ | refine cm_xbind ?_ (fun _ => ?_) | refine cm_bind ?_ (fun _ => ?_))
noncomputable def wire_reader_fields_l1b (r_wire_reader_value : S_wire_reader → Int → Option (Xr (S_wire_fault × S_wire_reader) (V × S_wire_reader))) (a1 : Int) (a2 : Int) (x1 : (Int × S_wire_reader)) (g1 : (List (Str × V)) → Str → Int → Str → Int → Int → Bool → Option (Xr (S_wire_fault × S_wire_reader) ((List (Str × V)) × S_wire_reader))) (s3 : (List (Str × V))) (s4 : Str) (s5 : Int) (s6 : Str) (s7 : Int) (s8 : Int) (s9 : Bool) : Option (Xr (S_wire_fault × S_wire_reader) ((List (Str × V)) × S_wire_reader)) :=
 bif (decide (s5 < x1.1)) then (
  xbind (p_wire_reader_name (S_wire_reader.mk s6 s7 s8 s9) a1) (fun s => (s.1, (s.2))) fun x17 =>
  bif (Op.bytesLess x17.1 s4 || x17.1 == s4) then (
   xbind (p_wire_reader_fail (x17.2) a1 8) (fun s => (s.1, (s.2))) fun x20 => none
  ) else (
   xbind (r_wire_reader_value (x17.2) (IntKind.i64.wrap (a2 + 1))) (fun s => (s.1, (s.2))) fun x22 =>
   bif (x22.2).f_making then (
    Option.bind (appO 32 s3 ([(x17.1, x22.1)] : (List (Str × V)))) fun x25 =>
    wire_reader_fields_j1 g1 s5 x25 x17.1 ((x22.2).f_b) ((x22.2).f_at) ((x22.2).f_n) ((x22.2).f_making)
   ) else (
    wire_reader_fields_j1 g1 s5 s3 x17.1 ((x22.2).f_b) ((x22.2).f_at) ((x22.2).f_n) ((x22.2).f_making)
   )
  )
 ) else (
  some (.ret (s3, (S_wire_reader.mk s6 s7 s8 s9)))
 )
theorem wire_reader_fields_l1b_cm {ι : Type} {ρ : ι → Type} (r_wire_reader_value : (∀ i, Option (ρ i)) → S_wire_reader → Int → Option (Xr (S_wire_fault × S_wire_reader) (V × S_wire_reader))) (h_r_wire_reader_value : ∀ y0 y1, CM (fun G => r_wire_reader_value G y0 y1)) (g1 : (∀ i, Option (ρ i)) → (List (Str × V)) → Str → Int → Str → Int → Int → Bool → Option (Xr (S_wire_fault × S_wire_reader) ((List (Str × V)) × S_wire_reader))) (h_g1 : ∀ y0 y1 y2 y3 y4 y5 y6, CM (fun G => g1 G y0 y1 y2 y3 y4 y5 y6)) (a1 : Int) (a2 : Int) (x1 : (Int × S_wire_reader)) (s3 : (List (Str × V))) (s4 : Str) (s5 : Int) (s6 : Str) (s7 : Int) (s8 : Int) (s9 : Bool) : CM (fun G : (∀ i, Option (ρ i)) => wire_reader_fields_l1b (r_wire_reader_value G) a1 a2 x1 (g1 G) s3 s4 s5 s6 s7 s8 s9) := by
 simp only [wire_reader_fields_l1b]
 repeat (first | exact cm_const | exact h_r_wire_reader_value _ _ | exact h_g1 _ _ _ _ _ _ _ | apply wire_reader_fields_j1_cm | refine cm_cond ?_ ?_ | refine cm_xbind ?_ (fun _ => ?_) | refine cm_bind ?_ (fun _ => ?_) | intro _ | assumption)
noncomputable def wire_reader_fields_l1 (r_wire_reader_value : S_wire_reader → Int → Option (Xr (S_wire_fault × S_wire_reader) (V × S_wire_reader))) (a1 : Int) (a2 : Int) (x1 : (Int × S_wire_reader)) (s3 : (List (Str × V))) (s4 : Str) (s5 : Int) (s6 : Str) (s7 : Int) (s8 : Int) (s9 : Bool) : Option (Xr (S_wire_fault × S_wire_reader) ((List (Str × V)) × S_wire_reader)) :=
 fixO (ι := ((List (Str × V)) × Str × Int × Str × Int × Int × Bool)) (ρ := fun _ => (Xr (S_wire_fault × S_wire_reader) ((List (Str × V)) × S_wire_reader))) (fun g i => wire_reader_fields_l1b r_wire_reader_value a1 a2 x1 (fun s3 s4 s5 s6 s7 s8 s9 => g (s3, s4, s5, s6, s7, s8, s9)) i.1 i.2.1 i.2.2.1 i.2.2.2.1 i.2.2.2.2.1 i.2.2.2.2.2.1 i.2.2.2.2.2.2) (s3, s4, s5, s6, s7, s8, s9)
theorem wire_reader_fields_l1_eq (r_wire_reader_value : S_wire_reader → Int → Option (Xr (S_wire_fault × S_wire_reader) (V × S_wire_reader))) (a1 : Int) (a2 : Int) (x1 : (Int × S_wire_reader)) (s3 : (List (Str × V))) (s4 : Str) (s5 : Int) (s6 : Str) (s7 : Int) (s8 : Int) (s9 : Bool) : wire_reader_fields_l1 r_wire_reader_value a1 a2 x1 s3 s4 s5 s6 s7 s8 s9 = wire_reader_fields_l1b r_wire_reader_value a1 a2 x1 (wire_reader_fields_l1 r_wire_reader_value a1 a2 x1) s3 s4 s5 s6 s7 s8 s9 :=
 fixO_eq (ι := ((List (Str × V)) × Str × Int × Str × Int × Int × Bool)) (ρ := fun _ => (Xr (S_wire_fault × S_wire_reader) ((List (Str × V)) × S_wire_reader))) (Φ := fun g i => wire_reader_fields_l1b r_wire_reader_value a1 a2 x1 (fun s3 s4 s5 s6 s7 s8 s9 => g (s3, s4, s5, s6, s7, s8, s9)) i.1 i.2.1 i.2.2.1 i.2.2.2.1 i.2.2.2.2.1 i.2.2.2.2.2.1 i.2.2.2.2.2.2) (fun i => wire_reader_fields_l1b_cm (ι := ((List (Str × V)) × Str × Int × Str × Int × Int × Bool)) (ρ := fun _ => (Xr (S_wire_fault × S_wire_reader) ((List (Str × V)) × S_wire_reader))) (fun _ => r_wire_reader_value) (fun _ _ => cm_const) (fun g => (fun s3 s4 s5 s6 s7 s8 s9 => g (s3, s4, s5, s6, s7, s8, s9))) (fun _ _ _ _ _ _ _ => cm_app) a1 a2 x1 i.1 i.2.1 i.2.2.1 i.2.2.2.1 i.2.2.2.2.1 i.2.2.2.2.2.1 i.2.2.2.2.2.2) (s3, s4, s5, s6, s7, s8, s9)
theorem wire_reader_fields_l1_cm {ι : Type} {ρ : ι → Type} (r_wire_reader_value : (∀ i, Option (ρ i)) → S_wire_reader → Int → Option (Xr (S_wire_fault × S_wire_reader) (V × S_wire_reader))) (h_r_wire_reader_value : ∀ y0 y1, CM (fun G => r_wire_reader_value G y0 y1)) (a1 : Int) (a2 : Int) (x1 : (Int × S_wire_reader)) (s3 : (List (Str × V))) (s4 : Str) (s5 : Int) (s6 : Str) (s7 : Int) (s8 : Int) (s9 : Bool) : CM (fun G : (∀ i, Option (ρ i)) => wire_reader_fields_l1 (r_wire_reader_value G) a1 a2 x1 s3 s4 s5 s6 s7 s8 s9) :=
 cm_fix (κ := ((List (Str × V)) × Str × Int × Str × Int × Int × Bool)) (τ := fun _ => (Xr (S_wire_fault × S_wire_reader) ((List (Str × V)) × S_wire_reader))) (Φ := fun G g i => wire_reader_fields_l1b (r_wire_reader_value G) a1 a2 x1 (fun s3 s4 s5 s6 s7 s8 s9 => g (s3, s4, s5, s6, s7, s8, s9)) i.1 i.2.1 i.2.2.1 i.2.2.2.1 i.2.2.2.2.1 i.2.2.2.2.2.1 i.2.2.2.2.2.2) (fun g i => wire_reader_fields_l1b_cm r_wire_reader_value h_r_wire_reader_value (fun _ => (fun s3 s4 s5 s6 s7 s8 s9 => g (s3, s4, s5, s6, s7, s8, s9))) (fun _ _ _ _ _ _ _ => cm_const) a1 a2 x1 i.1 i.2.1 i.2.2.1 i.2.2.2.1 i.2.2.2.2.1 i.2.2.2.2.2.1 i.2.2.2.2.2.2) (fun G i => wire_reader_fields_l1b_cm (ι := ((List (Str × V)) × Str × Int × Str × Int × Int × Bool)) (ρ := fun _ => (Xr (S_wire_fault × S_wire_reader) ((List (Str × V)) × S_wire_reader))) (fun _ => r_wire_reader_value G) (fun _ _ => cm_const) (fun g => (fun s3 s4 s5 s6 s7 s8 s9 => g (s3, s4, s5, s6, s7, s8, s9))) (fun _ _ _ _ _ _ _ => cm_app) a1 a2 x1 i.1 i.2.1 i.2.2.1 i.2.2.2.1 i.2.2.2.2.1 i.2.2.2.2.2.1 i.2.2.2.2.2.2) (s3, s4, s5, s6, s7, s8, s9)
noncomputable def b_wire_reader_fields (r_wire_reader_record : S_wire_reader → Int → Int → Option (Xr (S_wire_fault × S_wire_reader) (V × S_wire_reader))) (r_wire_reader_fields : S_wire_reader → Int → Int → Option (Xr (S_wire_fault × S_wire_reader) ((List (Str × V)) × S_wire_reader))) (r_wire_reader_list : S_wire_reader → Int → Int → Option (Xr (S_wire_fault × S_wire_reader) (V × S_wire_reader))) (r_wire_reader_value : S_wire_reader → Int → Option (Xr (S_wire_fault × S_wire_reader) (V × S_wire_reader))) (a0 : S_wire_reader) (a1 : Int) (a2 : Int) : Option (Xr (S_wire_fault × S_wire_reader) ((List (Str × V)) × S_wire_reader)) :=
 xbind (p_wire_reader_most a0 a1 4096) (fun s => (s.1, (s.2))) fun x1 =>
 wire_reader_fields_l1 r_wire_reader_value a1 a2 x1 ([] : (List (Str × V))) ([] : Str) 0 ((x1.2).f_b) ((x1.2).f_at) ((x1.2).f_n) ((x1.2).f_making)
theorem b_wire_reader_fields_cm {ι : Type} {ρ : ι → Type} (r_wire_reader_record : (∀ i, Option (ρ i)) → S_wire_reader → Int → Int → Option (Xr (S_wire_fault × S_wire_reader) (V × S_wire_reader))) (h_r_wire_reader_record : ∀ y0 y1 y2, CM (fun G => r_wire_reader_record G y0 y1 y2)) (r_wire_reader_fields : (∀ i, Option (ρ i)) → S_wire_reader → Int → Int → Option (Xr (S_wire_fault × S_wire_reader) ((List (Str × V)) × S_wire_reader))) (h_r_wire_reader_fields : ∀ y0 y1 y2, CM (fun G => r_wire_reader_fields G y0 y1 y2)) (r_wire_reader_list : (∀ i, Option (ρ i)) → S_wire_reader → Int → Int → Option (Xr (S_wire_fault × S_wire_reader) (V × S_wire_reader))) (h_r_wire_reader_list : ∀ y0 y1 y2, CM (fun G => r_wire_reader_list G y0 y1 y2)) (r_wire_reader_value : (∀ i, Option (ρ i)) → S_wire_reader → Int → Option (Xr (S_wire_fault × S_wire_reader) (V × S_wire_reader))) (h_r_wire_reader_value : ∀ y0 y1, CM (fun G => r_wire_reader_value G y0 y1)) (a0 : S_wire_reader) (a1 : Int) (a2 : Int) : CM (fun G : (∀ i, Option (ρ i)) => b_wire_reader_fields (r_wire_reader_record G) (r_wire_reader_fields G) (r_wire_reader_list G) (r_wire_reader_value G) a0 a1 a2) := by
 simp only [b_wire_reader_fields]
 repeat (first | exact cm_const | exact h_r_wire_reader_record _ _ _ | exact h_r_wire_reader_fields _ _ _ | exact h_r_wire_reader_list _ _ _ | exact h_r_wire_reader_value _ _ | apply wire_reader_fields_l1_cm | refine cm_cond ?_ ?_ | refine cm_xbind ?_ (fun _ => ?_) | refine cm_bind ?_ (fun _ => ?_) | intro _ | assumption)
noncomputable def wire_reader_list_j1 (g1 : (List V) → Int → Str → Int → Int → Bool → Option (Xr (S_wire_fault × S_wire_reader) (V × S_wire_reader))) (s4 : Int) (s10 : (List V)) (s11 : Str) (s12 : Int) (s13 : Int) (s14 : Bool) : Option (Xr (S_wire_fault × S_wire_reader) (V × S_wire_reader)) :=
 g1 s10 (IntKind.i64.wrap (s4 + 1)) s11 s12 s13 s14
theorem wire_reader_list_j1_cm {ι : Type} {ρ : ι → Type} (g1 : (∀ i, Option (ρ i)) → (List V) → Int → Str → Int → Int → Bool → Option (Xr (S_wire_fault × S_wire_reader) (V × S_wire_reader))) (h_g1 : ∀ y0 y1 y2 y3 y4 y5, CM (fun G => g1 G y0 y1 y2 y3 y4 y5)) (s4 : Int) (s10 : (List V)) (s11 : Str) (s12 : Int) (s13 : Int) (s14 : Bool) : CM (fun G : (∀ i, Option (ρ i)) => wire_reader_list_j1 (g1 G) s4 s10 s11 s12 s13 s14) := by
 simp only [wire_reader_list_j1]
 repeat (first | exact cm_const | exact h_g1 _ _ _ _ _ _ | refine cm_cond ?_ ?_ | refine cm_xbind ?_ (fun _ => ?_) | refine cm_bind ?_ (fun _ => ?_))
noncomputable def wire_reader_list_l1b (r_wire_reader_value : S_wire_reader → Int → Option (Xr (S_wire_fault × S_wire_reader) (V × S_wire_reader))) (a2 : Int) (x1 : (Int × S_wire_reader)) (g1 : (List V) → Int → Str → Int → Int → Bool → Option (Xr (S_wire_fault × S_wire_reader) (V × S_wire_reader))) (s3 : (List V)) (s4 : Int) (s5 : Str) (s6 : Int) (s7 : Int) (s8 : Bool) : Option (Xr (S_wire_fault × S_wire_reader) (V × S_wire_reader)) :=
 bif (decide (s4 < x1.1)) then (
  xbind (r_wire_reader_value (S_wire_reader.mk s5 s6 s7 s8) (IntKind.i64.wrap (a2 + 1))) (fun s => (s.1, (s.2))) fun x15 =>
  bif (x15.2).f_making then (
   Option.bind (appO 16 s3 ([x15.1] : (List V))) fun x18 =>
   wire_reader_list_j1 g1 s4 x18 ((x15.2).f_b) ((x15.2).f_at) ((x15.2).f_n) ((x15.2).f_making)
  ) else (
   wire_reader_list_j1 g1 s4 s3 ((x15.2).f_b) ((x15.2).f_at) ((x15.2).f_n) ((x15.2).f_making)
  )
 ) else (
  some (.ret ((V.list s3), (S_wire_reader.mk s5 s6 s7 s8)))
 )
theorem wire_reader_list_l1b_cm {ι : Type} {ρ : ι → Type} (r_wire_reader_value : (∀ i, Option (ρ i)) → S_wire_reader → Int → Option (Xr (S_wire_fault × S_wire_reader) (V × S_wire_reader))) (h_r_wire_reader_value : ∀ y0 y1, CM (fun G => r_wire_reader_value G y0 y1)) (g1 : (∀ i, Option (ρ i)) → (List V) → Int → Str → Int → Int → Bool → Option (Xr (S_wire_fault × S_wire_reader) (V × S_wire_reader))) (h_g1 : ∀ y0 y1 y2 y3 y4 y5, CM (fun G => g1 G y0 y1 y2 y3 y4 y5)) (a2 : Int) (x1 : (Int × S_wire_reader)) (s3 : (List V)) (s4 : Int) (s5 : Str) (s6 : Int) (s7 : Int) (s8 : Bool) : CM (fun G : (∀ i, Option (ρ i)) => wire_reader_list_l1b (r_wire_reader_value G) a2 x1 (g1 G) s3 s4 s5 s6 s7 s8) := by
 simp only [wire_reader_list_l1b]
 repeat (first | exact cm_const | exact h_r_wire_reader_value _ _ | exact h_g1 _ _ _ _ _ _ | apply wire_reader_list_j1_cm | refine cm_cond ?_ ?_ | refine cm_xbind ?_ (fun _ => ?_) | refine cm_bind ?_ (fun _ => ?_) | intro _ | assumption)
noncomputable def wire_reader_list_l1 (r_wire_reader_value : S_wire_reader → Int → Option (Xr (S_wire_fault × S_wire_reader) (V × S_wire_reader))) (a2 : Int) (x1 : (Int × S_wire_reader)) (s3 : (List V)) (s4 : Int) (s5 : Str) (s6 : Int) (s7 : Int) (s8 : Bool) : Option (Xr (S_wire_fault × S_wire_reader) (V × S_wire_reader)) :=
 fixO (ι := ((List V) × Int × Str × Int × Int × Bool)) (ρ := fun _ => (Xr (S_wire_fault × S_wire_reader) (V × S_wire_reader))) (fun g i => wire_reader_list_l1b r_wire_reader_value a2 x1 (fun s3 s4 s5 s6 s7 s8 => g (s3, s4, s5, s6, s7, s8)) i.1 i.2.1 i.2.2.1 i.2.2.2.1 i.2.2.2.2.1 i.2.2.2.2.2) (s3, s4, s5, s6, s7, s8)
theorem wire_reader_list_l1_eq (r_wire_reader_value : S_wire_reader → Int → Option (Xr (S_wire_fault × S_wire_reader) (V × S_wire_reader))) (a2 : Int) (x1 : (Int × S_wire_reader)) (s3 : (List V)) (s4 : Int) (s5 : Str) (s6 : Int) (s7 : Int) (s8 : Bool) : wire_reader_list_l1 r_wire_reader_value a2 x1 s3 s4 s5 s6 s7 s8 = wire_reader_list_l1b r_wire_reader_value a2 x1 (wire_reader_list_l1 r_wire_reader_value a2 x1) s3 s4 s5 s6 s7 s8 :=
 fixO_eq (ι := ((List V) × Int × Str × Int × Int × Bool)) (ρ := fun _ => (Xr (S_wire_fault × S_wire_reader) (V × S_wire_reader))) (Φ := fun g i => wire_reader_list_l1b r_wire_reader_value a2 x1 (fun s3 s4 s5 s6 s7 s8 => g (s3, s4, s5, s6, s7, s8)) i.1 i.2.1 i.2.2.1 i.2.2.2.1 i.2.2.2.2.1 i.2.2.2.2.2) (fun i => wire_reader_list_l1b_cm (ι := ((List V) × Int × Str × Int × Int × Bool)) (ρ := fun _ => (Xr (S_wire_fault × S_wire_reader) (V × S_wire_reader))) (fun _ => r_wire_reader_value) (fun _ _ => cm_const) (fun g => (fun s3 s4 s5 s6 s7 s8 => g (s3, s4, s5, s6, s7, s8))) (fun _ _ _ _ _ _ => cm_app) a2 x1 i.1 i.2.1 i.2.2.1 i.2.2.2.1 i.2.2.2.2.1 i.2.2.2.2.2) (s3, s4, s5, s6, s7, s8)
theorem wire_reader_list_l1_cm {ι : Type} {ρ : ι → Type} (r_wire_reader_value : (∀ i, Option (ρ i)) → S_wire_reader → Int → Option (Xr (S_wire_fault × S_wire_reader) (V × S_wire_reader))) (h_r_wire_reader_value : ∀ y0 y1, CM (fun G => r_wire_reader_value G y0 y1)) (a2 : Int) (x1 : (Int × S_wire_reader)) (s3 : (List V)) (s4 : Int) (s5 : Str) (s6 : Int) (s7 : Int) (s8 : Bool) : CM (fun G : (∀ i, Option (ρ i)) => wire_reader_list_l1 (r_wire_reader_value G) a2 x1 s3 s4 s5 s6 s7 s8) :=
 cm_fix (κ := ((List V) × Int × Str × Int × Int × Bool)) (τ := fun _ => (Xr (S_wire_fault × S_wire_reader) (V × S_wire_reader))) (Φ := fun G g i => wire_reader_list_l1b (r_wire_reader_value G) a2 x1 (fun s3 s4 s5 s6 s7 s8 => g (s3, s4, s5, s6, s7, s8)) i.1 i.2.1 i.2.2.1 i.2.2.2.1 i.2.2.2.2.1 i.2.2.2.2.2) (fun g i => wire_reader_list_l1b_cm r_wire_reader_value h_r_wire_reader_value (fun _ => (fun s3 s4 s5 s6 s7 s8 => g (s3, s4, s5, s6, s7, s8))) (fun _ _ _ _ _ _ => cm_const) a2 x1 i.1 i.2.1 i.2.2.1 i.2.2.2.1 i.2.2.2.2.1 i.2.2.2.2.2) (fun G i => wire_reader_list_l1b_cm (ι := ((List V) × Int × Str × Int × Int × Bool)) (ρ := fun _ => (Xr (S_wire_fault × S_wire_reader) (V × S_wire_reader))) (fun _ => r_wire_reader_value G) (fun _ _ => cm_const) (fun g => (fun s3 s4 s5 s6 s7 s8 => g (s3, s4, s5, s6, s7, s8))) (fun _ _ _ _ _ _ => cm_app) a2 x1 i.1 i.2.1 i.2.2.1 i.2.2.2.1 i.2.2.2.2.1 i.2.2.2.2.2) (s3, s4, s5, s6, s7, s8)
noncomputable def b_wire_reader_list (r_wire_reader_record : S_wire_reader → Int → Int → Option (Xr (S_wire_fault × S_wire_reader) (V × S_wire_reader))) (r_wire_reader_fields : S_wire_reader → Int → Int → Option (Xr (S_wire_fault × S_wire_reader) ((List (Str × V)) × S_wire_reader))) (r_wire_reader_list : S_wire_reader → Int → Int → Option (Xr (S_wire_fault × S_wire_reader) (V × S_wire_reader))) (r_wire_reader_value : S_wire_reader → Int → Option (Xr (S_wire_fault × S_wire_reader) (V × S_wire_reader))) (a0 : S_wire_reader) (a1 : Int) (a2 : Int) : Option (Xr (S_wire_fault × S_wire_reader) (V × S_wire_reader)) :=
 xbind (p_wire_reader_most a0 a1 4096) (fun s => (s.1, (s.2))) fun x1 =>
 wire_reader_list_l1 r_wire_reader_value a2 x1 ([] : (List V)) 0 ((x1.2).f_b) ((x1.2).f_at) ((x1.2).f_n) ((x1.2).f_making)
theorem b_wire_reader_list_cm {ι : Type} {ρ : ι → Type} (r_wire_reader_record : (∀ i, Option (ρ i)) → S_wire_reader → Int → Int → Option (Xr (S_wire_fault × S_wire_reader) (V × S_wire_reader))) (h_r_wire_reader_record : ∀ y0 y1 y2, CM (fun G => r_wire_reader_record G y0 y1 y2)) (r_wire_reader_fields : (∀ i, Option (ρ i)) → S_wire_reader → Int → Int → Option (Xr (S_wire_fault × S_wire_reader) ((List (Str × V)) × S_wire_reader))) (h_r_wire_reader_fields : ∀ y0 y1 y2, CM (fun G => r_wire_reader_fields G y0 y1 y2)) (r_wire_reader_list : (∀ i, Option (ρ i)) → S_wire_reader → Int → Int → Option (Xr (S_wire_fault × S_wire_reader) (V × S_wire_reader))) (h_r_wire_reader_list : ∀ y0 y1 y2, CM (fun G => r_wire_reader_list G y0 y1 y2)) (r_wire_reader_value : (∀ i, Option (ρ i)) → S_wire_reader → Int → Option (Xr (S_wire_fault × S_wire_reader) (V × S_wire_reader))) (h_r_wire_reader_value : ∀ y0 y1, CM (fun G => r_wire_reader_value G y0 y1)) (a0 : S_wire_reader) (a1 : Int) (a2 : Int) : CM (fun G : (∀ i, Option (ρ i)) => b_wire_reader_list (r_wire_reader_record G) (r_wire_reader_fields G) (r_wire_reader_list G) (r_wire_reader_value G) a0 a1 a2) := by
 simp only [b_wire_reader_list]
 repeat (first | exact cm_const | exact h_r_wire_reader_record _ _ _ | exact h_r_wire_reader_fields _ _ _ | exact h_r_wire_reader_list _ _ _ | exact h_r_wire_reader_value _ _ | apply wire_reader_list_l1_cm | refine cm_cond ?_ ?_ | refine cm_xbind ?_ (fun _ => ?_) | refine cm_bind ?_ (fun _ => ?_) | intro _ | assumption)
noncomputable def wire_reader_value_l1b (x23 : (Str × S_wire_reader)) (g1 : Int → Nat → Option (Xr (S_wire_fault × S_wire_reader) (V × S_wire_reader))) (s25 : Int) (s26 : Nat) : Option (Xr (S_wire_fault × S_wire_reader) (V × S_wire_reader)) :=
 bif (decide (((s26 : Nat) : Int) < (((x23.1).length : Nat) : Int))) then (
  Option.bind ((x23.1)[s26]?) fun x29 =>
  g1 (orK .u64 (shlK .u64 s25 8) ((x29).toNat : Int)) (s26 + 1)
 ) else (
  some (.ret ((V.float (s25).toNat), (x23.2)))
 )
theorem wire_reader_value_l1b_cm {ι : Type} {ρ : ι → Type} (g1 : (∀ i, Option (ρ i)) → Int → Nat → Option (Xr (S_wire_fault × S_wire_reader) (V × S_wire_reader))) (h_g1 : ∀ y0 y1, CM (fun G => g1 G y0 y1)) (x23 : (Str × S_wire_reader)) (s25 : Int) (s26 : Nat) : CM (fun G : (∀ i, Option (ρ i)) => wire_reader_value_l1b x23 (g1 G) s25 s26) := by
 simp only [wire_reader_value_l1b]
 repeat (first | exact cm_const | exact h_g1 _ _ | refine cm_cond ?_ ?_ | refine cm_xbind ?_ (fun _ => ?_) | refine cm_bind ?_ (fun _ => ?_))
noncomputable def wire_reader_value_l1 (x23 : (Str × S_wire_reader)) (s25 : Int) (s26 : Nat) : Option (Xr (S_wire_fault × S_wire_reader) (V × S_wire_reader)) :=
 fixO (ι := (Int × Nat)) (ρ := fun _ => (Xr (S_wire_fault × S_wire_reader) (V × S_wire_reader))) (fun g i => wire_reader_value_l1b x23 (fun s25 s26 => g (s25, s26)) i.1 i.2) (s25, s26)
theorem wire_reader_value_l1_eq (x23 : (Str × S_wire_reader)) (s25 : Int) (s26 : Nat) : wire_reader_value_l1 x23 s25 s26 = wire_reader_value_l1b x23 (wire_reader_value_l1 x23) s25 s26 :=
 fixO_eq (ι := (Int × Nat)) (ρ := fun _ => (Xr (S_wire_fault × S_wire_reader) (V × S_wire_reader))) (Φ := fun g i => wire_reader_value_l1b x23 (fun s25 s26 => g (s25, s26)) i.1 i.2) (fun i => wire_reader_value_l1b_cm (ι := (Int × Nat)) (ρ := fun _ => (Xr (S_wire_fault × S_wire_reader) (V × S_wire_reader))) (fun g => (fun s25 s26 => g (s25, s26))) (fun _ _ => cm_app) x23 i.1 i.2) (s25, s26)
noncomputable def wire_reader_value_j2 (r_wire_reader_record : S_wire_reader → Int → Int → Option (Xr (S_wire_fault × S_wire_reader) (V × S_wire_reader))) (r_wire_reader_fields : S_wire_reader → Int → Int → Option (Xr (S_wire_fault × S_wire_reader) ((List (Str × V)) × S_wire_reader))) (r_wire_reader_list : S_wire_reader → Int → Int → Option (Xr (S_wire_fault × S_wire_reader) (V × S_wire_reader))) (a0 : S_wire_reader) (a1 : Int) (x8 : UInt8) (s9 : Bool) : Option (Xr (S_wire_fault × S_wire_reader) (V × S_wire_reader)) :=
 bif s9 then (
  xbind (p_wire_reader_fail a0 a0.f_at 30) (fun s => (s.1, (s.2))) fun x11 => none
 ) else (
  bif (((x8).toNat : Int) == 2) then (
   xbind (p_wire_reader_byte (S_wire_reader.mk a0.f_b (IntKind.i64.wrap (a0.f_at + 1)) (IntKind.i64.wrap (a0.f_n + 1)) a0.f_making)) (fun s => (s.1, (s.2))) fun x14 =>
   bif (decide (((x14.1).toNat : Int) > (((1 : UInt8)).toNat : Int))) then (
    xbind (p_wire_reader_fail (x14.2) (IntKind.i64.wrap ((x14.2).f_at - 1)) 30) (fun s => (s.1, (s.2))) fun x17 => none
   ) else (
    some (.ret ((V.bool (((x14.1).toNat : Int) == (((1 : UInt8)).toNat : Int))), (x14.2)))
   )
  ) else (
   bif (((x8).toNat : Int) == 3) then (
    xbind (p_wire_reader_number (S_wire_reader.mk a0.f_b (IntKind.i64.wrap (a0.f_at + 1)) (IntKind.i64.wrap (a0.f_n + 1)) a0.f_making)) (fun s => (s.1, (s.2))) fun x20 =>
    some (.ret ((V.int (xorK .i64 (IntKind.i64.wrap (shrK .u64 x20.1 1)) (IntKind.i64.wrap (0 - (IntKind.i64.wrap (andK .u64 x20.1 1)))))), (x20.2)))
   ) else (
    bif (((x8).toNat : Int) == 4) then (
     xbind (p_wire_reader_take (S_wire_reader.mk a0.f_b (IntKind.i64.wrap (a0.f_at + 1)) (IntKind.i64.wrap (a0.f_n + 1)) a0.f_making) 8) (fun s => (s.1, (s.2))) fun x23 =>
     wire_reader_value_l1 x23 0 0
    ) else (
     bif (((x8).toNat : Int) == 5) then (
      xbind (p_wire_reader_most (S_wire_reader.mk a0.f_b (IntKind.i64.wrap (a0.f_at + 1)) (IntKind.i64.wrap (a0.f_n + 1)) a0.f_making) a0.f_at 65536) (fun s => (s.1, (s.2))) fun x31 =>
      xbind (p_wire_reader_take (x31.2) x31.1) (fun s => (s.1, (s.2))) fun x33 =>
      some (.ret ((V.text x33.1), (x33.2)))
     ) else (
      bif (((x8).toNat : Int) == 6) then (
       xbind (p_wire_reader_most (S_wire_reader.mk a0.f_b (IntKind.i64.wrap (a0.f_at + 1)) (IntKind.i64.wrap (a0.f_n + 1)) a0.f_making) a0.f_at 65536) (fun s => (s.1, (s.2))) fun x36 =>
       xbind (p_wire_reader_take (x36.2) x36.1) (fun s => (s.1, (s.2))) fun x38 =>
       Option.bind (appO 1 ([] : Str) x38.1) fun x40 =>
       some (.ret ((V.bytes x40), (x38.2)))
      ) else (
       bif (((x8).toNat : Int) == 7) then (
        xbind (p_wire_reader_number (S_wire_reader.mk a0.f_b (IntKind.i64.wrap (a0.f_at + 1)) (IntKind.i64.wrap (a0.f_n + 1)) a0.f_making)) (fun s => (s.1, (s.2))) fun x42 =>
        some (.ret ((V.ref x42.1), (x42.2)))
       ) else (
        bif (((x8).toNat : Int) == 8) then (
         xbind (r_wire_reader_list (S_wire_reader.mk a0.f_b (IntKind.i64.wrap (a0.f_at + 1)) (IntKind.i64.wrap (a0.f_n + 1)) a0.f_making) a0.f_at a1) (fun s => (s.1, (s.2))) fun x45 =>
         some (.ret (x45.1, (x45.2)))
        ) else (
         bif (((x8).toNat : Int) == 9) then (
          xbind (r_wire_reader_fields (S_wire_reader.mk a0.f_b (IntKind.i64.wrap (a0.f_at + 1)) (IntKind.i64.wrap (a0.f_n + 1)) a0.f_making) a0.f_at a1) (fun s => (s.1, (s.2))) fun x48 =>
          some (.ret ((V.dict x48.1), (x48.2)))
         ) else (
          bif (((x8).toNat : Int) == 10) then (
           xbind (r_wire_reader_record (S_wire_reader.mk a0.f_b (IntKind.i64.wrap (a0.f_at + 1)) (IntKind.i64.wrap (a0.f_n + 1)) a0.f_making) a0.f_at a1) (fun s => (s.1, (s.2))) fun x51 =>
           some (.ret (x51.1, (x51.2)))
          ) else (
           some (.ret (V.nil, (S_wire_reader.mk a0.f_b (IntKind.i64.wrap (a0.f_at + 1)) (IntKind.i64.wrap (a0.f_n + 1)) a0.f_making)))
          )
         )
        )
       )
      )
     )
    )
   )
  )
 )
theorem wire_reader_value_j2_cm {ι : Type} {ρ : ι → Type} (r_wire_reader_record : (∀ i, Option (ρ i)) → S_wire_reader → Int → Int → Option (Xr (S_wire_fault × S_wire_reader) (V × S_wire_reader))) (h_r_wire_reader_record : ∀ y0 y1 y2, CM (fun G => r_wire_reader_record G y0 y1 y2)) (r_wire_reader_fields : (∀ i, Option (ρ i)) → S_wire_reader → Int → Int → Option (Xr (S_wire_fault × S_wire_reader) ((List (Str × V)) × S_wire_reader))) (h_r_wire_reader_fields : ∀ y0 y1 y2, CM (fun G => r_wire_reader_fields G y0 y1 y2)) (r_wire_reader_list : (∀ i, Option (ρ i)) → S_wire_reader → Int → Int → Option (Xr (S_wire_fault × S_wire_reader) (V × S_wire_reader))) (h_r_wire_reader_list : ∀ y0 y1 y2, CM (fun G => r_wire_reader_list G y0 y1 y2)) (a0 : S_wire_reader) (a1 : Int) (x8 : UInt8) (s9 : Bool) : CM (fun G : (∀ i, Option (ρ i)) => wire_reader_value_j2 (r_wire_reader_record G) (r_wire_reader_fields G) (r_wire_reader_list G) a0 a1 x8 s9) := by
 simp only [wire_reader_value_j2]
 repeat (first | exact cm_const | exact h_r_wire_reader_record _ _ _ | exact h_r_wire_reader_fields _ _ _ | exact h_r_wire_reader_list _ _ _ | apply wire_reader_value_l1_cm | refine cm_cond ?_ ?_ | refine cm_xbind ?_ (fun _ => ?_) | refine cm_bind ?_ (fun _ => ?_) | intro _ | assumption)
noncomputable def wire_reader_value_j1 (r_wire_reader_record : S_wire_reader → Int → Int → Option (Xr (S_wire_fault × S_wire_reader) (V × S_wire_reader))) (r_wire_reader_fields : S_wire_reader → Int → Int → Option (Xr (S_wire_fault × S_wire_reader) ((List (Str × V)) × S_wire_reader))) (r_wire_reader_list : S_wire_reader → Int → Int → Option (Xr (S_wire_fault × S_wire_reader) (V × S_wire_reader))) (a0 : S_wire_reader) (a1 : Int) (s4 : Bool) : Option (Xr (S_wire_fault × S_wire_reader) (V × S_wire_reader)) :=
 bif s4 then (
  xbind (p_wire_reader_fail a0 a0.f_at 2) (fun s => (s.1, (s.2))) fun x6 => none
 ) else (
  Option.bind (idxI a0.f_b a0.f_at) fun x8 =>
  bif (decide (((x8).toNat : Int) < 1)) then (
   wire_reader_value_j2 r_wire_reader_record r_wire_reader_fields r_wire_reader_list a0 a1 x8 true
  ) else (
   wire_reader_value_j2 r_wire_reader_record r_wire_reader_fields r_wire_reader_list a0 a1 x8 (decide (((x8).toNat : Int) > 10))
  )
 )
theorem wire_reader_value_j1_cm {ι : Type} {ρ : ι → Type} (r_wire_reader_record : (∀ i, Option (ρ i)) → S_wire_reader → Int → Int → Option (Xr (S_wire_fault × S_wire_reader) (V × S_wire_reader))) (h_r_wire_reader_record : ∀ y0 y1 y2, CM (fun G => r_wire_reader_record G y0 y1 y2)) (r_wire_reader_fields : (∀ i, Option (ρ i)) → S_wire_reader → Int → Int → Option (Xr (S_wire_fault × S_wire_reader) ((List (Str × V)) × S_wire_reader))) (h_r_wire_reader_fields : ∀ y0 y1 y2, CM (fun G => r_wire_reader_fields G y0 y1 y2)) (r_wire_reader_list : (∀ i, Option (ρ i)) → S_wire_reader → Int → Int → Option (Xr (S_wire_fault × S_wire_reader) (V × S_wire_reader))) (h_r_wire_reader_list : ∀ y0 y1 y2, CM (fun G => r_wire_reader_list G y0 y1 y2)) (a0 : S_wire_reader) (a1 : Int) (s4 : Bool) : CM (fun G : (∀ i, Option (ρ i)) => wire_reader_value_j1 (r_wire_reader_record G) (r_wire_reader_fields G) (r_wire_reader_list G) a0 a1 s4) := by
 simp only [wire_reader_value_j1]
 repeat (first | exact cm_const | exact h_r_wire_reader_record _ _ _ | exact h_r_wire_reader_fields _ _ _ | exact h_r_wire_reader_list _ _ _ | apply wire_reader_value_j2_cm | refine cm_cond ?_ ?_ | refine cm_xbind ?_ (fun _ => ?_) | refine cm_bind ?_ (fun _ => ?_) | intro _ | assumption)
noncomputable def b_wire_reader_value (r_wire_reader_record : S_wire_reader → Int → Int → Option (Xr (S_wire_fault × S_wire_reader) (V × S_wire_reader))) (r_wire_reader_fields : S_wire_reader → Int → Int → Option (Xr (S_wire_fault × S_wire_reader) ((List (Str × V)) × S_wire_reader))) (r_wire_reader_list : S_wire_reader → Int → Int → Option (Xr (S_wire_fault × S_wire_reader) (V × S_wire_reader))) (r_wire_reader_value : S_wire_reader → Int → Option (Xr (S_wire_fault × S_wire_reader) (V × S_wire_reader))) (a0 : S_wire_reader) (a1 : Int) : Option (Xr (S_wire_fault × S_wire_reader) (V × S_wire_reader)) :=
 bif (a0.f_at == (((a0.f_b).length : Nat) : Int)) then (
  xbind (p_wire_reader_fail a0 a0.f_at 4) (fun s => (s.1, (s.2))) fun x2 => none
 ) else (
  bif (decide (a0.f_n ≥ 16384)) then (
   wire_reader_value_j1 r_wire_reader_record r_wire_reader_fields r_wire_reader_list a0 a1 true
  ) else (
   wire_reader_value_j1 r_wire_reader_record r_wire_reader_fields r_wire_reader_list a0 a1 (decide (a1 > 64))
  )
 )
theorem b_wire_reader_value_cm {ι : Type} {ρ : ι → Type} (r_wire_reader_record : (∀ i, Option (ρ i)) → S_wire_reader → Int → Int → Option (Xr (S_wire_fault × S_wire_reader) (V × S_wire_reader))) (h_r_wire_reader_record : ∀ y0 y1 y2, CM (fun G => r_wire_reader_record G y0 y1 y2)) (r_wire_reader_fields : (∀ i, Option (ρ i)) → S_wire_reader → Int → Int → Option (Xr (S_wire_fault × S_wire_reader) ((List (Str × V)) × S_wire_reader))) (h_r_wire_reader_fields : ∀ y0 y1 y2, CM (fun G => r_wire_reader_fields G y0 y1 y2)) (r_wire_reader_list : (∀ i, Option (ρ i)) → S_wire_reader → Int → Int → Option (Xr (S_wire_fault × S_wire_reader) (V × S_wire_reader))) (h_r_wire_reader_list : ∀ y0 y1 y2, CM (fun G => r_wire_reader_list G y0 y1 y2)) (r_wire_reader_value : (∀ i, Option (ρ i)) → S_wire_reader → Int → Option (Xr (S_wire_fault × S_wire_reader) (V × S_wire_reader))) (h_r_wire_reader_value : ∀ y0 y1, CM (fun G => r_wire_reader_value G y0 y1)) (a0 : S_wire_reader) (a1 : Int) : CM (fun G : (∀ i, Option (ρ i)) => b_wire_reader_value (r_wire_reader_record G) (r_wire_reader_fields G) (r_wire_reader_list G) (r_wire_reader_value G) a0 a1) := by
 simp only [b_wire_reader_value]
 repeat (first | exact cm_const | exact h_r_wire_reader_record _ _ _ | exact h_r_wire_reader_fields _ _ _ | exact h_r_wire_reader_list _ _ _ | exact h_r_wire_reader_value _ _ | apply wire_reader_value_j1_cm | refine cm_cond ?_ ?_ | refine cm_xbind ?_ (fun _ => ?_) | refine cm_bind ?_ (fun _ => ?_) | intro _ | assumption)
inductive C_wire_reader_record where
 | k_wire_reader_record (a0 : S_wire_reader) (a1 : Int) (a2 : Int)
 | k_wire_reader_fields (a0 : S_wire_reader) (a1 : Int) (a2 : Int)
 | k_wire_reader_list (a0 : S_wire_reader) (a1 : Int) (a2 : Int)
 | k_wire_reader_value (a0 : S_wire_reader) (a1 : Int)
def C_wire_reader_record.R : C_wire_reader_record → Type
 | .k_wire_reader_record _ _ _ => (Xr (S_wire_fault × S_wire_reader) (V × S_wire_reader))
 | .k_wire_reader_fields _ _ _ => (Xr (S_wire_fault × S_wire_reader) ((List (Str × V)) × S_wire_reader))
 | .k_wire_reader_list _ _ _ => (Xr (S_wire_fault × S_wire_reader) (V × S_wire_reader))
 | .k_wire_reader_value _ _ => (Xr (S_wire_fault × S_wire_reader) (V × S_wire_reader))
noncomputable def C_wire_reader_record.F (g : ∀ i : C_wire_reader_record, Option i.R) : ∀ i : C_wire_reader_record, Option i.R
 | .k_wire_reader_record a0 a1 a2 => b_wire_reader_record (fun a0 a1 a2 => g (.k_wire_reader_record a0 a1 a2)) (fun a0 a1 a2 => g (.k_wire_reader_fields a0 a1 a2)) (fun a0 a1 a2 => g (.k_wire_reader_list a0 a1 a2)) (fun a0 a1 => g (.k_wire_reader_value a0 a1)) a0 a1 a2
 | .k_wire_reader_fields a0 a1 a2 => b_wire_reader_fields (fun a0 a1 a2 => g (.k_wire_reader_record a0 a1 a2)) (fun a0 a1 a2 => g (.k_wire_reader_fields a0 a1 a2)) (fun a0 a1 a2 => g (.k_wire_reader_list a0 a1 a2)) (fun a0 a1 => g (.k_wire_reader_value a0 a1)) a0 a1 a2
 | .k_wire_reader_list a0 a1 a2 => b_wire_reader_list (fun a0 a1 a2 => g (.k_wire_reader_record a0 a1 a2)) (fun a0 a1 a2 => g (.k_wire_reader_fields a0 a1 a2)) (fun a0 a1 a2 => g (.k_wire_reader_list a0 a1 a2)) (fun a0 a1 => g (.k_wire_reader_value a0 a1)) a0 a1 a2
 | .k_wire_reader_value a0 a1 => b_wire_reader_value (fun a0 a1 a2 => g (.k_wire_reader_record a0 a1 a2)) (fun a0 a1 a2 => g (.k_wire_reader_fields a0 a1 a2)) (fun a0 a1 a2 => g (.k_wire_reader_list a0 a1 a2)) (fun a0 a1 => g (.k_wire_reader_value a0 a1)) a0 a1
noncomputable def p_wire_reader_record (a0 : S_wire_reader) (a1 : Int) (a2 : Int) : Option (Xr (S_wire_fault × S_wire_reader) (V × S_wire_reader)) := fixO C_wire_reader_record.F (.k_wire_reader_record a0 a1 a2)
noncomputable def p_wire_reader_fields (a0 : S_wire_reader) (a1 : Int) (a2 : Int) : Option (Xr (S_wire_fault × S_wire_reader) ((List (Str × V)) × S_wire_reader)) := fixO C_wire_reader_record.F (.k_wire_reader_fields a0 a1 a2)
noncomputable def p_wire_reader_list (a0 : S_wire_reader) (a1 : Int) (a2 : Int) : Option (Xr (S_wire_fault × S_wire_reader) (V × S_wire_reader)) := fixO C_wire_reader_record.F (.k_wire_reader_list a0 a1 a2)
noncomputable def p_wire_reader_value (a0 : S_wire_reader) (a1 : Int) : Option (Xr (S_wire_fault × S_wire_reader) (V × S_wire_reader)) := fixO C_wire_reader_record.F (.k_wire_reader_value a0 a1)
theorem C_wire_reader_record.cm (i : C_wire_reader_record) : CM (fun g : (∀ i : C_wire_reader_record, Option i.R) => C_wire_reader_record.F g i) := by
 cases i with
 | k_wire_reader_record a0 a1 a2 => exact b_wire_reader_record_cm (fun (g : ∀ i : C_wire_reader_record, Option i.R) a0 a1 a2 => g (.k_wire_reader_record a0 a1 a2)) (fun a0 a1 a2 => cm_app (i := C_wire_reader_record.k_wire_reader_record a0 a1 a2)) (fun (g : ∀ i : C_wire_reader_record, Option i.R) a0 a1 a2 => g (.k_wire_reader_fields a0 a1 a2)) (fun a0 a1 a2 => cm_app (i := C_wire_reader_record.k_wire_reader_fields a0 a1 a2)) (fun (g : ∀ i : C_wire_reader_record, Option i.R) a0 a1 a2 => g (.k_wire_reader_list a0 a1 a2)) (fun a0 a1 a2 => cm_app (i := C_wire_reader_record.k_wire_reader_list a0 a1 a2)) (fun (g : ∀ i : C_wire_reader_record, Option i.R) a0 a1 => g (.k_wire_reader_value a0 a1)) (fun a0 a1 => cm_app (i := C_wire_reader_record.k_wire_reader_value a0 a1)) a0 a1 a2
 | k_wire_reader_fields a0 a1 a2 => exact b_wire_reader_fields_cm (fun (g : ∀ i : C_wire_reader_record, Option i.R) a0 a1 a2 => g (.k_wire_reader_record a0 a1 a2)) (fun a0 a1 a2 => cm_app (i := C_wire_reader_record.k_wire_reader_record a0 a1 a2)) (fun (g : ∀ i : C_wire_reader_record, Option i.R) a0 a1 a2 => g (.k_wire_reader_fields a0 a1 a2)) (fun a0 a1 a2 => cm_app (i := C_wire_reader_record.k_wire_reader_fields a0 a1 a2)) (fun (g : ∀ i : C_wire_reader_record, Option i.R) a0 a1 a2 => g (.k_wire_reader_list a0 a1 a2)) (fun a0 a1 a2 => cm_app (i := C_wire_reader_record.k_wire_reader_list a0 a1 a2)) (fun (g : ∀ i : C_wire_reader_record, Option i.R) a0 a1 => g (.k_wire_reader_value a0 a1)) (fun a0 a1 => cm_app (i := C_wire_reader_record.k_wire_reader_value a0 a1)) a0 a1 a2
 | k_wire_reader_list a0 a1 a2 => exact b_wire_reader_list_cm (fun (g : ∀ i : C_wire_reader_record, Option i.R) a0 a1 a2 => g (.k_wire_reader_record a0 a1 a2)) (fun a0 a1 a2 => cm_app (i := C_wire_reader_record.k_wire_reader_record a0 a1 a2)) (fun (g : ∀ i : C_wire_reader_record, Option i.R) a0 a1 a2 => g (.k_wire_reader_fields a0 a1 a2)) (fun a0 a1 a2 => cm_app (i := C_wire_reader_record.k_wire_reader_fields a0 a1 a2)) (fun (g : ∀ i : C_wire_reader_record, Option i.R) a0 a1 a2 => g (.k_wire_reader_list a0 a1 a2)) (fun a0 a1 a2 => cm_app (i := C_wire_reader_record.k_wire_reader_list a0 a1 a2)) (fun (g : ∀ i : C_wire_reader_record, Option i.R) a0 a1 => g (.k_wire_reader_value a0 a1)) (fun a0 a1 => cm_app (i := C_wire_reader_record.k_wire_reader_value a0 a1)) a0 a1 a2
 | k_wire_reader_value a0 a1 => exact b_wire_reader_value_cm (fun (g : ∀ i : C_wire_reader_record, Option i.R) a0 a1 a2 => g (.k_wire_reader_record a0 a1 a2)) (fun a0 a1 a2 => cm_app (i := C_wire_reader_record.k_wire_reader_record a0 a1 a2)) (fun (g : ∀ i : C_wire_reader_record, Option i.R) a0 a1 a2 => g (.k_wire_reader_fields a0 a1 a2)) (fun a0 a1 a2 => cm_app (i := C_wire_reader_record.k_wire_reader_fields a0 a1 a2)) (fun (g : ∀ i : C_wire_reader_record, Option i.R) a0 a1 a2 => g (.k_wire_reader_list a0 a1 a2)) (fun a0 a1 a2 => cm_app (i := C_wire_reader_record.k_wire_reader_list a0 a1 a2)) (fun (g : ∀ i : C_wire_reader_record, Option i.R) a0 a1 => g (.k_wire_reader_value a0 a1)) (fun a0 a1 => cm_app (i := C_wire_reader_record.k_wire_reader_value a0 a1)) a0 a1
theorem e_wire_reader_record (a0 : S_wire_reader) (a1 : Int) (a2 : Int) : p_wire_reader_record a0 a1 a2 = b_wire_reader_record p_wire_reader_record p_wire_reader_fields p_wire_reader_list p_wire_reader_value a0 a1 a2 := fixO_eq C_wire_reader_record.cm (.k_wire_reader_record a0 a1 a2)
theorem e_wire_reader_fields (a0 : S_wire_reader) (a1 : Int) (a2 : Int) : p_wire_reader_fields a0 a1 a2 = b_wire_reader_fields p_wire_reader_record p_wire_reader_fields p_wire_reader_list p_wire_reader_value a0 a1 a2 := fixO_eq C_wire_reader_record.cm (.k_wire_reader_fields a0 a1 a2)
theorem e_wire_reader_list (a0 : S_wire_reader) (a1 : Int) (a2 : Int) : p_wire_reader_list a0 a1 a2 = b_wire_reader_list p_wire_reader_record p_wire_reader_fields p_wire_reader_list p_wire_reader_value a0 a1 a2 := fixO_eq C_wire_reader_record.cm (.k_wire_reader_list a0 a1 a2)
theorem e_wire_reader_value (a0 : S_wire_reader) (a1 : Int) : p_wire_reader_value a0 a1 = b_wire_reader_value p_wire_reader_record p_wire_reader_fields p_wire_reader_list p_wire_reader_value a0 a1 := fixO_eq C_wire_reader_record.cm (.k_wire_reader_value a0 a1)
def C_wire_reader_record.Q : ∀ i : C_wire_reader_record, i.R → Prop
 | .k_wire_reader_record a0 a1 a2 => fun (r : (Xr (S_wire_fault × S_wire_reader) (V × S_wire_reader))) => ACalls Try.prog 68 [(PV.rf 0 0), (I64 a1), (I64 a2)] [.box 110 [(PV.old (PV.sl none 5 1 (List.map ofB a0.f_b))), (I64 a0.f_at), (I64 a0.f_n), (BO a0.f_making)]] (XQ r (fun r => (ofV r.1)) (fun r => [.box 110 [(PV.old (PV.sl none 5 1 (List.map ofB (r.2).f_b))), (I64 ((r.2).f_at)), (I64 ((r.2).f_n)), (BO ((r.2).f_making))]]) (fun r => (PV.iface 112 (of_wire_fault r.1))) (fun r => [.box 110 [(PV.old (PV.sl none 5 1 (List.map ofB (r.2).f_b))), (I64 ((r.2).f_at)), (I64 ((r.2).f_n)), (BO ((r.2).f_making))]]))
 | .k_wire_reader_fields a0 a1 a2 => fun (r : (Xr (S_wire_fault × S_wire_reader) ((List (Str × V)) × S_wire_reader))) => ACalls Try.prog 67 [(PV.rf 0 0), (I64 a1), (I64 a2)] [.box 110 [(PV.old (PV.sl none 5 1 (List.map ofB a0.f_b))), (I64 a0.f_at), (I64 a0.f_n), (BO a0.f_making)]] (XQ r (fun r => (PV.sl none 88 2 (List.map ofFld r.1))) (fun r => [.box 110 [(PV.old (PV.sl none 5 1 (List.map ofB (r.2).f_b))), (I64 ((r.2).f_at)), (I64 ((r.2).f_n)), (BO ((r.2).f_making))]]) (fun r => (PV.iface 112 (of_wire_fault r.1))) (fun r => [.box 110 [(PV.old (PV.sl none 5 1 (List.map ofB (r.2).f_b))), (I64 ((r.2).f_at)), (I64 ((r.2).f_n)), (BO ((r.2).f_making))]]))
 | .k_wire_reader_list a0 a1 a2 => fun (r : (Xr (S_wire_fault × S_wire_reader) (V × S_wire_reader))) => ACalls Try.prog 66 [(PV.rf 0 0), (I64 a1), (I64 a2)] [.box 110 [(PV.old (PV.sl none 5 1 (List.map ofB a0.f_b))), (I64 a0.f_at), (I64 a0.f_n), (BO a0.f_making)]] (XQ r (fun r => (ofV r.1)) (fun r => [.box 110 [(PV.old (PV.sl none 5 1 (List.map ofB (r.2).f_b))), (I64 ((r.2).f_at)), (I64 ((r.2).f_n)), (BO ((r.2).f_making))]]) (fun r => (PV.iface 112 (of_wire_fault r.1))) (fun r => [.box 110 [(PV.old (PV.sl none 5 1 (List.map ofB (r.2).f_b))), (I64 ((r.2).f_at)), (I64 ((r.2).f_n)), (BO ((r.2).f_making))]]))
 | .k_wire_reader_value a0 a1 => fun (r : (Xr (S_wire_fault × S_wire_reader) (V × S_wire_reader))) => ACalls Try.prog 52 [(PV.rf 0 0), (I64 a1)] [.box 110 [(PV.old (PV.sl none 5 1 (List.map ofB a0.f_b))), (I64 a0.f_at), (I64 a0.f_n), (BO a0.f_making)]] (XQ r (fun r => (ofV r.1)) (fun r => [.box 110 [(PV.old (PV.sl none 5 1 (List.map ofB (r.2).f_b))), (I64 ((r.2).f_at)), (I64 ((r.2).f_n)), (BO ((r.2).f_making))]]) (fun r => (PV.iface 112 (of_wire_fault r.1))) (fun r => [.box 110 [(PV.old (PV.sl none 5 1 (List.map ofB (r.2).f_b))), (I64 ((r.2).f_at)), (I64 ((r.2).f_n)), (BO ((r.2).f_making))]]))
theorem t_wire_reader_record (r_wire_reader_record : S_wire_reader → Int → Int → Option (Xr (S_wire_fault × S_wire_reader) (V × S_wire_reader))) (c_wire_reader_record : ∀ (a0 : S_wire_reader) (a1 : Int) (a2 : Int) r, r_wire_reader_record a0 a1 a2 = some r → ACalls Try.prog 68 [(PV.rf 0 0), (I64 a1), (I64 a2)] [.box 110 [(PV.old (PV.sl none 5 1 (List.map ofB a0.f_b))), (I64 a0.f_at), (I64 a0.f_n), (BO a0.f_making)]] (XQ r (fun r => (ofV r.1)) (fun r => [.box 110 [(PV.old (PV.sl none 5 1 (List.map ofB (r.2).f_b))), (I64 ((r.2).f_at)), (I64 ((r.2).f_n)), (BO ((r.2).f_making))]]) (fun r => (PV.iface 112 (of_wire_fault r.1))) (fun r => [.box 110 [(PV.old (PV.sl none 5 1 (List.map ofB (r.2).f_b))), (I64 ((r.2).f_at)), (I64 ((r.2).f_n)), (BO ((r.2).f_making))]]))) (r_wire_reader_fields : S_wire_reader → Int → Int → Option (Xr (S_wire_fault × S_wire_reader) ((List (Str × V)) × S_wire_reader))) (c_wire_reader_fields : ∀ (a0 : S_wire_reader) (a1 : Int) (a2 : Int) r, r_wire_reader_fields a0 a1 a2 = some r → ACalls Try.prog 67 [(PV.rf 0 0), (I64 a1), (I64 a2)] [.box 110 [(PV.old (PV.sl none 5 1 (List.map ofB a0.f_b))), (I64 a0.f_at), (I64 a0.f_n), (BO a0.f_making)]] (XQ r (fun r => (PV.sl none 88 2 (List.map ofFld r.1))) (fun r => [.box 110 [(PV.old (PV.sl none 5 1 (List.map ofB (r.2).f_b))), (I64 ((r.2).f_at)), (I64 ((r.2).f_n)), (BO ((r.2).f_making))]]) (fun r => (PV.iface 112 (of_wire_fault r.1))) (fun r => [.box 110 [(PV.old (PV.sl none 5 1 (List.map ofB (r.2).f_b))), (I64 ((r.2).f_at)), (I64 ((r.2).f_n)), (BO ((r.2).f_making))]]))) (r_wire_reader_list : S_wire_reader → Int → Int → Option (Xr (S_wire_fault × S_wire_reader) (V × S_wire_reader))) (c_wire_reader_list : ∀ (a0 : S_wire_reader) (a1 : Int) (a2 : Int) r, r_wire_reader_list a0 a1 a2 = some r → ACalls Try.prog 66 [(PV.rf 0 0), (I64 a1), (I64 a2)] [.box 110 [(PV.old (PV.sl none 5 1 (List.map ofB a0.f_b))), (I64 a0.f_at), (I64 a0.f_n), (BO a0.f_making)]] (XQ r (fun r => (ofV r.1)) (fun r => [.box 110 [(PV.old (PV.sl none 5 1 (List.map ofB (r.2).f_b))), (I64 ((r.2).f_at)), (I64 ((r.2).f_n)), (BO ((r.2).f_making))]]) (fun r => (PV.iface 112 (of_wire_fault r.1))) (fun r => [.box 110 [(PV.old (PV.sl none 5 1 (List.map ofB (r.2).f_b))), (I64 ((r.2).f_at)), (I64 ((r.2).f_n)), (BO ((r.2).f_making))]]))) (r_wire_reader_value : S_wire_reader → Int → Option (Xr (S_wire_fault × S_wire_reader) (V × S_wire_reader))) (c_wire_reader_value : ∀ (a0 : S_wire_reader) (a1 : Int) r, r_wire_reader_value a0 a1 = some r → ACalls Try.prog 52 [(PV.rf 0 0), (I64 a1)] [.box 110 [(PV.old (PV.sl none 5 1 (List.map ofB a0.f_b))), (I64 a0.f_at), (I64 a0.f_n), (BO a0.f_making)]] (XQ r (fun r => (ofV r.1)) (fun r => [.box 110 [(PV.old (PV.sl none 5 1 (List.map ofB (r.2).f_b))), (I64 ((r.2).f_at)), (I64 ((r.2).f_n)), (BO ((r.2).f_making))]]) (fun r => (PV.iface 112 (of_wire_fault r.1))) (fun r => [.box 110 [(PV.old (PV.sl none 5 1 (List.map ofB (r.2).f_b))), (I64 ((r.2).f_at)), (I64 ((r.2).f_n)), (BO ((r.2).f_making))]]))) (a0 : S_wire_reader) (a1 : Int) (a2 : Int) (r : (Xr (S_wire_fault × S_wire_reader) (V × S_wire_reader))) (h : b_wire_reader_record r_wire_reader_record r_wire_reader_fields r_wire_reader_list r_wire_reader_value a0 a1 a2 = some r) : ACalls Try.prog 68 [(PV.rf 0 0), (I64 a1), (I64 a2)] [.box 110 [(PV.old (PV.sl none 5 1 (List.map ofB a0.f_b))), (I64 a0.f_at), (I64 a0.f_n), (BO a0.f_making)]] (XQ r (fun r => (ofV r.1)) (fun r => [.box 110 [(PV.old (PV.sl none 5 1 (List.map ofB (r.2).f_b))), (I64 ((r.2).f_at)), (I64 ((r.2).f_n)), (BO ((r.2).f_making))]]) (fun r => (PV.iface 112 (of_wire_fault r.1))) (fun r => [.box 110 [(PV.old (PV.sl none 5 1 (List.map ofB (r.2).f_b))), (I64 ((r.2).f_at)), (I64 ((r.2).f_n)), (BO ((r.2).f_making))]])) := by
 unfold b_wire_reader_record at h
 refine acalls_of Try.func68 rfl Try.ntmps68 Try.results68 rfl (aw_of_bw ?_)
 change BW _ _ _ ⟨[(0, (PV.rf 0 0)), (1, (I64 a1)), (2, (I64 a2))], [.box 110 [(PV.old (PV.sl none 5 1 (List.map ofB a0.f_b))), (I64 a0.f_at), (I64 a0.f_n), (BO a0.f_making)]], _⟩ _
 refine bR ?_
 refine sA rfl rfl rfl rfl rfl (ao_nil ?_)
 change BW _ _ _ _ _
 refine bR ?_
 refine sM rfl rfl rfl rfl rfl ?_
 refine sM rfl rfl rfl rfl rfl ?_
 obtain ⟨x2, hx2, rfl⟩ | ⟨x1, hx1, h⟩ := xbind_some h
 ·refine ao_ncall [0] (.func rfl) rfl en_77 rfl (.cons (Wk.refl _) (.cons (Wk.refl _) .nil)) rfl (.cons rfl (.box (.cons (.same (ids_old (ids_slM (fun _ => rfl) a0.f_b))) (.cons (.same rfl) (.cons (.same rfl) (.cons (.same rfl) .nil))))) .nil) (.cons (.rf rfl) (.cons (.same rfl) .nil)) (s_wire_reader_name a0 a1 (.pan x2) hx2) (.same rfl) (.cons (.box (.cons (.same (ids_old (ids_slM (fun _ => rfl) ((x2.2).f_b)))) (.cons (.same rfl) (.cons (.same rfl) (.cons (.same rfl) .nil))))) .nil) rfl ?_
  repeat (first | refine seqB_pan ?_ | refine blockK_pan ?_ | refine jumpK_pan ?_)
  exact endK_pan (endR (y := (PV.iface 112 (of_wire_fault x2.1))) 1 (Wk.refl _) rfl rfl (.same rfl) (.cons (.box (.cons (.same (ids_old (ids_slM (fun _ => rfl) (((x2.2)).f_b)))) (.cons (.same rfl) (.cons (.same rfl) (.cons (.same rfl) .nil))))) .nil) (xq_pan rfl rfl))
 refine sS rfl rfl rfl (op1_mcall [0] (.func rfl) en_77 rfl (.cons (Wk.refl _) (.cons (Wk.refl _) .nil)) rfl (.cons rfl (.box (.cons (.same (ids_old (ids_slM (fun _ => rfl) a0.f_b))) (.cons (.same rfl) (.cons (.same rfl) (.cons (.same rfl) .nil))))) .nil) (.cons (.rf rfl) (.cons (.same rfl) .nil)) (s_wire_reader_name a0 a1 (.ret x1) hx1) (.same rfl) (.cons (.box (.cons (.same (ids_old (ids_slM (fun _ => rfl) ((x1.2).f_b)))) (.cons (.same rfl) (.cons (.same rfl) (.cons (.same rfl) .nil))))) .nil) rfl) ?_
 refine sS rfl rfl rfl (op1_build (cs := [(ofStr x1.1), (I64 0), (PV.v (.slice none 0 0))]) st_67 inf_67 rfl rfl rfl rfl) ?_
 refine sS rfl rfl rfl (op1_box rfl rfl rfl) ?_
 refine sA rfl rfl rfl rfl rfl (ao_nil ?_)
 change BW _ _ _ _ _
 refine bR ?_
 refine sM rfl rfl rfl rfl rfl ?_
 obtain ⟨x4, hx4, rfl⟩ | ⟨x3, hx3, h⟩ := xbind_some h
 ·refine ao_ncall [0] (.func rfl) rfl en_62 rfl (.cons (Wk.refl _) .nil) rfl (.cons rfl (.box (.cons (.same (ids_old (ids_slM (fun _ => rfl) (((x1.2)).f_b)))) (.cons (.same rfl) (.cons (.same rfl) (.cons (.same rfl) .nil))))) .nil) (.cons (.rf rfl) .nil) (s_wire_reader_number (x1.2) (.pan x4) hx4) (.same rfl) (.cons (.box (.cons (.same (ids_old (ids_slM (fun _ => rfl) ((x4.2).f_b)))) (.cons (.same rfl) (.cons (.same rfl) (.cons (.same rfl) .nil))))) .nil) rfl ?_
  repeat (first | refine seqB_pan ?_ | refine blockK_pan ?_ | refine jumpK_pan ?_)
  exact endK_pan (endR (y := (PV.iface 112 (of_wire_fault x4.1))) 1 (Wk.refl _) rfl rfl (.same rfl) (.cons (.box (.cons (.same (ids_old (ids_slM (fun _ => rfl) (((x4.2)).f_b)))) (.cons (.same rfl) (.cons (.same rfl) (.cons (.same rfl) .nil))))) .nil) (xq_pan rfl rfl))
 refine sS rfl rfl rfl (op1_mcall [0] (.func rfl) en_62 rfl (.cons (Wk.refl _) .nil) rfl (.cons rfl (.box (.cons (.same (ids_old (ids_slM (fun _ => rfl) (((x1.2)).f_b)))) (.cons (.same rfl) (.cons (.same rfl) (.cons (.same rfl) .nil))))) .nil) (.cons (.rf rfl) .nil) (s_wire_reader_number (x1.2) (.ret x3) hx3) (.same rfl) (.cons (.box (.cons (.same (ids_old (ids_slM (fun _ => rfl) ((x3.2).f_b)))) (.cons (.same rfl) (.cons (.same rfl) (.cons (.same rfl) .nil))))) .nil) rfl) ?_
 refine sA rfl rfl rfl rfl rfl (ao_nil ?_)
 change BW _ _ _ _ _
 refine bw_seq ?_
 refine bw_seqJ (ι := Bool) (fun i => wire_reader_record_j1 r_wire_reader_fields a1 a2 x1 x3 i = some r) (fun i => [(0, (PV.rf 0 0)), (1, (I64 a1)), (2, (I64 a2)), (7, (PV.rf 1 0)), (8, (PV.v (.int .u64 x3.1))), (21, (BO i))]) (fun i => [.box 110 [(PV.old (PV.sl none 5 1 (List.map ofB (x3.2).f_b))), (I64 ((x3.2).f_at)), (I64 ((x3.2).f_n)), (BO ((x3.2).f_making))], .box 67 [(ofStr x1.1), (I64 0), (PV.v (.slice none 0 0))]]) ?_ ?_ ?_
 ·intro i; exact ⟨Nat.le_of_ble_eq_true rfl, ⟨(il_rf rfl), ⟨(il_nil rfl), ⟨(il_nil rfl), ⟨(il_rf rfl), ⟨(il_nil rfl), ⟨(il_nil rfl), trivial⟩⟩⟩⟩⟩⟩, ⟨⟨(il_nil (ids_old (ids_slM (fun _ => rfl) _))), ⟨(il_nil rfl), ⟨(il_nil rfl), ⟨(il_nil rfl), trivial⟩⟩⟩⟩, ⟨⟨(il_nil rfl), ⟨(il_nil rfl), ⟨(il_nil rfl), trivial⟩⟩⟩, trivial⟩⟩⟩
 ·rintro s5 h; replace h : wire_reader_record_j1 r_wire_reader_fields a1 a2 x1 x3 s5 = some r := h; unfold wire_reader_record_j1 at h
  change BW _ _ _ ⟨[(0, (PV.rf 0 0)), (1, (I64 a1)), (2, (I64 a2)), (7, (PV.rf 1 0)), (8, (PV.v (.int .u64 x3.1))), (21, (BO s5))], [.box 110 [(PV.old (PV.sl none 5 1 (List.map ofB (x3.2).f_b))), (I64 ((x3.2).f_at)), (I64 ((x3.2).f_n)), (BO ((x3.2).f_making))], .box 67 [(ofStr x1.1), (I64 0), (PV.v (.slice none 0 0))]], _⟩ _
  refine bw_cond rfl ?_ ?_
  ·intro hc6; replace h := ocond_t hc6 h
   refine bw_region ?_
   refine sM rfl rfl rfl rfl rfl ?_
   refine sM rfl rfl rfl rfl rfl ?_
   obtain ⟨x8, hx8, rfl⟩ | ⟨x7, hx7, h⟩ := xbind_some h
   ·refine ao_ncall [0] (.func rfl) rfl en_60 rfl (.cons (Wk.refl _) (.cons (Wk.refl _) (.cons (Wk.refl _) .nil))) rfl (.cons rfl (.box (.cons (.same (ids_old (ids_slM (fun _ => rfl) (((x3.2)).f_b)))) (.cons (.same rfl) (.cons (.same rfl) (.cons (.same rfl) .nil))))) .nil) (.cons (.rf rfl) (.cons (.same rfl) (.cons (.same rfl) .nil))) (s_wire_reader_fail (x3.2) a1 1 (.pan x8) hx8) (.same rfl) (.cons (.box (.cons (.same (ids_old (ids_slM (fun _ => rfl) ((x8.2).f_b)))) (.cons (.same rfl) (.cons (.same rfl) (.cons (.same rfl) .nil))))) .nil) rfl ?_
    repeat (first | refine seqB_pan ?_ | refine blockK_pan ?_ | refine jumpK_pan ?_)
    exact endK_pan (endR (y := (PV.iface 112 (of_wire_fault x8.1))) 1 (Wk.refl _) rfl rfl (.same rfl) (.cons (.box (.cons (.same (ids_old (ids_slM (fun _ => rfl) (((x8.2)).f_b)))) (.cons (.same rfl) (.cons (.same rfl) (.cons (.same rfl) .nil))))) .nil) (xq_pan rfl rfl))
   cases h
  ·intro hc6; replace h := ocond_f hc6 h
   refine bw_skip ?_
   change BW _ _ _ _ _
   refine bR ?_
   refine sM rfl rfl rfl rfl rfl ?_
   refine sM rfl rfl rfl rfl rfl ?_
   refine sS rfl rfl rfl (op1_convI Try.underlying24 Try.underlying3 rfl rfl) ?_
   refine sS rfl rfl rfl (op1_nilR rfl rfl) ?_
   refine sS rfl rfl rfl (op1_faR st_67 (i := 1) rfl rfl rfl) ?_
   refine ao_step0 rfl rfl (op1_store inf_3 rfl rfl rfl rfl rfl rfl (Nat.le_of_ble_eq_true rfl) rfl) ?_
   refine ao_nil ?_
   change BW _ _ _ _ _
   refine bR ?_
   refine sM rfl rfl rfl rfl rfl ?_
   refine sM rfl rfl rfl rfl rfl ?_
   refine sM rfl rfl rfl rfl rfl ?_
   refine sM rfl rfl rfl rfl rfl ?_
   obtain ⟨x10, hx10, rfl⟩ | ⟨x9, hx9, h⟩ := xbind_some h
   ·refine ao_ncall [0] (.func rfl) rfl en_67 rfl (.cons (Wk.refl _) (.cons (Wk.refl _) (.cons (Wk.refl _) .nil))) rfl (.cons rfl (.box (.cons (.same (ids_old (ids_slM (fun _ => rfl) (((x3.2)).f_b)))) (.cons (.same rfl) (.cons (.same rfl) (.cons (.same rfl) .nil))))) .nil) (.cons (.rf rfl) (.cons (.same rfl) (.cons (.same rfl) .nil))) (c_wire_reader_fields (x3.2) a1 a2 (.pan x10) hx10) (.same rfl) (.cons (.box (.cons (.same (ids_old (ids_slM (fun _ => rfl) ((x10.2).f_b)))) (.cons (.same rfl) (.cons (.same rfl) (.cons (.same rfl) .nil))))) .nil) rfl ?_
    repeat (first | refine seqB_pan ?_ | refine blockK_pan ?_ | refine jumpK_pan ?_)
    exact endK_pan (endR (y := (PV.iface 112 (of_wire_fault x10.1))) 1 (Wk.refl _) rfl rfl (.same rfl) (.cons (.box (.cons (.same (ids_old (ids_slM (fun _ => rfl) (((x10.2)).f_b)))) (.cons (.same rfl) (.cons (.same rfl) (.cons (.same rfl) .nil))))) .nil) (xq_pan rfl rfl))
   refine sS rfl rfl rfl (op1_mcall [0] (.func rfl) en_67 rfl (.cons (Wk.refl _) (.cons (Wk.refl _) (.cons (Wk.refl _) .nil))) rfl (.cons rfl (.box (.cons (.same (ids_old (ids_slM (fun _ => rfl) (((x3.2)).f_b)))) (.cons (.same rfl) (.cons (.same rfl) (.cons (.same rfl) .nil))))) .nil) (.cons (.rf rfl) (.cons (.same rfl) (.cons (.same rfl) .nil))) (c_wire_reader_fields (x3.2) a1 a2 (.ret x9) hx9) (.same (ids_slM ids_Fld x9.1)) (.cons (.box (.cons (.same (ids_old (ids_slM (fun _ => rfl) ((x9.2).f_b)))) (.cons (.same rfl) (.cons (.same rfl) (.cons (.same rfl) .nil))))) .nil) rfl) ?_
   refine sS rfl rfl rfl (op1_nilR rfl rfl) ?_
   refine sS rfl rfl rfl (op1_faR st_67 (i := 2) rfl rfl rfl) ?_
   refine ao_step0 rfl rfl (op1_store inf_63 rfl rfl rfl rfl rfl rfl (Nat.le_of_ble_eq_true rfl) rfl) ?_
   refine ao_nil ?_
   change BW _ _ _ _ _
   refine bR ?_
   refine sM rfl rfl rfl rfl rfl ?_
   refine sS rfl rfl rfl (op1_mkI Try.underlying65 rfl rfl rfl) ?_
   refine sA rfl rfl rfl rfl rfl (ao_nil ?_)
   change BW _ _ _ _ _
   refine bw_thaw 1 6 (y := (ofV (V.record x1.1 (IntKind.i64.wrap x3.1) x9.1))) rfl rfl ((Wk.iface (Wk.pt (x := .agg [(ofStr x1.1), (I64 ((IntKind.i64.wrap x3.1))), (PV.sl none 88 2 (List.map ofFld x9.1))]) (y := ofRec (Rec.mk x1.1 (IntKind.i64.wrap x3.1) x9.1)) (.cons (Wk.refl _) (.cons (Wk.refl _) (.cons (Wk.refl _) .nil))))).trans (Wk.eq (mk_rec (some (Rec.mk x1.1 (IntKind.i64.wrap x3.1) x9.1))).symm)) ?_
   refine bw_ret ?_
   change ∃ xs, _ = some xs ∧ EndOk _ _ _ _
   obtain rfl := Option.some.inj h
   exact ⟨_, rfl, endR (y := (ofV (V.record x1.1 (IntKind.i64.wrap x3.1) x9.1))) 1 (Wk.refl _) rfl rfl (.same (ids_V (V.record x1.1 (IntKind.i64.wrap x3.1) x9.1))) (.cons (.box (.cons (.same (ids_old (ids_slM (fun _ => rfl) (((x9.2)).f_b)))) (.cons (.same rfl) (.cons (.same rfl) (.cons (.same rfl) .nil))))) .nil) (xq_ret rfl rfl)⟩
 ·refine bw_region ?_
  refine sM rfl rfl rfl rfl rfl ?_
  refine sS rfl rfl rfl ((op1_cmp rfl rfl rfl rfl).cast (y := (BO ((decide (x3.1 < 1))))) rfl rfl) ?_
  refine sM rfl rfl rfl rfl rfl ?_
  refine ao_cases (t := 18) rfl ?_ ?_
  ·intro hb11; replace h := ocond_t hb11 h
   refine ao_no rfl rfl rfl rfl rfl rfl ?_
   refine ao_no rfl rfl rfl rfl rfl rfl ?_
   refine sS rfl rfl rfl (op1_pickT rfl rfl rfl) (ao_nil ?_)
   exact ⟨rfl, true, h, ⟨(.cons .same (.cons .same .nil)), (sC rfl (sC rfl (sC rfl (sC rfl (sC rfl (sC rfl sub_nil))))))⟩⟩
  ·intro hb11; replace h := ocond_f hb11 h
   refine ao_yes rfl rfl rfl rfl rfl rfl (op1_move rfl rfl) ?_
   refine ao_yes rfl rfl rfl rfl rfl rfl ((op1_cmp rfl rfl rfl rfl).cast (y := (BO ((decide (x3.1 > 1000))))) rfl rfl) ?_
   refine sS rfl rfl rfl (op1_pickF rfl rfl rfl) (ao_nil ?_)
   exact ⟨rfl, (decide (x3.1 > 1000)), h, ⟨(.cons .same (.cons .same .nil)), (sC rfl (sC rfl (sC rfl (sC rfl (sC rfl (sC rfl sub_nil))))))⟩⟩
theorem t_wire_reader_fields (r_wire_reader_record : S_wire_reader → Int → Int → Option (Xr (S_wire_fault × S_wire_reader) (V × S_wire_reader))) (c_wire_reader_record : ∀ (a0 : S_wire_reader) (a1 : Int) (a2 : Int) r, r_wire_reader_record a0 a1 a2 = some r → ACalls Try.prog 68 [(PV.rf 0 0), (I64 a1), (I64 a2)] [.box 110 [(PV.old (PV.sl none 5 1 (List.map ofB a0.f_b))), (I64 a0.f_at), (I64 a0.f_n), (BO a0.f_making)]] (XQ r (fun r => (ofV r.1)) (fun r => [.box 110 [(PV.old (PV.sl none 5 1 (List.map ofB (r.2).f_b))), (I64 ((r.2).f_at)), (I64 ((r.2).f_n)), (BO ((r.2).f_making))]]) (fun r => (PV.iface 112 (of_wire_fault r.1))) (fun r => [.box 110 [(PV.old (PV.sl none 5 1 (List.map ofB (r.2).f_b))), (I64 ((r.2).f_at)), (I64 ((r.2).f_n)), (BO ((r.2).f_making))]]))) (r_wire_reader_fields : S_wire_reader → Int → Int → Option (Xr (S_wire_fault × S_wire_reader) ((List (Str × V)) × S_wire_reader))) (c_wire_reader_fields : ∀ (a0 : S_wire_reader) (a1 : Int) (a2 : Int) r, r_wire_reader_fields a0 a1 a2 = some r → ACalls Try.prog 67 [(PV.rf 0 0), (I64 a1), (I64 a2)] [.box 110 [(PV.old (PV.sl none 5 1 (List.map ofB a0.f_b))), (I64 a0.f_at), (I64 a0.f_n), (BO a0.f_making)]] (XQ r (fun r => (PV.sl none 88 2 (List.map ofFld r.1))) (fun r => [.box 110 [(PV.old (PV.sl none 5 1 (List.map ofB (r.2).f_b))), (I64 ((r.2).f_at)), (I64 ((r.2).f_n)), (BO ((r.2).f_making))]]) (fun r => (PV.iface 112 (of_wire_fault r.1))) (fun r => [.box 110 [(PV.old (PV.sl none 5 1 (List.map ofB (r.2).f_b))), (I64 ((r.2).f_at)), (I64 ((r.2).f_n)), (BO ((r.2).f_making))]]))) (r_wire_reader_list : S_wire_reader → Int → Int → Option (Xr (S_wire_fault × S_wire_reader) (V × S_wire_reader))) (c_wire_reader_list : ∀ (a0 : S_wire_reader) (a1 : Int) (a2 : Int) r, r_wire_reader_list a0 a1 a2 = some r → ACalls Try.prog 66 [(PV.rf 0 0), (I64 a1), (I64 a2)] [.box 110 [(PV.old (PV.sl none 5 1 (List.map ofB a0.f_b))), (I64 a0.f_at), (I64 a0.f_n), (BO a0.f_making)]] (XQ r (fun r => (ofV r.1)) (fun r => [.box 110 [(PV.old (PV.sl none 5 1 (List.map ofB (r.2).f_b))), (I64 ((r.2).f_at)), (I64 ((r.2).f_n)), (BO ((r.2).f_making))]]) (fun r => (PV.iface 112 (of_wire_fault r.1))) (fun r => [.box 110 [(PV.old (PV.sl none 5 1 (List.map ofB (r.2).f_b))), (I64 ((r.2).f_at)), (I64 ((r.2).f_n)), (BO ((r.2).f_making))]]))) (r_wire_reader_value : S_wire_reader → Int → Option (Xr (S_wire_fault × S_wire_reader) (V × S_wire_reader))) (c_wire_reader_value : ∀ (a0 : S_wire_reader) (a1 : Int) r, r_wire_reader_value a0 a1 = some r → ACalls Try.prog 52 [(PV.rf 0 0), (I64 a1)] [.box 110 [(PV.old (PV.sl none 5 1 (List.map ofB a0.f_b))), (I64 a0.f_at), (I64 a0.f_n), (BO a0.f_making)]] (XQ r (fun r => (ofV r.1)) (fun r => [.box 110 [(PV.old (PV.sl none 5 1 (List.map ofB (r.2).f_b))), (I64 ((r.2).f_at)), (I64 ((r.2).f_n)), (BO ((r.2).f_making))]]) (fun r => (PV.iface 112 (of_wire_fault r.1))) (fun r => [.box 110 [(PV.old (PV.sl none 5 1 (List.map ofB (r.2).f_b))), (I64 ((r.2).f_at)), (I64 ((r.2).f_n)), (BO ((r.2).f_making))]]))) (a0 : S_wire_reader) (a1 : Int) (a2 : Int) (r : (Xr (S_wire_fault × S_wire_reader) ((List (Str × V)) × S_wire_reader))) (h : b_wire_reader_fields r_wire_reader_record r_wire_reader_fields r_wire_reader_list r_wire_reader_value a0 a1 a2 = some r) : ACalls Try.prog 67 [(PV.rf 0 0), (I64 a1), (I64 a2)] [.box 110 [(PV.old (PV.sl none 5 1 (List.map ofB a0.f_b))), (I64 a0.f_at), (I64 a0.f_n), (BO a0.f_making)]] (XQ r (fun r => (PV.sl none 88 2 (List.map ofFld r.1))) (fun r => [.box 110 [(PV.old (PV.sl none 5 1 (List.map ofB (r.2).f_b))), (I64 ((r.2).f_at)), (I64 ((r.2).f_n)), (BO ((r.2).f_making))]]) (fun r => (PV.iface 112 (of_wire_fault r.1))) (fun r => [.box 110 [(PV.old (PV.sl none 5 1 (List.map ofB (r.2).f_b))), (I64 ((r.2).f_at)), (I64 ((r.2).f_n)), (BO ((r.2).f_making))]])) := by
 unfold b_wire_reader_fields at h
 refine acalls_of Try.func67 rfl Try.ntmps67 Try.results67 rfl (aw_of_bw ?_)
 change BW _ _ _ ⟨[(0, (PV.rf 0 0)), (1, (I64 a1)), (2, (I64 a2))], [.box 110 [(PV.old (PV.sl none 5 1 (List.map ofB a0.f_b))), (I64 a0.f_at), (I64 a0.f_n), (BO a0.f_making)]], _⟩ _
 refine bR ?_
 refine sA rfl rfl rfl rfl rfl (ao_nil ?_)
 change BW _ _ _ _ _
 refine bR ?_
 refine sM rfl rfl rfl rfl rfl ?_
 refine sM rfl rfl rfl rfl rfl ?_
 obtain ⟨x2, hx2, rfl⟩ | ⟨x1, hx1, h⟩ := xbind_some h
 ·refine ao_ncall [0] (.func rfl) rfl en_65 rfl (.cons (Wk.refl _) (.cons (Wk.refl _) (.cons (Wk.refl _) .nil))) rfl (.cons rfl (.box (.cons (.same (ids_old (ids_slM (fun _ => rfl) a0.f_b))) (.cons (.same rfl) (.cons (.same rfl) (.cons (.same rfl) .nil))))) .nil) (.cons (.rf rfl) (.cons (.same rfl) (.cons (.same rfl) .nil))) (s_wire_reader_most a0 a1 4096 (.pan x2) hx2) (.same rfl) (.cons (.box (.cons (.same (ids_old (ids_slM (fun _ => rfl) ((x2.2).f_b)))) (.cons (.same rfl) (.cons (.same rfl) (.cons (.same rfl) .nil))))) .nil) rfl ?_
  repeat (first | refine seqB_pan ?_ | refine blockK_pan ?_ | refine jumpK_pan ?_)
  exact endK_pan (endR (y := (PV.iface 112 (of_wire_fault x2.1))) 1 (Wk.refl _) rfl rfl (.same rfl) (.cons (.box (.cons (.same (ids_old (ids_slM (fun _ => rfl) (((x2.2)).f_b)))) (.cons (.same rfl) (.cons (.same rfl) (.cons (.same rfl) .nil))))) .nil) (xq_pan rfl rfl))
 refine sS rfl rfl rfl (op1_mcall [0] (.func rfl) en_65 rfl (.cons (Wk.refl _) (.cons (Wk.refl _) (.cons (Wk.refl _) .nil))) rfl (.cons rfl (.box (.cons (.same (ids_old (ids_slM (fun _ => rfl) a0.f_b))) (.cons (.same rfl) (.cons (.same rfl) (.cons (.same rfl) .nil))))) .nil) (.cons (.rf rfl) (.cons (.same rfl) (.cons (.same rfl) .nil))) (s_wire_reader_most a0 a1 4096 (.ret x1) hx1) (.same rfl) (.cons (.box (.cons (.same (ids_old (ids_slM (fun _ => rfl) ((x1.2).f_b)))) (.cons (.same rfl) (.cons (.same rfl) (.cons (.same rfl) .nil))))) .nil) rfl) ?_
 refine sA rfl rfl rfl rfl rfl (ao_nil ?_)
 change BW _ _ _ _ _
 refine bR ?_
 refine sS rfl rfl rfl ((op1_bslice (xs := []) Try.underlying63 inf_88 rfl rfl rfl rfl rfl rfl ⟨Nat.le_of_ble_eq_true rfl, Nat.le_of_ble_eq_true rfl⟩ rfl).cast (y := (PV.sl (some 1) 88 2 (List.map ofFld ([] : (List (Str × V)))))) rfl rfl) ?_
 refine sA rfl rfl rfl rfl rfl (ao_nil ?_)
 change BW _ _ _ _ _
 refine bR ?_
 refine sA rfl rfl rfl rfl rfl (ao_nil ?_)
 change BW _ _ _ _ _
 refine bw_seq ?_
 refine bR ?_
 refine sM rfl rfl rfl rfl rfl ?_
 refine sM rfl rfl rfl rfl rfl (ao_nil ?_)
 change BW _ _ _ _ _
 refine bw_block ?_
 change BW _ _ _ _ _
 unfold wire_reader_fields_l1 at h
 refine bw_loop (σ := ((List (Str × V)) × Str × Int × Str × Int × Int × Bool)) (fun i => [(0, (PV.rf 0 0)), (1, (I64 a1)), (2, (I64 a2)), (8, (PV.sl (some 1) 88 2 (List.map ofFld i.1))), (9, (ofStr i.2.1)), (16, (I64 x1.1)), (17, (I64 i.2.2.1))]) (fun i => [.box 110 [(PV.old (PV.sl none 5 1 (List.map ofB i.2.2.2.1))), (I64 i.2.2.2.2.1), (I64 i.2.2.2.2.2.1), (BO i.2.2.2.2.2.2)], .arr 88 (i.1).length]) (([] : (List (Str × V))), ([] : Str), 0, (x1.2).f_b, (x1.2).f_at, (x1.2).f_n, (x1.2).f_making) h ?_ ?_ ?_
 ·intro i; exact ⟨Nat.le_of_ble_eq_true rfl, ⟨(il_rf rfl), ⟨(il_nil rfl), ⟨(il_nil rfl), ⟨(il_tok rfl (ids_map ids_Fld _)), ⟨(il_nil rfl), ⟨(il_nil rfl), ⟨(il_nil rfl), trivial⟩⟩⟩⟩⟩⟩⟩, ⟨⟨(il_nil (ids_old (ids_slM (fun _ => rfl) _))), ⟨(il_nil rfl), ⟨(il_nil rfl), ⟨(il_nil rfl), trivial⟩⟩⟩⟩, trivial⟩⟩
 ·exact ⟨(.cons .same (.cons .same .nil)), (sC rfl (sC rfl (sC rfl (sC rfl (sC rfl (sC rfl (sC rfl sub_nil)))))))⟩
 ·rintro g1_f ⟨s3, s4, s5, s6, s7, s8, s9⟩ h; replace h : wire_reader_fields_l1b r_wire_reader_value a1 a2 x1 (fun y0 y1 y2 y3 y4 y5 y6 => g1_f (y0, y1, y2, y3, y4, y5, y6)) s3 s4 s5 s6 s7 s8 s9 = some r := h; unfold wire_reader_fields_l1b at h
  change BW _ _ _ ⟨[(0, (PV.rf 0 0)), (1, (I64 a1)), (2, (I64 a2)), (8, (PV.sl (some 1) 88 2 (List.map ofFld s3))), (9, (ofStr s4)), (16, (I64 x1.1)), (17, (I64 s5))], [.box 110 [(PV.old (PV.sl none 5 1 (List.map ofB s6))), (I64 s7), (I64 s8), (BO s9)], .arr 88 (s3).length], _⟩ _
  refine bR ?_
  refine sS rfl rfl rfl ((op1_cmp rfl rfl rfl rfl).cast (y := (BO ((decide (s5 < x1.1))))) rfl rfl) (ao_nil ?_)
  change BW _ _ _ _ _
  refine bw_seq ?_
  refine bw_cond rfl ?_ ?_
  ·intro hc10; replace h := ocond_t hc10 h
   refine bw_skip ?_
   change BW _ _ _ _ _
   refine bw_seqJ (ι := ((List (Str × V)) × Str × Str × Int × Int × Bool)) (fun i => wire_reader_fields_j1 (fun y0 y1 y2 y3 y4 y5 y6 => g1_f (y0, y1, y2, y3, y4, y5, y6)) s5 i.1 i.2.1 i.2.2.1 i.2.2.2.1 i.2.2.2.2.1 i.2.2.2.2.2 = some r) (fun i => [(0, (PV.rf 0 0)), (1, (I64 a1)), (2, (I64 a2)), (8, (PV.sl (some 1) 88 2 (List.map ofFld i.1))), (9, (ofStr i.2.1)), (16, (I64 x1.1)), (17, (I64 s5))]) (fun i => [.box 110 [(PV.old (PV.sl none 5 1 (List.map ofB i.2.2.1))), (I64 i.2.2.2.1), (I64 i.2.2.2.2.1), (BO i.2.2.2.2.2)], .arr 88 (i.1).length]) ?_ ?_ ?_
   ·intro i; exact ⟨Nat.le_of_ble_eq_true rfl, ⟨(il_rf rfl), ⟨(il_nil rfl), ⟨(il_nil rfl), ⟨(il_tok rfl (ids_map ids_Fld _)), ⟨(il_nil rfl), ⟨(il_nil rfl), ⟨(il_nil rfl), trivial⟩⟩⟩⟩⟩⟩⟩, ⟨⟨(il_nil (ids_old (ids_slM (fun _ => rfl) _))), ⟨(il_nil rfl), ⟨(il_nil rfl), ⟨(il_nil rfl), trivial⟩⟩⟩⟩, trivial⟩⟩
   ·rintro ⟨s11, s12, s13, s14, s15, s16⟩ h; replace h : wire_reader_fields_j1 (fun y0 y1 y2 y3 y4 y5 y6 => g1_f (y0, y1, y2, y3, y4, y5, y6)) s5 s11 s12 s13 s14 s15 s16 = some r := h; unfold wire_reader_fields_j1 at h
    change BW _ _ _ ⟨[(0, (PV.rf 0 0)), (1, (I64 a1)), (2, (I64 a2)), (8, (PV.sl (some 1) 88 2 (List.map ofFld s11))), (9, (ofStr s12)), (16, (I64 x1.1)), (17, (I64 s5))], [.box 110 [(PV.old (PV.sl none 5 1 (List.map ofB s13))), (I64 s14), (I64 s15), (BO s16)], .arr 88 (s11).length], _⟩ _
    refine bw_region ?_
    refine sS rfl rfl rfl (op1_addW rfl rfl rfl) ?_
    refine sM rfl rfl rfl rfl rfl (ao_nil ?_)
    exact ⟨rfl, (s11, s12, (IntKind.i64.wrap (s5 + 1)), s13, s14, s15, s16), h, ⟨(.cons .same (.cons .same .nil)), (sC rfl (sC rfl (sC rfl (sC rfl (sC rfl (sC rfl (sC rfl sub_nil)))))))⟩⟩
   ·refine bw_block ?_
    change BW _ _ _ _ _
    refine bR ?_
    refine sM rfl rfl rfl rfl rfl ?_
    refine sM rfl rfl rfl rfl rfl ?_
    obtain ⟨x18, hx18, rfl⟩ | ⟨x17, hx17, h⟩ := xbind_some h
    ·refine ao_ncall [0] (.func rfl) rfl en_77 rfl (.cons (Wk.refl _) (.cons (Wk.refl _) .nil)) rfl (.cons rfl (.box (.cons (.same (ids_old (ids_slM (fun _ => rfl) (((S_wire_reader.mk s6 s7 s8 s9)).f_b)))) (.cons (.same rfl) (.cons (.same rfl) (.cons (.same rfl) .nil))))) .nil) (.cons (.rf rfl) (.cons (.same rfl) .nil)) (s_wire_reader_name (S_wire_reader.mk s6 s7 s8 s9) a1 (.pan x18) hx18) (.same rfl) (.cons (.box (.cons (.same (ids_old (ids_slM (fun _ => rfl) ((x18.2).f_b)))) (.cons (.same rfl) (.cons (.same rfl) (.cons (.same rfl) .nil))))) .nil) rfl ?_
     repeat (first | refine seqB_pan ?_ | refine blockK_pan ?_ | refine jumpK_pan ?_)
     exact endK_pan (endR (y := (PV.iface 112 (of_wire_fault x18.1))) 1 (Wk.refl _) rfl rfl (.same rfl) (.cons (.box (.cons (.same (ids_old (ids_slM (fun _ => rfl) (((x18.2)).f_b)))) (.cons (.same rfl) (.cons (.same rfl) (.cons (.same rfl) .nil))))) .nil) (xq_pan rfl rfl))
    refine sS rfl rfl rfl (op1_mcall [0] (.func rfl) en_77 rfl (.cons (Wk.refl _) (.cons (Wk.refl _) .nil)) rfl (.cons rfl (.box (.cons (.same (ids_old (ids_slM (fun _ => rfl) (((S_wire_reader.mk s6 s7 s8 s9)).f_b)))) (.cons (.same rfl) (.cons (.same rfl) (.cons (.same rfl) .nil))))) .nil) (.cons (.rf rfl) (.cons (.same rfl) .nil)) (s_wire_reader_name (S_wire_reader.mk s6 s7 s8 s9) a1 (.ret x17) hx17) (.same rfl) (.cons (.box (.cons (.same (ids_old (ids_slM (fun _ => rfl) ((x17.2).f_b)))) (.cons (.same rfl) (.cons (.same rfl) (.cons (.same rfl) .nil))))) .nil) rfl) ?_
    refine sA rfl rfl rfl rfl rfl (ao_nil ?_)
    change BW _ _ _ _ _
    refine bw_seq ?_
    refine bR ?_
    refine sM rfl rfl rfl rfl rfl ?_
    refine sM rfl rfl rfl rfl rfl ?_
    refine sS rfl rfl rfl ((op1_cmpT (a := x17.1) (b := s4) rfl rfl rfl rfl).cast (y := (BO ((Op.bytesLess x17.1 s4 || x17.1 == s4)))) rfl rfl) (ao_nil ?_)
    change BW _ _ _ _ _
    refine bw_cond rfl ?_ ?_
    ·intro hc19; replace h := ocond_t hc19 h
     refine bw_region ?_
     refine sM rfl rfl rfl rfl rfl ?_
     refine sM rfl rfl rfl rfl rfl ?_
     obtain ⟨x21, hx21, rfl⟩ | ⟨x20, hx20, h⟩ := xbind_some h
     ·refine ao_ncall [0] (.func rfl) rfl en_60 rfl (.cons (Wk.refl _) (.cons (Wk.refl _) (.cons (Wk.refl _) .nil))) rfl (.cons rfl (.box (.cons (.same (ids_old (ids_slM (fun _ => rfl) (((x17.2)).f_b)))) (.cons (.same rfl) (.cons (.same rfl) (.cons (.same rfl) .nil))))) .nil) (.cons (.rf rfl) (.cons (.same rfl) (.cons (.same rfl) .nil))) (s_wire_reader_fail (x17.2) a1 8 (.pan x21) hx21) (.same rfl) (.cons (.box (.cons (.same (ids_old (ids_slM (fun _ => rfl) ((x21.2).f_b)))) (.cons (.same rfl) (.cons (.same rfl) (.cons (.same rfl) .nil))))) .nil) rfl ?_
      repeat (first | refine seqB_pan ?_ | refine blockK_pan ?_ | refine jumpK_pan ?_)
      exact endK_pan (endR (y := (PV.iface 112 (of_wire_fault x21.1))) 1 (Wk.refl _) rfl rfl (.same rfl) (.cons (.box (.cons (.same (ids_old (ids_slM (fun _ => rfl) (((x21.2)).f_b)))) (.cons (.same rfl) (.cons (.same rfl) (.cons (.same rfl) .nil))))) .nil) (xq_pan rfl rfl))
     cases h
    ·intro hc19; replace h := ocond_f hc19 h
     refine bw_skip ?_
     change BW _ _ _ _ _
     refine bR ?_
     refine sM rfl rfl rfl rfl rfl ?_
     refine sA rfl rfl rfl rfl rfl (ao_nil ?_)
     change BW _ _ _ _ _
     refine bR ?_
     refine sM rfl rfl rfl rfl rfl ?_
     refine sM rfl rfl rfl rfl rfl ?_
     refine sS rfl rfl rfl (op1_addW rfl rfl rfl) ?_
     obtain ⟨x23, hx23, rfl⟩ | ⟨x22, hx22, h⟩ := xbind_some h
     ·refine ao_ncall [0] (.func rfl) rfl en_52 rfl (.cons (Wk.refl _) (.cons (Wk.refl _) .nil)) rfl (.cons rfl (.box (.cons (.same (ids_old (ids_slM (fun _ => rfl) (((x17.2)).f_b)))) (.cons (.same rfl) (.cons (.same rfl) (.cons (.same rfl) .nil))))) .nil) (.cons (.rf rfl) (.cons (.same rfl) .nil)) (c_wire_reader_value (x17.2) (IntKind.i64.wrap (a2 + 1)) (.pan x23) hx23) (.same rfl) (.cons (.box (.cons (.same (ids_old (ids_slM (fun _ => rfl) ((x23.2).f_b)))) (.cons (.same rfl) (.cons (.same rfl) (.cons (.same rfl) .nil))))) .nil) rfl ?_
      repeat (first | refine seqB_pan ?_ | refine blockK_pan ?_ | refine jumpK_pan ?_)
      exact endK_pan (endR (y := (PV.iface 112 (of_wire_fault x23.1))) 1 (Wk.refl _) rfl rfl (.same rfl) (.cons (.box (.cons (.same (ids_old (ids_slM (fun _ => rfl) (((x23.2)).f_b)))) (.cons (.same rfl) (.cons (.same rfl) (.cons (.same rfl) .nil))))) .nil) (xq_pan rfl rfl))
     refine sS rfl rfl rfl (op1_mcall [0] (.func rfl) en_52 rfl (.cons (Wk.refl _) (.cons (Wk.refl _) .nil)) rfl (.cons rfl (.box (.cons (.same (ids_old (ids_slM (fun _ => rfl) (((x17.2)).f_b)))) (.cons (.same rfl) (.cons (.same rfl) (.cons (.same rfl) .nil))))) .nil) (.cons (.rf rfl) (.cons (.same rfl) .nil)) (c_wire_reader_value (x17.2) (IntKind.i64.wrap (a2 + 1)) (.ret x22) hx22) (.same (ids_V x22.1)) (.cons (.box (.cons (.same (ids_old (ids_slM (fun _ => rfl) ((x22.2).f_b)))) (.cons (.same rfl) (.cons (.same rfl) (.cons (.same rfl) .nil))))) .nil) rfl) ?_
     refine sA rfl rfl rfl rfl rfl (ao_nil ?_)
     change BW _ _ _ _ _
     refine bR ?_
     refine sM rfl rfl rfl rfl rfl ?_
     refine sS rfl rfl rfl (op1_nilR rfl rfl) ?_
     refine sS rfl rfl rfl (op1_faR st_110 (i := 3) rfl rfl rfl) ?_
     refine sS rfl rfl rfl ((op1_ldR Try.underlying4 rfl rfl rfl rfl rfl)) (ao_nil ?_)
     change BW _ _ _ _ _
     refine bw_cond rfl ?_ ?_
     ·intro hc24; replace h := ocond_t hc24 h
      refine bw_region ?_
      refine sM rfl rfl rfl rfl rfl ?_
      refine sM rfl rfl rfl rfl rfl ?_
      refine sM rfl rfl rfl rfl rfl ?_
      refine sS rfl rfl rfl (op1_build (cs := [(ofStr x17.1), (ofV x22.1)]) st_88 inf_88 rfl rfl (by simp only [List.all_cons, List.all_nil, cok_V, cok_RecP, Bool.and_true, Bool.true_and]; try rfl) (by simp only [afill, List.getElem?_cons_zero, List.getElem?_cons_succ, cells_V, cells_RecP]; rfl)) ?_
      refine sS rfl rfl rfl ((op1_bslice (xs := [(PV.agg [(ofStr x17.1), (ofV x22.1)])]) Try.underlying63 inf_88 rfl rfl rfl (by simp only [List.all_cons, List.all_nil, cok_V, cok_RecP, Bool.and_true, Bool.true_and]; try rfl) (by simp only [List.all_cons, List.all_nil, csz_V, csz_RecP, cells_V, cells_RecP]; try rfl) rfl ⟨Nat.le_of_ble_eq_true rfl, Nat.le_of_ble_eq_true rfl⟩ (by simp only [zipN, afill, List.flatMap_cons, List.flatMap_nil, cells_V, cells_RecP]; try rfl)).cast (y := (PV.sl (some 2) 88 2 (List.map ofFld ([(x17.1, x22.1)] : (List (Str × V)))))) rfl rfl) ?_
      obtain ⟨x25, hx25, h⟩ := obind h
      refine sS rfl rfl rfl (op1_appM Try.underlying63 inf_88 rfl Try.underlying63 rfl rfl rfl rfl csz_Fld call1_Fld hx25 rfl) ?_
      refine sA rfl rfl rfl rfl rfl (ao_nil ?_)
      exact ⟨rfl, (x25, x17.1, (x22.2).f_b, (x22.2).f_at, (x22.2).f_n, (x22.2).f_making), h, ⟨(.cons .same (.cons .same .nil)), (sC rfl (sC rfl (sC rfl (sC rfl (sC rfl (sC rfl (sC rfl sub_nil)))))))⟩⟩
     ·intro hc24; replace h := ocond_f hc24 h
      refine bw_skip ?_
      exact ⟨rfl, (s3, x17.1, (x22.2).f_b, (x22.2).f_at, (x22.2).f_n, (x22.2).f_making), h, ⟨(.cons .same (.cons .same .nil)), (sC rfl (sC rfl (sC rfl (sC rfl (sC rfl (sC rfl (sC rfl sub_nil)))))))⟩⟩
  ·intro hc10; replace h := ocond_f hc10 h
   refine bw_exit ?_
   change BW _ _ _ _ _
   refine bR ?_
   refine sM rfl rfl rfl rfl rfl ?_
   refine sA rfl rfl rfl rfl rfl (ao_nil ?_)
   change BW _ _ _ _ _
   refine bw_ret ?_
   change ∃ xs, _ = some xs ∧ EndOk _ _ _ _
   obtain rfl := Option.some.inj h
   exact ⟨_, rfl, endR (y := (PV.sl none 88 2 (List.map ofFld s3))) 1 Wk.tok rfl rfl (.same (ids_slM ids_Fld s3)) (.cons (.box (.cons (.same (ids_old (ids_slM (fun _ => rfl) (((S_wire_reader.mk s6 s7 s8 s9)).f_b)))) (.cons (.same rfl) (.cons (.same rfl) (.cons (.same rfl) .nil))))) .nil) (xq_ret rfl rfl)⟩
theorem t_wire_reader_list (r_wire_reader_record : S_wire_reader → Int → Int → Option (Xr (S_wire_fault × S_wire_reader) (V × S_wire_reader))) (c_wire_reader_record : ∀ (a0 : S_wire_reader) (a1 : Int) (a2 : Int) r, r_wire_reader_record a0 a1 a2 = some r → ACalls Try.prog 68 [(PV.rf 0 0), (I64 a1), (I64 a2)] [.box 110 [(PV.old (PV.sl none 5 1 (List.map ofB a0.f_b))), (I64 a0.f_at), (I64 a0.f_n), (BO a0.f_making)]] (XQ r (fun r => (ofV r.1)) (fun r => [.box 110 [(PV.old (PV.sl none 5 1 (List.map ofB (r.2).f_b))), (I64 ((r.2).f_at)), (I64 ((r.2).f_n)), (BO ((r.2).f_making))]]) (fun r => (PV.iface 112 (of_wire_fault r.1))) (fun r => [.box 110 [(PV.old (PV.sl none 5 1 (List.map ofB (r.2).f_b))), (I64 ((r.2).f_at)), (I64 ((r.2).f_n)), (BO ((r.2).f_making))]]))) (r_wire_reader_fields : S_wire_reader → Int → Int → Option (Xr (S_wire_fault × S_wire_reader) ((List (Str × V)) × S_wire_reader))) (c_wire_reader_fields : ∀ (a0 : S_wire_reader) (a1 : Int) (a2 : Int) r, r_wire_reader_fields a0 a1 a2 = some r → ACalls Try.prog 67 [(PV.rf 0 0), (I64 a1), (I64 a2)] [.box 110 [(PV.old (PV.sl none 5 1 (List.map ofB a0.f_b))), (I64 a0.f_at), (I64 a0.f_n), (BO a0.f_making)]] (XQ r (fun r => (PV.sl none 88 2 (List.map ofFld r.1))) (fun r => [.box 110 [(PV.old (PV.sl none 5 1 (List.map ofB (r.2).f_b))), (I64 ((r.2).f_at)), (I64 ((r.2).f_n)), (BO ((r.2).f_making))]]) (fun r => (PV.iface 112 (of_wire_fault r.1))) (fun r => [.box 110 [(PV.old (PV.sl none 5 1 (List.map ofB (r.2).f_b))), (I64 ((r.2).f_at)), (I64 ((r.2).f_n)), (BO ((r.2).f_making))]]))) (r_wire_reader_list : S_wire_reader → Int → Int → Option (Xr (S_wire_fault × S_wire_reader) (V × S_wire_reader))) (c_wire_reader_list : ∀ (a0 : S_wire_reader) (a1 : Int) (a2 : Int) r, r_wire_reader_list a0 a1 a2 = some r → ACalls Try.prog 66 [(PV.rf 0 0), (I64 a1), (I64 a2)] [.box 110 [(PV.old (PV.sl none 5 1 (List.map ofB a0.f_b))), (I64 a0.f_at), (I64 a0.f_n), (BO a0.f_making)]] (XQ r (fun r => (ofV r.1)) (fun r => [.box 110 [(PV.old (PV.sl none 5 1 (List.map ofB (r.2).f_b))), (I64 ((r.2).f_at)), (I64 ((r.2).f_n)), (BO ((r.2).f_making))]]) (fun r => (PV.iface 112 (of_wire_fault r.1))) (fun r => [.box 110 [(PV.old (PV.sl none 5 1 (List.map ofB (r.2).f_b))), (I64 ((r.2).f_at)), (I64 ((r.2).f_n)), (BO ((r.2).f_making))]]))) (r_wire_reader_value : S_wire_reader → Int → Option (Xr (S_wire_fault × S_wire_reader) (V × S_wire_reader))) (c_wire_reader_value : ∀ (a0 : S_wire_reader) (a1 : Int) r, r_wire_reader_value a0 a1 = some r → ACalls Try.prog 52 [(PV.rf 0 0), (I64 a1)] [.box 110 [(PV.old (PV.sl none 5 1 (List.map ofB a0.f_b))), (I64 a0.f_at), (I64 a0.f_n), (BO a0.f_making)]] (XQ r (fun r => (ofV r.1)) (fun r => [.box 110 [(PV.old (PV.sl none 5 1 (List.map ofB (r.2).f_b))), (I64 ((r.2).f_at)), (I64 ((r.2).f_n)), (BO ((r.2).f_making))]]) (fun r => (PV.iface 112 (of_wire_fault r.1))) (fun r => [.box 110 [(PV.old (PV.sl none 5 1 (List.map ofB (r.2).f_b))), (I64 ((r.2).f_at)), (I64 ((r.2).f_n)), (BO ((r.2).f_making))]]))) (a0 : S_wire_reader) (a1 : Int) (a2 : Int) (r : (Xr (S_wire_fault × S_wire_reader) (V × S_wire_reader))) (h : b_wire_reader_list r_wire_reader_record r_wire_reader_fields r_wire_reader_list r_wire_reader_value a0 a1 a2 = some r) : ACalls Try.prog 66 [(PV.rf 0 0), (I64 a1), (I64 a2)] [.box 110 [(PV.old (PV.sl none 5 1 (List.map ofB a0.f_b))), (I64 a0.f_at), (I64 a0.f_n), (BO a0.f_making)]] (XQ r (fun r => (ofV r.1)) (fun r => [.box 110 [(PV.old (PV.sl none 5 1 (List.map ofB (r.2).f_b))), (I64 ((r.2).f_at)), (I64 ((r.2).f_n)), (BO ((r.2).f_making))]]) (fun r => (PV.iface 112 (of_wire_fault r.1))) (fun r => [.box 110 [(PV.old (PV.sl none 5 1 (List.map ofB (r.2).f_b))), (I64 ((r.2).f_at)), (I64 ((r.2).f_n)), (BO ((r.2).f_making))]])) := by
 unfold b_wire_reader_list at h
 refine acalls_of Try.func66 rfl Try.ntmps66 Try.results66 rfl (aw_of_bw ?_)
 change BW _ _ _ ⟨[(0, (PV.rf 0 0)), (1, (I64 a1)), (2, (I64 a2))], [.box 110 [(PV.old (PV.sl none 5 1 (List.map ofB a0.f_b))), (I64 a0.f_at), (I64 a0.f_n), (BO a0.f_making)]], _⟩ _
 refine bR ?_
 refine sA rfl rfl rfl rfl rfl (ao_nil ?_)
 change BW _ _ _ _ _
 refine bR ?_
 refine sS rfl rfl rfl ((op1_bslice (xs := []) Try.underlying61 inf_20 rfl rfl rfl rfl rfl rfl ⟨Nat.le_of_ble_eq_true rfl, Nat.le_of_ble_eq_true rfl⟩ rfl).cast (y := (PV.sl (some 1) 20 1 (List.map ofV ([] : (List V))))) rfl rfl) ?_
 refine sA rfl rfl rfl rfl rfl (ao_nil ?_)
 change BW _ _ _ _ _
 refine bw_seq ?_
 refine bR ?_
 refine sM rfl rfl rfl rfl rfl ?_
 refine sM rfl rfl rfl rfl rfl ?_
 obtain ⟨x2, hx2, rfl⟩ | ⟨x1, hx1, h⟩ := xbind_some h
 ·refine ao_ncall [0] (.func rfl) rfl en_65 rfl (.cons (Wk.refl _) (.cons (Wk.refl _) (.cons (Wk.refl _) .nil))) rfl (.cons rfl (.box (.cons (.same (ids_old (ids_slM (fun _ => rfl) a0.f_b))) (.cons (.same rfl) (.cons (.same rfl) (.cons (.same rfl) .nil))))) .nil) (.cons (.rf rfl) (.cons (.same rfl) (.cons (.same rfl) .nil))) (s_wire_reader_most a0 a1 4096 (.pan x2) hx2) (.same rfl) (.cons (.box (.cons (.same (ids_old (ids_slM (fun _ => rfl) ((x2.2).f_b)))) (.cons (.same rfl) (.cons (.same rfl) (.cons (.same rfl) .nil))))) .nil) rfl ?_
  repeat (first | refine seqB_pan ?_ | refine blockK_pan ?_ | refine jumpK_pan ?_)
  exact endK_pan (endR (y := (PV.iface 112 (of_wire_fault x2.1))) 1 (Wk.refl _) rfl rfl (.same rfl) (.cons (.box (.cons (.same (ids_old (ids_slM (fun _ => rfl) (((x2.2)).f_b)))) (.cons (.same rfl) (.cons (.same rfl) (.cons (.same rfl) .nil))))) .nil) (xq_pan rfl rfl))
 refine sS rfl rfl rfl (op1_mcall [0] (.func rfl) en_65 rfl (.cons (Wk.refl _) (.cons (Wk.refl _) (.cons (Wk.refl _) .nil))) rfl (.cons rfl (.box (.cons (.same (ids_old (ids_slM (fun _ => rfl) a0.f_b))) (.cons (.same rfl) (.cons (.same rfl) (.cons (.same rfl) .nil))))) .nil) (.cons (.rf rfl) (.cons (.same rfl) (.cons (.same rfl) .nil))) (s_wire_reader_most a0 a1 4096 (.ret x1) hx1) (.same rfl) (.cons (.box (.cons (.same (ids_old (ids_slM (fun _ => rfl) ((x1.2).f_b)))) (.cons (.same rfl) (.cons (.same rfl) (.cons (.same rfl) .nil))))) .nil) rfl) ?_
 refine sM rfl rfl rfl rfl rfl (ao_nil ?_)
 change BW _ _ _ _ _
 refine bw_block ?_
 change BW _ _ _ _ _
 unfold wire_reader_list_l1 at h
 refine bw_loop (σ := ((List V) × Int × Str × Int × Int × Bool)) (fun i => [(0, (PV.rf 0 0)), (2, (I64 a2)), (7, (PV.sl (some 1) 20 1 (List.map ofV i.1))), (12, (I64 x1.1)), (13, (I64 i.2.1))]) (fun i => [.box 110 [(PV.old (PV.sl none 5 1 (List.map ofB i.2.2.1))), (I64 i.2.2.2.1), (I64 i.2.2.2.2.1), (BO i.2.2.2.2.2)], .arr 20 (i.1).length]) (([] : (List V)), 0, (x1.2).f_b, (x1.2).f_at, (x1.2).f_n, (x1.2).f_making) h ?_ ?_ ?_
 ·intro i; exact ⟨Nat.le_of_ble_eq_true rfl, ⟨(il_rf rfl), ⟨(il_nil rfl), ⟨(il_tok rfl (ids_map ids_V _)), ⟨(il_nil rfl), ⟨(il_nil rfl), trivial⟩⟩⟩⟩⟩, ⟨⟨(il_nil (ids_old (ids_slM (fun _ => rfl) _))), ⟨(il_nil rfl), ⟨(il_nil rfl), ⟨(il_nil rfl), trivial⟩⟩⟩⟩, trivial⟩⟩
 ·exact ⟨(.cons .same (.cons .same .nil)), (sC rfl (sC rfl (sC rfl (sC rfl (sC rfl sub_nil)))))⟩
 ·rintro g1_f ⟨s3, s4, s5, s6, s7, s8⟩ h; replace h : wire_reader_list_l1b r_wire_reader_value a2 x1 (fun y0 y1 y2 y3 y4 y5 => g1_f (y0, y1, y2, y3, y4, y5)) s3 s4 s5 s6 s7 s8 = some r := h; unfold wire_reader_list_l1b at h
  change BW _ _ _ ⟨[(0, (PV.rf 0 0)), (2, (I64 a2)), (7, (PV.sl (some 1) 20 1 (List.map ofV s3))), (12, (I64 x1.1)), (13, (I64 s4))], [.box 110 [(PV.old (PV.sl none 5 1 (List.map ofB s5))), (I64 s6), (I64 s7), (BO s8)], .arr 20 (s3).length], _⟩ _
  refine bR ?_
  refine sS rfl rfl rfl ((op1_cmp rfl rfl rfl rfl).cast (y := (BO ((decide (s4 < x1.1))))) rfl rfl) (ao_nil ?_)
  change BW _ _ _ _ _
  refine bw_seq ?_
  refine bw_cond rfl ?_ ?_
  ·intro hc9; replace h := ocond_t hc9 h
   refine bw_skip ?_
   change BW _ _ _ _ _
   refine bw_seqJ (ι := ((List V) × Str × Int × Int × Bool)) (fun i => wire_reader_list_j1 (fun y0 y1 y2 y3 y4 y5 => g1_f (y0, y1, y2, y3, y4, y5)) s4 i.1 i.2.1 i.2.2.1 i.2.2.2.1 i.2.2.2.2 = some r) (fun i => [(0, (PV.rf 0 0)), (2, (I64 a2)), (7, (PV.sl (some 1) 20 1 (List.map ofV i.1))), (12, (I64 x1.1)), (13, (I64 s4))]) (fun i => [.box 110 [(PV.old (PV.sl none 5 1 (List.map ofB i.2.1))), (I64 i.2.2.1), (I64 i.2.2.2.1), (BO i.2.2.2.2)], .arr 20 (i.1).length]) ?_ ?_ ?_
   ·intro i; exact ⟨Nat.le_of_ble_eq_true rfl, ⟨(il_rf rfl), ⟨(il_nil rfl), ⟨(il_tok rfl (ids_map ids_V _)), ⟨(il_nil rfl), ⟨(il_nil rfl), trivial⟩⟩⟩⟩⟩, ⟨⟨(il_nil (ids_old (ids_slM (fun _ => rfl) _))), ⟨(il_nil rfl), ⟨(il_nil rfl), ⟨(il_nil rfl), trivial⟩⟩⟩⟩, trivial⟩⟩
   ·rintro ⟨s10, s11, s12, s13, s14⟩ h; replace h : wire_reader_list_j1 (fun y0 y1 y2 y3 y4 y5 => g1_f (y0, y1, y2, y3, y4, y5)) s4 s10 s11 s12 s13 s14 = some r := h; unfold wire_reader_list_j1 at h
    change BW _ _ _ ⟨[(0, (PV.rf 0 0)), (2, (I64 a2)), (7, (PV.sl (some 1) 20 1 (List.map ofV s10))), (12, (I64 x1.1)), (13, (I64 s4))], [.box 110 [(PV.old (PV.sl none 5 1 (List.map ofB s11))), (I64 s12), (I64 s13), (BO s14)], .arr 20 (s10).length], _⟩ _
    refine bw_region ?_
    refine sS rfl rfl rfl (op1_addW rfl rfl rfl) ?_
    refine sM rfl rfl rfl rfl rfl (ao_nil ?_)
    exact ⟨rfl, (s10, (IntKind.i64.wrap (s4 + 1)), s11, s12, s13, s14), h, ⟨(.cons .same (.cons .same .nil)), (sC rfl (sC rfl (sC rfl (sC rfl (sC rfl sub_nil)))))⟩⟩
   ·refine bw_block ?_
    change BW _ _ _ _ _
    refine bR ?_
    refine sM rfl rfl rfl rfl rfl ?_
    refine sM rfl rfl rfl rfl rfl ?_
    refine sS rfl rfl rfl (op1_addW rfl rfl rfl) ?_
    obtain ⟨x16, hx16, rfl⟩ | ⟨x15, hx15, h⟩ := xbind_some h
    ·refine ao_ncall [0] (.func rfl) rfl en_52 rfl (.cons (Wk.refl _) (.cons (Wk.refl _) .nil)) rfl (.cons rfl (.box (.cons (.same (ids_old (ids_slM (fun _ => rfl) (((S_wire_reader.mk s5 s6 s7 s8)).f_b)))) (.cons (.same rfl) (.cons (.same rfl) (.cons (.same rfl) .nil))))) .nil) (.cons (.rf rfl) (.cons (.same rfl) .nil)) (c_wire_reader_value (S_wire_reader.mk s5 s6 s7 s8) (IntKind.i64.wrap (a2 + 1)) (.pan x16) hx16) (.same rfl) (.cons (.box (.cons (.same (ids_old (ids_slM (fun _ => rfl) ((x16.2).f_b)))) (.cons (.same rfl) (.cons (.same rfl) (.cons (.same rfl) .nil))))) .nil) rfl ?_
     repeat (first | refine seqB_pan ?_ | refine blockK_pan ?_ | refine jumpK_pan ?_)
     exact endK_pan (endR (y := (PV.iface 112 (of_wire_fault x16.1))) 1 (Wk.refl _) rfl rfl (.same rfl) (.cons (.box (.cons (.same (ids_old (ids_slM (fun _ => rfl) (((x16.2)).f_b)))) (.cons (.same rfl) (.cons (.same rfl) (.cons (.same rfl) .nil))))) .nil) (xq_pan rfl rfl))
    refine sS rfl rfl rfl (op1_mcall [0] (.func rfl) en_52 rfl (.cons (Wk.refl _) (.cons (Wk.refl _) .nil)) rfl (.cons rfl (.box (.cons (.same (ids_old (ids_slM (fun _ => rfl) (((S_wire_reader.mk s5 s6 s7 s8)).f_b)))) (.cons (.same rfl) (.cons (.same rfl) (.cons (.same rfl) .nil))))) .nil) (.cons (.rf rfl) (.cons (.same rfl) .nil)) (c_wire_reader_value (S_wire_reader.mk s5 s6 s7 s8) (IntKind.i64.wrap (a2 + 1)) (.ret x15) hx15) (.same (ids_V x15.1)) (.cons (.box (.cons (.same (ids_old (ids_slM (fun _ => rfl) ((x15.2).f_b)))) (.cons (.same rfl) (.cons (.same rfl) (.cons (.same rfl) .nil))))) .nil) rfl) ?_
    refine sA rfl rfl rfl rfl rfl (ao_nil ?_)
    change BW _ _ _ _ _
    refine bR ?_
    refine sM rfl rfl rfl rfl rfl ?_
    refine sS rfl rfl rfl (op1_nilR rfl rfl) ?_
    refine sS rfl rfl rfl (op1_faR st_110 (i := 3) rfl rfl rfl) ?_
    refine sS rfl rfl rfl ((op1_ldR Try.underlying4 rfl rfl rfl rfl rfl)) (ao_nil ?_)
    change BW _ _ _ _ _
    refine bw_cond rfl ?_ ?_
    ·intro hc17; replace h := ocond_t hc17 h
     refine bw_region ?_
     refine sM rfl rfl rfl rfl rfl ?_
     refine sM rfl rfl rfl rfl rfl ?_
     refine sS rfl rfl rfl ((op1_bslice (xs := [(ofV x15.1)]) Try.underlying61 inf_20 rfl rfl rfl (by simp only [List.all_cons, List.all_nil, cok_V, cok_RecP, Bool.and_true, Bool.true_and]; try rfl) (by simp only [List.all_cons, List.all_nil, csz_V, csz_RecP, cells_V, cells_RecP]; try rfl) rfl ⟨Nat.le_of_ble_eq_true rfl, Nat.le_of_ble_eq_true rfl⟩ (by simp only [zipN, afill, List.flatMap_cons, List.flatMap_nil, cells_V, cells_RecP]; try rfl)).cast (y := (PV.sl (some 2) 20 1 (List.map ofV ([x15.1] : (List V))))) rfl rfl) ?_
     obtain ⟨x18, hx18, h⟩ := obind h
     refine sS rfl rfl rfl (op1_appM Try.underlying61 inf_20 rfl Try.underlying61 rfl rfl rfl rfl csz_V call1_V hx18 rfl) ?_
     refine sA rfl rfl rfl rfl rfl (ao_nil ?_)
     exact ⟨rfl, (x18, (x15.2).f_b, (x15.2).f_at, (x15.2).f_n, (x15.2).f_making), h, ⟨(.cons .same (.cons .same .nil)), (sC rfl (sC rfl (sC rfl (sC rfl (sC rfl sub_nil)))))⟩⟩
    ·intro hc17; replace h := ocond_f hc17 h
     refine bw_skip ?_
     exact ⟨rfl, (s3, (x15.2).f_b, (x15.2).f_at, (x15.2).f_n, (x15.2).f_making), h, ⟨(.cons .same (.cons .same .nil)), (sC rfl (sC rfl (sC rfl (sC rfl (sC rfl sub_nil)))))⟩⟩
  ·intro hc9; replace h := ocond_f hc9 h
   refine bw_exit ?_
   change BW _ _ _ _ _
   refine bR ?_
   refine sM rfl rfl rfl rfl rfl ?_
   refine sS rfl rfl rfl ((op1_mkI Try.underlying61 rfl rfl rfl).wk ((Wk.iface Wk.tok).trans (Wk.eq (mk_list _).symm))) ?_
   refine sA rfl rfl rfl rfl rfl (ao_nil ?_)
   change BW _ _ _ _ _
   refine bw_ret ?_
   change ∃ xs, _ = some xs ∧ EndOk _ _ _ _
   obtain rfl := Option.some.inj h
   exact ⟨_, rfl, endR (y := (ofV (V.list s3))) 1 (Wk.refl _) rfl rfl (.same (ids_V (V.list s3))) (.cons (.box (.cons (.same (ids_old (ids_slM (fun _ => rfl) (((S_wire_reader.mk s5 s6 s7 s8)).f_b)))) (.cons (.same rfl) (.cons (.same rfl) (.cons (.same rfl) .nil))))) .nil) (xq_ret rfl rfl)⟩
theorem t_wire_reader_value (r_wire_reader_record : S_wire_reader → Int → Int → Option (Xr (S_wire_fault × S_wire_reader) (V × S_wire_reader))) (c_wire_reader_record : ∀ (a0 : S_wire_reader) (a1 : Int) (a2 : Int) r, r_wire_reader_record a0 a1 a2 = some r → ACalls Try.prog 68 [(PV.rf 0 0), (I64 a1), (I64 a2)] [.box 110 [(PV.old (PV.sl none 5 1 (List.map ofB a0.f_b))), (I64 a0.f_at), (I64 a0.f_n), (BO a0.f_making)]] (XQ r (fun r => (ofV r.1)) (fun r => [.box 110 [(PV.old (PV.sl none 5 1 (List.map ofB (r.2).f_b))), (I64 ((r.2).f_at)), (I64 ((r.2).f_n)), (BO ((r.2).f_making))]]) (fun r => (PV.iface 112 (of_wire_fault r.1))) (fun r => [.box 110 [(PV.old (PV.sl none 5 1 (List.map ofB (r.2).f_b))), (I64 ((r.2).f_at)), (I64 ((r.2).f_n)), (BO ((r.2).f_making))]]))) (r_wire_reader_fields : S_wire_reader → Int → Int → Option (Xr (S_wire_fault × S_wire_reader) ((List (Str × V)) × S_wire_reader))) (c_wire_reader_fields : ∀ (a0 : S_wire_reader) (a1 : Int) (a2 : Int) r, r_wire_reader_fields a0 a1 a2 = some r → ACalls Try.prog 67 [(PV.rf 0 0), (I64 a1), (I64 a2)] [.box 110 [(PV.old (PV.sl none 5 1 (List.map ofB a0.f_b))), (I64 a0.f_at), (I64 a0.f_n), (BO a0.f_making)]] (XQ r (fun r => (PV.sl none 88 2 (List.map ofFld r.1))) (fun r => [.box 110 [(PV.old (PV.sl none 5 1 (List.map ofB (r.2).f_b))), (I64 ((r.2).f_at)), (I64 ((r.2).f_n)), (BO ((r.2).f_making))]]) (fun r => (PV.iface 112 (of_wire_fault r.1))) (fun r => [.box 110 [(PV.old (PV.sl none 5 1 (List.map ofB (r.2).f_b))), (I64 ((r.2).f_at)), (I64 ((r.2).f_n)), (BO ((r.2).f_making))]]))) (r_wire_reader_list : S_wire_reader → Int → Int → Option (Xr (S_wire_fault × S_wire_reader) (V × S_wire_reader))) (c_wire_reader_list : ∀ (a0 : S_wire_reader) (a1 : Int) (a2 : Int) r, r_wire_reader_list a0 a1 a2 = some r → ACalls Try.prog 66 [(PV.rf 0 0), (I64 a1), (I64 a2)] [.box 110 [(PV.old (PV.sl none 5 1 (List.map ofB a0.f_b))), (I64 a0.f_at), (I64 a0.f_n), (BO a0.f_making)]] (XQ r (fun r => (ofV r.1)) (fun r => [.box 110 [(PV.old (PV.sl none 5 1 (List.map ofB (r.2).f_b))), (I64 ((r.2).f_at)), (I64 ((r.2).f_n)), (BO ((r.2).f_making))]]) (fun r => (PV.iface 112 (of_wire_fault r.1))) (fun r => [.box 110 [(PV.old (PV.sl none 5 1 (List.map ofB (r.2).f_b))), (I64 ((r.2).f_at)), (I64 ((r.2).f_n)), (BO ((r.2).f_making))]]))) (r_wire_reader_value : S_wire_reader → Int → Option (Xr (S_wire_fault × S_wire_reader) (V × S_wire_reader))) (c_wire_reader_value : ∀ (a0 : S_wire_reader) (a1 : Int) r, r_wire_reader_value a0 a1 = some r → ACalls Try.prog 52 [(PV.rf 0 0), (I64 a1)] [.box 110 [(PV.old (PV.sl none 5 1 (List.map ofB a0.f_b))), (I64 a0.f_at), (I64 a0.f_n), (BO a0.f_making)]] (XQ r (fun r => (ofV r.1)) (fun r => [.box 110 [(PV.old (PV.sl none 5 1 (List.map ofB (r.2).f_b))), (I64 ((r.2).f_at)), (I64 ((r.2).f_n)), (BO ((r.2).f_making))]]) (fun r => (PV.iface 112 (of_wire_fault r.1))) (fun r => [.box 110 [(PV.old (PV.sl none 5 1 (List.map ofB (r.2).f_b))), (I64 ((r.2).f_at)), (I64 ((r.2).f_n)), (BO ((r.2).f_making))]]))) (a0 : S_wire_reader) (a1 : Int) (r : (Xr (S_wire_fault × S_wire_reader) (V × S_wire_reader))) (h : b_wire_reader_value r_wire_reader_record r_wire_reader_fields r_wire_reader_list r_wire_reader_value a0 a1 = some r) : ACalls Try.prog 52 [(PV.rf 0 0), (I64 a1)] [.box 110 [(PV.old (PV.sl none 5 1 (List.map ofB a0.f_b))), (I64 a0.f_at), (I64 a0.f_n), (BO a0.f_making)]] (XQ r (fun r => (ofV r.1)) (fun r => [.box 110 [(PV.old (PV.sl none 5 1 (List.map ofB (r.2).f_b))), (I64 ((r.2).f_at)), (I64 ((r.2).f_n)), (BO ((r.2).f_making))]]) (fun r => (PV.iface 112 (of_wire_fault r.1))) (fun r => [.box 110 [(PV.old (PV.sl none 5 1 (List.map ofB (r.2).f_b))), (I64 ((r.2).f_at)), (I64 ((r.2).f_n)), (BO ((r.2).f_making))]])) := by
 unfold b_wire_reader_value at h
 refine acalls_of Try.func52 rfl Try.ntmps52 Try.results52 rfl (aw_of_bw ?_)
 change BW _ _ _ ⟨[(0, (PV.rf 0 0)), (1, (I64 a1))], [.box 110 [(PV.old (PV.sl none 5 1 (List.map ofB a0.f_b))), (I64 a0.f_at), (I64 a0.f_n), (BO a0.f_making)]], _⟩ _
 refine bR ?_
 refine sA rfl rfl rfl rfl rfl (ao_nil ?_)
 change BW _ _ _ _ _
 refine bR ?_
 refine sM rfl rfl rfl rfl rfl ?_
 refine sS rfl rfl rfl (op1_nilR rfl rfl) ?_
 refine sS rfl rfl rfl (op1_faR st_110 (i := 1) rfl rfl rfl) ?_
 refine sS rfl rfl rfl ((op1_ldR Try.underlying3 rfl rfl rfl rfl rfl)) ?_
 refine sA rfl rfl rfl rfl rfl (ao_nil ?_)
 change BW _ _ _ _ _
 refine bw_seq ?_
 refine bR ?_
 refine sM rfl rfl rfl rfl rfl ?_
 refine sM rfl rfl rfl rfl rfl ?_
 refine sS rfl rfl rfl (op1_nilR rfl rfl) ?_
 refine sS rfl rfl rfl (op1_faR st_110 (i := 0) rfl rfl rfl) ?_
 refine sS rfl rfl rfl ((op1_ldR Try.underlying23 rfl rfl rfl rfl rfl)) ?_
 refine sS rfl rfl rfl (op1_oldS (op1_lenM Try.underlying23 rfl rfl) Sc.v) ?_
 refine sS rfl rfl rfl ((op1_cmp rfl rfl rfl rfl).cast (y := (BO ((a0.f_at == (((a0.f_b).length : Nat) : Int))))) rfl rfl) (ao_nil ?_)
 change BW _ _ _ _ _
 refine bw_cond rfl ?_ ?_
 ·intro hc1; replace h := ocond_t hc1 h
  refine bw_region ?_
  refine sM rfl rfl rfl rfl rfl ?_
  refine sM rfl rfl rfl rfl rfl ?_
  obtain ⟨x3, hx3, rfl⟩ | ⟨x2, hx2, h⟩ := xbind_some h
  ·refine ao_ncall [0] (.func rfl) rfl en_60 rfl (.cons (Wk.refl _) (.cons (Wk.refl _) (.cons (Wk.refl _) .nil))) rfl (.cons rfl (.box (.cons (.same (ids_old (ids_slM (fun _ => rfl) a0.f_b))) (.cons (.same rfl) (.cons (.same rfl) (.cons (.same rfl) .nil))))) .nil) (.cons (.rf rfl) (.cons (.same rfl) (.cons (.same rfl) .nil))) (s_wire_reader_fail a0 a0.f_at 4 (.pan x3) hx3) (.same rfl) (.cons (.box (.cons (.same (ids_old (ids_slM (fun _ => rfl) ((x3.2).f_b)))) (.cons (.same rfl) (.cons (.same rfl) (.cons (.same rfl) .nil))))) .nil) rfl ?_
   repeat (first | refine seqB_pan ?_ | refine blockK_pan ?_ | refine jumpK_pan ?_)
   exact endK_pan (endR (y := (PV.iface 112 (of_wire_fault x3.1))) 1 (Wk.refl _) rfl rfl (.same rfl) (.cons (.box (.cons (.same (ids_old (ids_slM (fun _ => rfl) (((x3.2)).f_b)))) (.cons (.same rfl) (.cons (.same rfl) (.cons (.same rfl) .nil))))) .nil) (xq_pan rfl rfl))
  cases h
 ·intro hc1; replace h := ocond_f hc1 h
  refine bw_skip ?_
  change BW _ _ _ _ _
  refine bw_seq ?_
  refine bw_seqJ (ι := Bool) (fun i => wire_reader_value_j1 r_wire_reader_record r_wire_reader_fields r_wire_reader_list a0 a1 i = some r) (fun i => [(0, (PV.rf 0 0)), (1, (I64 a1)), (5, (I64 a0.f_at)), (34, (BO i))]) (fun i => [.box 110 [(PV.old (PV.sl none 5 1 (List.map ofB a0.f_b))), (I64 a0.f_at), (I64 a0.f_n), (BO a0.f_making)]]) ?_ ?_ ?_
  ·intro i; exact ⟨Nat.le_of_ble_eq_true rfl, ⟨(il_rf rfl), ⟨(il_nil rfl), ⟨(il_nil rfl), ⟨(il_nil rfl), trivial⟩⟩⟩⟩, ⟨⟨(il_nil (ids_old (ids_slM (fun _ => rfl) _))), ⟨(il_nil rfl), ⟨(il_nil rfl), ⟨(il_nil rfl), trivial⟩⟩⟩⟩, trivial⟩⟩
  ·rintro s4 h; replace h : wire_reader_value_j1 r_wire_reader_record r_wire_reader_fields r_wire_reader_list a0 a1 s4 = some r := h; unfold wire_reader_value_j1 at h
   change BW _ _ _ ⟨[(0, (PV.rf 0 0)), (1, (I64 a1)), (5, (I64 a0.f_at)), (34, (BO s4))], [.box 110 [(PV.old (PV.sl none 5 1 (List.map ofB a0.f_b))), (I64 a0.f_at), (I64 a0.f_n), (BO a0.f_making)]], _⟩ _
   refine bw_cond rfl ?_ ?_
   ·intro hc5; replace h := ocond_t hc5 h
    refine bw_region ?_
    refine sM rfl rfl rfl rfl rfl ?_
    refine sM rfl rfl rfl rfl rfl ?_
    obtain ⟨x7, hx7, rfl⟩ | ⟨x6, hx6, h⟩ := xbind_some h
    ·refine ao_ncall [0] (.func rfl) rfl en_60 rfl (.cons (Wk.refl _) (.cons (Wk.refl _) (.cons (Wk.refl _) .nil))) rfl (.cons rfl (.box (.cons (.same (ids_old (ids_slM (fun _ => rfl) a0.f_b))) (.cons (.same rfl) (.cons (.same rfl) (.cons (.same rfl) .nil))))) .nil) (.cons (.rf rfl) (.cons (.same rfl) (.cons (.same rfl) .nil))) (s_wire_reader_fail a0 a0.f_at 2 (.pan x7) hx7) (.same rfl) (.cons (.box (.cons (.same (ids_old (ids_slM (fun _ => rfl) ((x7.2).f_b)))) (.cons (.same rfl) (.cons (.same rfl) (.cons (.same rfl) .nil))))) .nil) rfl ?_
     repeat (first | refine seqB_pan ?_ | refine blockK_pan ?_ | refine jumpK_pan ?_)
     exact endK_pan (endR (y := (PV.iface 112 (of_wire_fault x7.1))) 1 (Wk.refl _) rfl rfl (.same rfl) (.cons (.box (.cons (.same (ids_old (ids_slM (fun _ => rfl) (((x7.2)).f_b)))) (.cons (.same rfl) (.cons (.same rfl) (.cons (.same rfl) .nil))))) .nil) (xq_pan rfl rfl))
    cases h
   ·intro hc5; replace h := ocond_f hc5 h
    refine bw_skip ?_
    change BW _ _ _ _ _
    refine bR ?_
    refine sM rfl rfl rfl rfl rfl ?_
    refine sS rfl rfl rfl (op1_nilR rfl rfl) ?_
    refine sS rfl rfl rfl (op1_faR st_110 (i := 0) rfl rfl rfl) ?_
    refine sS rfl rfl rfl ((op1_ldR Try.underlying23 rfl rfl rfl rfl rfl)) ?_
    refine sM rfl rfl rfl rfl rfl ?_
    obtain ⟨x8, hx8, h⟩ := obind h
    refine sS rfl rfl rfl (op1_old (op1_idxM Try.underlying23 inf_5 rfl rfl rfl hx8 rfl)) ?_
    refine sS rfl rfl rfl (op1_oldS (op1_ldP (y := (ofB x8)) Try.underlying5 rfl rfl rfl rfl) Sc.v) ?_
    refine sS rfl rfl rfl ((op1_convI Try.underlying5 Try.underlying3 rfl rfl).cast (y := (I64 (((x8).toNat : Int)))) (by rw [wrapB_i64]) rfl) ?_
    refine sA rfl rfl rfl rfl rfl (ao_nil ?_)
    change BW _ _ _ _ _
    refine bw_seq ?_
    refine bw_seqJ (ι := Bool) (fun i => wire_reader_value_j2 r_wire_reader_record r_wire_reader_fields r_wire_reader_list a0 a1 x8 i = some r) (fun i => [(0, (PV.rf 0 0)), (1, (I64 a1)), (5, (I64 a0.f_at)), (6, (I64 (((x8).toNat : Int)))), (51, (BO i))]) (fun i => [.box 110 [(PV.old (PV.sl none 5 1 (List.map ofB a0.f_b))), (I64 a0.f_at), (I64 a0.f_n), (BO a0.f_making)]]) ?_ ?_ ?_
    ·intro i; exact ⟨Nat.le_of_ble_eq_true rfl, ⟨(il_rf rfl), ⟨(il_nil rfl), ⟨(il_nil rfl), ⟨(il_nil rfl), ⟨(il_nil rfl), trivial⟩⟩⟩⟩⟩, ⟨⟨(il_nil (ids_old (ids_slM (fun _ => rfl) _))), ⟨(il_nil rfl), ⟨(il_nil rfl), ⟨(il_nil rfl), trivial⟩⟩⟩⟩, trivial⟩⟩
    ·rintro s9 h; replace h : wire_reader_value_j2 r_wire_reader_record r_wire_reader_fields r_wire_reader_list a0 a1 x8 s9 = some r := h; unfold wire_reader_value_j2 at h
     change BW _ _ _ ⟨[(0, (PV.rf 0 0)), (1, (I64 a1)), (5, (I64 a0.f_at)), (6, (I64 (((x8).toNat : Int)))), (51, (BO s9))], [.box 110 [(PV.old (PV.sl none 5 1 (List.map ofB a0.f_b))), (I64 a0.f_at), (I64 a0.f_n), (BO a0.f_making)]], _⟩ _
     refine bw_cond rfl ?_ ?_
     ·intro hc10; replace h := ocond_t hc10 h
      refine bw_region ?_
      refine sM rfl rfl rfl rfl rfl ?_
      refine sM rfl rfl rfl rfl rfl ?_
      obtain ⟨x12, hx12, rfl⟩ | ⟨x11, hx11, h⟩ := xbind_some h
      ·refine ao_ncall [0] (.func rfl) rfl en_60 rfl (.cons (Wk.refl _) (.cons (Wk.refl _) (.cons (Wk.refl _) .nil))) rfl (.cons rfl (.box (.cons (.same (ids_old (ids_slM (fun _ => rfl) a0.f_b))) (.cons (.same rfl) (.cons (.same rfl) (.cons (.same rfl) .nil))))) .nil) (.cons (.rf rfl) (.cons (.same rfl) (.cons (.same rfl) .nil))) (s_wire_reader_fail a0 a0.f_at 30 (.pan x12) hx12) (.same rfl) (.cons (.box (.cons (.same (ids_old (ids_slM (fun _ => rfl) ((x12.2).f_b)))) (.cons (.same rfl) (.cons (.same rfl) (.cons (.same rfl) .nil))))) .nil) rfl ?_
       repeat (first | refine seqB_pan ?_ | refine blockK_pan ?_ | refine jumpK_pan ?_)
       exact endK_pan (endR (y := (PV.iface 112 (of_wire_fault x12.1))) 1 (Wk.refl _) rfl rfl (.same rfl) (.cons (.box (.cons (.same (ids_old (ids_slM (fun _ => rfl) (((x12.2)).f_b)))) (.cons (.same rfl) (.cons (.same rfl) (.cons (.same rfl) .nil))))) .nil) (xq_pan rfl rfl))
      cases h
     ·intro hc10; replace h := ocond_f hc10 h
      refine bw_skip ?_
      change BW _ _ _ _ _
      refine bR ?_
      refine sM rfl rfl rfl rfl rfl ?_
      refine sS rfl rfl rfl (op1_nilR rfl rfl) ?_
      refine sS rfl rfl rfl (op1_faR st_110 (i := 2) rfl rfl rfl) ?_
      refine sS rfl rfl rfl ((op1_ldR Try.underlying3 rfl rfl rfl rfl rfl)) ?_
      refine sS rfl rfl rfl (op1_addW rfl rfl rfl) ?_
      refine sS rfl rfl rfl (op1_nilR rfl rfl) ?_
      refine sS rfl rfl rfl (op1_faR st_110 (i := 2) rfl rfl rfl) ?_
      refine ao_step0 rfl rfl (op1_store inf_3 rfl rfl rfl rfl rfl rfl (Nat.le_of_ble_eq_true rfl) rfl) ?_
      refine ao_nil ?_
      change BW _ _ _ _ _
      refine bR ?_
      refine sM rfl rfl rfl rfl rfl ?_
      refine sS rfl rfl rfl (op1_nilR rfl rfl) ?_
      refine sS rfl rfl rfl (op1_faR st_110 (i := 1) rfl rfl rfl) ?_
      refine sS rfl rfl rfl ((op1_ldR Try.underlying3 rfl rfl rfl rfl rfl)) ?_
      refine sS rfl rfl rfl (op1_addW rfl rfl rfl) ?_
      refine sS rfl rfl rfl (op1_nilR rfl rfl) ?_
      refine sS rfl rfl rfl (op1_faR st_110 (i := 1) rfl rfl rfl) ?_
      refine ao_step0 rfl rfl (op1_store inf_3 rfl rfl rfl rfl rfl rfl (Nat.le_of_ble_eq_true rfl) rfl) ?_
      refine ao_nil ?_
      change BW _ _ _ _ _
      refine bw_seq ?_
      refine bR ?_
      refine sM rfl rfl rfl rfl rfl (ao_nil ?_)
      change BW _ _ _ _ _
      refine bw_block ?_
      change BW _ _ _ _ _
      refine bR ?_
      refine sS rfl rfl rfl ((op1_cmp rfl rfl rfl rfl).cast (y := (BO ((((x8).toNat : Int) == 2)))) rfl rfl) ?_
      refine sA rfl rfl rfl rfl rfl (ao_nil ?_)
      change BW _ _ _ _ _
      refine bw_cond rfl ?_ ?_
      ·intro hc13; replace h := ocond_t hc13 h
       refine bR ?_
       refine sM rfl rfl rfl rfl rfl ?_
       obtain ⟨x15, hx15, rfl⟩ | ⟨x14, hx14, h⟩ := xbind_some h
       ·refine ao_ncall [0] (.func rfl) rfl en_61 rfl (.cons (Wk.refl _) .nil) rfl (.cons rfl (.box (.cons (.same (ids_old (ids_slM (fun _ => rfl) (((S_wire_reader.mk a0.f_b (IntKind.i64.wrap (a0.f_at + 1)) (IntKind.i64.wrap (a0.f_n + 1)) a0.f_making)).f_b)))) (.cons (.same rfl) (.cons (.same rfl) (.cons (.same rfl) .nil))))) .nil) (.cons (.rf rfl) .nil) (s_wire_reader_byte (S_wire_reader.mk a0.f_b (IntKind.i64.wrap (a0.f_at + 1)) (IntKind.i64.wrap (a0.f_n + 1)) a0.f_making) (.pan x15) hx15) (.same rfl) (.cons (.box (.cons (.same (ids_old (ids_slM (fun _ => rfl) ((x15.2).f_b)))) (.cons (.same rfl) (.cons (.same rfl) (.cons (.same rfl) .nil))))) .nil) rfl ?_
        repeat (first | refine seqB_pan ?_ | refine blockK_pan ?_ | refine jumpK_pan ?_)
        exact endK_pan (endR (y := (PV.iface 112 (of_wire_fault x15.1))) 1 (Wk.refl _) rfl rfl (.same rfl) (.cons (.box (.cons (.same (ids_old (ids_slM (fun _ => rfl) (((x15.2)).f_b)))) (.cons (.same rfl) (.cons (.same rfl) (.cons (.same rfl) .nil))))) .nil) (xq_pan rfl rfl))
       refine sS rfl rfl rfl (op1_mcall [0] (.func rfl) en_61 rfl (.cons (Wk.refl _) .nil) rfl (.cons rfl (.box (.cons (.same (ids_old (ids_slM (fun _ => rfl) (((S_wire_reader.mk a0.f_b (IntKind.i64.wrap (a0.f_at + 1)) (IntKind.i64.wrap (a0.f_n + 1)) a0.f_making)).f_b)))) (.cons (.same rfl) (.cons (.same rfl) (.cons (.same rfl) .nil))))) .nil) (.cons (.rf rfl) .nil) (s_wire_reader_byte (S_wire_reader.mk a0.f_b (IntKind.i64.wrap (a0.f_at + 1)) (IntKind.i64.wrap (a0.f_n + 1)) a0.f_making) (.ret x14) hx14) (.same rfl) (.cons (.box (.cons (.same (ids_old (ids_slM (fun _ => rfl) ((x14.2).f_b)))) (.cons (.same rfl) (.cons (.same rfl) (.cons (.same rfl) .nil))))) .nil) rfl) ?_
       refine sA rfl rfl rfl rfl rfl (ao_nil ?_)
       change BW _ _ _ _ _
       refine bw_seq ?_
       refine bR ?_
       refine sM rfl rfl rfl rfl rfl ?_
       refine sS rfl rfl rfl ((op1_cmp rfl rfl rfl rfl).cast (y := (BO ((decide (((x14.1).toNat : Int) > (((1 : UInt8)).toNat : Int)))))) rfl rfl) (ao_nil ?_)
       change BW _ _ _ _ _
       refine bw_cond rfl ?_ ?_
       ·intro hc16; replace h := ocond_t hc16 h
        refine bw_region ?_
        refine sM rfl rfl rfl rfl rfl ?_
        refine sM rfl rfl rfl rfl rfl ?_
        refine sS rfl rfl rfl (op1_nilR rfl rfl) ?_
        refine sS rfl rfl rfl (op1_faR st_110 (i := 1) rfl rfl rfl) ?_
        refine sS rfl rfl rfl ((op1_ldR Try.underlying3 rfl rfl rfl rfl rfl)) ?_
        refine sS rfl rfl rfl (op1_subW rfl rfl rfl) ?_
        obtain ⟨x18, hx18, rfl⟩ | ⟨x17, hx17, h⟩ := xbind_some h
        ·refine ao_ncall [0] (.func rfl) rfl en_60 rfl (.cons (Wk.refl _) (.cons (Wk.refl _) (.cons (Wk.refl _) .nil))) rfl (.cons rfl (.box (.cons (.same (ids_old (ids_slM (fun _ => rfl) (((x14.2)).f_b)))) (.cons (.same rfl) (.cons (.same rfl) (.cons (.same rfl) .nil))))) .nil) (.cons (.rf rfl) (.cons (.same rfl) (.cons (.same rfl) .nil))) (s_wire_reader_fail (x14.2) (IntKind.i64.wrap ((x14.2).f_at - 1)) 30 (.pan x18) hx18) (.same rfl) (.cons (.box (.cons (.same (ids_old (ids_slM (fun _ => rfl) ((x18.2).f_b)))) (.cons (.same rfl) (.cons (.same rfl) (.cons (.same rfl) .nil))))) .nil) rfl ?_
         repeat (first | refine seqB_pan ?_ | refine blockK_pan ?_ | refine jumpK_pan ?_)
         exact endK_pan (endR (y := (PV.iface 112 (of_wire_fault x18.1))) 1 (Wk.refl _) rfl rfl (.same rfl) (.cons (.box (.cons (.same (ids_old (ids_slM (fun _ => rfl) (((x18.2)).f_b)))) (.cons (.same rfl) (.cons (.same rfl) (.cons (.same rfl) .nil))))) .nil) (xq_pan rfl rfl))
        cases h
       ·intro hc16; replace h := ocond_f hc16 h
        refine bw_skip ?_
        change BW _ _ _ _ _
        refine bR ?_
        refine sM rfl rfl rfl rfl rfl ?_
        refine sS rfl rfl rfl ((op1_cmp rfl rfl rfl rfl).cast (y := (BO ((((x14.1).toNat : Int) == (((1 : UInt8)).toNat : Int))))) rfl rfl) ?_
        refine sS rfl rfl rfl ((op1_mkI Try.underlying4 rfl rfl rfl).wk ((Wk.iface (Wk.refl _)).trans (Wk.eq (mk_bool _).symm))) ?_
        refine sA rfl rfl rfl rfl rfl (ao_nil ?_)
        change BW _ _ _ _ _
        refine bw_ret ?_
        change ∃ xs, _ = some xs ∧ EndOk _ _ _ _
        obtain rfl := Option.some.inj h
        exact ⟨_, rfl, endR (y := (ofV (V.bool (((x14.1).toNat : Int) == (((1 : UInt8)).toNat : Int))))) 1 (Wk.refl _) rfl rfl (.same (ids_V (V.bool (((x14.1).toNat : Int) == (((1 : UInt8)).toNat : Int))))) (.cons (.box (.cons (.same (ids_old (ids_slM (fun _ => rfl) (((x14.2)).f_b)))) (.cons (.same rfl) (.cons (.same rfl) (.cons (.same rfl) .nil))))) .nil) (xq_ret rfl rfl)⟩
      ·intro hc13; replace h := ocond_f hc13 h
       refine bR ?_
       refine sS rfl rfl rfl ((op1_cmp rfl rfl rfl rfl).cast (y := (BO ((((x8).toNat : Int) == 3)))) rfl rfl) ?_
       refine sA rfl rfl rfl rfl rfl (ao_nil ?_)
       change BW _ _ _ _ _
       refine bw_cond rfl ?_ ?_
       ·intro hc19; replace h := ocond_t hc19 h
        refine bR ?_
        refine sM rfl rfl rfl rfl rfl ?_
        obtain ⟨x21, hx21, rfl⟩ | ⟨x20, hx20, h⟩ := xbind_some h
        ·refine ao_ncall [0] (.func rfl) rfl en_62 rfl (.cons (Wk.refl _) .nil) rfl (.cons rfl (.box (.cons (.same (ids_old (ids_slM (fun _ => rfl) (((S_wire_reader.mk a0.f_b (IntKind.i64.wrap (a0.f_at + 1)) (IntKind.i64.wrap (a0.f_n + 1)) a0.f_making)).f_b)))) (.cons (.same rfl) (.cons (.same rfl) (.cons (.same rfl) .nil))))) .nil) (.cons (.rf rfl) .nil) (s_wire_reader_number (S_wire_reader.mk a0.f_b (IntKind.i64.wrap (a0.f_at + 1)) (IntKind.i64.wrap (a0.f_n + 1)) a0.f_making) (.pan x21) hx21) (.same rfl) (.cons (.box (.cons (.same (ids_old (ids_slM (fun _ => rfl) ((x21.2).f_b)))) (.cons (.same rfl) (.cons (.same rfl) (.cons (.same rfl) .nil))))) .nil) rfl ?_
         repeat (first | refine seqB_pan ?_ | refine blockK_pan ?_ | refine jumpK_pan ?_)
         exact endK_pan (endR (y := (PV.iface 112 (of_wire_fault x21.1))) 1 (Wk.refl _) rfl rfl (.same rfl) (.cons (.box (.cons (.same (ids_old (ids_slM (fun _ => rfl) (((x21.2)).f_b)))) (.cons (.same rfl) (.cons (.same rfl) (.cons (.same rfl) .nil))))) .nil) (xq_pan rfl rfl))
        refine sS rfl rfl rfl (op1_mcall [0] (.func rfl) en_62 rfl (.cons (Wk.refl _) .nil) rfl (.cons rfl (.box (.cons (.same (ids_old (ids_slM (fun _ => rfl) (((S_wire_reader.mk a0.f_b (IntKind.i64.wrap (a0.f_at + 1)) (IntKind.i64.wrap (a0.f_n + 1)) a0.f_making)).f_b)))) (.cons (.same rfl) (.cons (.same rfl) (.cons (.same rfl) .nil))))) .nil) (.cons (.rf rfl) .nil) (s_wire_reader_number (S_wire_reader.mk a0.f_b (IntKind.i64.wrap (a0.f_at + 1)) (IntKind.i64.wrap (a0.f_n + 1)) a0.f_making) (.ret x20) hx20) (.same rfl) (.cons (.box (.cons (.same (ids_old (ids_slM (fun _ => rfl) ((x20.2).f_b)))) (.cons (.same rfl) (.cons (.same rfl) (.cons (.same rfl) .nil))))) .nil) rfl) ?_
        refine sA rfl rfl rfl rfl rfl (ao_nil ?_)
        change BW _ _ _ _ _
        refine bR ?_
        refine sM rfl rfl rfl rfl rfl ?_
        refine sS rfl rfl rfl ((op1_shr rfl rfl rfl (by decide)).cast (y := (PV.v (.int .u64 (shrK .u64 x20.1 1)))) rfl rfl) ?_
        refine sS rfl rfl rfl (op1_convI Try.underlying24 Try.underlying2 rfl rfl) ?_
        refine sM rfl rfl rfl rfl rfl ?_
        refine sS rfl rfl rfl ((op1_andW rfl rfl rfl).cast (y := (PV.v (.int .u64 (andK .u64 x20.1 1)))) rfl rfl) ?_
        refine sS rfl rfl rfl (op1_convI Try.underlying24 Try.underlying2 rfl rfl) ?_
        refine sS rfl rfl rfl (op1_neg rfl rfl) ?_
        refine sS rfl rfl rfl ((op1_xorW rfl rfl rfl).cast (y := (I64 ((xorK .i64 (IntKind.i64.wrap (shrK .u64 x20.1 1)) (IntKind.i64.wrap (0 - (IntKind.i64.wrap (andK .u64 x20.1 1)))))))) rfl rfl) ?_
        refine sS rfl rfl rfl ((op1_mkI Try.underlying2 rfl rfl rfl).wk ((Wk.iface (Wk.refl _)).trans (Wk.eq (mk_int _).symm))) ?_
        refine sA rfl rfl rfl rfl rfl (ao_nil ?_)
        change BW _ _ _ _ _
        refine bw_ret ?_
        change ∃ xs, _ = some xs ∧ EndOk _ _ _ _
        obtain rfl := Option.some.inj h
        exact ⟨_, rfl, endR (y := (ofV (V.int (xorK .i64 (IntKind.i64.wrap (shrK .u64 x20.1 1)) (IntKind.i64.wrap (0 - (IntKind.i64.wrap (andK .u64 x20.1 1)))))))) 1 (Wk.refl _) rfl rfl (.same (ids_V (V.int (xorK .i64 (IntKind.i64.wrap (shrK .u64 x20.1 1)) (IntKind.i64.wrap (0 - (IntKind.i64.wrap (andK .u64 x20.1 1)))))))) (.cons (.box (.cons (.same (ids_old (ids_slM (fun _ => rfl) (((x20.2)).f_b)))) (.cons (.same rfl) (.cons (.same rfl) (.cons (.same rfl) .nil))))) .nil) (xq_ret rfl rfl)⟩
       ·intro hc19; replace h := ocond_f hc19 h
        refine bR ?_
        refine sS rfl rfl rfl ((op1_cmp rfl rfl rfl rfl).cast (y := (BO ((((x8).toNat : Int) == 4)))) rfl rfl) ?_
        refine sA rfl rfl rfl rfl rfl (ao_nil ?_)
        change BW _ _ _ _ _
        refine bw_cond rfl ?_ ?_
        ·intro hc22; replace h := ocond_t hc22 h
         refine bR ?_
         refine sA rfl rfl rfl rfl rfl (ao_nil ?_)
         change BW _ _ _ _ _
         refine bw_seq ?_
         refine bR ?_
         refine sM rfl rfl rfl rfl rfl ?_
         obtain ⟨x24, hx24, rfl⟩ | ⟨x23, hx23, h⟩ := xbind_some h
         ·refine ao_ncall [0] (.func rfl) rfl en_63 rfl (.cons (Wk.refl _) (.cons (Wk.refl _) .nil)) rfl (.cons rfl (.box (.cons (.same (ids_old (ids_slM (fun _ => rfl) (((S_wire_reader.mk a0.f_b (IntKind.i64.wrap (a0.f_at + 1)) (IntKind.i64.wrap (a0.f_n + 1)) a0.f_making)).f_b)))) (.cons (.same rfl) (.cons (.same rfl) (.cons (.same rfl) .nil))))) .nil) (.cons (.rf rfl) (.cons (.same rfl) .nil)) (s_wire_reader_take (S_wire_reader.mk a0.f_b (IntKind.i64.wrap (a0.f_at + 1)) (IntKind.i64.wrap (a0.f_n + 1)) a0.f_making) 8 (.pan x24) hx24) (.same rfl) (.cons (.box (.cons (.same (ids_old (ids_slM (fun _ => rfl) ((x24.2).f_b)))) (.cons (.same rfl) (.cons (.same rfl) (.cons (.same rfl) .nil))))) .nil) rfl ?_
          repeat (first | refine seqB_pan ?_ | refine blockK_pan ?_ | refine jumpK_pan ?_)
          exact endK_pan (endR (y := (PV.iface 112 (of_wire_fault x24.1))) 1 (Wk.refl _) rfl rfl (.same rfl) (.cons (.box (.cons (.same (ids_old (ids_slM (fun _ => rfl) (((x24.2)).f_b)))) (.cons (.same rfl) (.cons (.same rfl) (.cons (.same rfl) .nil))))) .nil) (xq_pan rfl rfl))
         refine sS rfl rfl rfl (op1_mcall [0] (.func rfl) en_63 rfl (.cons (Wk.refl _) (.cons (Wk.refl _) .nil)) rfl (.cons rfl (.box (.cons (.same (ids_old (ids_slM (fun _ => rfl) (((S_wire_reader.mk a0.f_b (IntKind.i64.wrap (a0.f_at + 1)) (IntKind.i64.wrap (a0.f_n + 1)) a0.f_making)).f_b)))) (.cons (.same rfl) (.cons (.same rfl) (.cons (.same rfl) .nil))))) .nil) (.cons (.rf rfl) (.cons (.same rfl) .nil)) (s_wire_reader_take (S_wire_reader.mk a0.f_b (IntKind.i64.wrap (a0.f_at + 1)) (IntKind.i64.wrap (a0.f_n + 1)) a0.f_making) 8 (.ret x23) hx23) (.same (ids_old (ids_slM (fun _ => rfl) x23.1))) (.cons (.box (.cons (.same (ids_old (ids_slM (fun _ => rfl) ((x23.2).f_b)))) (.cons (.same rfl) (.cons (.same rfl) (.cons (.same rfl) .nil))))) .nil) rfl) ?_
         refine sS rfl rfl rfl (op1_oldS (op1_lenM Try.underlying23 rfl rfl) Sc.v) ?_
         refine sM rfl rfl rfl rfl rfl (ao_nil ?_)
         change BW _ _ _ _ _
         refine bw_block ?_
         change BW _ _ _ _ _
         unfold wire_reader_value_l1 at h
         refine bw_loop (σ := (Int × Nat)) (fun i => [(0, (PV.rf 0 0)), (9, (PV.v (.int .u64 i.1))), (102, (PV.old (PV.sl none 5 1 (List.map ofB x23.1)))), (103, (I64 ((((x23.1).length : Nat) : Int)))), (104, (I64 (((i.2 : Nat) : Int))))]) (fun i => [.box 110 [(PV.old (PV.sl none 5 1 (List.map ofB (x23.2).f_b))), (I64 ((x23.2).f_at)), (I64 ((x23.2).f_n)), (BO ((x23.2).f_making))]]) (0, 0) h ?_ ?_ ?_
         ·intro i; exact ⟨Nat.le_of_ble_eq_true rfl, ⟨(il_rf rfl), ⟨(il_nil rfl), ⟨(il_nil (ids_old (ids_slM (fun _ => rfl) _))), ⟨(il_nil rfl), ⟨(il_nil rfl), trivial⟩⟩⟩⟩⟩, ⟨⟨(il_nil (ids_old (ids_slM (fun _ => rfl) _))), ⟨(il_nil rfl), ⟨(il_nil rfl), ⟨(il_nil rfl), trivial⟩⟩⟩⟩, trivial⟩⟩
         ·exact ⟨(.cons .same .nil), (sC rfl (sC rfl (sC rfl (sC rfl (sC rfl sub_nil)))))⟩
         ·rintro g1_f ⟨s25, s26⟩ h; replace h : wire_reader_value_l1b x23 (fun y0 y1 => g1_f (y0, y1)) s25 s26 = some r := h; unfold wire_reader_value_l1b at h
          change BW _ _ _ ⟨[(0, (PV.rf 0 0)), (9, (PV.v (.int .u64 s25))), (102, (PV.old (PV.sl none 5 1 (List.map ofB x23.1)))), (103, (I64 ((((x23.1).length : Nat) : Int)))), (104, (I64 (((s26 : Nat) : Int))))], [.box 110 [(PV.old (PV.sl none 5 1 (List.map ofB (x23.2).f_b))), (I64 ((x23.2).f_at)), (I64 ((x23.2).f_n)), (BO ((x23.2).f_making))]], _⟩ _
          refine bR ?_
          refine sS rfl rfl rfl ((op1_cmp rfl rfl rfl rfl).cast (y := (BO ((decide (((s26 : Nat) : Int) < (((x23.1).length : Nat) : Int)))))) rfl rfl) (ao_nil ?_)
          change BW _ _ _ _ _
          refine bw_seq ?_
          refine bw_lenO (t := 102) rfl fun hb28 => ?_
          try rw [List.length_map] at hb28
          refine bw_cond rfl ?_ ?_
          ·intro hc27; replace h := ocond_t hc27 h
           have hc27_ := of_decide_eq_true hc27
           refine bw_skip ?_
           change BW _ _ _ _ _
           refine bw_seq ?_
           refine bw_block ?_
           change BW _ _ _ _ _
           refine bR ?_
           obtain ⟨x29, hx29, h⟩ := obind h
           refine sS rfl rfl rfl (op1_old (op1_idxN (i := s26) Try.underlying23 inf_5 rfl rfl rfl hx29 rfl)) ?_
           refine sS rfl rfl rfl (op1_oldS (op1_ldP (y := (ofB x29)) Try.underlying5 rfl rfl rfl rfl) Sc.v) ?_
           refine sA rfl rfl rfl rfl rfl (ao_nil ?_)
           change BW _ _ _ _ _
           refine bw_region ?_
           refine sM rfl rfl rfl rfl rfl ?_
           refine sS rfl rfl rfl ((op1_shl rfl rfl rfl (by decide)).cast (y := (PV.v (.int .u64 (shlK .u64 s25 8)))) rfl rfl) ?_
           refine sM rfl rfl rfl rfl rfl ?_
           refine sS rfl rfl rfl ((op1_convI Try.underlying5 Try.underlying24 rfl rfl).cast (y := (PV.v (.int .u64 ((x29).toNat : Int)))) (by rw [wrapB_u64]) rfl) ?_
           refine sS rfl rfl rfl ((op1_orW rfl rfl rfl).cast (y := (PV.v (.int .u64 (orK .u64 (shlK .u64 s25 8) ((x29).toNat : Int))))) rfl rfl) ?_
           refine sA rfl rfl rfl rfl rfl (ao_nil ?_)
           change BW _ _ _ _ _
           refine bw_region ?_
           refine sS rfl rfl rfl (op1_incN (k := s26) (c := 1) rfl rfl rfl (by omega)) ?_
           refine sM rfl rfl rfl rfl rfl (ao_nil ?_)
           exact ⟨rfl, ((orK .u64 (shlK .u64 s25 8) ((x29).toNat : Int)), (s26 + 1)), h, ⟨(.cons .same .nil), (sC rfl (sC rfl (sC rfl (sC rfl (sC rfl sub_nil)))))⟩⟩
          ·intro hc27; replace h := ocond_f hc27 h
           refine bw_exit ?_
           change BW _ _ _ _ _
           refine bR ?_
           refine sM rfl rfl rfl rfl rfl ?_
           refine sS rfl rfl rfl (op1_f64from rfl rfl) ?_
           refine sS rfl rfl rfl ((op1_mkI Try.underlying22 rfl rfl rfl).wk ((Wk.iface (Wk.refl _)).trans (Wk.eq (mk_float _).symm))) ?_
           refine sA rfl rfl rfl rfl rfl (ao_nil ?_)
           change BW _ _ _ _ _
           refine bw_ret ?_
           change ∃ xs, _ = some xs ∧ EndOk _ _ _ _
           obtain rfl := Option.some.inj h
           exact ⟨_, rfl, endR (y := (ofV (V.float (s25).toNat))) 1 (Wk.refl _) rfl rfl (.same (ids_V (V.float (s25).toNat))) (.cons (.box (.cons (.same (ids_old (ids_slM (fun _ => rfl) (((x23.2)).f_b)))) (.cons (.same rfl) (.cons (.same rfl) (.cons (.same rfl) .nil))))) .nil) (xq_ret rfl rfl)⟩
        ·intro hc22; replace h := ocond_f hc22 h
         refine bR ?_
         refine sS rfl rfl rfl ((op1_cmp rfl rfl rfl rfl).cast (y := (BO ((((x8).toNat : Int) == 5)))) rfl rfl) ?_
         refine sA rfl rfl rfl rfl rfl (ao_nil ?_)
         change BW _ _ _ _ _
         refine bw_cond rfl ?_ ?_
         ·intro hc30; replace h := ocond_t hc30 h
          refine bR ?_
          refine sM rfl rfl rfl rfl rfl ?_
          refine sM rfl rfl rfl rfl rfl ?_
          refine sM rfl rfl rfl rfl rfl ?_
          obtain ⟨x32, hx32, rfl⟩ | ⟨x31, hx31, h⟩ := xbind_some h
          ·refine ao_ncall [0] (.func rfl) rfl en_65 rfl (.cons (Wk.refl _) (.cons (Wk.refl _) (.cons (Wk.refl _) .nil))) rfl (.cons rfl (.box (.cons (.same (ids_old (ids_slM (fun _ => rfl) (((S_wire_reader.mk a0.f_b (IntKind.i64.wrap (a0.f_at + 1)) (IntKind.i64.wrap (a0.f_n + 1)) a0.f_making)).f_b)))) (.cons (.same rfl) (.cons (.same rfl) (.cons (.same rfl) .nil))))) .nil) (.cons (.rf rfl) (.cons (.same rfl) (.cons (.same rfl) .nil))) (s_wire_reader_most (S_wire_reader.mk a0.f_b (IntKind.i64.wrap (a0.f_at + 1)) (IntKind.i64.wrap (a0.f_n + 1)) a0.f_making) a0.f_at 65536 (.pan x32) hx32) (.same rfl) (.cons (.box (.cons (.same (ids_old (ids_slM (fun _ => rfl) ((x32.2).f_b)))) (.cons (.same rfl) (.cons (.same rfl) (.cons (.same rfl) .nil))))) .nil) rfl ?_
           repeat (first | refine seqB_pan ?_ | refine blockK_pan ?_ | refine jumpK_pan ?_)
           exact endK_pan (endR (y := (PV.iface 112 (of_wire_fault x32.1))) 1 (Wk.refl _) rfl rfl (.same rfl) (.cons (.box (.cons (.same (ids_old (ids_slM (fun _ => rfl) (((x32.2)).f_b)))) (.cons (.same rfl) (.cons (.same rfl) (.cons (.same rfl) .nil))))) .nil) (xq_pan rfl rfl))
          refine sS rfl rfl rfl (op1_mcall [0] (.func rfl) en_65 rfl (.cons (Wk.refl _) (.cons (Wk.refl _) (.cons (Wk.refl _) .nil))) rfl (.cons rfl (.box (.cons (.same (ids_old (ids_slM (fun _ => rfl) (((S_wire_reader.mk a0.f_b (IntKind.i64.wrap (a0.f_at + 1)) (IntKind.i64.wrap (a0.f_n + 1)) a0.f_making)).f_b)))) (.cons (.same rfl) (.cons (.same rfl) (.cons (.same rfl) .nil))))) .nil) (.cons (.rf rfl) (.cons (.same rfl) (.cons (.same rfl) .nil))) (s_wire_reader_most (S_wire_reader.mk a0.f_b (IntKind.i64.wrap (a0.f_at + 1)) (IntKind.i64.wrap (a0.f_n + 1)) a0.f_making) a0.f_at 65536 (.ret x31) hx31) (.same rfl) (.cons (.box (.cons (.same (ids_old (ids_slM (fun _ => rfl) ((x31.2).f_b)))) (.cons (.same rfl) (.cons (.same rfl) (.cons (.same rfl) .nil))))) .nil) rfl) ?_
          obtain ⟨x34, hx34, rfl⟩ | ⟨x33, hx33, h⟩ := xbind_some h
          ·refine ao_ncall [0] (.func rfl) rfl en_63 rfl (.cons (Wk.refl _) (.cons (Wk.refl _) .nil)) rfl (.cons rfl (.box (.cons (.same (ids_old (ids_slM (fun _ => rfl) (((x31.2)).f_b)))) (.cons (.same rfl) (.cons (.same rfl) (.cons (.same rfl) .nil))))) .nil) (.cons (.rf rfl) (.cons (.same rfl) .nil)) (s_wire_reader_take (x31.2) x31.1 (.pan x34) hx34) (.same rfl) (.cons (.box (.cons (.same (ids_old (ids_slM (fun _ => rfl) ((x34.2).f_b)))) (.cons (.same rfl) (.cons (.same rfl) (.cons (.same rfl) .nil))))) .nil) rfl ?_
           repeat (first | refine seqB_pan ?_ | refine blockK_pan ?_ | refine jumpK_pan ?_)
           exact endK_pan (endR (y := (PV.iface 112 (of_wire_fault x34.1))) 1 (Wk.refl _) rfl rfl (.same rfl) (.cons (.box (.cons (.same (ids_old (ids_slM (fun _ => rfl) (((x34.2)).f_b)))) (.cons (.same rfl) (.cons (.same rfl) (.cons (.same rfl) .nil))))) .nil) (xq_pan rfl rfl))
          refine sS rfl rfl rfl (op1_mcall [0] (.func rfl) en_63 rfl (.cons (Wk.refl _) (.cons (Wk.refl _) .nil)) rfl (.cons rfl (.box (.cons (.same (ids_old (ids_slM (fun _ => rfl) (((x31.2)).f_b)))) (.cons (.same rfl) (.cons (.same rfl) (.cons (.same rfl) .nil))))) .nil) (.cons (.rf rfl) (.cons (.same rfl) .nil)) (s_wire_reader_take (x31.2) x31.1 (.ret x33) hx33) (.same (ids_old (ids_slM (fun _ => rfl) x33.1))) (.cons (.box (.cons (.same (ids_old (ids_slM (fun _ => rfl) ((x33.2).f_b)))) (.cons (.same rfl) (.cons (.same rfl) (.cons (.same rfl) .nil))))) .nil) rfl) ?_
          refine sS rfl rfl rfl (op1_oldS (op1_toT Try.underlying23 Try.underlying9 Try.underlying5 rfl rfl) Sc.v) ?_
          refine sS rfl rfl rfl ((op1_mkI Try.underlying9 rfl rfl rfl).wk ((Wk.iface (Wk.refl _)).trans (Wk.eq (mk_text _).symm))) ?_
          refine sA rfl rfl rfl rfl rfl (ao_nil ?_)
          change BW _ _ _ _ _
          refine bw_ret ?_
          change ∃ xs, _ = some xs ∧ EndOk _ _ _ _
          obtain rfl := Option.some.inj h
          exact ⟨_, rfl, endR (y := (ofV (V.text x33.1))) 1 (Wk.refl _) rfl rfl (.same (ids_V (V.text x33.1))) (.cons (.box (.cons (.same (ids_old (ids_slM (fun _ => rfl) (((x33.2)).f_b)))) (.cons (.same rfl) (.cons (.same rfl) (.cons (.same rfl) .nil))))) .nil) (xq_ret rfl rfl)⟩
         ·intro hc30; replace h := ocond_f hc30 h
          refine bR ?_
          refine sS rfl rfl rfl ((op1_cmp rfl rfl rfl rfl).cast (y := (BO ((((x8).toNat : Int) == 6)))) rfl rfl) ?_
          refine sA rfl rfl rfl rfl rfl (ao_nil ?_)
          change BW _ _ _ _ _
          refine bw_cond rfl ?_ ?_
          ·intro hc35; replace h := ocond_t hc35 h
           refine bR ?_
           refine sS rfl rfl rfl ((op1_bslice (xs := []) Try.underlying23 inf_5 rfl rfl rfl rfl rfl rfl ⟨Nat.le_of_ble_eq_true rfl, Nat.le_of_ble_eq_true rfl⟩ rfl).cast (y := (PV.sl (some 1) 5 1 (List.map ofB ([] : Str)))) rfl rfl) ?_
           refine sM rfl rfl rfl rfl rfl ?_
           refine sM rfl rfl rfl rfl rfl ?_
           refine sM rfl rfl rfl rfl rfl ?_
           obtain ⟨x37, hx37, rfl⟩ | ⟨x36, hx36, h⟩ := xbind_some h
           ·refine ao_ncall [0] (.func rfl) rfl en_65 rfl (.cons (Wk.refl _) (.cons (Wk.refl _) (.cons (Wk.refl _) .nil))) rfl (.cons rfl (.box (.cons (.same (ids_old (ids_slM (fun _ => rfl) (((S_wire_reader.mk a0.f_b (IntKind.i64.wrap (a0.f_at + 1)) (IntKind.i64.wrap (a0.f_n + 1)) a0.f_making)).f_b)))) (.cons (.same rfl) (.cons (.same rfl) (.cons (.same rfl) .nil))))) .nil) (.cons (.rf rfl) (.cons (.same rfl) (.cons (.same rfl) .nil))) (s_wire_reader_most (S_wire_reader.mk a0.f_b (IntKind.i64.wrap (a0.f_at + 1)) (IntKind.i64.wrap (a0.f_n + 1)) a0.f_making) a0.f_at 65536 (.pan x37) hx37) (.same rfl) (.cons (.box (.cons (.same (ids_old (ids_slM (fun _ => rfl) ((x37.2).f_b)))) (.cons (.same rfl) (.cons (.same rfl) (.cons (.same rfl) .nil))))) .nil) rfl ?_
            repeat (first | refine seqB_pan ?_ | refine blockK_pan ?_ | refine jumpK_pan ?_)
            exact endK_pan (endR (y := (PV.iface 112 (of_wire_fault x37.1))) 1 (Wk.refl _) rfl rfl (.same rfl) (.cons (.box (.cons (.same (ids_old (ids_slM (fun _ => rfl) (((x37.2)).f_b)))) (.cons (.same rfl) (.cons (.same rfl) (.cons (.same rfl) .nil))))) .nil) (xq_pan rfl rfl))
           refine sS rfl rfl rfl (op1_mcall [0] (.func rfl) en_65 rfl (.cons (Wk.refl _) (.cons (Wk.refl _) (.cons (Wk.refl _) .nil))) rfl (.cons rfl (.box (.cons (.same (ids_old (ids_slM (fun _ => rfl) (((S_wire_reader.mk a0.f_b (IntKind.i64.wrap (a0.f_at + 1)) (IntKind.i64.wrap (a0.f_n + 1)) a0.f_making)).f_b)))) (.cons (.same rfl) (.cons (.same rfl) (.cons (.same rfl) .nil))))) .nil) (.cons (.rf rfl) (.cons (.same rfl) (.cons (.same rfl) .nil))) (s_wire_reader_most (S_wire_reader.mk a0.f_b (IntKind.i64.wrap (a0.f_at + 1)) (IntKind.i64.wrap (a0.f_n + 1)) a0.f_making) a0.f_at 65536 (.ret x36) hx36) (.same rfl) (.cons (.box (.cons (.same (ids_old (ids_slM (fun _ => rfl) ((x36.2).f_b)))) (.cons (.same rfl) (.cons (.same rfl) (.cons (.same rfl) .nil))))) .nil) rfl) ?_
           obtain ⟨x39, hx39, rfl⟩ | ⟨x38, hx38, h⟩ := xbind_some h
           ·refine ao_ncall [0] (.func rfl) rfl en_63 rfl (.cons (Wk.refl _) (.cons (Wk.refl _) .nil)) rfl (.cons rfl (.box (.cons (.same (ids_old (ids_slM (fun _ => rfl) (((x36.2)).f_b)))) (.cons (.same rfl) (.cons (.same rfl) (.cons (.same rfl) .nil))))) .nil) (.cons (.rf rfl) (.cons (.same rfl) .nil)) (s_wire_reader_take (x36.2) x36.1 (.pan x39) hx39) (.same rfl) (.cons (.box (.cons (.same (ids_old (ids_slM (fun _ => rfl) ((x39.2).f_b)))) (.cons (.same rfl) (.cons (.same rfl) (.cons (.same rfl) .nil))))) .nil) rfl ?_
            repeat (first | refine seqB_pan ?_ | refine blockK_pan ?_ | refine jumpK_pan ?_)
            exact endK_pan (endR (y := (PV.iface 112 (of_wire_fault x39.1))) 1 (Wk.refl _) rfl rfl (.same rfl) (.cons (.box (.cons (.same (ids_old (ids_slM (fun _ => rfl) (((x39.2)).f_b)))) (.cons (.same rfl) (.cons (.same rfl) (.cons (.same rfl) .nil))))) .nil) (xq_pan rfl rfl))
           refine sS rfl rfl rfl (op1_mcall [0] (.func rfl) en_63 rfl (.cons (Wk.refl _) (.cons (Wk.refl _) .nil)) rfl (.cons rfl (.box (.cons (.same (ids_old (ids_slM (fun _ => rfl) (((x36.2)).f_b)))) (.cons (.same rfl) (.cons (.same rfl) (.cons (.same rfl) .nil))))) .nil) (.cons (.rf rfl) (.cons (.same rfl) .nil)) (s_wire_reader_take (x36.2) x36.1 (.ret x38) hx38) (.same (ids_old (ids_slM (fun _ => rfl) x38.1))) (.cons (.box (.cons (.same (ids_old (ids_slM (fun _ => rfl) ((x38.2).f_b)))) (.cons (.same rfl) (.cons (.same rfl) (.cons (.same rfl) .nil))))) .nil) rfl) ?_
           obtain ⟨x40, hx40, h⟩ := obind h
           refine sS rfl rfl rfl (op1_appMO Try.underlying23 inf_5 rfl Try.underlying23 rfl rfl rfl rfl (fun _ => rfl) (fun _ => rfl) hx40 rfl (fun _ => (sc_cons Sc.v sc_nil))) ?_
           refine sS rfl rfl rfl ((op1_mkI Try.underlying23 rfl rfl rfl).wk ((Wk.iface Wk.tok).trans (Wk.eq (mk_bytes _).symm))) ?_
           refine sA rfl rfl rfl rfl rfl (ao_nil ?_)
           change BW _ _ _ _ _
           refine bw_ret ?_
           change ∃ xs, _ = some xs ∧ EndOk _ _ _ _
           obtain rfl := Option.some.inj h
           exact ⟨_, rfl, endR (y := (ofV (V.bytes x40))) 1 (Wk.refl _) rfl rfl (.same (ids_V (V.bytes x40))) (.cons (.box (.cons (.same (ids_old (ids_slM (fun _ => rfl) (((x38.2)).f_b)))) (.cons (.same rfl) (.cons (.same rfl) (.cons (.same rfl) .nil))))) .nil) (xq_ret rfl rfl)⟩
          ·intro hc35; replace h := ocond_f hc35 h
           refine bR ?_
           refine sS rfl rfl rfl ((op1_cmp rfl rfl rfl rfl).cast (y := (BO ((((x8).toNat : Int) == 7)))) rfl rfl) ?_
           refine sA rfl rfl rfl rfl rfl (ao_nil ?_)
           change BW _ _ _ _ _
           refine bw_cond rfl ?_ ?_
           ·intro hc41; replace h := ocond_t hc41 h
            refine bR ?_
            refine sM rfl rfl rfl rfl rfl ?_
            obtain ⟨x43, hx43, rfl⟩ | ⟨x42, hx42, h⟩ := xbind_some h
            ·refine ao_ncall [0] (.func rfl) rfl en_62 rfl (.cons (Wk.refl _) .nil) rfl (.cons rfl (.box (.cons (.same (ids_old (ids_slM (fun _ => rfl) (((S_wire_reader.mk a0.f_b (IntKind.i64.wrap (a0.f_at + 1)) (IntKind.i64.wrap (a0.f_n + 1)) a0.f_making)).f_b)))) (.cons (.same rfl) (.cons (.same rfl) (.cons (.same rfl) .nil))))) .nil) (.cons (.rf rfl) .nil) (s_wire_reader_number (S_wire_reader.mk a0.f_b (IntKind.i64.wrap (a0.f_at + 1)) (IntKind.i64.wrap (a0.f_n + 1)) a0.f_making) (.pan x43) hx43) (.same rfl) (.cons (.box (.cons (.same (ids_old (ids_slM (fun _ => rfl) ((x43.2).f_b)))) (.cons (.same rfl) (.cons (.same rfl) (.cons (.same rfl) .nil))))) .nil) rfl ?_
             repeat (first | refine seqB_pan ?_ | refine blockK_pan ?_ | refine jumpK_pan ?_)
             exact endK_pan (endR (y := (PV.iface 112 (of_wire_fault x43.1))) 1 (Wk.refl _) rfl rfl (.same rfl) (.cons (.box (.cons (.same (ids_old (ids_slM (fun _ => rfl) (((x43.2)).f_b)))) (.cons (.same rfl) (.cons (.same rfl) (.cons (.same rfl) .nil))))) .nil) (xq_pan rfl rfl))
            refine sS rfl rfl rfl (op1_mcall [0] (.func rfl) en_62 rfl (.cons (Wk.refl _) .nil) rfl (.cons rfl (.box (.cons (.same (ids_old (ids_slM (fun _ => rfl) (((S_wire_reader.mk a0.f_b (IntKind.i64.wrap (a0.f_at + 1)) (IntKind.i64.wrap (a0.f_n + 1)) a0.f_making)).f_b)))) (.cons (.same rfl) (.cons (.same rfl) (.cons (.same rfl) .nil))))) .nil) (.cons (.rf rfl) .nil) (s_wire_reader_number (S_wire_reader.mk a0.f_b (IntKind.i64.wrap (a0.f_at + 1)) (IntKind.i64.wrap (a0.f_n + 1)) a0.f_making) (.ret x42) hx42) (.same rfl) (.cons (.box (.cons (.same (ids_old (ids_slM (fun _ => rfl) ((x42.2).f_b)))) (.cons (.same rfl) (.cons (.same rfl) (.cons (.same rfl) .nil))))) .nil) rfl) ?_
            refine sS rfl rfl rfl ((op1_mkI Try.underlying25 rfl rfl rfl).wk ((Wk.iface (Wk.refl _)).trans (Wk.eq (mk_ref _).symm))) ?_
            refine sA rfl rfl rfl rfl rfl (ao_nil ?_)
            change BW _ _ _ _ _
            refine bw_ret ?_
            change ∃ xs, _ = some xs ∧ EndOk _ _ _ _
            obtain rfl := Option.some.inj h
            exact ⟨_, rfl, endR (y := (ofV (V.ref x42.1))) 1 (Wk.refl _) rfl rfl (.same (ids_V (V.ref x42.1))) (.cons (.box (.cons (.same (ids_old (ids_slM (fun _ => rfl) (((x42.2)).f_b)))) (.cons (.same rfl) (.cons (.same rfl) (.cons (.same rfl) .nil))))) .nil) (xq_ret rfl rfl)⟩
           ·intro hc41; replace h := ocond_f hc41 h
            refine bR ?_
            refine sS rfl rfl rfl ((op1_cmp rfl rfl rfl rfl).cast (y := (BO ((((x8).toNat : Int) == 8)))) rfl rfl) ?_
            refine sA rfl rfl rfl rfl rfl (ao_nil ?_)
            change BW _ _ _ _ _
            refine bw_cond rfl ?_ ?_
            ·intro hc44; replace h := ocond_t hc44 h
             refine bR ?_
             refine sM rfl rfl rfl rfl rfl ?_
             refine sM rfl rfl rfl rfl rfl ?_
             refine sM rfl rfl rfl rfl rfl ?_
             obtain ⟨x46, hx46, rfl⟩ | ⟨x45, hx45, h⟩ := xbind_some h
             ·refine ao_ncall [0] (.func rfl) rfl en_66 rfl (.cons (Wk.refl _) (.cons (Wk.refl _) (.cons (Wk.refl _) .nil))) rfl (.cons rfl (.box (.cons (.same (ids_old (ids_slM (fun _ => rfl) (((S_wire_reader.mk a0.f_b (IntKind.i64.wrap (a0.f_at + 1)) (IntKind.i64.wrap (a0.f_n + 1)) a0.f_making)).f_b)))) (.cons (.same rfl) (.cons (.same rfl) (.cons (.same rfl) .nil))))) .nil) (.cons (.rf rfl) (.cons (.same rfl) (.cons (.same rfl) .nil))) (c_wire_reader_list (S_wire_reader.mk a0.f_b (IntKind.i64.wrap (a0.f_at + 1)) (IntKind.i64.wrap (a0.f_n + 1)) a0.f_making) a0.f_at a1 (.pan x46) hx46) (.same rfl) (.cons (.box (.cons (.same (ids_old (ids_slM (fun _ => rfl) ((x46.2).f_b)))) (.cons (.same rfl) (.cons (.same rfl) (.cons (.same rfl) .nil))))) .nil) rfl ?_
              repeat (first | refine seqB_pan ?_ | refine blockK_pan ?_ | refine jumpK_pan ?_)
              exact endK_pan (endR (y := (PV.iface 112 (of_wire_fault x46.1))) 1 (Wk.refl _) rfl rfl (.same rfl) (.cons (.box (.cons (.same (ids_old (ids_slM (fun _ => rfl) (((x46.2)).f_b)))) (.cons (.same rfl) (.cons (.same rfl) (.cons (.same rfl) .nil))))) .nil) (xq_pan rfl rfl))
             refine sS rfl rfl rfl (op1_mcall [0] (.func rfl) en_66 rfl (.cons (Wk.refl _) (.cons (Wk.refl _) (.cons (Wk.refl _) .nil))) rfl (.cons rfl (.box (.cons (.same (ids_old (ids_slM (fun _ => rfl) (((S_wire_reader.mk a0.f_b (IntKind.i64.wrap (a0.f_at + 1)) (IntKind.i64.wrap (a0.f_n + 1)) a0.f_making)).f_b)))) (.cons (.same rfl) (.cons (.same rfl) (.cons (.same rfl) .nil))))) .nil) (.cons (.rf rfl) (.cons (.same rfl) (.cons (.same rfl) .nil))) (c_wire_reader_list (S_wire_reader.mk a0.f_b (IntKind.i64.wrap (a0.f_at + 1)) (IntKind.i64.wrap (a0.f_n + 1)) a0.f_making) a0.f_at a1 (.ret x45) hx45) (.same (ids_V x45.1)) (.cons (.box (.cons (.same (ids_old (ids_slM (fun _ => rfl) ((x45.2).f_b)))) (.cons (.same rfl) (.cons (.same rfl) (.cons (.same rfl) .nil))))) .nil) rfl) ?_
             refine sA rfl rfl rfl rfl rfl (ao_nil ?_)
             change BW _ _ _ _ _
             refine bw_ret ?_
             change ∃ xs, _ = some xs ∧ EndOk _ _ _ _
             obtain rfl := Option.some.inj h
             exact ⟨_, rfl, endR (y := (ofV x45.1)) 1 (Wk.refl _) rfl rfl (.same (ids_V x45.1)) (.cons (.box (.cons (.same (ids_old (ids_slM (fun _ => rfl) (((x45.2)).f_b)))) (.cons (.same rfl) (.cons (.same rfl) (.cons (.same rfl) .nil))))) .nil) (xq_ret rfl rfl)⟩
            ·intro hc44; replace h := ocond_f hc44 h
             refine bR ?_
             refine sS rfl rfl rfl ((op1_cmp rfl rfl rfl rfl).cast (y := (BO ((((x8).toNat : Int) == 9)))) rfl rfl) ?_
             refine sA rfl rfl rfl rfl rfl (ao_nil ?_)
             change BW _ _ _ _ _
             refine bw_cond rfl ?_ ?_
             ·intro hc47; replace h := ocond_t hc47 h
              refine bR ?_
              refine sM rfl rfl rfl rfl rfl ?_
              refine sM rfl rfl rfl rfl rfl ?_
              refine sM rfl rfl rfl rfl rfl ?_
              obtain ⟨x49, hx49, rfl⟩ | ⟨x48, hx48, h⟩ := xbind_some h
              ·refine ao_ncall [0] (.func rfl) rfl en_67 rfl (.cons (Wk.refl _) (.cons (Wk.refl _) (.cons (Wk.refl _) .nil))) rfl (.cons rfl (.box (.cons (.same (ids_old (ids_slM (fun _ => rfl) (((S_wire_reader.mk a0.f_b (IntKind.i64.wrap (a0.f_at + 1)) (IntKind.i64.wrap (a0.f_n + 1)) a0.f_making)).f_b)))) (.cons (.same rfl) (.cons (.same rfl) (.cons (.same rfl) .nil))))) .nil) (.cons (.rf rfl) (.cons (.same rfl) (.cons (.same rfl) .nil))) (c_wire_reader_fields (S_wire_reader.mk a0.f_b (IntKind.i64.wrap (a0.f_at + 1)) (IntKind.i64.wrap (a0.f_n + 1)) a0.f_making) a0.f_at a1 (.pan x49) hx49) (.same rfl) (.cons (.box (.cons (.same (ids_old (ids_slM (fun _ => rfl) ((x49.2).f_b)))) (.cons (.same rfl) (.cons (.same rfl) (.cons (.same rfl) .nil))))) .nil) rfl ?_
               repeat (first | refine seqB_pan ?_ | refine blockK_pan ?_ | refine jumpK_pan ?_)
               exact endK_pan (endR (y := (PV.iface 112 (of_wire_fault x49.1))) 1 (Wk.refl _) rfl rfl (.same rfl) (.cons (.box (.cons (.same (ids_old (ids_slM (fun _ => rfl) (((x49.2)).f_b)))) (.cons (.same rfl) (.cons (.same rfl) (.cons (.same rfl) .nil))))) .nil) (xq_pan rfl rfl))
              refine sS rfl rfl rfl (op1_mcall [0] (.func rfl) en_67 rfl (.cons (Wk.refl _) (.cons (Wk.refl _) (.cons (Wk.refl _) .nil))) rfl (.cons rfl (.box (.cons (.same (ids_old (ids_slM (fun _ => rfl) (((S_wire_reader.mk a0.f_b (IntKind.i64.wrap (a0.f_at + 1)) (IntKind.i64.wrap (a0.f_n + 1)) a0.f_making)).f_b)))) (.cons (.same rfl) (.cons (.same rfl) (.cons (.same rfl) .nil))))) .nil) (.cons (.rf rfl) (.cons (.same rfl) (.cons (.same rfl) .nil))) (c_wire_reader_fields (S_wire_reader.mk a0.f_b (IntKind.i64.wrap (a0.f_at + 1)) (IntKind.i64.wrap (a0.f_n + 1)) a0.f_making) a0.f_at a1 (.ret x48) hx48) (.same (ids_slM ids_Fld x48.1)) (.cons (.box (.cons (.same (ids_old (ids_slM (fun _ => rfl) ((x48.2).f_b)))) (.cons (.same rfl) (.cons (.same rfl) (.cons (.same rfl) .nil))))) .nil) rfl) ?_
              refine sS rfl rfl rfl ((op1_mkI Try.underlying63 rfl rfl rfl).wk ((Wk.iface (Wk.refl _)).trans (Wk.eq (mk_dict _).symm))) ?_
              refine sA rfl rfl rfl rfl rfl (ao_nil ?_)
              change BW _ _ _ _ _
              refine bw_ret ?_
              change ∃ xs, _ = some xs ∧ EndOk _ _ _ _
              obtain rfl := Option.some.inj h
              exact ⟨_, rfl, endR (y := (ofV (V.dict x48.1))) 1 (Wk.refl _) rfl rfl (.same (ids_V (V.dict x48.1))) (.cons (.box (.cons (.same (ids_old (ids_slM (fun _ => rfl) (((x48.2)).f_b)))) (.cons (.same rfl) (.cons (.same rfl) (.cons (.same rfl) .nil))))) .nil) (xq_ret rfl rfl)⟩
             ·intro hc47; replace h := ocond_f hc47 h
              refine bR ?_
              refine sS rfl rfl rfl ((op1_cmp rfl rfl rfl rfl).cast (y := (BO ((((x8).toNat : Int) == 10)))) rfl rfl) ?_
              refine sA rfl rfl rfl rfl rfl (ao_nil ?_)
              change BW _ _ _ _ _
              refine bw_cond rfl ?_ ?_
              ·intro hc50; replace h := ocond_t hc50 h
               refine bR ?_
               refine sM rfl rfl rfl rfl rfl ?_
               refine sM rfl rfl rfl rfl rfl ?_
               refine sM rfl rfl rfl rfl rfl ?_
               obtain ⟨x52, hx52, rfl⟩ | ⟨x51, hx51, h⟩ := xbind_some h
               ·refine ao_ncall [0] (.func rfl) rfl en_68 rfl (.cons (Wk.refl _) (.cons (Wk.refl _) (.cons (Wk.refl _) .nil))) rfl (.cons rfl (.box (.cons (.same (ids_old (ids_slM (fun _ => rfl) (((S_wire_reader.mk a0.f_b (IntKind.i64.wrap (a0.f_at + 1)) (IntKind.i64.wrap (a0.f_n + 1)) a0.f_making)).f_b)))) (.cons (.same rfl) (.cons (.same rfl) (.cons (.same rfl) .nil))))) .nil) (.cons (.rf rfl) (.cons (.same rfl) (.cons (.same rfl) .nil))) (c_wire_reader_record (S_wire_reader.mk a0.f_b (IntKind.i64.wrap (a0.f_at + 1)) (IntKind.i64.wrap (a0.f_n + 1)) a0.f_making) a0.f_at a1 (.pan x52) hx52) (.same rfl) (.cons (.box (.cons (.same (ids_old (ids_slM (fun _ => rfl) ((x52.2).f_b)))) (.cons (.same rfl) (.cons (.same rfl) (.cons (.same rfl) .nil))))) .nil) rfl ?_
                repeat (first | refine seqB_pan ?_ | refine blockK_pan ?_ | refine jumpK_pan ?_)
                exact endK_pan (endR (y := (PV.iface 112 (of_wire_fault x52.1))) 1 (Wk.refl _) rfl rfl (.same rfl) (.cons (.box (.cons (.same (ids_old (ids_slM (fun _ => rfl) (((x52.2)).f_b)))) (.cons (.same rfl) (.cons (.same rfl) (.cons (.same rfl) .nil))))) .nil) (xq_pan rfl rfl))
               refine sS rfl rfl rfl (op1_mcall [0] (.func rfl) en_68 rfl (.cons (Wk.refl _) (.cons (Wk.refl _) (.cons (Wk.refl _) .nil))) rfl (.cons rfl (.box (.cons (.same (ids_old (ids_slM (fun _ => rfl) (((S_wire_reader.mk a0.f_b (IntKind.i64.wrap (a0.f_at + 1)) (IntKind.i64.wrap (a0.f_n + 1)) a0.f_making)).f_b)))) (.cons (.same rfl) (.cons (.same rfl) (.cons (.same rfl) .nil))))) .nil) (.cons (.rf rfl) (.cons (.same rfl) (.cons (.same rfl) .nil))) (c_wire_reader_record (S_wire_reader.mk a0.f_b (IntKind.i64.wrap (a0.f_at + 1)) (IntKind.i64.wrap (a0.f_n + 1)) a0.f_making) a0.f_at a1 (.ret x51) hx51) (.same (ids_V x51.1)) (.cons (.box (.cons (.same (ids_old (ids_slM (fun _ => rfl) ((x51.2).f_b)))) (.cons (.same rfl) (.cons (.same rfl) (.cons (.same rfl) .nil))))) .nil) rfl) ?_
               refine sA rfl rfl rfl rfl rfl (ao_nil ?_)
               change BW _ _ _ _ _
               refine bw_ret ?_
               change ∃ xs, _ = some xs ∧ EndOk _ _ _ _
               obtain rfl := Option.some.inj h
               exact ⟨_, rfl, endR (y := (ofV x51.1)) 1 (Wk.refl _) rfl rfl (.same (ids_V x51.1)) (.cons (.box (.cons (.same (ids_old (ids_slM (fun _ => rfl) (((x51.2)).f_b)))) (.cons (.same rfl) (.cons (.same rfl) (.cons (.same rfl) .nil))))) .nil) (xq_ret rfl rfl)⟩
              ·intro hc50; replace h := ocond_f hc50 h
               refine bw_skip ?_
               change BW _ _ _ _ _
               refine bR ?_
               refine sA rfl rfl rfl rfl rfl (ao_nil ?_)
               change BW _ _ _ _ _
               refine bw_ret ?_
               change ∃ xs, _ = some xs ∧ EndOk _ _ _ _
               obtain rfl := Option.some.inj h
               exact ⟨_, rfl, endR (y := (ofV V.nil)) 1 (Wk.eq mk_nil.symm) rfl rfl (.same (ids_V V.nil)) (.cons (.box (.cons (.same (ids_old (ids_slM (fun _ => rfl) (((S_wire_reader.mk a0.f_b (IntKind.i64.wrap (a0.f_at + 1)) (IntKind.i64.wrap (a0.f_n + 1)) a0.f_making)).f_b)))) (.cons (.same rfl) (.cons (.same rfl) (.cons (.same rfl) .nil))))) .nil) (xq_ret rfl rfl)⟩
    ·refine bw_region ?_
     refine sM rfl rfl rfl rfl rfl ?_
     refine sS rfl rfl rfl ((op1_cmp rfl rfl rfl rfl).cast (y := (BO ((decide (((x8).toNat : Int) < 1))))) rfl rfl) ?_
     refine sM rfl rfl rfl rfl rfl ?_
     refine ao_cases (t := 48) rfl ?_ ?_
     ·intro hb53; replace h := ocond_t hb53 h
      refine ao_no rfl rfl rfl rfl rfl rfl ?_
      refine ao_no rfl rfl rfl rfl rfl rfl ?_
      refine sS rfl rfl rfl (op1_pickT rfl rfl rfl) (ao_nil ?_)
      exact ⟨rfl, true, h, ⟨(.cons .same .nil), (sC rfl (sC rfl (sC rfl (sC rfl (sC rfl sub_nil)))))⟩⟩
     ·intro hb53; replace h := ocond_f hb53 h
      refine ao_yes rfl rfl rfl rfl rfl rfl (op1_move rfl rfl) ?_
      refine ao_yes rfl rfl rfl rfl rfl rfl ((op1_cmp rfl rfl rfl rfl).cast (y := (BO ((decide (((x8).toNat : Int) > 10))))) rfl rfl) ?_
      refine sS rfl rfl rfl (op1_pickF rfl rfl rfl) (ao_nil ?_)
      exact ⟨rfl, (decide (((x8).toNat : Int) > 10)), h, ⟨(.cons .same .nil), (sC rfl (sC rfl (sC rfl (sC rfl (sC rfl sub_nil)))))⟩⟩
  ·refine bw_region ?_
   refine sM rfl rfl rfl rfl rfl ?_
   refine sS rfl rfl rfl (op1_nilR rfl rfl) ?_
   refine sS rfl rfl rfl (op1_faR st_110 (i := 2) rfl rfl rfl) ?_
   refine sS rfl rfl rfl ((op1_ldR Try.underlying3 rfl rfl rfl rfl rfl)) ?_
   refine sS rfl rfl rfl ((op1_cmp rfl rfl rfl rfl).cast (y := (BO ((decide (a0.f_n ≥ 16384))))) rfl rfl) ?_
   refine sM rfl rfl rfl rfl rfl ?_
   refine ao_cases (t := 31) rfl ?_ ?_
   ·intro hb54; replace h := ocond_t hb54 h
    refine ao_no rfl rfl rfl rfl rfl rfl ?_
    refine ao_no rfl rfl rfl rfl rfl rfl ?_
    refine sS rfl rfl rfl (op1_pickT rfl rfl rfl) (ao_nil ?_)
    exact ⟨rfl, true, h, ⟨(.cons .same .nil), (sC rfl (sC rfl (sC rfl (sC rfl sub_nil))))⟩⟩
   ·intro hb54; replace h := ocond_f hb54 h
    refine ao_yes rfl rfl rfl rfl rfl rfl (op1_move rfl rfl) ?_
    refine ao_yes rfl rfl rfl rfl rfl rfl ((op1_cmp rfl rfl rfl rfl).cast (y := (BO ((decide (a1 > 64))))) rfl rfl) ?_
    refine sS rfl rfl rfl (op1_pickF rfl rfl rfl) (ao_nil ?_)
    exact ⟨rfl, (decide (a1 > 64)), h, ⟨(.cons .same .nil), (sC rfl (sC rfl (sC rfl (sC rfl sub_nil))))⟩⟩
theorem C_wire_reader_record.sound : ∀ (i : C_wire_reader_record) (r : i.R), fixO C_wire_reader_record.F i = some r → C_wire_reader_record.Q i r := by
 refine fixO_ind (Φ := C_wire_reader_record.F) (Q := C_wire_reader_record.Q) ?_
 intro g hg i r h
 cases i with
 | k_wire_reader_record a0 a1 a2 => exact t_wire_reader_record (fun a0 a1 a2 => g (.k_wire_reader_record a0 a1 a2)) (fun a0 a1 a2 r hr => hg (.k_wire_reader_record a0 a1 a2) r hr) (fun a0 a1 a2 => g (.k_wire_reader_fields a0 a1 a2)) (fun a0 a1 a2 r hr => hg (.k_wire_reader_fields a0 a1 a2) r hr) (fun a0 a1 a2 => g (.k_wire_reader_list a0 a1 a2)) (fun a0 a1 a2 r hr => hg (.k_wire_reader_list a0 a1 a2) r hr) (fun a0 a1 => g (.k_wire_reader_value a0 a1)) (fun a0 a1 r hr => hg (.k_wire_reader_value a0 a1) r hr) a0 a1 a2 r h
 | k_wire_reader_fields a0 a1 a2 => exact t_wire_reader_fields (fun a0 a1 a2 => g (.k_wire_reader_record a0 a1 a2)) (fun a0 a1 a2 r hr => hg (.k_wire_reader_record a0 a1 a2) r hr) (fun a0 a1 a2 => g (.k_wire_reader_fields a0 a1 a2)) (fun a0 a1 a2 r hr => hg (.k_wire_reader_fields a0 a1 a2) r hr) (fun a0 a1 a2 => g (.k_wire_reader_list a0 a1 a2)) (fun a0 a1 a2 r hr => hg (.k_wire_reader_list a0 a1 a2) r hr) (fun a0 a1 => g (.k_wire_reader_value a0 a1)) (fun a0 a1 r hr => hg (.k_wire_reader_value a0 a1) r hr) a0 a1 a2 r h
 | k_wire_reader_list a0 a1 a2 => exact t_wire_reader_list (fun a0 a1 a2 => g (.k_wire_reader_record a0 a1 a2)) (fun a0 a1 a2 r hr => hg (.k_wire_reader_record a0 a1 a2) r hr) (fun a0 a1 a2 => g (.k_wire_reader_fields a0 a1 a2)) (fun a0 a1 a2 r hr => hg (.k_wire_reader_fields a0 a1 a2) r hr) (fun a0 a1 a2 => g (.k_wire_reader_list a0 a1 a2)) (fun a0 a1 a2 r hr => hg (.k_wire_reader_list a0 a1 a2) r hr) (fun a0 a1 => g (.k_wire_reader_value a0 a1)) (fun a0 a1 r hr => hg (.k_wire_reader_value a0 a1) r hr) a0 a1 a2 r h
 | k_wire_reader_value a0 a1 => exact t_wire_reader_value (fun a0 a1 a2 => g (.k_wire_reader_record a0 a1 a2)) (fun a0 a1 a2 r hr => hg (.k_wire_reader_record a0 a1 a2) r hr) (fun a0 a1 a2 => g (.k_wire_reader_fields a0 a1 a2)) (fun a0 a1 a2 r hr => hg (.k_wire_reader_fields a0 a1 a2) r hr) (fun a0 a1 a2 => g (.k_wire_reader_list a0 a1 a2)) (fun a0 a1 a2 r hr => hg (.k_wire_reader_list a0 a1 a2) r hr) (fun a0 a1 => g (.k_wire_reader_value a0 a1)) (fun a0 a1 r hr => hg (.k_wire_reader_value a0 a1) r hr) a0 a1 r h
theorem s_wire_reader_value (a0 : S_wire_reader) (a1 : Int) (r : (Xr (S_wire_fault × S_wire_reader) (V × S_wire_reader))) (h : p_wire_reader_value a0 a1 = some r) : ACalls Try.prog 52 [(PV.rf 0 0), (I64 a1)] [.box 110 [(PV.old (PV.sl none 5 1 (List.map ofB a0.f_b))), (I64 a0.f_at), (I64 a0.f_n), (BO a0.f_making)]] (XQ r (fun r => (ofV r.1)) (fun r => [.box 110 [(PV.old (PV.sl none 5 1 (List.map ofB (r.2).f_b))), (I64 ((r.2).f_at)), (I64 ((r.2).f_n)), (BO ((r.2).f_making))]]) (fun r => (PV.iface 112 (of_wire_fault r.1))) (fun r => [.box 110 [(PV.old (PV.sl none 5 1 (List.map ofB (r.2).f_b))), (I64 ((r.2).f_at)), (I64 ((r.2).f_n)), (BO ((r.2).f_making))]])) := C_wire_reader_record.sound (.k_wire_reader_value a0 a1) r h
end Go.Proofs.Ytigadhiciinicaa
