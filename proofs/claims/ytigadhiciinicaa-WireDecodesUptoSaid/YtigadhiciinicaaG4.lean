/- Pure functions, and that calls answer as they say. Written by gen.py. -/
import Derived.Test.YtigadhiciinicaaG3
namespace Go.Proofs.Ytigadhiciinicaa
open Go Aw
set_option linter.unusedVariables false
set_option linter.unusedSimpArgs false
set_option maxRecDepth 20000
set_option maxHeartbeats 2000000
noncomputable def ref03_reading_fields_j2 (r_ref03_reading_term : S_ref03_reading → Int → Option (S_ref03_reading × Term)) (g1 : (List (Str × Term)) → Int → Str → Int → Int → Int → Int → Option (S_ref03_reading × (List (Str × Term)))) (a2 : Int) (s2 : (List (Str × Term))) (s3 : Int) (x11 : (S_ref03_reading × Str)) (s12 : Str) (s13 : Int) (s14 : Int) (s15 : Int) (s16 : Int) : Option (S_ref03_reading × (List (Str × Term))) :=
 Option.bind (r_ref03_reading_term (S_ref03_reading.mk s12 s13 s14 s15 s16) (IntKind.i64.wrap (a2 + 1))) fun x17 =>
 Option.bind (appO 168 s2 ([(x11.2, (x17.2))] : (List (Str × Term)))) fun x18 =>
 g1 x18 (IntKind.u64.wrap (s3 + 1)) ((x17.1).f_b) ((x17.1).f_at) ((x17.1).f_n) ((x17.1).f_place) ((x17.1).f_why)
theorem ref03_reading_fields_j2_cm {ι : Type} {ρ : ι → Type} (r_ref03_reading_term : (∀ i, Option (ρ i)) → S_ref03_reading → Int → Option (S_ref03_reading × Term)) (h_r_ref03_reading_term : ∀ y0 y1, CM (fun G => r_ref03_reading_term G y0 y1)) (g1 : (∀ i, Option (ρ i)) → (List (Str × Term)) → Int → Str → Int → Int → Int → Int → Option (S_ref03_reading × (List (Str × Term)))) (h_g1 : ∀ y0 y1 y2 y3 y4 y5 y6, CM (fun G => g1 G y0 y1 y2 y3 y4 y5 y6)) (a2 : Int) (s2 : (List (Str × Term))) (s3 : Int) (x11 : (S_ref03_reading × Str)) (s12 : Str) (s13 : Int) (s14 : Int) (s15 : Int) (s16 : Int) : CM (fun G : (∀ i, Option (ρ i)) => ref03_reading_fields_j2 (r_ref03_reading_term G) (g1 G) a2 s2 s3 x11 s12 s13 s14 s15 s16) := by
 simp only [ref03_reading_fields_j2]
 repeat (first | exact cm_const | exact h_r_ref03_reading_term _ _ | exact h_g1 _ _ _ _ _ _ _ | refine cm_cond ?_ ?_ | refine cm_bind ?_ (fun _ => ?_))
noncomputable def ref03_reading_fields_j3 (r_ref03_reading_term : S_ref03_reading → Int → Option (S_ref03_reading × Term)) (g1 : (List (Str × Term)) → Int → Str → Int → Int → Int → Int → Option (S_ref03_reading × (List (Str × Term)))) (a1 : Int) (a2 : Int) (s2 : (List (Str × Term))) (s3 : Int) (x11 : (S_ref03_reading × Str)) (s19 : Bool) : Option (S_ref03_reading × (List (Str × Term))) :=
 bif s19 then (
  Option.bind (p_ref03_reading_bad (x11.1) a1 8) fun x21 =>
  ref03_reading_fields_j2 r_ref03_reading_term g1 a2 s2 s3 x11 x21.f_b x21.f_at x21.f_n x21.f_place x21.f_why
 ) else (
  ref03_reading_fields_j2 r_ref03_reading_term g1 a2 s2 s3 x11 ((x11.1).f_b) ((x11.1).f_at) ((x11.1).f_n) ((x11.1).f_place) ((x11.1).f_why)
 )
theorem ref03_reading_fields_j3_cm {ι : Type} {ρ : ι → Type} (r_ref03_reading_term : (∀ i, Option (ρ i)) → S_ref03_reading → Int → Option (S_ref03_reading × Term)) (h_r_ref03_reading_term : ∀ y0 y1, CM (fun G => r_ref03_reading_term G y0 y1)) (g1 : (∀ i, Option (ρ i)) → (List (Str × Term)) → Int → Str → Int → Int → Int → Int → Option (S_ref03_reading × (List (Str × Term)))) (h_g1 : ∀ y0 y1 y2 y3 y4 y5 y6, CM (fun G => g1 G y0 y1 y2 y3 y4 y5 y6)) (a1 : Int) (a2 : Int) (s2 : (List (Str × Term))) (s3 : Int) (x11 : (S_ref03_reading × Str)) (s19 : Bool) : CM (fun G : (∀ i, Option (ρ i)) => ref03_reading_fields_j3 (r_ref03_reading_term G) (g1 G) a1 a2 s2 s3 x11 s19) := by
 simp only [ref03_reading_fields_j3]
 repeat (first | exact cm_const | exact h_r_ref03_reading_term _ _ | exact h_g1 _ _ _ _ _ _ _ | apply ref03_reading_fields_j2_cm | refine cm_cond ?_ ?_ | refine cm_bind ?_ (fun _ => ?_) | intro _ | assumption)
noncomputable def ref03_reading_fields_j1 (r_ref03_reading_term : S_ref03_reading → Int → Option (S_ref03_reading × Term)) (g1 : (List (Str × Term)) → Int → Str → Int → Int → Int → Int → Option (S_ref03_reading × (List (Str × Term)))) (a1 : Int) (a2 : Int) (s2 : (List (Str × Term))) (s3 : Int) (s4 : Str) (s5 : Int) (s6 : Int) (s7 : Int) (s8 : Int) (s9 : Bool) : Option (S_ref03_reading × (List (Str × Term))) :=
 bif s9 then (
  Option.bind (p_ref03_reading_name (S_ref03_reading.mk s4 s5 s6 s7 s8) a1) fun x11 =>
  bif ((x11.1).f_why == 0) then (
   bif (decide ((((s2).length : Nat) : Int) > 0)) then (
    Option.bind (idxI s2 (IntKind.i64.wrap ((((s2).length : Nat) : Int) - 1))) fun x24 =>
    ref03_reading_fields_j3 r_ref03_reading_term g1 a1 a2 s2 s3 x11 (Op.bytesLess x11.2 x24.1 || x11.2 == x24.1)
   ) else (
    ref03_reading_fields_j3 r_ref03_reading_term g1 a1 a2 s2 s3 x11 false
   )
  ) else (
   ref03_reading_fields_j3 r_ref03_reading_term g1 a1 a2 s2 s3 x11 false
  )
 ) else (
  some ((S_ref03_reading.mk s4 s5 s6 s7 s8), s2)
 )
theorem ref03_reading_fields_j1_cm {ι : Type} {ρ : ι → Type} (r_ref03_reading_term : (∀ i, Option (ρ i)) → S_ref03_reading → Int → Option (S_ref03_reading × Term)) (h_r_ref03_reading_term : ∀ y0 y1, CM (fun G => r_ref03_reading_term G y0 y1)) (g1 : (∀ i, Option (ρ i)) → (List (Str × Term)) → Int → Str → Int → Int → Int → Int → Option (S_ref03_reading × (List (Str × Term)))) (h_g1 : ∀ y0 y1 y2 y3 y4 y5 y6, CM (fun G => g1 G y0 y1 y2 y3 y4 y5 y6)) (a1 : Int) (a2 : Int) (s2 : (List (Str × Term))) (s3 : Int) (s4 : Str) (s5 : Int) (s6 : Int) (s7 : Int) (s8 : Int) (s9 : Bool) : CM (fun G : (∀ i, Option (ρ i)) => ref03_reading_fields_j1 (r_ref03_reading_term G) (g1 G) a1 a2 s2 s3 s4 s5 s6 s7 s8 s9) := by
 simp only [ref03_reading_fields_j1]
 repeat (first | exact cm_const | exact h_r_ref03_reading_term _ _ | exact h_g1 _ _ _ _ _ _ _ | apply ref03_reading_fields_j3_cm | refine cm_cond ?_ ?_ | refine cm_bind ?_ (fun _ => ?_) | intro _ | assumption)
noncomputable def ref03_reading_fields_l1b (r_ref03_reading_term : S_ref03_reading → Int → Option (S_ref03_reading × Term)) (a1 : Int) (a2 : Int) (x1 : (S_ref03_reading × Int)) (g1 : (List (Str × Term)) → Int → Str → Int → Int → Int → Int → Option (S_ref03_reading × (List (Str × Term)))) (s2 : (List (Str × Term))) (s3 : Int) (s4 : Str) (s5 : Int) (s6 : Int) (s7 : Int) (s8 : Int) : Option (S_ref03_reading × (List (Str × Term))) :=
 bif (decide (s3 < x1.2)) then (
  ref03_reading_fields_j1 r_ref03_reading_term g1 a1 a2 s2 s3 s4 s5 s6 s7 s8 (s8 == 0)
 ) else (
  ref03_reading_fields_j1 r_ref03_reading_term g1 a1 a2 s2 s3 s4 s5 s6 s7 s8 false
 )
theorem ref03_reading_fields_l1b_cm {ι : Type} {ρ : ι → Type} (r_ref03_reading_term : (∀ i, Option (ρ i)) → S_ref03_reading → Int → Option (S_ref03_reading × Term)) (h_r_ref03_reading_term : ∀ y0 y1, CM (fun G => r_ref03_reading_term G y0 y1)) (g1 : (∀ i, Option (ρ i)) → (List (Str × Term)) → Int → Str → Int → Int → Int → Int → Option (S_ref03_reading × (List (Str × Term)))) (h_g1 : ∀ y0 y1 y2 y3 y4 y5 y6, CM (fun G => g1 G y0 y1 y2 y3 y4 y5 y6)) (a1 : Int) (a2 : Int) (x1 : (S_ref03_reading × Int)) (s2 : (List (Str × Term))) (s3 : Int) (s4 : Str) (s5 : Int) (s6 : Int) (s7 : Int) (s8 : Int) : CM (fun G : (∀ i, Option (ρ i)) => ref03_reading_fields_l1b (r_ref03_reading_term G) a1 a2 x1 (g1 G) s2 s3 s4 s5 s6 s7 s8) := by
 simp only [ref03_reading_fields_l1b]
 repeat (first | exact cm_const | exact h_r_ref03_reading_term _ _ | exact h_g1 _ _ _ _ _ _ _ | apply ref03_reading_fields_j1_cm | refine cm_cond ?_ ?_ | refine cm_bind ?_ (fun _ => ?_) | intro _ | assumption)
noncomputable def ref03_reading_fields_l1 (r_ref03_reading_term : S_ref03_reading → Int → Option (S_ref03_reading × Term)) (a1 : Int) (a2 : Int) (x1 : (S_ref03_reading × Int)) (s2 : (List (Str × Term))) (s3 : Int) (s4 : Str) (s5 : Int) (s6 : Int) (s7 : Int) (s8 : Int) : Option (S_ref03_reading × (List (Str × Term))) :=
 fixO (ι := ((List (Str × Term)) × Int × Str × Int × Int × Int × Int)) (ρ := fun _ => (S_ref03_reading × (List (Str × Term)))) (fun g i => ref03_reading_fields_l1b r_ref03_reading_term a1 a2 x1 (fun s2 s3 s4 s5 s6 s7 s8 => g (s2, s3, s4, s5, s6, s7, s8)) i.1 i.2.1 i.2.2.1 i.2.2.2.1 i.2.2.2.2.1 i.2.2.2.2.2.1 i.2.2.2.2.2.2) (s2, s3, s4, s5, s6, s7, s8)
theorem ref03_reading_fields_l1_eq (r_ref03_reading_term : S_ref03_reading → Int → Option (S_ref03_reading × Term)) (a1 : Int) (a2 : Int) (x1 : (S_ref03_reading × Int)) (s2 : (List (Str × Term))) (s3 : Int) (s4 : Str) (s5 : Int) (s6 : Int) (s7 : Int) (s8 : Int) : ref03_reading_fields_l1 r_ref03_reading_term a1 a2 x1 s2 s3 s4 s5 s6 s7 s8 = ref03_reading_fields_l1b r_ref03_reading_term a1 a2 x1 (ref03_reading_fields_l1 r_ref03_reading_term a1 a2 x1) s2 s3 s4 s5 s6 s7 s8 :=
 fixO_eq (ι := ((List (Str × Term)) × Int × Str × Int × Int × Int × Int)) (ρ := fun _ => (S_ref03_reading × (List (Str × Term)))) (Φ := fun g i => ref03_reading_fields_l1b r_ref03_reading_term a1 a2 x1 (fun s2 s3 s4 s5 s6 s7 s8 => g (s2, s3, s4, s5, s6, s7, s8)) i.1 i.2.1 i.2.2.1 i.2.2.2.1 i.2.2.2.2.1 i.2.2.2.2.2.1 i.2.2.2.2.2.2) (fun i => ref03_reading_fields_l1b_cm (ι := ((List (Str × Term)) × Int × Str × Int × Int × Int × Int)) (ρ := fun _ => (S_ref03_reading × (List (Str × Term)))) (fun _ => r_ref03_reading_term) (fun _ _ => cm_const) (fun g => (fun s2 s3 s4 s5 s6 s7 s8 => g (s2, s3, s4, s5, s6, s7, s8))) (fun _ _ _ _ _ _ _ => cm_app) a1 a2 x1 i.1 i.2.1 i.2.2.1 i.2.2.2.1 i.2.2.2.2.1 i.2.2.2.2.2.1 i.2.2.2.2.2.2) (s2, s3, s4, s5, s6, s7, s8)
theorem ref03_reading_fields_l1_cm {ι : Type} {ρ : ι → Type} (r_ref03_reading_term : (∀ i, Option (ρ i)) → S_ref03_reading → Int → Option (S_ref03_reading × Term)) (h_r_ref03_reading_term : ∀ y0 y1, CM (fun G => r_ref03_reading_term G y0 y1)) (a1 : Int) (a2 : Int) (x1 : (S_ref03_reading × Int)) (s2 : (List (Str × Term))) (s3 : Int) (s4 : Str) (s5 : Int) (s6 : Int) (s7 : Int) (s8 : Int) : CM (fun G : (∀ i, Option (ρ i)) => ref03_reading_fields_l1 (r_ref03_reading_term G) a1 a2 x1 s2 s3 s4 s5 s6 s7 s8) :=
 cm_fix (κ := ((List (Str × Term)) × Int × Str × Int × Int × Int × Int)) (τ := fun _ => (S_ref03_reading × (List (Str × Term)))) (Φ := fun G g i => ref03_reading_fields_l1b (r_ref03_reading_term G) a1 a2 x1 (fun s2 s3 s4 s5 s6 s7 s8 => g (s2, s3, s4, s5, s6, s7, s8)) i.1 i.2.1 i.2.2.1 i.2.2.2.1 i.2.2.2.2.1 i.2.2.2.2.2.1 i.2.2.2.2.2.2) (fun g i => ref03_reading_fields_l1b_cm r_ref03_reading_term h_r_ref03_reading_term (fun _ => (fun s2 s3 s4 s5 s6 s7 s8 => g (s2, s3, s4, s5, s6, s7, s8))) (fun _ _ _ _ _ _ _ => cm_const) a1 a2 x1 i.1 i.2.1 i.2.2.1 i.2.2.2.1 i.2.2.2.2.1 i.2.2.2.2.2.1 i.2.2.2.2.2.2) (fun G i => ref03_reading_fields_l1b_cm (ι := ((List (Str × Term)) × Int × Str × Int × Int × Int × Int)) (ρ := fun _ => (S_ref03_reading × (List (Str × Term)))) (fun _ => r_ref03_reading_term G) (fun _ _ => cm_const) (fun g => (fun s2 s3 s4 s5 s6 s7 s8 => g (s2, s3, s4, s5, s6, s7, s8))) (fun _ _ _ _ _ _ _ => cm_app) a1 a2 x1 i.1 i.2.1 i.2.2.1 i.2.2.2.1 i.2.2.2.2.1 i.2.2.2.2.2.1 i.2.2.2.2.2.2) (s2, s3, s4, s5, s6, s7, s8)
noncomputable def b_ref03_reading_fields (r_ref03_reading_fields : S_ref03_reading → Int → Int → Option (S_ref03_reading × (List (Str × Term)))) (r_ref03_reading_body : S_ref03_reading → Term → Int → Int → Option (S_ref03_reading × Term)) (r_ref03_reading_term : S_ref03_reading → Int → Option (S_ref03_reading × Term)) (a0 : S_ref03_reading) (a1 : Int) (a2 : Int) : Option (S_ref03_reading × (List (Str × Term))) :=
 Option.bind (p_ref03_reading_long a0 4096 a1 2) fun x1 =>
 ref03_reading_fields_l1 r_ref03_reading_term a1 a2 x1 ([] : (List (Str × Term))) 0 ((x1.1).f_b) ((x1.1).f_at) ((x1.1).f_n) ((x1.1).f_place) ((x1.1).f_why)
theorem b_ref03_reading_fields_cm {ι : Type} {ρ : ι → Type} (r_ref03_reading_fields : (∀ i, Option (ρ i)) → S_ref03_reading → Int → Int → Option (S_ref03_reading × (List (Str × Term)))) (h_r_ref03_reading_fields : ∀ y0 y1 y2, CM (fun G => r_ref03_reading_fields G y0 y1 y2)) (r_ref03_reading_body : (∀ i, Option (ρ i)) → S_ref03_reading → Term → Int → Int → Option (S_ref03_reading × Term)) (h_r_ref03_reading_body : ∀ y0 y1 y2 y3, CM (fun G => r_ref03_reading_body G y0 y1 y2 y3)) (r_ref03_reading_term : (∀ i, Option (ρ i)) → S_ref03_reading → Int → Option (S_ref03_reading × Term)) (h_r_ref03_reading_term : ∀ y0 y1, CM (fun G => r_ref03_reading_term G y0 y1)) (a0 : S_ref03_reading) (a1 : Int) (a2 : Int) : CM (fun G : (∀ i, Option (ρ i)) => b_ref03_reading_fields (r_ref03_reading_fields G) (r_ref03_reading_body G) (r_ref03_reading_term G) a0 a1 a2) := by
 simp only [b_ref03_reading_fields]
 repeat (first | exact cm_const | exact h_r_ref03_reading_fields _ _ _ | exact h_r_ref03_reading_body _ _ _ _ | exact h_r_ref03_reading_term _ _ | apply ref03_reading_fields_l1_cm | refine cm_cond ?_ ?_ | refine cm_bind ?_ (fun _ => ?_) | intro _ | assumption)
noncomputable def ref03_reading_body_j1 (a1 : Term) (s1 : Str) (s2 : Int) (s3 : Int) (s4 : Int) (s5 : Int) (s6 : Bool) (s7 : Int) (s8 : Nat) (s9 : Str) (s10 : Str) (s11 : Int) (s12 : (List Term)) (s13 : (List (Str × Term))) (s14 : Str) (s15 : Int) : Option (S_ref03_reading × Term) :=
 some ((S_ref03_reading.mk s1 s2 s3 s4 s5), (Term.mk a1.kind s6 s7 s8 s9 s10 s11 s12 s13 s14 s15))
noncomputable def ref03_reading_body_j2 (a1 : Term) (x17 : (S_ref03_reading × UInt8)) (s18 : Bool) : Option (S_ref03_reading × Term) :=
 bif s18 then (
  Option.bind (p_ref03_reading_bad (x17.1) (IntKind.i64.wrap ((x17.1).f_at - 1)) 30) fun x20 =>
  ref03_reading_body_j1 a1 x20.f_b x20.f_at x20.f_n x20.f_place x20.f_why (((x17.2).toNat : Int) == (((1 : UInt8)).toNat : Int)) a1.int a1.float a1.text a1.bytes a1.ref ([]) a1.fields a1.cls a1.ver
 ) else (
  ref03_reading_body_j1 a1 ((x17.1).f_b) ((x17.1).f_at) ((x17.1).f_n) ((x17.1).f_place) ((x17.1).f_why) (((x17.2).toNat : Int) == (((1 : UInt8)).toNat : Int)) a1.int a1.float a1.text a1.bytes a1.ref ([]) a1.fields a1.cls a1.ver
 )
noncomputable def ref03_reading_body_l1b (a1 : Term) (g1 : Int → Int → Str → Int → Int → Int → Int → Option (S_ref03_reading × Term)) (s26 : Int) (s27 : Int) (s28 : Str) (s29 : Int) (s30 : Int) (s31 : Int) (s32 : Int) : Option (S_ref03_reading × Term) :=
 bif (decide (s27 < 8)) then (
  Option.bind (p_ref03_reading_one (S_ref03_reading.mk s28 s29 s30 s31 s32)) fun x34 =>
  g1 (IntKind.u64.wrap ((IntKind.u64.wrap (s26 * 256)) + ((x34.2).toNat : Int))) (IntKind.i64.wrap (s27 + 1)) ((x34.1).f_b) ((x34.1).f_at) ((x34.1).f_n) ((x34.1).f_place) ((x34.1).f_why)
 ) else (
  ref03_reading_body_j1 a1 s28 s29 s30 s31 s32 a1.bool a1.int ((s26).toNat) a1.text a1.bytes a1.ref ([]) a1.fields a1.cls a1.ver
 )
theorem ref03_reading_body_l1b_cm {ι : Type} {ρ : ι → Type} (g1 : (∀ i, Option (ρ i)) → Int → Int → Str → Int → Int → Int → Int → Option (S_ref03_reading × Term)) (h_g1 : ∀ y0 y1 y2 y3 y4 y5 y6, CM (fun G => g1 G y0 y1 y2 y3 y4 y5 y6)) (a1 : Term) (s26 : Int) (s27 : Int) (s28 : Str) (s29 : Int) (s30 : Int) (s31 : Int) (s32 : Int) : CM (fun G : (∀ i, Option (ρ i)) => ref03_reading_body_l1b a1 (g1 G) s26 s27 s28 s29 s30 s31 s32) := by
 simp only [ref03_reading_body_l1b]
 repeat (first | exact cm_const | exact h_g1 _ _ _ _ _ _ _ | apply ref03_reading_body_j1_cm | refine cm_cond ?_ ?_ | refine cm_bind ?_ (fun _ => ?_) | intro _ | assumption)
noncomputable def ref03_reading_body_l1 (a1 : Term) (s26 : Int) (s27 : Int) (s28 : Str) (s29 : Int) (s30 : Int) (s31 : Int) (s32 : Int) : Option (S_ref03_reading × Term) :=
 fixO (ι := (Int × Int × Str × Int × Int × Int × Int)) (ρ := fun _ => (S_ref03_reading × Term)) (fun g i => ref03_reading_body_l1b a1 (fun s26 s27 s28 s29 s30 s31 s32 => g (s26, s27, s28, s29, s30, s31, s32)) i.1 i.2.1 i.2.2.1 i.2.2.2.1 i.2.2.2.2.1 i.2.2.2.2.2.1 i.2.2.2.2.2.2) (s26, s27, s28, s29, s30, s31, s32)
theorem ref03_reading_body_l1_eq (a1 : Term) (s26 : Int) (s27 : Int) (s28 : Str) (s29 : Int) (s30 : Int) (s31 : Int) (s32 : Int) : ref03_reading_body_l1 a1 s26 s27 s28 s29 s30 s31 s32 = ref03_reading_body_l1b a1 (ref03_reading_body_l1 a1) s26 s27 s28 s29 s30 s31 s32 :=
 fixO_eq (ι := (Int × Int × Str × Int × Int × Int × Int)) (ρ := fun _ => (S_ref03_reading × Term)) (Φ := fun g i => ref03_reading_body_l1b a1 (fun s26 s27 s28 s29 s30 s31 s32 => g (s26, s27, s28, s29, s30, s31, s32)) i.1 i.2.1 i.2.2.1 i.2.2.2.1 i.2.2.2.2.1 i.2.2.2.2.2.1 i.2.2.2.2.2.2) (fun i => ref03_reading_body_l1b_cm (ι := (Int × Int × Str × Int × Int × Int × Int)) (ρ := fun _ => (S_ref03_reading × Term)) (fun g => (fun s26 s27 s28 s29 s30 s31 s32 => g (s26, s27, s28, s29, s30, s31, s32))) (fun _ _ _ _ _ _ _ => cm_app) a1 i.1 i.2.1 i.2.2.1 i.2.2.2.1 i.2.2.2.2.1 i.2.2.2.2.2.1 i.2.2.2.2.2.2) (s26, s27, s28, s29, s30, s31, s32)
noncomputable def ref03_reading_body_j4 (r_ref03_reading_term : S_ref03_reading → Int → Option (S_ref03_reading × Term)) (g1 : Int → Str → Int → Int → Int → Int → (List Term) → Option (S_ref03_reading × Term)) (a1 : Term) (a3 : Int) (s45 : Int) (s46 : Str) (s47 : Int) (s48 : Int) (s49 : Int) (s50 : Int) (s51 : (List Term)) (s52 : Bool) : Option (S_ref03_reading × Term) :=
 bif s52 then (
  Option.bind (r_ref03_reading_term (S_ref03_reading.mk s46 s47 s48 s49 s50) (IntKind.i64.wrap (a3 + 1))) fun x54 =>
  Option.bind (appO 152 s51 ([(x54.2)] : (List Term))) fun x55 =>
  g1 (IntKind.u64.wrap (s45 + 1)) ((x54.1).f_b) ((x54.1).f_at) ((x54.1).f_n) ((x54.1).f_place) ((x54.1).f_why) x55
 ) else (
  ref03_reading_body_j1 a1 s46 s47 s48 s49 s50 a1.bool a1.int a1.float a1.text a1.bytes a1.ref s51 a1.fields a1.cls a1.ver
 )
theorem ref03_reading_body_j4_cm {ι : Type} {ρ : ι → Type} (r_ref03_reading_term : (∀ i, Option (ρ i)) → S_ref03_reading → Int → Option (S_ref03_reading × Term)) (h_r_ref03_reading_term : ∀ y0 y1, CM (fun G => r_ref03_reading_term G y0 y1)) (g1 : (∀ i, Option (ρ i)) → Int → Str → Int → Int → Int → Int → (List Term) → Option (S_ref03_reading × Term)) (h_g1 : ∀ y0 y1 y2 y3 y4 y5 y6, CM (fun G => g1 G y0 y1 y2 y3 y4 y5 y6)) (a1 : Term) (a3 : Int) (s45 : Int) (s46 : Str) (s47 : Int) (s48 : Int) (s49 : Int) (s50 : Int) (s51 : (List Term)) (s52 : Bool) : CM (fun G : (∀ i, Option (ρ i)) => ref03_reading_body_j4 (r_ref03_reading_term G) (g1 G) a1 a3 s45 s46 s47 s48 s49 s50 s51 s52) := by
 simp only [ref03_reading_body_j4]
 repeat (first | exact cm_const | exact h_r_ref03_reading_term _ _ | exact h_g1 _ _ _ _ _ _ _ | apply ref03_reading_body_j1_cm | refine cm_cond ?_ ?_ | refine cm_bind ?_ (fun _ => ?_) | intro _ | assumption)
noncomputable def ref03_reading_body_l2b (r_ref03_reading_term : S_ref03_reading → Int → Option (S_ref03_reading × Term)) (a1 : Term) (a3 : Int) (x44 : (S_ref03_reading × Int)) (g1 : Int → Str → Int → Int → Int → Int → (List Term) → Option (S_ref03_reading × Term)) (s45 : Int) (s46 : Str) (s47 : Int) (s48 : Int) (s49 : Int) (s50 : Int) (s51 : (List Term)) : Option (S_ref03_reading × Term) :=
 bif (decide (s45 < x44.2)) then (
  ref03_reading_body_j4 r_ref03_reading_term g1 a1 a3 s45 s46 s47 s48 s49 s50 s51 (s50 == 0)
 ) else (
  ref03_reading_body_j4 r_ref03_reading_term g1 a1 a3 s45 s46 s47 s48 s49 s50 s51 false
 )
theorem ref03_reading_body_l2b_cm {ι : Type} {ρ : ι → Type} (r_ref03_reading_term : (∀ i, Option (ρ i)) → S_ref03_reading → Int → Option (S_ref03_reading × Term)) (h_r_ref03_reading_term : ∀ y0 y1, CM (fun G => r_ref03_reading_term G y0 y1)) (g1 : (∀ i, Option (ρ i)) → Int → Str → Int → Int → Int → Int → (List Term) → Option (S_ref03_reading × Term)) (h_g1 : ∀ y0 y1 y2 y3 y4 y5 y6, CM (fun G => g1 G y0 y1 y2 y3 y4 y5 y6)) (a1 : Term) (a3 : Int) (x44 : (S_ref03_reading × Int)) (s45 : Int) (s46 : Str) (s47 : Int) (s48 : Int) (s49 : Int) (s50 : Int) (s51 : (List Term)) : CM (fun G : (∀ i, Option (ρ i)) => ref03_reading_body_l2b (r_ref03_reading_term G) a1 a3 x44 (g1 G) s45 s46 s47 s48 s49 s50 s51) := by
 simp only [ref03_reading_body_l2b]
 repeat (first | exact cm_const | exact h_r_ref03_reading_term _ _ | exact h_g1 _ _ _ _ _ _ _ | apply ref03_reading_body_j4_cm | refine cm_cond ?_ ?_ | refine cm_bind ?_ (fun _ => ?_) | intro _ | assumption)
noncomputable def ref03_reading_body_l2 (r_ref03_reading_term : S_ref03_reading → Int → Option (S_ref03_reading × Term)) (a1 : Term) (a3 : Int) (x44 : (S_ref03_reading × Int)) (s45 : Int) (s46 : Str) (s47 : Int) (s48 : Int) (s49 : Int) (s50 : Int) (s51 : (List Term)) : Option (S_ref03_reading × Term) :=
 fixO (ι := (Int × Str × Int × Int × Int × Int × (List Term))) (ρ := fun _ => (S_ref03_reading × Term)) (fun g i => ref03_reading_body_l2b r_ref03_reading_term a1 a3 x44 (fun s45 s46 s47 s48 s49 s50 s51 => g (s45, s46, s47, s48, s49, s50, s51)) i.1 i.2.1 i.2.2.1 i.2.2.2.1 i.2.2.2.2.1 i.2.2.2.2.2.1 i.2.2.2.2.2.2) (s45, s46, s47, s48, s49, s50, s51)
theorem ref03_reading_body_l2_eq (r_ref03_reading_term : S_ref03_reading → Int → Option (S_ref03_reading × Term)) (a1 : Term) (a3 : Int) (x44 : (S_ref03_reading × Int)) (s45 : Int) (s46 : Str) (s47 : Int) (s48 : Int) (s49 : Int) (s50 : Int) (s51 : (List Term)) : ref03_reading_body_l2 r_ref03_reading_term a1 a3 x44 s45 s46 s47 s48 s49 s50 s51 = ref03_reading_body_l2b r_ref03_reading_term a1 a3 x44 (ref03_reading_body_l2 r_ref03_reading_term a1 a3 x44) s45 s46 s47 s48 s49 s50 s51 :=
 fixO_eq (ι := (Int × Str × Int × Int × Int × Int × (List Term))) (ρ := fun _ => (S_ref03_reading × Term)) (Φ := fun g i => ref03_reading_body_l2b r_ref03_reading_term a1 a3 x44 (fun s45 s46 s47 s48 s49 s50 s51 => g (s45, s46, s47, s48, s49, s50, s51)) i.1 i.2.1 i.2.2.1 i.2.2.2.1 i.2.2.2.2.1 i.2.2.2.2.2.1 i.2.2.2.2.2.2) (fun i => ref03_reading_body_l2b_cm (ι := (Int × Str × Int × Int × Int × Int × (List Term))) (ρ := fun _ => (S_ref03_reading × Term)) (fun _ => r_ref03_reading_term) (fun _ _ => cm_const) (fun g => (fun s45 s46 s47 s48 s49 s50 s51 => g (s45, s46, s47, s48, s49, s50, s51))) (fun _ _ _ _ _ _ _ => cm_app) a1 a3 x44 i.1 i.2.1 i.2.2.1 i.2.2.2.1 i.2.2.2.2.1 i.2.2.2.2.2.1 i.2.2.2.2.2.2) (s45, s46, s47, s48, s49, s50, s51)
theorem ref03_reading_body_l2_cm {ι : Type} {ρ : ι → Type} (r_ref03_reading_term : (∀ i, Option (ρ i)) → S_ref03_reading → Int → Option (S_ref03_reading × Term)) (h_r_ref03_reading_term : ∀ y0 y1, CM (fun G => r_ref03_reading_term G y0 y1)) (a1 : Term) (a3 : Int) (x44 : (S_ref03_reading × Int)) (s45 : Int) (s46 : Str) (s47 : Int) (s48 : Int) (s49 : Int) (s50 : Int) (s51 : (List Term)) : CM (fun G : (∀ i, Option (ρ i)) => ref03_reading_body_l2 (r_ref03_reading_term G) a1 a3 x44 s45 s46 s47 s48 s49 s50 s51) :=
 cm_fix (κ := (Int × Str × Int × Int × Int × Int × (List Term))) (τ := fun _ => (S_ref03_reading × Term)) (Φ := fun G g i => ref03_reading_body_l2b (r_ref03_reading_term G) a1 a3 x44 (fun s45 s46 s47 s48 s49 s50 s51 => g (s45, s46, s47, s48, s49, s50, s51)) i.1 i.2.1 i.2.2.1 i.2.2.2.1 i.2.2.2.2.1 i.2.2.2.2.2.1 i.2.2.2.2.2.2) (fun g i => ref03_reading_body_l2b_cm r_ref03_reading_term h_r_ref03_reading_term (fun _ => (fun s45 s46 s47 s48 s49 s50 s51 => g (s45, s46, s47, s48, s49, s50, s51))) (fun _ _ _ _ _ _ _ => cm_const) a1 a3 x44 i.1 i.2.1 i.2.2.1 i.2.2.2.1 i.2.2.2.2.1 i.2.2.2.2.2.1 i.2.2.2.2.2.2) (fun G i => ref03_reading_body_l2b_cm (ι := (Int × Str × Int × Int × Int × Int × (List Term))) (ρ := fun _ => (S_ref03_reading × Term)) (fun _ => r_ref03_reading_term G) (fun _ _ => cm_const) (fun g => (fun s45 s46 s47 s48 s49 s50 s51 => g (s45, s46, s47, s48, s49, s50, s51))) (fun _ _ _ _ _ _ _ => cm_app) a1 a3 x44 i.1 i.2.1 i.2.2.1 i.2.2.2.1 i.2.2.2.2.1 i.2.2.2.2.2.1 i.2.2.2.2.2.2) (s45, s46, s47, s48, s49, s50, s51)
noncomputable def ref03_reading_body_j5 (r_ref03_reading_fields : S_ref03_reading → Int → Int → Option (S_ref03_reading × (List (Str × Term)))) (a1 : Term) (a2 : Int) (a3 : Int) (x60 : (S_ref03_reading × Str)) (x61 : (S_ref03_reading × Int)) (s62 : Str) (s63 : Int) (s64 : Int) (s65 : Int) (s66 : Int) : Option (S_ref03_reading × Term) :=
 Option.bind (r_ref03_reading_fields (S_ref03_reading.mk s62 s63 s64 s65 s66) a2 a3) fun x67 =>
 ref03_reading_body_j1 a1 ((x67.1).f_b) ((x67.1).f_at) ((x67.1).f_n) ((x67.1).f_place) ((x67.1).f_why) a1.bool a1.int a1.float a1.text a1.bytes a1.ref ([]) x67.2 x60.2 (IntKind.i64.wrap x61.2)
theorem ref03_reading_body_j5_cm {ι : Type} {ρ : ι → Type} (r_ref03_reading_fields : (∀ i, Option (ρ i)) → S_ref03_reading → Int → Int → Option (S_ref03_reading × (List (Str × Term)))) (h_r_ref03_reading_fields : ∀ y0 y1 y2, CM (fun G => r_ref03_reading_fields G y0 y1 y2)) (a1 : Term) (a2 : Int) (a3 : Int) (x60 : (S_ref03_reading × Str)) (x61 : (S_ref03_reading × Int)) (s62 : Str) (s63 : Int) (s64 : Int) (s65 : Int) (s66 : Int) : CM (fun G : (∀ i, Option (ρ i)) => ref03_reading_body_j5 (r_ref03_reading_fields G) a1 a2 a3 x60 x61 s62 s63 s64 s65 s66) := by
 simp only [ref03_reading_body_j5]
 repeat (first | exact cm_const | exact h_r_ref03_reading_fields _ _ _ | apply ref03_reading_body_j1_cm | refine cm_cond ?_ ?_ | refine cm_bind ?_ (fun _ => ?_) | intro _ | assumption)
noncomputable def ref03_reading_body_j6 (r_ref03_reading_fields : S_ref03_reading → Int → Int → Option (S_ref03_reading × (List (Str × Term)))) (a1 : Term) (a2 : Int) (a3 : Int) (x60 : (S_ref03_reading × Str)) (x61 : (S_ref03_reading × Int)) (s68 : Bool) : Option (S_ref03_reading × Term) :=
 bif s68 then (
  Option.bind (p_ref03_reading_bad (x61.1) a2 1) fun x70 =>
  ref03_reading_body_j5 r_ref03_reading_fields a1 a2 a3 x60 x61 x70.f_b x70.f_at x70.f_n x70.f_place x70.f_why
 ) else (
  ref03_reading_body_j5 r_ref03_reading_fields a1 a2 a3 x60 x61 ((x61.1).f_b) ((x61.1).f_at) ((x61.1).f_n) ((x61.1).f_place) ((x61.1).f_why)
 )
theorem ref03_reading_body_j6_cm {ι : Type} {ρ : ι → Type} (r_ref03_reading_fields : (∀ i, Option (ρ i)) → S_ref03_reading → Int → Int → Option (S_ref03_reading × (List (Str × Term)))) (h_r_ref03_reading_fields : ∀ y0 y1 y2, CM (fun G => r_ref03_reading_fields G y0 y1 y2)) (a1 : Term) (a2 : Int) (a3 : Int) (x60 : (S_ref03_reading × Str)) (x61 : (S_ref03_reading × Int)) (s68 : Bool) : CM (fun G : (∀ i, Option (ρ i)) => ref03_reading_body_j6 (r_ref03_reading_fields G) a1 a2 a3 x60 x61 s68) := by
 simp only [ref03_reading_body_j6]
 repeat (first | exact cm_const | exact h_r_ref03_reading_fields _ _ _ | apply ref03_reading_body_j5_cm | refine cm_cond ?_ ?_ | refine cm_bind ?_ (fun _ => ?_) | intro _ | assumption)
noncomputable def ref03_reading_body_j3 (r_ref03_reading_fields : S_ref03_reading → Int → Int → Option (S_ref03_reading × (List (Str × Term)))) (r_ref03_reading_term : S_ref03_reading → Int → Option (S_ref03_reading × Term)) (a0 : S_ref03_reading) (a1 : Term) (a2 : Int) (a3 : Int) (s35 : Bool) : Option (S_ref03_reading × Term) :=
 bif s35 then (
  Option.bind (p_ref03_reading_long a0 65536 a2 2) fun x37 =>
  Option.bind (p_ref03_reading_some (x37.1) x37.2) fun x38 =>
  bif (a1.kind == 5) then (
   ref03_reading_body_j1 a1 ((x38.1).f_b) ((x38.1).f_at) ((x38.1).f_n) ((x38.1).f_place) ((x38.1).f_why) a1.bool a1.int a1.float x38.2 a1.bytes a1.ref ([]) a1.fields a1.cls a1.ver
  ) else (
   Option.bind (smallO (x38.2).length) fun x40 =>
   ref03_reading_body_j1 a1 ((x38.1).f_b) ((x38.1).f_at) ((x38.1).f_n) ((x38.1).f_place) ((x38.1).f_why) a1.bool a1.int a1.float a1.text x38.2 a1.ref ([]) a1.fields a1.cls a1.ver
  )
 ) else (
  bif (a1.kind == 7) then (
   Option.bind (p_ref03_reading_number a0) fun x42 =>
   ref03_reading_body_j1 a1 ((x42.1).f_b) ((x42.1).f_at) ((x42.1).f_n) ((x42.1).f_place) ((x42.1).f_why) a1.bool a1.int a1.float a1.text a1.bytes x42.2 ([]) a1.fields a1.cls a1.ver
  ) else (
   bif (a1.kind == 8) then (
    Option.bind (p_ref03_reading_long a0 4096 a2 2) fun x44 =>
    ref03_reading_body_l2 r_ref03_reading_term a1 a3 x44 0 ((x44.1).f_b) ((x44.1).f_at) ((x44.1).f_n) ((x44.1).f_place) ((x44.1).f_why) ([])
   ) else (
    bif (a1.kind == 9) then (
     Option.bind (r_ref03_reading_fields a0 a2 a3) fun x58 =>
     ref03_reading_body_j1 a1 ((x58.1).f_b) ((x58.1).f_at) ((x58.1).f_n) ((x58.1).f_place) ((x58.1).f_why) a1.bool a1.int a1.float a1.text a1.bytes a1.ref ([]) x58.2 a1.cls a1.ver
    ) else (
     bif (a1.kind == 10) then (
      Option.bind (p_ref03_reading_name a0 a2) fun x60 =>
      Option.bind (p_ref03_reading_number (x60.1)) fun x61 =>
      bif ((x61.1).f_why == 0) then (
       bif (decide (x61.2 < 1)) then (
        ref03_reading_body_j6 r_ref03_reading_fields a1 a2 a3 x60 x61 true
       ) else (
        ref03_reading_body_j6 r_ref03_reading_fields a1 a2 a3 x60 x61 (decide (x61.2 > 1000))
       )
      ) else (
       ref03_reading_body_j6 r_ref03_reading_fields a1 a2 a3 x60 x61 false
      )
     ) else (
      ref03_reading_body_j1 a1 a0.f_b a0.f_at a0.f_n a0.f_place a0.f_why a1.bool a1.int a1.float a1.text a1.bytes a1.ref ([]) a1.fields a1.cls a1.ver
     )
    )
   )
  )
 )
theorem ref03_reading_body_j3_cm {ι : Type} {ρ : ι → Type} (r_ref03_reading_fields : (∀ i, Option (ρ i)) → S_ref03_reading → Int → Int → Option (S_ref03_reading × (List (Str × Term)))) (h_r_ref03_reading_fields : ∀ y0 y1 y2, CM (fun G => r_ref03_reading_fields G y0 y1 y2)) (r_ref03_reading_term : (∀ i, Option (ρ i)) → S_ref03_reading → Int → Option (S_ref03_reading × Term)) (h_r_ref03_reading_term : ∀ y0 y1, CM (fun G => r_ref03_reading_term G y0 y1)) (a0 : S_ref03_reading) (a1 : Term) (a2 : Int) (a3 : Int) (s35 : Bool) : CM (fun G : (∀ i, Option (ρ i)) => ref03_reading_body_j3 (r_ref03_reading_fields G) (r_ref03_reading_term G) a0 a1 a2 a3 s35) := by
 simp only [ref03_reading_body_j3]
 repeat (first | exact cm_const | exact h_r_ref03_reading_fields _ _ _ | exact h_r_ref03_reading_term _ _ | apply ref03_reading_body_j1_cm | apply ref03_reading_body_j6_cm | apply ref03_reading_body_l2_cm | refine cm_cond ?_ ?_ | refine cm_bind ?_ (fun _ => ?_) | intro _ | assumption)
noncomputable def b_ref03_reading_body (r_ref03_reading_fields : S_ref03_reading → Int → Int → Option (S_ref03_reading × (List (Str × Term)))) (r_ref03_reading_body : S_ref03_reading → Term → Int → Int → Option (S_ref03_reading × Term)) (r_ref03_reading_term : S_ref03_reading → Int → Option (S_ref03_reading × Term)) (a0 : S_ref03_reading) (a1 : Term) (a2 : Int) (a3 : Int) : Option (S_ref03_reading × Term) :=
 bif (a1.kind == 2) then (
  Option.bind (p_ref03_reading_one a0) fun x17 =>
  bif ((x17.1).f_why == 0) then (
   ref03_reading_body_j2 a1 x17 (decide (((x17.2).toNat : Int) > (((1 : UInt8)).toNat : Int)))
  ) else (
   ref03_reading_body_j2 a1 x17 false
  )
 ) else (
  bif (a1.kind == 3) then (
   Option.bind (p_ref03_reading_number a0) fun x23 =>
   bif ((Int.tmod x23.2 2) == 1) then (
    ref03_reading_body_j1 a1 ((x23.1).f_b) ((x23.1).f_at) ((x23.1).f_n) ((x23.1).f_place) ((x23.1).f_why) a1.bool (IntKind.i64.wrap ((IntKind.i64.wrap (0 - (IntKind.i64.wrap (IntKind.u64.wrap (Int.tdiv x23.2 2))))) - 1)) a1.float a1.text a1.bytes a1.ref ([]) a1.fields a1.cls a1.ver
   ) else (
    ref03_reading_body_j1 a1 ((x23.1).f_b) ((x23.1).f_at) ((x23.1).f_n) ((x23.1).f_place) ((x23.1).f_why) a1.bool (IntKind.i64.wrap (IntKind.u64.wrap (Int.tdiv x23.2 2))) a1.float a1.text a1.bytes a1.ref ([]) a1.fields a1.cls a1.ver
   )
  ) else (
   bif (a1.kind == 4) then (
    ref03_reading_body_l1 a1 0 0 a0.f_b a0.f_at a0.f_n a0.f_place a0.f_why
   ) else (
    bif (a1.kind == 5) then (
     ref03_reading_body_j3 r_ref03_reading_fields r_ref03_reading_term a0 a1 a2 a3 (a1.kind == 5)
    ) else (
     ref03_reading_body_j3 r_ref03_reading_fields r_ref03_reading_term a0 a1 a2 a3 (a1.kind == 6)
    )
   )
  )
 )
theorem b_ref03_reading_body_cm {ι : Type} {ρ : ι → Type} (r_ref03_reading_fields : (∀ i, Option (ρ i)) → S_ref03_reading → Int → Int → Option (S_ref03_reading × (List (Str × Term)))) (h_r_ref03_reading_fields : ∀ y0 y1 y2, CM (fun G => r_ref03_reading_fields G y0 y1 y2)) (r_ref03_reading_body : (∀ i, Option (ρ i)) → S_ref03_reading → Term → Int → Int → Option (S_ref03_reading × Term)) (h_r_ref03_reading_body : ∀ y0 y1 y2 y3, CM (fun G => r_ref03_reading_body G y0 y1 y2 y3)) (r_ref03_reading_term : (∀ i, Option (ρ i)) → S_ref03_reading → Int → Option (S_ref03_reading × Term)) (h_r_ref03_reading_term : ∀ y0 y1, CM (fun G => r_ref03_reading_term G y0 y1)) (a0 : S_ref03_reading) (a1 : Term) (a2 : Int) (a3 : Int) : CM (fun G : (∀ i, Option (ρ i)) => b_ref03_reading_body (r_ref03_reading_fields G) (r_ref03_reading_body G) (r_ref03_reading_term G) a0 a1 a2 a3) := by
 simp only [b_ref03_reading_body]
 repeat (first | exact cm_const | exact h_r_ref03_reading_fields _ _ _ | exact h_r_ref03_reading_body _ _ _ _ | exact h_r_ref03_reading_term _ _ | apply ref03_reading_body_j1_cm | apply ref03_reading_body_j2_cm | apply ref03_reading_body_j3_cm | apply ref03_reading_body_l1_cm | refine cm_cond ?_ ?_ | refine cm_bind ?_ (fun _ => ?_) | intro _ | assumption)
noncomputable def ref03_reading_term_j2 (r_ref03_reading_body : S_ref03_reading → Term → Int → Int → Option (S_ref03_reading × Term)) (a0 : S_ref03_reading) (a1 : Int) (x7 : (S_ref03_reading × UInt8)) (s8 : Bool) : Option (S_ref03_reading × Term) :=
 bif s8 then (
  Option.bind (p_ref03_reading_bad (x7.1) a0.f_at 30) fun x10 =>
  some (x10, (Term.mk 0 false 0 0 [] [] 0 [] [] [] 0))
 ) else (
  Option.bind (r_ref03_reading_body (x7.1) (Term.mk ((x7.2).toNat : Int) false 0 0 [] [] 0 [] [] [] 0) a0.f_at a1) fun x11 =>
  some ((x11.1), (x11.2))
 )
theorem ref03_reading_term_j2_cm {ι : Type} {ρ : ι → Type} (r_ref03_reading_body : (∀ i, Option (ρ i)) → S_ref03_reading → Term → Int → Int → Option (S_ref03_reading × Term)) (h_r_ref03_reading_body : ∀ y0 y1 y2 y3, CM (fun G => r_ref03_reading_body G y0 y1 y2 y3)) (a0 : S_ref03_reading) (a1 : Int) (x7 : (S_ref03_reading × UInt8)) (s8 : Bool) : CM (fun G : (∀ i, Option (ρ i)) => ref03_reading_term_j2 (r_ref03_reading_body G) a0 a1 x7 s8) := by
 simp only [ref03_reading_term_j2]
 repeat (first | exact cm_const | exact h_r_ref03_reading_body _ _ _ _ | refine cm_cond ?_ ?_ | refine cm_bind ?_ (fun _ => ?_))
noncomputable def ref03_reading_term_j1 (r_ref03_reading_body : S_ref03_reading → Term → Int → Int → Option (S_ref03_reading × Term)) (a0 : S_ref03_reading) (a1 : Int) (s4 : Bool) : Option (S_ref03_reading × Term) :=
 bif s4 then (
  Option.bind (p_ref03_reading_bad a0 a0.f_at 2) fun x6 =>
  some (x6, (Term.mk 0 false 0 0 [] [] 0 [] [] [] 0))
 ) else (
  Option.bind (p_ref03_reading_one (S_ref03_reading.mk a0.f_b a0.f_at (IntKind.i64.wrap (a0.f_n + 1)) a0.f_place a0.f_why)) fun x7 =>
  bif (decide (((x7.2).toNat : Int) < (((1 : UInt8)).toNat : Int))) then (
   ref03_reading_term_j2 r_ref03_reading_body a0 a1 x7 true
  ) else (
   ref03_reading_term_j2 r_ref03_reading_body a0 a1 x7 (decide (((x7.2).toNat : Int) > (((10 : UInt8)).toNat : Int)))
  )
 )
theorem ref03_reading_term_j1_cm {ι : Type} {ρ : ι → Type} (r_ref03_reading_body : (∀ i, Option (ρ i)) → S_ref03_reading → Term → Int → Int → Option (S_ref03_reading × Term)) (h_r_ref03_reading_body : ∀ y0 y1 y2 y3, CM (fun G => r_ref03_reading_body G y0 y1 y2 y3)) (a0 : S_ref03_reading) (a1 : Int) (s4 : Bool) : CM (fun G : (∀ i, Option (ρ i)) => ref03_reading_term_j1 (r_ref03_reading_body G) a0 a1 s4) := by
 simp only [ref03_reading_term_j1]
 repeat (first | exact cm_const | exact h_r_ref03_reading_body _ _ _ _ | apply ref03_reading_term_j2_cm | refine cm_cond ?_ ?_ | refine cm_bind ?_ (fun _ => ?_) | intro _ | assumption)
noncomputable def b_ref03_reading_term (r_ref03_reading_fields : S_ref03_reading → Int → Int → Option (S_ref03_reading × (List (Str × Term)))) (r_ref03_reading_body : S_ref03_reading → Term → Int → Int → Option (S_ref03_reading × Term)) (r_ref03_reading_term : S_ref03_reading → Int → Option (S_ref03_reading × Term)) (a0 : S_ref03_reading) (a1 : Int) : Option (S_ref03_reading × Term) :=
 bif (a0.f_why != 0) then (
  some (a0, (Term.mk 0 false 0 0 [] [] 0 [] [] [] 0))
 ) else (
  bif (a0.f_at == (((a0.f_b).length : Nat) : Int)) then (
   Option.bind (p_ref03_reading_bad a0 a0.f_at 4) fun x3 =>
   some (x3, (Term.mk 0 false 0 0 [] [] 0 [] [] [] 0))
  ) else (
   bif (decide (a0.f_n ≥ 16384)) then (
    ref03_reading_term_j1 r_ref03_reading_body a0 a1 true
   ) else (
    ref03_reading_term_j1 r_ref03_reading_body a0 a1 (decide (a1 > 64))
   )
  )
 )
theorem b_ref03_reading_term_cm {ι : Type} {ρ : ι → Type} (r_ref03_reading_fields : (∀ i, Option (ρ i)) → S_ref03_reading → Int → Int → Option (S_ref03_reading × (List (Str × Term)))) (h_r_ref03_reading_fields : ∀ y0 y1 y2, CM (fun G => r_ref03_reading_fields G y0 y1 y2)) (r_ref03_reading_body : (∀ i, Option (ρ i)) → S_ref03_reading → Term → Int → Int → Option (S_ref03_reading × Term)) (h_r_ref03_reading_body : ∀ y0 y1 y2 y3, CM (fun G => r_ref03_reading_body G y0 y1 y2 y3)) (r_ref03_reading_term : (∀ i, Option (ρ i)) → S_ref03_reading → Int → Option (S_ref03_reading × Term)) (h_r_ref03_reading_term : ∀ y0 y1, CM (fun G => r_ref03_reading_term G y0 y1)) (a0 : S_ref03_reading) (a1 : Int) : CM (fun G : (∀ i, Option (ρ i)) => b_ref03_reading_term (r_ref03_reading_fields G) (r_ref03_reading_body G) (r_ref03_reading_term G) a0 a1) := by
 simp only [b_ref03_reading_term]
 repeat (first | exact cm_const | exact h_r_ref03_reading_fields _ _ _ | exact h_r_ref03_reading_body _ _ _ _ | exact h_r_ref03_reading_term _ _ | apply ref03_reading_term_j1_cm | refine cm_cond ?_ ?_ | refine cm_bind ?_ (fun _ => ?_) | intro _ | assumption)
inductive C_ref03_reading_fields where
 | k_ref03_reading_fields (a0 : S_ref03_reading) (a1 : Int) (a2 : Int)
 | k_ref03_reading_body (a0 : S_ref03_reading) (a1 : Term) (a2 : Int) (a3 : Int)
 | k_ref03_reading_term (a0 : S_ref03_reading) (a1 : Int)
def C_ref03_reading_fields.R : C_ref03_reading_fields → Type
 | .k_ref03_reading_fields _ _ _ => (S_ref03_reading × (List (Str × Term)))
 | .k_ref03_reading_body _ _ _ _ => (S_ref03_reading × Term)
 | .k_ref03_reading_term _ _ => (S_ref03_reading × Term)
noncomputable def C_ref03_reading_fields.F (g : ∀ i : C_ref03_reading_fields, Option i.R) : ∀ i : C_ref03_reading_fields, Option i.R
 | .k_ref03_reading_fields a0 a1 a2 => b_ref03_reading_fields (fun a0 a1 a2 => g (.k_ref03_reading_fields a0 a1 a2)) (fun a0 a1 a2 a3 => g (.k_ref03_reading_body a0 a1 a2 a3)) (fun a0 a1 => g (.k_ref03_reading_term a0 a1)) a0 a1 a2
 | .k_ref03_reading_body a0 a1 a2 a3 => b_ref03_reading_body (fun a0 a1 a2 => g (.k_ref03_reading_fields a0 a1 a2)) (fun a0 a1 a2 a3 => g (.k_ref03_reading_body a0 a1 a2 a3)) (fun a0 a1 => g (.k_ref03_reading_term a0 a1)) a0 a1 a2 a3
 | .k_ref03_reading_term a0 a1 => b_ref03_reading_term (fun a0 a1 a2 => g (.k_ref03_reading_fields a0 a1 a2)) (fun a0 a1 a2 a3 => g (.k_ref03_reading_body a0 a1 a2 a3)) (fun a0 a1 => g (.k_ref03_reading_term a0 a1)) a0 a1
noncomputable def p_ref03_reading_fields (a0 : S_ref03_reading) (a1 : Int) (a2 : Int) : Option (S_ref03_reading × (List (Str × Term))) := fixO C_ref03_reading_fields.F (.k_ref03_reading_fields a0 a1 a2)
noncomputable def p_ref03_reading_body (a0 : S_ref03_reading) (a1 : Term) (a2 : Int) (a3 : Int) : Option (S_ref03_reading × Term) := fixO C_ref03_reading_fields.F (.k_ref03_reading_body a0 a1 a2 a3)
noncomputable def p_ref03_reading_term (a0 : S_ref03_reading) (a1 : Int) : Option (S_ref03_reading × Term) := fixO C_ref03_reading_fields.F (.k_ref03_reading_term a0 a1)
theorem C_ref03_reading_fields.cm (i : C_ref03_reading_fields) : CM (fun g : (∀ i : C_ref03_reading_fields, Option i.R) => C_ref03_reading_fields.F g i) := by
 cases i with
 | k_ref03_reading_fields a0 a1 a2 => exact b_ref03_reading_fields_cm (fun (g : ∀ i : C_ref03_reading_fields, Option i.R) a0 a1 a2 => g (.k_ref03_reading_fields a0 a1 a2)) (fun a0 a1 a2 => cm_app (i := C_ref03_reading_fields.k_ref03_reading_fields a0 a1 a2)) (fun (g : ∀ i : C_ref03_reading_fields, Option i.R) a0 a1 a2 a3 => g (.k_ref03_reading_body a0 a1 a2 a3)) (fun a0 a1 a2 a3 => cm_app (i := C_ref03_reading_fields.k_ref03_reading_body a0 a1 a2 a3)) (fun (g : ∀ i : C_ref03_reading_fields, Option i.R) a0 a1 => g (.k_ref03_reading_term a0 a1)) (fun a0 a1 => cm_app (i := C_ref03_reading_fields.k_ref03_reading_term a0 a1)) a0 a1 a2
 | k_ref03_reading_body a0 a1 a2 a3 => exact b_ref03_reading_body_cm (fun (g : ∀ i : C_ref03_reading_fields, Option i.R) a0 a1 a2 => g (.k_ref03_reading_fields a0 a1 a2)) (fun a0 a1 a2 => cm_app (i := C_ref03_reading_fields.k_ref03_reading_fields a0 a1 a2)) (fun (g : ∀ i : C_ref03_reading_fields, Option i.R) a0 a1 a2 a3 => g (.k_ref03_reading_body a0 a1 a2 a3)) (fun a0 a1 a2 a3 => cm_app (i := C_ref03_reading_fields.k_ref03_reading_body a0 a1 a2 a3)) (fun (g : ∀ i : C_ref03_reading_fields, Option i.R) a0 a1 => g (.k_ref03_reading_term a0 a1)) (fun a0 a1 => cm_app (i := C_ref03_reading_fields.k_ref03_reading_term a0 a1)) a0 a1 a2 a3
 | k_ref03_reading_term a0 a1 => exact b_ref03_reading_term_cm (fun (g : ∀ i : C_ref03_reading_fields, Option i.R) a0 a1 a2 => g (.k_ref03_reading_fields a0 a1 a2)) (fun a0 a1 a2 => cm_app (i := C_ref03_reading_fields.k_ref03_reading_fields a0 a1 a2)) (fun (g : ∀ i : C_ref03_reading_fields, Option i.R) a0 a1 a2 a3 => g (.k_ref03_reading_body a0 a1 a2 a3)) (fun a0 a1 a2 a3 => cm_app (i := C_ref03_reading_fields.k_ref03_reading_body a0 a1 a2 a3)) (fun (g : ∀ i : C_ref03_reading_fields, Option i.R) a0 a1 => g (.k_ref03_reading_term a0 a1)) (fun a0 a1 => cm_app (i := C_ref03_reading_fields.k_ref03_reading_term a0 a1)) a0 a1
theorem e_ref03_reading_fields (a0 : S_ref03_reading) (a1 : Int) (a2 : Int) : p_ref03_reading_fields a0 a1 a2 = b_ref03_reading_fields p_ref03_reading_fields p_ref03_reading_body p_ref03_reading_term a0 a1 a2 := fixO_eq C_ref03_reading_fields.cm (.k_ref03_reading_fields a0 a1 a2)
theorem e_ref03_reading_body (a0 : S_ref03_reading) (a1 : Term) (a2 : Int) (a3 : Int) : p_ref03_reading_body a0 a1 a2 a3 = b_ref03_reading_body p_ref03_reading_fields p_ref03_reading_body p_ref03_reading_term a0 a1 a2 a3 := fixO_eq C_ref03_reading_fields.cm (.k_ref03_reading_body a0 a1 a2 a3)
theorem e_ref03_reading_term (a0 : S_ref03_reading) (a1 : Int) : p_ref03_reading_term a0 a1 = b_ref03_reading_term p_ref03_reading_fields p_ref03_reading_body p_ref03_reading_term a0 a1 := fixO_eq C_ref03_reading_fields.cm (.k_ref03_reading_term a0 a1)
def C_ref03_reading_fields.Q : ∀ i : C_ref03_reading_fields, i.R → Prop
 | .k_ref03_reading_fields a0 a1 a2 => fun (r : (S_ref03_reading × (List (Str × Term)))) => PCalls Try.prog 72 [(of_ref03_reading a0), (I64 a1), (I64 a2)] (PV.tup [(of_ref03_reading r.1), (PV.sl none 86 12 (List.map ofEntry r.2))])
 | .k_ref03_reading_body a0 a1 a2 a3 => fun (r : (S_ref03_reading × Term)) => PCalls Try.prog 55 [(of_ref03_reading a0), (PV.agg [(I64 a1.kind), (BO a1.bool), (I64 a1.int), (PV.v (.float .f64 a1.float)), (ofStr a1.text), (PV.sl none 5 1 (List.map ofB a1.bytes)), (PV.v (.int .u64 a1.ref)), (PV.v (.slice none 0 0)), (PV.sl none 86 12 (List.map ofEntry a1.fields)), (ofStr a1.cls), (I64 a1.ver)]), (I64 a2), (I64 a3)] (PV.tup [(of_ref03_reading r.1), (ofTermX r.2)])
 | .k_ref03_reading_term a0 a1 => fun (r : (S_ref03_reading × Term)) => PCalls Try.prog 37 [(of_ref03_reading a0), (I64 a1)] (PV.tup [(of_ref03_reading r.1), (ofTermX r.2)])
theorem t_ref03_reading_fields (r_ref03_reading_fields : S_ref03_reading → Int → Int → Option (S_ref03_reading × (List (Str × Term)))) (c_ref03_reading_fields : ∀ (a0 : S_ref03_reading) (a1 : Int) (a2 : Int) r, r_ref03_reading_fields a0 a1 a2 = some r → PCalls Try.prog 72 [(of_ref03_reading a0), (I64 a1), (I64 a2)] (PV.tup [(of_ref03_reading r.1), (PV.sl none 86 12 (List.map ofEntry r.2))])) (r_ref03_reading_body : S_ref03_reading → Term → Int → Int → Option (S_ref03_reading × Term)) (c_ref03_reading_body : ∀ (a0 : S_ref03_reading) (a1 : Term) (a2 : Int) (a3 : Int) r, r_ref03_reading_body a0 a1 a2 a3 = some r → PCalls Try.prog 55 [(of_ref03_reading a0), (PV.agg [(I64 a1.kind), (BO a1.bool), (I64 a1.int), (PV.v (.float .f64 a1.float)), (ofStr a1.text), (PV.sl none 5 1 (List.map ofB a1.bytes)), (PV.v (.int .u64 a1.ref)), (PV.v (.slice none 0 0)), (PV.sl none 86 12 (List.map ofEntry a1.fields)), (ofStr a1.cls), (I64 a1.ver)]), (I64 a2), (I64 a3)] (PV.tup [(of_ref03_reading r.1), (ofTermX r.2)])) (r_ref03_reading_term : S_ref03_reading → Int → Option (S_ref03_reading × Term)) (c_ref03_reading_term : ∀ (a0 : S_ref03_reading) (a1 : Int) r, r_ref03_reading_term a0 a1 = some r → PCalls Try.prog 37 [(of_ref03_reading a0), (I64 a1)] (PV.tup [(of_ref03_reading r.1), (ofTermX r.2)])) (a0 : S_ref03_reading) (a1 : Int) (a2 : Int) (r : (S_ref03_reading × (List (Str × Term)))) (h : b_ref03_reading_fields r_ref03_reading_fields r_ref03_reading_body r_ref03_reading_term a0 a1 a2 = some r) : PCalls Try.prog 72 [(of_ref03_reading a0), (I64 a1), (I64 a2)] (PV.tup [(of_ref03_reading r.1), (PV.sl none 86 12 (List.map ofEntry r.2))]) := by
 unfold b_ref03_reading_fields at h
 refine acalls_of Try.func72 rfl Try.ntmps72 Try.results72 rfl (aw_of_bw ?_)
 change BW _ _ _ ⟨[(0, (of_ref03_reading a0)), (1, (I64 a1)), (2, (I64 a2))], [], _⟩ _
 refine bR ?_
 refine sS rfl rfl rfl (op1_box rfl rfl rfl) ?_
 refine sS rfl rfl rfl (op1_alloc inf_78 rfl) ?_
 refine sA rfl rfl rfl rfl rfl (ao_nil ?_)
 change BW _ _ _ _ _
 refine bR ?_
 refine sS rfl rfl rfl ((op1_bslice (xs := []) Try.underlying27 inf_86 rfl rfl rfl rfl rfl rfl ⟨Nat.le_of_ble_eq_true rfl, Nat.le_of_ble_eq_true rfl⟩ rfl).cast (y := (PV.sl (some 2) 86 12 (List.map ofEntry ([] : (List (Str × Term)))))) rfl rfl) ?_
 refine sA rfl rfl rfl rfl rfl (ao_nil ?_)
 change BW _ _ _ _ _
 refine bR ?_
 refine sS rfl rfl rfl ((op1_ldRA inf_78 Try.underlying78 rfl rfl rfl rfl rfl rfl)) ?_
 refine sM rfl rfl rfl rfl rfl ?_
 obtain ⟨x1, hx1, h⟩ := obind h
 refine sS rfl rfl rfl (op1_pcall rfl en_70 rfl (.cons (Wk.refl _) (.cons (Wk.refl _) (.cons (Wk.refl _) (.cons (Wk.refl _) .nil)))) ⟨(ids_S_ref03_reading a0), ⟨rfl, ⟨rfl, ⟨rfl, trivial⟩⟩⟩⟩ (s_ref03_reading_long a0 4096 a1 2 x1 hx1) (ids_tup_cons (ids_S_ref03_reading x1.1) (ids_tup_cons rfl ids_tup_nil))) ?_
 refine sM rfl rfl rfl rfl rfl ?_
 refine sS rfl rfl rfl (op1_ext rfl rfl rfl) ?_
 refine sS rfl rfl rfl (op1_ext rfl rfl rfl) ?_
 refine ao_step0 rfl rfl (op1_store inf_78 rfl rfl rfl rfl rfl rfl (Nat.le_of_ble_eq_true rfl) rfl) ?_
 refine sA rfl rfl rfl rfl rfl (ao_nil ?_)
 change BW _ _ _ _ _
 refine bw_seq ?_
 refine bR ?_
 refine sA rfl rfl rfl rfl rfl (ao_nil ?_)
 change BW _ _ _ _ _
 refine bw_block ?_
 change BW _ _ _ _ _
 unfold ref03_reading_fields_l1 at h
 refine bw_loop (σ := ((List (Str × Term)) × Int × Str × Int × Int × Int × Int)) (fun i => [(1, (I64 a1)), (2, (I64 a2)), (3, (PV.rf 0 0)), (6, (PV.rf 1 0)), (8, (PV.sl (some 2) 86 12 (List.map ofEntry i.1))), (9, (PV.v (.int .u64 x1.2))), (10, (PV.v (.int .u64 i.2.1)))]) (fun i => [.box 78 [(PV.sl none 5 1 (List.map ofB i.2.2.1)), (I64 i.2.2.2.1), (I64 i.2.2.2.2.1), (I64 i.2.2.2.2.2.1), (I64 i.2.2.2.2.2.2)], .box 78 [(PV.v (.slice none 0 0)), (I64 0), (I64 0), (I64 0), (I64 0)], .arr 86 (i.1).length]) (([] : (List (Str × Term))), 0, (x1.1).f_b, (x1.1).f_at, (x1.1).f_n, (x1.1).f_place, (x1.1).f_why) h ?_ ?_ ?_
 ·intro i; exact ⟨Nat.le_of_ble_eq_true rfl, ⟨(il_nil rfl), ⟨(il_nil rfl), ⟨(il_rf rfl), ⟨(il_rf rfl), ⟨(il_tok rfl (ids_map ids_Entry _)), ⟨(il_nil rfl), ⟨(il_nil rfl), trivial⟩⟩⟩⟩⟩⟩⟩, ⟨⟨(il_nil (ids_slM (fun _ => rfl) _)), ⟨(il_nil rfl), ⟨(il_nil rfl), ⟨(il_nil rfl), ⟨(il_nil rfl), trivial⟩⟩⟩⟩⟩, ⟨⟨(il_nil rfl), ⟨(il_nil rfl), ⟨(il_nil rfl), ⟨(il_nil rfl), ⟨(il_nil rfl), trivial⟩⟩⟩⟩⟩, trivial⟩⟩⟩
 ·exact ⟨(.cons .same (.cons .same (.cons .same .nil))), (sC rfl (sC rfl (sC rfl (sC rfl (sC rfl (sC rfl (sC rfl sub_nil)))))))⟩
 ·rintro g1_f ⟨s2, s3, s4, s5, s6, s7, s8⟩ h; replace h : ref03_reading_fields_l1b r_ref03_reading_term a1 a2 x1 (fun y0 y1 y2 y3 y4 y5 y6 => g1_f (y0, y1, y2, y3, y4, y5, y6)) s2 s3 s4 s5 s6 s7 s8 = some r := h; unfold ref03_reading_fields_l1b at h
  change BW _ _ _ ⟨[(1, (I64 a1)), (2, (I64 a2)), (3, (PV.rf 0 0)), (6, (PV.rf 1 0)), (8, (PV.sl (some 2) 86 12 (List.map ofEntry s2))), (9, (PV.v (.int .u64 x1.2))), (10, (PV.v (.int .u64 s3)))], [.box 78 [(PV.sl none 5 1 (List.map ofB s4)), (I64 s5), (I64 s6), (I64 s7), (I64 s8)], .box 78 [(PV.v (.slice none 0 0)), (I64 0), (I64 0), (I64 0), (I64 0)], .arr 86 (s2).length], _⟩ _
  refine bw_seq ?_
  refine bw_seqJ (ι := Bool) (fun i => ref03_reading_fields_j1 r_ref03_reading_term (fun y0 y1 y2 y3 y4 y5 y6 => g1_f (y0, y1, y2, y3, y4, y5, y6)) a1 a2 s2 s3 s4 s5 s6 s7 s8 i = some r) (fun i => [(1, (I64 a1)), (2, (I64 a2)), (3, (PV.rf 0 0)), (6, (PV.rf 1 0)), (8, (PV.sl (some 2) 86 12 (List.map ofEntry s2))), (9, (PV.v (.int .u64 x1.2))), (10, (PV.v (.int .u64 s3))), (26, (BO i))]) (fun i => [.box 78 [(PV.sl none 5 1 (List.map ofB s4)), (I64 s5), (I64 s6), (I64 s7), (I64 s8)], .box 78 [(PV.v (.slice none 0 0)), (I64 0), (I64 0), (I64 0), (I64 0)], .arr 86 (s2).length]) ?_ ?_ ?_
  ·intro i; exact ⟨Nat.le_of_ble_eq_true rfl, ⟨(il_nil rfl), ⟨(il_nil rfl), ⟨(il_rf rfl), ⟨(il_rf rfl), ⟨(il_tok rfl (ids_map ids_Entry _)), ⟨(il_nil rfl), ⟨(il_nil rfl), ⟨(il_nil rfl), trivial⟩⟩⟩⟩⟩⟩⟩⟩, ⟨⟨(il_nil (ids_slM (fun _ => rfl) _)), ⟨(il_nil rfl), ⟨(il_nil rfl), ⟨(il_nil rfl), ⟨(il_nil rfl), trivial⟩⟩⟩⟩⟩, ⟨⟨(il_nil rfl), ⟨(il_nil rfl), ⟨(il_nil rfl), ⟨(il_nil rfl), ⟨(il_nil rfl), trivial⟩⟩⟩⟩⟩, trivial⟩⟩⟩
  ·rintro s9 h; replace h : ref03_reading_fields_j1 r_ref03_reading_term (fun y0 y1 y2 y3 y4 y5 y6 => g1_f (y0, y1, y2, y3, y4, y5, y6)) a1 a2 s2 s3 s4 s5 s6 s7 s8 s9 = some r := h; unfold ref03_reading_fields_j1 at h
   change BW _ _ _ ⟨[(1, (I64 a1)), (2, (I64 a2)), (3, (PV.rf 0 0)), (6, (PV.rf 1 0)), (8, (PV.sl (some 2) 86 12 (List.map ofEntry s2))), (9, (PV.v (.int .u64 x1.2))), (10, (PV.v (.int .u64 s3))), (26, (BO s9))], [.box 78 [(PV.sl none 5 1 (List.map ofB s4)), (I64 s5), (I64 s6), (I64 s7), (I64 s8)], .box 78 [(PV.v (.slice none 0 0)), (I64 0), (I64 0), (I64 0), (I64 0)], .arr 86 (s2).length], _⟩ _
   refine bw_cond rfl ?_ ?_
   ·intro hc10; replace h := ocond_t hc10 h
    refine bw_skip ?_
    change BW _ _ _ _ _
    refine bw_seq ?_
    refine bw_block ?_
    change BW _ _ _ _ _
    refine bR ?_
    refine sS rfl rfl rfl (op1_build (cs := [(ofStr []), (I64 0), (BO false), (I64 0), (PV.v (.float .f64 0)), (ofStr []), (PV.v (.slice none 0 0)), (PV.v (.int .u64 0)), (PV.v (.slice none 0 0)), (PV.v (.slice none 0 0)), (ofStr []), (I64 0)]) st_86 inf_86 rfl rfl rfl rfl) ?_
    refine sS rfl rfl rfl (op1_alloc inf_86 rfl) ?_
    refine ao_step0 rfl rfl (op1_store inf_86 rfl rfl rfl rfl rfl rfl (Nat.le_of_ble_eq_true rfl) rfl) ?_
    refine ao_nil ?_
    change BW _ _ _ _ _
    refine bR ?_
    refine sS rfl rfl rfl ((op1_ldRA inf_78 Try.underlying78 rfl rfl rfl rfl rfl rfl)) ?_
    refine sM rfl rfl rfl rfl rfl ?_
    obtain ⟨x11, hx11, h⟩ := obind h
    refine sS rfl rfl rfl (op1_pcall rfl en_73 rfl (.cons (Wk.refl _) (.cons (Wk.refl _) .nil)) ⟨(ids_S_ref03_reading (S_ref03_reading.mk s4 s5 s6 s7 s8)), ⟨rfl, trivial⟩⟩ (s_ref03_reading_name (S_ref03_reading.mk s4 s5 s6 s7 s8) a1 x11 hx11) (ids_tup_cons (ids_S_ref03_reading x11.1) (ids_tup_cons rfl ids_tup_nil))) ?_
    refine sM rfl rfl rfl rfl rfl ?_
    refine sS rfl rfl rfl (op1_ext rfl rfl rfl) ?_
    refine sS rfl rfl rfl (op1_ext rfl rfl rfl) ?_
    refine ao_step0 rfl rfl (op1_store inf_78 rfl rfl rfl rfl rfl rfl (Nat.le_of_ble_eq_true rfl) rfl) ?_
    refine sS rfl rfl rfl (op1_faR st_86 (i := 0) rfl rfl rfl) ?_
    refine ao_step0 rfl rfl (op1_store inf_9 rfl rfl rfl rfl rfl rfl (Nat.le_of_ble_eq_true rfl) rfl) ?_
    refine ao_nil ?_
    change BW _ _ _ _ _
    refine bw_seqJ (ι := (Str × Int × Int × Int × Int)) (fun i => ref03_reading_fields_j2 r_ref03_reading_term (fun y0 y1 y2 y3 y4 y5 y6 => g1_f (y0, y1, y2, y3, y4, y5, y6)) a2 s2 s3 x11 i.1 i.2.1 i.2.2.1 i.2.2.2.1 i.2.2.2.2 = some r) (fun i => [(1, (I64 a1)), (2, (I64 a2)), (3, (PV.rf 0 0)), (6, (PV.rf 1 0)), (8, (PV.sl (some 2) 86 12 (List.map ofEntry s2))), (9, (PV.v (.int .u64 x1.2))), (10, (PV.v (.int .u64 s3))), (11, (PV.rf 3 0))]) (fun i => [.box 78 [(PV.sl none 5 1 (List.map ofB i.1)), (I64 i.2.1), (I64 i.2.2.1), (I64 i.2.2.2.1), (I64 i.2.2.2.2)], .box 78 [(PV.v (.slice none 0 0)), (I64 0), (I64 0), (I64 0), (I64 0)], .arr 86 (s2).length, .box 86 [(ofStr x11.2), (I64 0), (BO false), (I64 0), (PV.v (.float .f64 0)), (ofStr []), (PV.v (.slice none 0 0)), (PV.v (.int .u64 0)), (PV.v (.slice none 0 0)), (PV.v (.slice none 0 0)), (ofStr []), (I64 0)]]) ?_ ?_ ?_
    ·intro i; exact ⟨Nat.le_of_ble_eq_true rfl, ⟨(il_nil rfl), ⟨(il_nil rfl), ⟨(il_rf rfl), ⟨(il_rf rfl), ⟨(il_tok rfl (ids_map ids_Entry _)), ⟨(il_nil rfl), ⟨(il_nil rfl), ⟨(il_rf rfl), trivial⟩⟩⟩⟩⟩⟩⟩⟩, ⟨⟨(il_nil (ids_slM (fun _ => rfl) _)), ⟨(il_nil rfl), ⟨(il_nil rfl), ⟨(il_nil rfl), ⟨(il_nil rfl), trivial⟩⟩⟩⟩⟩, ⟨⟨(il_nil rfl), ⟨(il_nil rfl), ⟨(il_nil rfl), ⟨(il_nil rfl), ⟨(il_nil rfl), trivial⟩⟩⟩⟩⟩, ⟨⟨(il_nil rfl), ⟨(il_nil rfl), ⟨(il_nil rfl), ⟨(il_nil rfl), ⟨(il_nil rfl), ⟨(il_nil rfl), ⟨(il_nil rfl), ⟨(il_nil rfl), ⟨(il_nil rfl), ⟨(il_nil rfl), ⟨(il_nil rfl), ⟨(il_nil rfl), trivial⟩⟩⟩⟩⟩⟩⟩⟩⟩⟩⟩⟩, trivial⟩⟩⟩⟩
    ·rintro ⟨s12, s13, s14, s15, s16⟩ h; replace h : ref03_reading_fields_j2 r_ref03_reading_term (fun y0 y1 y2 y3 y4 y5 y6 => g1_f (y0, y1, y2, y3, y4, y5, y6)) a2 s2 s3 x11 s12 s13 s14 s15 s16 = some r := h; unfold ref03_reading_fields_j2 at h
     change BW _ _ _ ⟨[(1, (I64 a1)), (2, (I64 a2)), (3, (PV.rf 0 0)), (6, (PV.rf 1 0)), (8, (PV.sl (some 2) 86 12 (List.map ofEntry s2))), (9, (PV.v (.int .u64 x1.2))), (10, (PV.v (.int .u64 s3))), (11, (PV.rf 3 0))], [.box 78 [(PV.sl none 5 1 (List.map ofB s12)), (I64 s13), (I64 s14), (I64 s15), (I64 s16)], .box 78 [(PV.v (.slice none 0 0)), (I64 0), (I64 0), (I64 0), (I64 0)], .arr 86 (s2).length, .box 86 [(ofStr x11.2), (I64 0), (BO false), (I64 0), (PV.v (.float .f64 0)), (ofStr []), (PV.v (.slice none 0 0)), (PV.v (.int .u64 0)), (PV.v (.slice none 0 0)), (PV.v (.slice none 0 0)), (ofStr []), (I64 0)]], _⟩ _
     refine bR ?_
     refine sS rfl rfl rfl ((op1_ldRA inf_78 Try.underlying78 rfl rfl rfl rfl rfl rfl)) ?_
     refine sM rfl rfl rfl rfl rfl ?_
     refine sS rfl rfl rfl (op1_addW rfl rfl rfl) ?_
     obtain ⟨x17, hx17, h⟩ := obind h
     refine sS rfl rfl rfl (op1_pcall rfl en_37 rfl (.cons (Wk.refl _) (.cons (Wk.refl _) .nil)) ⟨(ids_S_ref03_reading (S_ref03_reading.mk s12 s13 s14 s15 s16)), ⟨rfl, trivial⟩⟩ (c_ref03_reading_term (S_ref03_reading.mk s12 s13 s14 s15 s16) (IntKind.i64.wrap (a2 + 1)) x17 hx17) (ids_tup_cons (ids_S_ref03_reading x17.1) (ids_tup_cons (ids_TermX x17.2) ids_tup_nil))) ?_
     refine sM rfl rfl rfl rfl rfl ?_
     refine sS rfl rfl rfl (op1_ext rfl rfl rfl) ?_
     refine sS rfl rfl rfl (op1_ext rfl rfl rfl) ?_
     refine ao_step0 rfl rfl (op1_store inf_78 rfl rfl rfl rfl rfl rfl (Nat.le_of_ble_eq_true rfl) rfl) ?_
     refine sS rfl rfl rfl (op1_faR st_86 (i := 1) rfl rfl rfl) ?_
     refine ao_step0 rfl rfl (op1_store inf_29 rfl rfl rfl rfl rfl rfl (Nat.le_of_ble_eq_true rfl) rfl) ?_
     refine ao_nil ?_
     change BW _ _ _ _ _
     refine bw_region ?_
     refine sM rfl rfl rfl rfl rfl ?_
     refine sS rfl rfl rfl ((op1_ldRA inf_86 Try.underlying86 rfl rfl rfl rfl rfl rfl)) ?_
     refine sS rfl rfl rfl ((op1_bslice (xs := [(PV.agg [(ofStr x11.2), (I64 ((x17.2).kind)), (BO ((x17.2).bool)), (I64 ((x17.2).int)), (PV.v (.float .f64 (x17.2).float)), (ofStr (x17.2).text), (PV.sl none 5 1 (List.map ofB (x17.2).bytes)), (PV.v (.int .u64 (x17.2).ref)), (PV.sl none 29 11 (List.map ofTerm (x17.2).list)), (PV.sl none 86 12 (List.map ofEntry (x17.2).fields)), (ofStr (x17.2).cls), (I64 ((x17.2).ver))])]) Try.underlying27 inf_86 rfl rfl rfl rfl rfl rfl ⟨Nat.le_of_ble_eq_true rfl, Nat.le_of_ble_eq_true rfl⟩ rfl).cast (y := (PV.sl (some 4) 86 12 (List.map ofEntry ([(x11.2, (x17.2))] : (List (Str × Term)))))) (by simp only [List.map_cons, List.map_nil, ofEntry_eq]; try rfl) rfl) ?_
     obtain ⟨x18, hx18, h⟩ := obind h
     refine sS rfl rfl rfl (op1_appM Try.underlying27 inf_86 rfl Try.underlying27 rfl rfl rfl rfl csz_Entry call1_Entry hx18 rfl) ?_
     refine sA rfl rfl rfl rfl rfl (ao_nil ?_)
     change BW _ _ _ _ _
     refine bw_region ?_
     refine sM rfl rfl rfl rfl rfl ?_
     refine sS rfl rfl rfl (op1_addW rfl rfl rfl) ?_
     refine sA rfl rfl rfl rfl rfl (ao_nil ?_)
     exact ⟨rfl, (x18, (IntKind.u64.wrap (s3 + 1)), (x17.1).f_b, (x17.1).f_at, (x17.1).f_n, (x17.1).f_place, (x17.1).f_why), h, ⟨(.cons .same (.cons .same (.cons .same .nil))), (sC rfl (sC rfl (sC rfl (sC rfl (sC rfl (sC rfl (sC rfl sub_nil)))))))⟩⟩
    ·refine bw_seqJ (ι := Bool) (fun i => ref03_reading_fields_j3 r_ref03_reading_term (fun y0 y1 y2 y3 y4 y5 y6 => g1_f (y0, y1, y2, y3, y4, y5, y6)) a1 a2 s2 s3 x11 i = some r) (fun i => [(1, (I64 a1)), (2, (I64 a2)), (3, (PV.rf 0 0)), (6, (PV.rf 1 0)), (8, (PV.sl (some 2) 86 12 (List.map ofEntry s2))), (9, (PV.v (.int .u64 x1.2))), (10, (PV.v (.int .u64 s3))), (11, (PV.rf 3 0)), (56, (BO i))]) (fun i => [.box 78 [(PV.sl none 5 1 (List.map ofB (x11.1).f_b)), (I64 ((x11.1).f_at)), (I64 ((x11.1).f_n)), (I64 ((x11.1).f_place)), (I64 ((x11.1).f_why))], .box 78 [(PV.v (.slice none 0 0)), (I64 0), (I64 0), (I64 0), (I64 0)], .arr 86 (s2).length, .box 86 [(ofStr x11.2), (I64 0), (BO false), (I64 0), (PV.v (.float .f64 0)), (ofStr []), (PV.v (.slice none 0 0)), (PV.v (.int .u64 0)), (PV.v (.slice none 0 0)), (PV.v (.slice none 0 0)), (ofStr []), (I64 0)]]) ?_ ?_ ?_
     ·intro i; exact ⟨Nat.le_of_ble_eq_true rfl, ⟨(il_nil rfl), ⟨(il_nil rfl), ⟨(il_rf rfl), ⟨(il_rf rfl), ⟨(il_tok rfl (ids_map ids_Entry _)), ⟨(il_nil rfl), ⟨(il_nil rfl), ⟨(il_rf rfl), ⟨(il_nil rfl), trivial⟩⟩⟩⟩⟩⟩⟩⟩⟩, ⟨⟨(il_nil (ids_slM (fun _ => rfl) _)), ⟨(il_nil rfl), ⟨(il_nil rfl), ⟨(il_nil rfl), ⟨(il_nil rfl), trivial⟩⟩⟩⟩⟩, ⟨⟨(il_nil rfl), ⟨(il_nil rfl), ⟨(il_nil rfl), ⟨(il_nil rfl), ⟨(il_nil rfl), trivial⟩⟩⟩⟩⟩, ⟨⟨(il_nil rfl), ⟨(il_nil rfl), ⟨(il_nil rfl), ⟨(il_nil rfl), ⟨(il_nil rfl), ⟨(il_nil rfl), ⟨(il_nil rfl), ⟨(il_nil rfl), ⟨(il_nil rfl), ⟨(il_nil rfl), ⟨(il_nil rfl), ⟨(il_nil rfl), trivial⟩⟩⟩⟩⟩⟩⟩⟩⟩⟩⟩⟩, trivial⟩⟩⟩⟩
     ·rintro s19 h; replace h : ref03_reading_fields_j3 r_ref03_reading_term (fun y0 y1 y2 y3 y4 y5 y6 => g1_f (y0, y1, y2, y3, y4, y5, y6)) a1 a2 s2 s3 x11 s19 = some r := h; unfold ref03_reading_fields_j3 at h
      change BW _ _ _ ⟨[(1, (I64 a1)), (2, (I64 a2)), (3, (PV.rf 0 0)), (6, (PV.rf 1 0)), (8, (PV.sl (some 2) 86 12 (List.map ofEntry s2))), (9, (PV.v (.int .u64 x1.2))), (10, (PV.v (.int .u64 s3))), (11, (PV.rf 3 0)), (56, (BO s19))], [.box 78 [(PV.sl none 5 1 (List.map ofB (x11.1).f_b)), (I64 ((x11.1).f_at)), (I64 ((x11.1).f_n)), (I64 ((x11.1).f_place)), (I64 ((x11.1).f_why))], .box 78 [(PV.v (.slice none 0 0)), (I64 0), (I64 0), (I64 0), (I64 0)], .arr 86 (s2).length, .box 86 [(ofStr x11.2), (I64 0), (BO false), (I64 0), (PV.v (.float .f64 0)), (ofStr []), (PV.v (.slice none 0 0)), (PV.v (.int .u64 0)), (PV.v (.slice none 0 0)), (PV.v (.slice none 0 0)), (ofStr []), (I64 0)]], _⟩ _
      refine bw_cond rfl ?_ ?_
      ·intro hc20; replace h := ocond_t hc20 h
       refine bw_region ?_
       refine sS rfl rfl rfl ((op1_ldRA inf_78 Try.underlying78 rfl rfl rfl rfl rfl rfl)) ?_
       refine sM rfl rfl rfl rfl rfl ?_
       obtain ⟨x21, hx21, h⟩ := obind h
       refine sS rfl rfl rfl (op1_pcall rfl en_53 rfl (.cons (Wk.refl _) (.cons (Wk.refl _) (.cons (Wk.refl _) .nil))) ⟨(ids_S_ref03_reading (x11.1)), ⟨rfl, ⟨rfl, trivial⟩⟩⟩ (s_ref03_reading_bad (x11.1) a1 8 x21 hx21) (ids_S_ref03_reading x21)) ?_
       refine ao_step0 rfl rfl (op1_store inf_78 rfl rfl rfl rfl rfl rfl (Nat.le_of_ble_eq_true rfl) rfl) ?_
       refine ao_nil ?_
       exact ⟨rfl, (x21.f_b, x21.f_at, x21.f_n, x21.f_place, x21.f_why), h, ⟨(.cons .same (.cons .same (.cons .same (.cons .same .nil)))), (sC rfl (sC rfl (sC rfl (sC rfl (sC rfl (sC rfl (sC rfl (sC rfl sub_nil))))))))⟩⟩
      ·intro hc20; replace h := ocond_f hc20 h
       refine bw_skip ?_
       exact ⟨rfl, ((x11.1).f_b, (x11.1).f_at, (x11.1).f_n, (x11.1).f_place, (x11.1).f_why), h, ⟨(.cons .same (.cons .same (.cons .same (.cons .same .nil)))), (sC rfl (sC rfl (sC rfl (sC rfl (sC rfl (sC rfl (sC rfl (sC rfl sub_nil))))))))⟩⟩
     ·refine bw_tail 18 [] [0, 3] mo (by kernel_rfl) ?_
      refine ac_go rfl rfl rfl rfl (fun H hp => op1_faR st_78 (i := 4) rfl rfl rfl) ?_
      refine ac_go rfl rfl rfl rfl (fun H hp => (op1_ldR Try.underlying31 rfl rfl rfl (hp.at rfl rfl) rfl)) ?_
      refine ac_go rfl rfl rfl rfl (fun H hp => (op1_cmp rfl rfl rfl rfl).cast (y := (BO (((x11.1).f_why == 0)))) rfl rfl) ?_
      refine ac_go rfl rfl rfl rfl (fun H hp => op1_move rfl rfl) ?_
      refine ac_cases 40 rfl ?_ ?_
      ·intro hb22; replace h := ocond_t hb22 h
       refine ac_yes rfl rfl rfl rfl rfl rfl rfl (fun H hp => op1_move rfl rfl) ?_
       refine ac_yes rfl rfl rfl rfl rfl rfl rfl (fun H hp => op1_lenM Try.underlying27 rfl rfl) ?_
       refine ac_yes rfl rfl rfl rfl rfl rfl rfl (fun H hp => (op1_cmp rfl rfl rfl rfl).cast (y := (BO ((decide ((((s2).length : Nat) : Int) > 0))))) rfl rfl) ?_
       refine ac_go rfl rfl rfl rfl (fun H hp => op1_pickT rfl rfl rfl) ?_
       refine ac_go rfl rfl rfl rfl (fun H hp => op1_move rfl rfl) ?_
       refine ac_cases 45 rfl ?_ ?_
       ·intro hb23; replace h := ocond_t hb23 h
        refine ac_yes rfl rfl rfl rfl rfl rfl rfl (fun H hp => op1_faR st_86 (i := 0) rfl rfl rfl) ?_
        refine ac_yes rfl rfl rfl rfl rfl rfl rfl (fun H hp => (op1_ldR Try.underlying9 rfl rfl rfl (hp.at rfl rfl) rfl)) ?_
        refine ac_yes rfl rfl rfl rfl rfl rfl rfl (fun H hp => op1_move rfl rfl) ?_
        refine ac_yes rfl rfl rfl rfl rfl rfl rfl (fun H hp => op1_move rfl rfl) ?_
        refine ac_yes rfl rfl rfl rfl rfl rfl rfl (fun H hp => op1_lenM Try.underlying27 rfl rfl) ?_
        refine ac_yes rfl rfl rfl rfl rfl rfl rfl (fun H hp => op1_subW rfl rfl rfl) ?_
        obtain ⟨x24, hx24, h⟩ := obind h
        refine ac_yes rfl rfl rfl rfl rfl rfl rfl (fun H hp => op1_idxM Try.underlying27 inf_86 rfl rfl rfl hx24 (ofEntry_eq _)) ?_
        refine ac_yes rfl rfl rfl rfl rfl rfl rfl (fun H hp => op1_faP st_86 (i := 0) rfl rfl rfl) ?_
        refine ac_yes rfl rfl rfl rfl rfl rfl rfl (fun H hp => op1_ldP (y := (ofStr x24.1)) Try.underlying9 rfl rfl rfl rfl) ?_
        refine ac_nil ?_
        change AO _ _ _ _ _
        refine ao_yes rfl rfl rfl rfl rfl rfl ((op1_cmpT (a := x11.2) (b := x24.1) rfl rfl rfl rfl).cast (y := (BO ((Op.bytesLess x11.2 x24.1 || x11.2 == x24.1)))) rfl rfl) ?_
        refine sS rfl rfl rfl (op1_pickT rfl rfl rfl) (ao_nil ?_)
        exact ⟨rfl, (Op.bytesLess x11.2 x24.1 || x11.2 == x24.1), h, ⟨(.cons .same (.cons .same (.cons .same (.cons .same .nil)))), (sC rfl (sC rfl (sC rfl (sC rfl (sC rfl (sC rfl (sC rfl (sC rfl (sC rfl sub_nil)))))))))⟩⟩
       ·intro hb23; replace h := ocond_f hb23 h
        refine ac_no rfl rfl rfl rfl rfl rfl rfl ?_
        refine ac_no rfl rfl rfl rfl rfl rfl rfl ?_
        refine ac_no rfl rfl rfl rfl rfl rfl rfl ?_
        refine ac_no rfl rfl rfl rfl rfl rfl rfl ?_
        refine ac_no rfl rfl rfl rfl rfl rfl rfl ?_
        refine ac_no rfl rfl rfl rfl rfl rfl rfl ?_
        refine ac_no rfl rfl rfl rfl rfl rfl rfl ?_
        refine ac_no rfl rfl rfl rfl rfl rfl rfl ?_
        refine ac_no rfl rfl rfl rfl rfl rfl rfl ?_
        refine ac_nil ?_
        change AO _ _ _ _ _
        refine ao_no rfl rfl rfl rfl rfl rfl ?_
        refine sS rfl rfl rfl (op1_pickF rfl rfl rfl) (ao_nil ?_)
        exact ⟨rfl, false, h, ⟨(.cons .same (.cons .same (.cons .same (.cons .same .nil)))), (sC rfl (sC rfl (sC rfl (sC rfl (sC rfl (sC rfl (sC rfl (sC rfl (sC rfl sub_nil)))))))))⟩⟩
      ·intro hb22; replace h := ocond_f hb22 h
       refine ac_no rfl rfl rfl rfl rfl rfl rfl ?_
       refine ac_no rfl rfl rfl rfl rfl rfl rfl ?_
       refine ac_no rfl rfl rfl rfl rfl rfl rfl ?_
       refine ac_go rfl rfl rfl rfl (fun H hp => op1_pickF rfl rfl rfl) ?_
       refine ac_go rfl rfl rfl rfl (fun H hp => op1_move rfl rfl) ?_
       refine ac_no rfl rfl rfl rfl rfl rfl rfl ?_
       refine ac_no rfl rfl rfl rfl rfl rfl rfl ?_
       refine ac_no rfl rfl rfl rfl rfl rfl rfl ?_
       refine ac_no rfl rfl rfl rfl rfl rfl rfl ?_
       refine ac_no rfl rfl rfl rfl rfl rfl rfl ?_
       refine ac_no rfl rfl rfl rfl rfl rfl rfl ?_
       refine ac_no rfl rfl rfl rfl rfl rfl rfl ?_
       refine ac_no rfl rfl rfl rfl rfl rfl rfl ?_
       refine ac_no rfl rfl rfl rfl rfl rfl rfl ?_
       refine ac_nil ?_
       change AO _ _ _ _ _
       refine ao_no rfl rfl rfl rfl rfl rfl ?_
       refine sS rfl rfl rfl (op1_pickF rfl rfl rfl) (ao_nil ?_)
       exact ⟨rfl, false, h, ⟨(.cons .same (.cons .same (.cons .same (.cons .same .nil)))), (sC rfl (sC rfl (sC rfl (sC rfl (sC rfl (sC rfl (sC rfl (sC rfl (sC rfl sub_nil)))))))))⟩⟩
   ·intro hc10; replace h := ocond_f hc10 h
    refine bw_exit ?_
    change BW _ _ _ _ _
    refine bR ?_
    refine sS rfl rfl rfl ((op1_ldRA inf_78 Try.underlying78 rfl rfl rfl rfl rfl rfl)) ?_
    refine sM rfl rfl rfl rfl rfl ?_
    refine ao_step0 rfl rfl (op1_store inf_78 rfl rfl rfl rfl rfl rfl (Nat.le_of_ble_eq_true rfl) rfl) ?_
    refine sA rfl rfl rfl rfl rfl (ao_nil ?_)
    change BW _ _ _ _ _
    refine bw_ret ?_
    change ∃ xs, _ = some xs ∧ EndOk _ _ _ _
    obtain rfl := Option.some.inj h
    exact ⟨_, rfl, endOk0 (y := (PV.tup [(of_ref03_reading (S_ref03_reading.mk s4 s5 s6 s7 s8)), (PV.sl none 86 12 (List.map ofEntry s2))])) (Wk.tup (.cons (Wk.refl _) (.cons Wk.tok .nil))) (ids_tup_cons (ids_S_ref03_reading (S_ref03_reading.mk s4 s5 s6 s7 s8)) (ids_tup_cons (ids_slM ids_Entry s2) ids_tup_nil)) ⟨rfl, rfl⟩⟩
  ·refine bw_region ?_
   refine sM rfl rfl rfl rfl rfl ?_
   refine sM rfl rfl rfl rfl rfl ?_
   refine sS rfl rfl rfl ((op1_cmp rfl rfl rfl rfl).cast (y := (BO ((decide (s3 < x1.2))))) rfl rfl) ?_
   refine sM rfl rfl rfl rfl rfl ?_
   refine ao_cases (t := 22) rfl ?_ ?_
   ·intro hb25; replace h := ocond_t hb25 h
    refine ao_yes rfl rfl rfl rfl rfl rfl (op1_faR st_78 (i := 4) rfl rfl rfl) ?_
    refine ao_yes rfl rfl rfl rfl rfl rfl ((op1_ldR Try.underlying31 rfl rfl rfl rfl rfl)) ?_
    refine ao_yes rfl rfl rfl rfl rfl rfl ((op1_cmp rfl rfl rfl rfl).cast (y := (BO ((s8 == 0)))) rfl rfl) ?_
    refine sS rfl rfl rfl (op1_pickT rfl rfl rfl) (ao_nil ?_)
    exact ⟨rfl, (s8 == 0), h, ⟨(.cons .same (.cons .same (.cons .same .nil))), (sC rfl (sC rfl (sC rfl (sC rfl (sC rfl (sC rfl (sC rfl (sC rfl sub_nil))))))))⟩⟩
   ·intro hb25; replace h := ocond_f hb25 h
    refine ao_no rfl rfl rfl rfl rfl rfl ?_
    refine ao_no rfl rfl rfl rfl rfl rfl ?_
    refine ao_no rfl rfl rfl rfl rfl rfl ?_
    refine sS rfl rfl rfl (op1_pickF rfl rfl rfl) (ao_nil ?_)
    exact ⟨rfl, false, h, ⟨(.cons .same (.cons .same (.cons .same .nil))), (sC rfl (sC rfl (sC rfl (sC rfl (sC rfl (sC rfl (sC rfl (sC rfl sub_nil))))))))⟩⟩
theorem t_ref03_reading_body (r_ref03_reading_fields : S_ref03_reading → Int → Int → Option (S_ref03_reading × (List (Str × Term)))) (c_ref03_reading_fields : ∀ (a0 : S_ref03_reading) (a1 : Int) (a2 : Int) r, r_ref03_reading_fields a0 a1 a2 = some r → PCalls Try.prog 72 [(of_ref03_reading a0), (I64 a1), (I64 a2)] (PV.tup [(of_ref03_reading r.1), (PV.sl none 86 12 (List.map ofEntry r.2))])) (r_ref03_reading_body : S_ref03_reading → Term → Int → Int → Option (S_ref03_reading × Term)) (c_ref03_reading_body : ∀ (a0 : S_ref03_reading) (a1 : Term) (a2 : Int) (a3 : Int) r, r_ref03_reading_body a0 a1 a2 a3 = some r → PCalls Try.prog 55 [(of_ref03_reading a0), (PV.agg [(I64 a1.kind), (BO a1.bool), (I64 a1.int), (PV.v (.float .f64 a1.float)), (ofStr a1.text), (PV.sl none 5 1 (List.map ofB a1.bytes)), (PV.v (.int .u64 a1.ref)), (PV.v (.slice none 0 0)), (PV.sl none 86 12 (List.map ofEntry a1.fields)), (ofStr a1.cls), (I64 a1.ver)]), (I64 a2), (I64 a3)] (PV.tup [(of_ref03_reading r.1), (ofTermX r.2)])) (r_ref03_reading_term : S_ref03_reading → Int → Option (S_ref03_reading × Term)) (c_ref03_reading_term : ∀ (a0 : S_ref03_reading) (a1 : Int) r, r_ref03_reading_term a0 a1 = some r → PCalls Try.prog 37 [(of_ref03_reading a0), (I64 a1)] (PV.tup [(of_ref03_reading r.1), (ofTermX r.2)])) (a0 : S_ref03_reading) (a1 : Term) (a2 : Int) (a3 : Int) (r : (S_ref03_reading × Term)) (h : b_ref03_reading_body r_ref03_reading_fields r_ref03_reading_body r_ref03_reading_term a0 a1 a2 a3 = some r) : PCalls Try.prog 55 [(of_ref03_reading a0), (PV.agg [(I64 a1.kind), (BO a1.bool), (I64 a1.int), (PV.v (.float .f64 a1.float)), (ofStr a1.text), (PV.sl none 5 1 (List.map ofB a1.bytes)), (PV.v (.int .u64 a1.ref)), (PV.v (.slice none 0 0)), (PV.sl none 86 12 (List.map ofEntry a1.fields)), (ofStr a1.cls), (I64 a1.ver)]), (I64 a2), (I64 a3)] (PV.tup [(of_ref03_reading r.1), (ofTermX r.2)]) := by
 unfold b_ref03_reading_body at h
 refine acalls_of Try.func55 rfl Try.ntmps55 Try.results55 rfl (aw_of_bw ?_)
 change BW _ _ _ ⟨[(0, (of_ref03_reading a0)), (1, (PV.agg [(I64 a1.kind), (BO a1.bool), (I64 a1.int), (PV.v (.float .f64 a1.float)), (ofStr a1.text), (PV.sl none 5 1 (List.map ofB a1.bytes)), (PV.v (.int .u64 a1.ref)), (PV.v (.slice none 0 0)), (PV.sl none 86 12 (List.map ofEntry a1.fields)), (ofStr a1.cls), (I64 a1.ver)])), (2, (I64 a2)), (3, (I64 a3))], [], _⟩ _
 refine bR ?_
 refine sS rfl rfl rfl (op1_box rfl rfl rfl) ?_
 refine sS rfl rfl rfl (op1_box rfl rfl rfl) ?_
 refine sS rfl rfl rfl (op1_alloc inf_78 rfl) ?_
 refine sS rfl rfl rfl (op1_alloc inf_29 rfl) (ao_nil ?_)
 change BW _ _ _ _ _
 refine bR ?_
 refine sA rfl rfl rfl rfl rfl ?_
 refine sA rfl rfl rfl rfl rfl ?_
 refine sA rfl rfl rfl rfl rfl (ao_nil ?_)
 change BW _ _ _ _ _
 refine bw_seqJ (ι := (Str × Int × Int × Int × Int × Bool × Int × Nat × Str × Str × Int × (List Term) × (List (Str × Term)) × Str × Int)) (fun i => ref03_reading_body_j1 a1 i.1 i.2.1 i.2.2.1 i.2.2.2.1 i.2.2.2.2.1 i.2.2.2.2.2.1 i.2.2.2.2.2.2.1 i.2.2.2.2.2.2.2.1 i.2.2.2.2.2.2.2.2.1 i.2.2.2.2.2.2.2.2.2.1 i.2.2.2.2.2.2.2.2.2.2.1 i.2.2.2.2.2.2.2.2.2.2.2.1 i.2.2.2.2.2.2.2.2.2.2.2.2.1 i.2.2.2.2.2.2.2.2.2.2.2.2.2.1 i.2.2.2.2.2.2.2.2.2.2.2.2.2.2 = some r) (fun i => [(4, (PV.rf 0 0)), (5, (PV.rf 1 0)), (8, (PV.rf 2 0)), (9, (PV.rf 3 0))]) (fun i => [.box 78 [(PV.sl none 5 1 (List.map ofB i.1)), (I64 i.2.1), (I64 i.2.2.1), (I64 i.2.2.2.1), (I64 i.2.2.2.2.1)], .box 29 [(I64 a1.kind), (BO i.2.2.2.2.2.1), (I64 i.2.2.2.2.2.2.1), (PV.v (.float .f64 i.2.2.2.2.2.2.2.1)), (ofStr i.2.2.2.2.2.2.2.2.1), (PV.sl none 5 1 (List.map ofB i.2.2.2.2.2.2.2.2.2.1)), (PV.v (.int .u64 i.2.2.2.2.2.2.2.2.2.2.1)), (PV.sl none 29 11 (List.map ofTerm i.2.2.2.2.2.2.2.2.2.2.2.1)), (PV.sl none 86 12 (List.map ofEntry i.2.2.2.2.2.2.2.2.2.2.2.2.1)), (ofStr i.2.2.2.2.2.2.2.2.2.2.2.2.2.1), (I64 i.2.2.2.2.2.2.2.2.2.2.2.2.2.2)], .box 78 [(PV.v (.slice none 0 0)), (I64 0), (I64 0), (I64 0), (I64 0)], .box 29 [(I64 0), (BO false), (I64 0), (PV.v (.float .f64 0)), (ofStr []), (PV.v (.slice none 0 0)), (PV.v (.int .u64 0)), (PV.v (.slice none 0 0)), (PV.v (.slice none 0 0)), (ofStr []), (I64 0)]]) ?_ ?_ ?_
 ·intro i; exact ⟨Nat.le_of_ble_eq_true rfl, ⟨(il_rf rfl), ⟨(il_rf rfl), ⟨(il_rf rfl), ⟨(il_rf rfl), trivial⟩⟩⟩⟩, ⟨⟨(il_nil (ids_slM (fun _ => rfl) _)), ⟨(il_nil rfl), ⟨(il_nil rfl), ⟨(il_nil rfl), ⟨(il_nil rfl), trivial⟩⟩⟩⟩⟩, ⟨⟨(il_nil rfl), ⟨(il_nil rfl), ⟨(il_nil rfl), ⟨(il_nil rfl), ⟨(il_nil rfl), ⟨(il_nil (ids_slM (fun _ => rfl) _)), ⟨(il_nil rfl), ⟨(il_nil (ids_slM ids_Term _)), ⟨(il_nil (ids_slM ids_Entry _)), ⟨(il_nil rfl), ⟨(il_nil rfl), trivial⟩⟩⟩⟩⟩⟩⟩⟩⟩⟩⟩, ⟨⟨(il_nil rfl), ⟨(il_nil rfl), ⟨(il_nil rfl), ⟨(il_nil rfl), ⟨(il_nil rfl), trivial⟩⟩⟩⟩⟩, ⟨⟨(il_nil rfl), ⟨(il_nil rfl), ⟨(il_nil rfl), ⟨(il_nil rfl), ⟨(il_nil rfl), ⟨(il_nil rfl), ⟨(il_nil rfl), ⟨(il_nil rfl), ⟨(il_nil rfl), ⟨(il_nil rfl), ⟨(il_nil rfl), trivial⟩⟩⟩⟩⟩⟩⟩⟩⟩⟩⟩, trivial⟩⟩⟩⟩⟩
 ·rintro ⟨s1, s2, s3, s4, s5, s6, s7, s8, s9, s10, s11, s12, s13, s14, s15⟩ h; replace h : ref03_reading_body_j1 a1 s1 s2 s3 s4 s5 s6 s7 s8 s9 s10 s11 s12 s13 s14 s15 = some r := h; unfold ref03_reading_body_j1 at h
  change BW _ _ _ ⟨[(4, (PV.rf 0 0)), (5, (PV.rf 1 0)), (8, (PV.rf 2 0)), (9, (PV.rf 3 0))], [.box 78 [(PV.sl none 5 1 (List.map ofB s1)), (I64 s2), (I64 s3), (I64 s4), (I64 s5)], .box 29 [(I64 a1.kind), (BO s6), (I64 s7), (PV.v (.float .f64 s8)), (ofStr s9), (PV.sl none 5 1 (List.map ofB s10)), (PV.v (.int .u64 s11)), (PV.sl none 29 11 (List.map ofTerm s12)), (PV.sl none 86 12 (List.map ofEntry s13)), (ofStr s14), (I64 s15)], .box 78 [(PV.v (.slice none 0 0)), (I64 0), (I64 0), (I64 0), (I64 0)], .box 29 [(I64 0), (BO false), (I64 0), (PV.v (.float .f64 0)), (ofStr []), (PV.v (.slice none 0 0)), (PV.v (.int .u64 0)), (PV.v (.slice none 0 0)), (PV.v (.slice none 0 0)), (ofStr []), (I64 0)]], _⟩ _
  refine bw_seq (bw_tail 3 [2] [0, 1] mo (by kernel_rfl) ?_)
  refine ac_go rfl rfl rfl rfl (fun H hp => (op1_ldRA inf_78 Try.underlying78 rfl rfl rfl (hp.at rfl rfl) rfl rfl)) ?_
  refine ac_go rfl rfl rfl rfl (fun H hp => (op1_ldRA inf_29 Try.underlying29 rfl rfl rfl (hp.at rfl rfl) rfl rfl)) ?_
  refine ac_lgo0 rfl rfl rfl (op1_store inf_78 rfl rfl rfl rfl rfl rfl (Nat.le_of_ble_eq_true rfl) rfl) ⟨rfl, ⟨rfl, trivial⟩⟩ ?_
  refine ac_nil ?_
  change AO _ _ _ _ _
  refine ao_step0 rfl rfl (op1_store inf_29 rfl rfl rfl rfl rfl rfl (Nat.le_of_ble_eq_true rfl) rfl) ?_
  refine ao_nil ?_
  change BW _ _ _ _ _
  refine bw_ret ?_
  change ∃ xs, _ = some xs ∧ EndOk _ _ _ _
  obtain rfl := Option.some.inj h
  exact ⟨_, rfl, endOk0 (y := (PV.tup [(of_ref03_reading (S_ref03_reading.mk s1 s2 s3 s4 s5)), (ofTermX (Term.mk a1.kind s6 s7 s8 s9 s10 s11 s12 s13 s14 s15))])) (Wk.refl _) (ids_tup_cons (ids_S_ref03_reading (S_ref03_reading.mk s1 s2 s3 s4 s5)) (ids_tup_cons (ids_TermX (Term.mk a1.kind s6 s7 s8 s9 s10 s11 s12 s13 s14 s15)) ids_tup_nil)) ⟨rfl, rfl⟩⟩
 ·refine bR ?_
  refine sS rfl rfl rfl (op1_faR st_29 (i := 0) rfl rfl rfl) ?_
  refine sS rfl rfl rfl ((op1_ldR Try.underlying3 rfl rfl rfl rfl rfl)) (ao_nil ?_)
  change BW _ _ _ _ _
  refine bw_block ?_
  change BW _ _ _ _ _
  refine bR ?_
  refine sS rfl rfl rfl ((op1_cmp rfl rfl rfl rfl).cast (y := (BO ((a1.kind == 2)))) rfl rfl) ?_
  refine sA rfl rfl rfl rfl rfl (ao_nil ?_)
  change BW _ _ _ _ _
  refine bw_cond rfl ?_ ?_
  ·intro hc16; replace h := ocond_t hc16 h
   refine bR ?_
   refine sS rfl rfl rfl ((op1_ldRA inf_78 Try.underlying78 rfl rfl rfl rfl rfl rfl)) ?_
   obtain ⟨x17, hx17, h⟩ := obind h
   refine sS rfl rfl rfl (op1_pcall rfl en_54 rfl (.cons (Wk.refl _) .nil) ⟨(ids_S_ref03_reading a0), trivial⟩ (s_ref03_reading_one a0 x17 hx17) (ids_tup_cons (ids_S_ref03_reading x17.1) (ids_tup_cons rfl ids_tup_nil))) ?_
   refine sM rfl rfl rfl rfl rfl ?_
   refine sS rfl rfl rfl (op1_ext rfl rfl rfl) ?_
   refine sS rfl rfl rfl (op1_ext rfl rfl rfl) ?_
   refine ao_step0 rfl rfl (op1_store inf_78 rfl rfl rfl rfl rfl rfl (Nat.le_of_ble_eq_true rfl) rfl) ?_
   refine sA rfl rfl rfl rfl rfl (ao_nil ?_)
   change BW _ _ _ _ _
   refine bR ?_
   refine sM rfl rfl rfl rfl rfl ?_
   refine sS rfl rfl rfl ((op1_cmp rfl rfl rfl rfl).cast (y := (BO ((((x17.2).toNat : Int) == (((1 : UInt8)).toNat : Int))))) rfl rfl) ?_
   refine sS rfl rfl rfl (op1_faR st_29 (i := 1) rfl rfl rfl) ?_
   refine ao_step0 rfl rfl (op1_store inf_4 rfl rfl rfl rfl rfl rfl (Nat.le_of_ble_eq_true rfl) rfl) ?_
   refine ao_nil ?_
   change BW _ _ _ _ _
   refine bw_seqJ (ι := Bool) (fun i => ref03_reading_body_j2 a1 x17 i = some r) (fun i => [(4, (PV.rf 0 0)), (5, (PV.rf 1 0)), (8, (PV.rf 2 0)), (9, (PV.rf 3 0)), (35, (BO i))]) (fun i => [.box 78 [(PV.sl none 5 1 (List.map ofB (x17.1).f_b)), (I64 ((x17.1).f_at)), (I64 ((x17.1).f_n)), (I64 ((x17.1).f_place)), (I64 ((x17.1).f_why))], .box 29 [(I64 a1.kind), (BO ((((x17.2).toNat : Int) == (((1 : UInt8)).toNat : Int)))), (I64 a1.int), (PV.v (.float .f64 a1.float)), (ofStr a1.text), (PV.sl none 5 1 (List.map ofB a1.bytes)), (PV.v (.int .u64 a1.ref)), (PV.v (.slice none 0 0)), (PV.sl none 86 12 (List.map ofEntry a1.fields)), (ofStr a1.cls), (I64 a1.ver)], .box 78 [(PV.v (.slice none 0 0)), (I64 0), (I64 0), (I64 0), (I64 0)], .box 29 [(I64 0), (BO false), (I64 0), (PV.v (.float .f64 0)), (ofStr []), (PV.v (.slice none 0 0)), (PV.v (.int .u64 0)), (PV.v (.slice none 0 0)), (PV.v (.slice none 0 0)), (ofStr []), (I64 0)]]) ?_ ?_ ?_
   ·intro i; exact ⟨Nat.le_of_ble_eq_true rfl, ⟨(il_rf rfl), ⟨(il_rf rfl), ⟨(il_rf rfl), ⟨(il_rf rfl), ⟨(il_nil rfl), trivial⟩⟩⟩⟩⟩, ⟨⟨(il_nil (ids_slM (fun _ => rfl) _)), ⟨(il_nil rfl), ⟨(il_nil rfl), ⟨(il_nil rfl), ⟨(il_nil rfl), trivial⟩⟩⟩⟩⟩, ⟨⟨(il_nil rfl), ⟨(il_nil rfl), ⟨(il_nil rfl), ⟨(il_nil rfl), ⟨(il_nil rfl), ⟨(il_nil (ids_slM (fun _ => rfl) _)), ⟨(il_nil rfl), ⟨(il_nil rfl), ⟨(il_nil (ids_slM ids_Entry _)), ⟨(il_nil rfl), ⟨(il_nil rfl), trivial⟩⟩⟩⟩⟩⟩⟩⟩⟩⟩⟩, ⟨⟨(il_nil rfl), ⟨(il_nil rfl), ⟨(il_nil rfl), ⟨(il_nil rfl), ⟨(il_nil rfl), trivial⟩⟩⟩⟩⟩, ⟨⟨(il_nil rfl), ⟨(il_nil rfl), ⟨(il_nil rfl), ⟨(il_nil rfl), ⟨(il_nil rfl), ⟨(il_nil rfl), ⟨(il_nil rfl), ⟨(il_nil rfl), ⟨(il_nil rfl), ⟨(il_nil rfl), ⟨(il_nil rfl), trivial⟩⟩⟩⟩⟩⟩⟩⟩⟩⟩⟩, trivial⟩⟩⟩⟩⟩
   ·rintro s18 h; replace h : ref03_reading_body_j2 a1 x17 s18 = some r := h; unfold ref03_reading_body_j2 at h
    change BW _ _ _ ⟨[(4, (PV.rf 0 0)), (5, (PV.rf 1 0)), (8, (PV.rf 2 0)), (9, (PV.rf 3 0)), (35, (BO s18))], [.box 78 [(PV.sl none 5 1 (List.map ofB (x17.1).f_b)), (I64 ((x17.1).f_at)), (I64 ((x17.1).f_n)), (I64 ((x17.1).f_place)), (I64 ((x17.1).f_why))], .box 29 [(I64 a1.kind), (BO ((((x17.2).toNat : Int) == (((1 : UInt8)).toNat : Int)))), (I64 a1.int), (PV.v (.float .f64 a1.float)), (ofStr a1.text), (PV.sl none 5 1 (List.map ofB a1.bytes)), (PV.v (.int .u64 a1.ref)), (PV.v (.slice none 0 0)), (PV.sl none 86 12 (List.map ofEntry a1.fields)), (ofStr a1.cls), (I64 a1.ver)], .box 78 [(PV.v (.slice none 0 0)), (I64 0), (I64 0), (I64 0), (I64 0)], .box 29 [(I64 0), (BO false), (I64 0), (PV.v (.float .f64 0)), (ofStr []), (PV.v (.slice none 0 0)), (PV.v (.int .u64 0)), (PV.v (.slice none 0 0)), (PV.v (.slice none 0 0)), (ofStr []), (I64 0)]], _⟩ _
    refine bw_cond rfl ?_ ?_
    ·intro hc19; replace h := ocond_t hc19 h
     refine bw_region ?_
     refine sS rfl rfl rfl ((op1_ldRA inf_78 Try.underlying78 rfl rfl rfl rfl rfl rfl)) ?_
     refine sS rfl rfl rfl (op1_faR st_78 (i := 1) rfl rfl rfl) ?_
     refine sS rfl rfl rfl ((op1_ldR Try.underlying3 rfl rfl rfl rfl rfl)) ?_
     refine sS rfl rfl rfl (op1_subW rfl rfl rfl) ?_
     obtain ⟨x20, hx20, h⟩ := obind h
     refine sS rfl rfl rfl (op1_pcall rfl en_53 rfl (.cons (Wk.refl _) (.cons (Wk.refl _) (.cons (Wk.refl _) .nil))) ⟨(ids_S_ref03_reading (x17.1)), ⟨rfl, ⟨rfl, trivial⟩⟩⟩ (s_ref03_reading_bad (x17.1) (IntKind.i64.wrap ((x17.1).f_at - 1)) 30 x20 hx20) (ids_S_ref03_reading x20)) ?_
     refine ao_step0 rfl rfl (op1_store inf_78 rfl rfl rfl rfl rfl rfl (Nat.le_of_ble_eq_true rfl) rfl) ?_
     refine ao_nil ?_
     exact ⟨rfl, (x20.f_b, x20.f_at, x20.f_n, x20.f_place, x20.f_why, (((x17.2).toNat : Int) == (((1 : UInt8)).toNat : Int)), a1.int, a1.float, a1.text, a1.bytes, a1.ref, [], a1.fields, a1.cls, a1.ver), h, ⟨(.cons .same (.cons (.box (.cons (Wk.refl _) (.cons (Wk.refl _) (.cons (Wk.refl _) (.cons (Wk.refl _) (.cons (Wk.refl _) (.cons (Wk.refl _) (.cons (Wk.refl _) (.cons Wk.nil (.cons (Wk.refl _) (.cons (Wk.refl _) (.cons (Wk.refl _) .nil)))))))))))) (.cons .same (.cons .same .nil)))), (sC rfl (sC rfl (sC rfl (sC rfl sub_nil))))⟩⟩
    ·intro hc19; replace h := ocond_f hc19 h
     refine bw_skip ?_
     exact ⟨rfl, ((x17.1).f_b, (x17.1).f_at, (x17.1).f_n, (x17.1).f_place, (x17.1).f_why, (((x17.2).toNat : Int) == (((1 : UInt8)).toNat : Int)), a1.int, a1.float, a1.text, a1.bytes, a1.ref, [], a1.fields, a1.cls, a1.ver), h, ⟨(.cons .same (.cons (.box (.cons (Wk.refl _) (.cons (Wk.refl _) (.cons (Wk.refl _) (.cons (Wk.refl _) (.cons (Wk.refl _) (.cons (Wk.refl _) (.cons (Wk.refl _) (.cons Wk.nil (.cons (Wk.refl _) (.cons (Wk.refl _) (.cons (Wk.refl _) .nil)))))))))))) (.cons .same (.cons .same .nil)))), (sC rfl (sC rfl (sC rfl (sC rfl sub_nil))))⟩⟩
   ·refine bw_region ?_
    refine sS rfl rfl rfl (op1_faR st_78 (i := 4) rfl rfl rfl) ?_
    refine sS rfl rfl rfl ((op1_ldR Try.underlying31 rfl rfl rfl rfl rfl)) ?_
    refine sS rfl rfl rfl ((op1_cmp rfl rfl rfl rfl).cast (y := (BO (((x17.1).f_why == 0)))) rfl rfl) ?_
    refine sM rfl rfl rfl rfl rfl ?_
    refine ao_cases (t := 32) rfl ?_ ?_
    ·intro hb21; replace h := ocond_t hb21 h
     refine ao_yes rfl rfl rfl rfl rfl rfl (op1_move rfl rfl) ?_
     refine ao_yes rfl rfl rfl rfl rfl rfl ((op1_cmp rfl rfl rfl rfl).cast (y := (BO ((decide (((x17.2).toNat : Int) > (((1 : UInt8)).toNat : Int)))))) rfl rfl) ?_
     refine sS rfl rfl rfl (op1_pickT rfl rfl rfl) (ao_nil ?_)
     exact ⟨rfl, (decide (((x17.2).toNat : Int) > (((1 : UInt8)).toNat : Int))), h, ⟨(.cons .same (.cons .same (.cons .same (.cons .same .nil)))), (sC rfl (sC rfl (sC rfl (sC rfl (sC rfl sub_nil)))))⟩⟩
    ·intro hb21; replace h := ocond_f hb21 h
     refine ao_no rfl rfl rfl rfl rfl rfl ?_
     refine ao_no rfl rfl rfl rfl rfl rfl ?_
     refine sS rfl rfl rfl (op1_pickF rfl rfl rfl) (ao_nil ?_)
     exact ⟨rfl, false, h, ⟨(.cons .same (.cons .same (.cons .same (.cons .same .nil)))), (sC rfl (sC rfl (sC rfl (sC rfl (sC rfl sub_nil)))))⟩⟩
  ·intro hc16; replace h := ocond_f hc16 h
   refine bR ?_
   refine sS rfl rfl rfl ((op1_cmp rfl rfl rfl rfl).cast (y := (BO ((a1.kind == 3)))) rfl rfl) ?_
   refine sA rfl rfl rfl rfl rfl (ao_nil ?_)
   change BW _ _ _ _ _
   refine bw_cond rfl ?_ ?_
   ·intro hc22; replace h := ocond_t hc22 h
    refine bR ?_
    refine sS rfl rfl rfl ((op1_ldRA inf_78 Try.underlying78 rfl rfl rfl rfl rfl rfl)) ?_
    obtain ⟨x23, hx23, h⟩ := obind h
    refine sS rfl rfl rfl (op1_pcall rfl en_69 rfl (.cons (Wk.refl _) .nil) ⟨(ids_S_ref03_reading a0), trivial⟩ (s_ref03_reading_number a0 x23 hx23) (ids_tup_cons (ids_S_ref03_reading x23.1) (ids_tup_cons rfl ids_tup_nil))) ?_
    refine sM rfl rfl rfl rfl rfl ?_
    refine sS rfl rfl rfl (op1_ext rfl rfl rfl) ?_
    refine sS rfl rfl rfl (op1_ext rfl rfl rfl) ?_
    refine ao_step0 rfl rfl (op1_store inf_78 rfl rfl rfl rfl rfl rfl (Nat.le_of_ble_eq_true rfl) rfl) ?_
    refine sA rfl rfl rfl rfl rfl (ao_nil ?_)
    change BW _ _ _ _ _
    refine bR ?_
    refine sM rfl rfl rfl rfl rfl ?_
    refine sS rfl rfl rfl (op1_quo rfl rfl rfl (by decide)) ?_
    refine sS rfl rfl rfl (op1_convI Try.underlying24 Try.underlying2 rfl rfl) ?_
    refine sS rfl rfl rfl (op1_faR st_29 (i := 2) rfl rfl rfl) ?_
    refine ao_step0 rfl rfl (op1_store inf_2 rfl rfl rfl rfl rfl rfl (Nat.le_of_ble_eq_true rfl) rfl) ?_
    refine ao_nil ?_
    change BW _ _ _ _ _
    refine bR ?_
    refine sM rfl rfl rfl rfl rfl ?_
    refine sS rfl rfl rfl (op1_rem rfl rfl rfl (by decide)) ?_
    refine sS rfl rfl rfl ((op1_cmp rfl rfl rfl rfl).cast (y := (BO (((Int.tmod x23.2 2) == 1)))) rfl rfl) (ao_nil ?_)
    change BW _ _ _ _ _
    refine bw_cond rfl ?_ ?_
    ·intro hc24; replace h := ocond_t hc24 h
     refine bw_region ?_
     refine sS rfl rfl rfl (op1_faR st_29 (i := 2) rfl rfl rfl) ?_
     refine sS rfl rfl rfl ((op1_ldR Try.underlying2 rfl rfl rfl rfl rfl)) ?_
     refine sS rfl rfl rfl (op1_neg rfl rfl) ?_
     refine sS rfl rfl rfl (op1_subW rfl rfl rfl) ?_
     refine sS rfl rfl rfl (op1_faR st_29 (i := 2) rfl rfl rfl) ?_
     refine ao_step0 rfl rfl (op1_store inf_2 rfl rfl rfl rfl rfl rfl (Nat.le_of_ble_eq_true rfl) rfl) ?_
     refine ao_nil ?_
     exact ⟨rfl, ((x23.1).f_b, (x23.1).f_at, (x23.1).f_n, (x23.1).f_place, (x23.1).f_why, a1.bool, (IntKind.i64.wrap ((IntKind.i64.wrap (0 - (IntKind.i64.wrap (IntKind.u64.wrap (Int.tdiv x23.2 2))))) - 1)), a1.float, a1.text, a1.bytes, a1.ref, [], a1.fields, a1.cls, a1.ver), h, ⟨(.cons .same (.cons (.box (.cons (Wk.refl _) (.cons (Wk.refl _) (.cons (Wk.refl _) (.cons (Wk.refl _) (.cons (Wk.refl _) (.cons (Wk.refl _) (.cons (Wk.refl _) (.cons Wk.nil (.cons (Wk.refl _) (.cons (Wk.refl _) (.cons (Wk.refl _) .nil)))))))))))) (.cons .same (.cons .same .nil)))), (sC rfl (sC rfl (sC rfl (sC rfl sub_nil))))⟩⟩
    ·intro hc24; replace h := ocond_f hc24 h
     refine bw_skip ?_
     exact ⟨rfl, ((x23.1).f_b, (x23.1).f_at, (x23.1).f_n, (x23.1).f_place, (x23.1).f_why, a1.bool, (IntKind.i64.wrap (IntKind.u64.wrap (Int.tdiv x23.2 2))), a1.float, a1.text, a1.bytes, a1.ref, [], a1.fields, a1.cls, a1.ver), h, ⟨(.cons .same (.cons (.box (.cons (Wk.refl _) (.cons (Wk.refl _) (.cons (Wk.refl _) (.cons (Wk.refl _) (.cons (Wk.refl _) (.cons (Wk.refl _) (.cons (Wk.refl _) (.cons Wk.nil (.cons (Wk.refl _) (.cons (Wk.refl _) (.cons (Wk.refl _) .nil)))))))))))) (.cons .same (.cons .same .nil)))), (sC rfl (sC rfl (sC rfl (sC rfl sub_nil))))⟩⟩
   ·intro hc22; replace h := ocond_f hc22 h
    refine bR ?_
    refine sS rfl rfl rfl ((op1_cmp rfl rfl rfl rfl).cast (y := (BO ((a1.kind == 4)))) rfl rfl) ?_
    refine sA rfl rfl rfl rfl rfl (ao_nil ?_)
    change BW _ _ _ _ _
    refine bw_cond rfl ?_ ?_
    ·intro hc25; replace h := ocond_t hc25 h
     refine bR ?_
     refine sA rfl rfl rfl rfl rfl (ao_nil ?_)
     change BW _ _ _ _ _
     refine bw_seq ?_
     refine bR ?_
     refine sA rfl rfl rfl rfl rfl (ao_nil ?_)
     change BW _ _ _ _ _
     refine bw_block ?_
     change BW _ _ _ _ _
     unfold ref03_reading_body_l1 at h
     refine bw_loop (σ := (Int × Int × Str × Int × Int × Int × Int)) (fun i => [(4, (PV.rf 0 0)), (5, (PV.rf 1 0)), (8, (PV.rf 2 0)), (9, (PV.rf 3 0)), (13, (PV.v (.int .u64 i.1))), (14, (I64 i.2.1))]) (fun i => [.box 78 [(PV.sl none 5 1 (List.map ofB i.2.2.1)), (I64 i.2.2.2.1), (I64 i.2.2.2.2.1), (I64 i.2.2.2.2.2.1), (I64 i.2.2.2.2.2.2)], .box 29 [(I64 a1.kind), (BO a1.bool), (I64 a1.int), (PV.v (.float .f64 a1.float)), (ofStr a1.text), (PV.sl none 5 1 (List.map ofB a1.bytes)), (PV.v (.int .u64 a1.ref)), (PV.v (.slice none 0 0)), (PV.sl none 86 12 (List.map ofEntry a1.fields)), (ofStr a1.cls), (I64 a1.ver)], .box 78 [(PV.v (.slice none 0 0)), (I64 0), (I64 0), (I64 0), (I64 0)], .box 29 [(I64 0), (BO false), (I64 0), (PV.v (.float .f64 0)), (ofStr []), (PV.v (.slice none 0 0)), (PV.v (.int .u64 0)), (PV.v (.slice none 0 0)), (PV.v (.slice none 0 0)), (ofStr []), (I64 0)]]) (0, 0, a0.f_b, a0.f_at, a0.f_n, a0.f_place, a0.f_why) h ?_ ?_ ?_
     ·intro i; exact ⟨Nat.le_of_ble_eq_true rfl, ⟨(il_rf rfl), ⟨(il_rf rfl), ⟨(il_rf rfl), ⟨(il_rf rfl), ⟨(il_nil rfl), ⟨(il_nil rfl), trivial⟩⟩⟩⟩⟩⟩, ⟨⟨(il_nil (ids_slM (fun _ => rfl) _)), ⟨(il_nil rfl), ⟨(il_nil rfl), ⟨(il_nil rfl), ⟨(il_nil rfl), trivial⟩⟩⟩⟩⟩, ⟨⟨(il_nil rfl), ⟨(il_nil rfl), ⟨(il_nil rfl), ⟨(il_nil rfl), ⟨(il_nil rfl), ⟨(il_nil (ids_slM (fun _ => rfl) _)), ⟨(il_nil rfl), ⟨(il_nil rfl), ⟨(il_nil (ids_slM ids_Entry _)), ⟨(il_nil rfl), ⟨(il_nil rfl), trivial⟩⟩⟩⟩⟩⟩⟩⟩⟩⟩⟩, ⟨⟨(il_nil rfl), ⟨(il_nil rfl), ⟨(il_nil rfl), ⟨(il_nil rfl), ⟨(il_nil rfl), trivial⟩⟩⟩⟩⟩, ⟨⟨(il_nil rfl), ⟨(il_nil rfl), ⟨(il_nil rfl), ⟨(il_nil rfl), ⟨(il_nil rfl), ⟨(il_nil rfl), ⟨(il_nil rfl), ⟨(il_nil rfl), ⟨(il_nil rfl), ⟨(il_nil rfl), ⟨(il_nil rfl), trivial⟩⟩⟩⟩⟩⟩⟩⟩⟩⟩⟩, trivial⟩⟩⟩⟩⟩
     ·exact ⟨(.cons .same (.cons .same (.cons .same (.cons .same .nil)))), (sC rfl (sC rfl (sC rfl (sC rfl (sC rfl (sC rfl sub_nil))))))⟩
     ·rintro g1_f ⟨s26, s27, s28, s29, s30, s31, s32⟩ h; replace h : ref03_reading_body_l1b a1 (fun y0 y1 y2 y3 y4 y5 y6 => g1_f (y0, y1, y2, y3, y4, y5, y6)) s26 s27 s28 s29 s30 s31 s32 = some r := h; unfold ref03_reading_body_l1b at h
      change BW _ _ _ ⟨[(4, (PV.rf 0 0)), (5, (PV.rf 1 0)), (8, (PV.rf 2 0)), (9, (PV.rf 3 0)), (13, (PV.v (.int .u64 s26))), (14, (I64 s27))], [.box 78 [(PV.sl none 5 1 (List.map ofB s28)), (I64 s29), (I64 s30), (I64 s31), (I64 s32)], .box 29 [(I64 a1.kind), (BO a1.bool), (I64 a1.int), (PV.v (.float .f64 a1.float)), (ofStr a1.text), (PV.sl none 5 1 (List.map ofB a1.bytes)), (PV.v (.int .u64 a1.ref)), (PV.v (.slice none 0 0)), (PV.sl none 86 12 (List.map ofEntry a1.fields)), (ofStr a1.cls), (I64 a1.ver)], .box 78 [(PV.v (.slice none 0 0)), (I64 0), (I64 0), (I64 0), (I64 0)], .box 29 [(I64 0), (BO false), (I64 0), (PV.v (.float .f64 0)), (ofStr []), (PV.v (.slice none 0 0)), (PV.v (.int .u64 0)), (PV.v (.slice none 0 0)), (PV.v (.slice none 0 0)), (ofStr []), (I64 0)]], _⟩ _
      refine bw_seq ?_
      refine bR ?_
      refine sM rfl rfl rfl rfl rfl ?_
      refine sS rfl rfl rfl ((op1_cmp rfl rfl rfl rfl).cast (y := (BO ((decide (s27 < 8))))) rfl rfl) (ao_nil ?_)
      change BW _ _ _ _ _
      refine bw_cond rfl ?_ ?_
      ·intro hc33; replace h := ocond_t hc33 h
       refine bw_skip ?_
       change BW _ _ _ _ _
       refine bw_seq ?_
       refine bw_block ?_
       change BW _ _ _ _ _
       refine bR ?_
       refine sS rfl rfl rfl ((op1_ldRA inf_78 Try.underlying78 rfl rfl rfl rfl rfl rfl)) ?_
       obtain ⟨x34, hx34, h⟩ := obind h
       refine sS rfl rfl rfl (op1_pcall rfl en_54 rfl (.cons (Wk.refl _) .nil) ⟨(ids_S_ref03_reading (S_ref03_reading.mk s28 s29 s30 s31 s32)), trivial⟩ (s_ref03_reading_one (S_ref03_reading.mk s28 s29 s30 s31 s32) x34 hx34) (ids_tup_cons (ids_S_ref03_reading x34.1) (ids_tup_cons rfl ids_tup_nil))) ?_
       refine sM rfl rfl rfl rfl rfl ?_
       refine sS rfl rfl rfl (op1_ext rfl rfl rfl) ?_
       refine sS rfl rfl rfl (op1_ext rfl rfl rfl) ?_
       refine ao_step0 rfl rfl (op1_store inf_78 rfl rfl rfl rfl rfl rfl (Nat.le_of_ble_eq_true rfl) rfl) ?_
       refine sA rfl rfl rfl rfl rfl (ao_nil ?_)
       change BW _ _ _ _ _
       refine bw_region ?_
       refine sM rfl rfl rfl rfl rfl ?_
       refine sS rfl rfl rfl (op1_mulW rfl rfl rfl) ?_
       refine sM rfl rfl rfl rfl rfl ?_
       refine sS rfl rfl rfl ((op1_convI Try.underlying5 Try.underlying24 rfl rfl).cast (y := (PV.v (.int .u64 ((x34.2).toNat : Int)))) (by rw [wrapB_u64]) rfl) ?_
       refine sS rfl rfl rfl (op1_addW rfl rfl rfl) ?_
       refine sA rfl rfl rfl rfl rfl (ao_nil ?_)
       change BW _ _ _ _ _
       refine bw_region ?_
       refine sM rfl rfl rfl rfl rfl ?_
       refine sS rfl rfl rfl (op1_addW rfl rfl rfl) ?_
       refine sA rfl rfl rfl rfl rfl (ao_nil ?_)
       exact ⟨rfl, ((IntKind.u64.wrap ((IntKind.u64.wrap (s26 * 256)) + ((x34.2).toNat : Int))), (IntKind.i64.wrap (s27 + 1)), (x34.1).f_b, (x34.1).f_at, (x34.1).f_n, (x34.1).f_place, (x34.1).f_why), h, ⟨(.cons .same (.cons .same (.cons .same (.cons .same .nil)))), (sC rfl (sC rfl (sC rfl (sC rfl (sC rfl (sC rfl sub_nil))))))⟩⟩
      ·intro hc33; replace h := ocond_f hc33 h
       refine bw_exit ?_
       change BW _ _ _ _ _
       refine bw_region ?_
       refine sM rfl rfl rfl rfl rfl ?_
       refine sS rfl rfl rfl (op1_f64from rfl rfl) ?_
       refine sS rfl rfl rfl (op1_faR st_29 (i := 3) rfl rfl rfl) ?_
       refine ao_step0 rfl rfl (op1_store inf_22 rfl rfl rfl rfl rfl rfl (Nat.le_of_ble_eq_true rfl) rfl) ?_
       refine ao_nil ?_
       exact ⟨rfl, (s28, s29, s30, s31, s32, a1.bool, a1.int, (s26).toNat, a1.text, a1.bytes, a1.ref, [], a1.fields, a1.cls, a1.ver), h, ⟨(.cons .same (.cons (.box (.cons (Wk.refl _) (.cons (Wk.refl _) (.cons (Wk.refl _) (.cons (Wk.refl _) (.cons (Wk.refl _) (.cons (Wk.refl _) (.cons (Wk.refl _) (.cons Wk.nil (.cons (Wk.refl _) (.cons (Wk.refl _) (.cons (Wk.refl _) .nil)))))))))))) (.cons .same (.cons .same .nil)))), (sC rfl (sC rfl (sC rfl (sC rfl sub_nil))))⟩⟩
    ·intro hc25; replace h := ocond_f hc25 h
     refine bw_seqJ (ι := Bool) (fun i => ref03_reading_body_j3 r_ref03_reading_fields r_ref03_reading_term a0 a1 a2 a3 i = some r) (fun i => [(2, (I64 a2)), (3, (I64 a3)), (4, (PV.rf 0 0)), (5, (PV.rf 1 0)), (8, (PV.rf 2 0)), (9, (PV.rf 3 0)), (18, (I64 a1.kind)), (79, (BO i))]) (fun i => [.box 78 [(PV.sl none 5 1 (List.map ofB a0.f_b)), (I64 a0.f_at), (I64 a0.f_n), (I64 a0.f_place), (I64 a0.f_why)], .box 29 [(I64 a1.kind), (BO a1.bool), (I64 a1.int), (PV.v (.float .f64 a1.float)), (ofStr a1.text), (PV.sl none 5 1 (List.map ofB a1.bytes)), (PV.v (.int .u64 a1.ref)), (PV.v (.slice none 0 0)), (PV.sl none 86 12 (List.map ofEntry a1.fields)), (ofStr a1.cls), (I64 a1.ver)], .box 78 [(PV.v (.slice none 0 0)), (I64 0), (I64 0), (I64 0), (I64 0)], .box 29 [(I64 0), (BO false), (I64 0), (PV.v (.float .f64 0)), (ofStr []), (PV.v (.slice none 0 0)), (PV.v (.int .u64 0)), (PV.v (.slice none 0 0)), (PV.v (.slice none 0 0)), (ofStr []), (I64 0)]]) ?_ ?_ ?_
     ·intro i; exact ⟨Nat.le_of_ble_eq_true rfl, ⟨(il_nil rfl), ⟨(il_nil rfl), ⟨(il_rf rfl), ⟨(il_rf rfl), ⟨(il_rf rfl), ⟨(il_rf rfl), ⟨(il_nil rfl), ⟨(il_nil rfl), trivial⟩⟩⟩⟩⟩⟩⟩⟩, ⟨⟨(il_nil (ids_slM (fun _ => rfl) _)), ⟨(il_nil rfl), ⟨(il_nil rfl), ⟨(il_nil rfl), ⟨(il_nil rfl), trivial⟩⟩⟩⟩⟩, ⟨⟨(il_nil rfl), ⟨(il_nil rfl), ⟨(il_nil rfl), ⟨(il_nil rfl), ⟨(il_nil rfl), ⟨(il_nil (ids_slM (fun _ => rfl) _)), ⟨(il_nil rfl), ⟨(il_nil rfl), ⟨(il_nil (ids_slM ids_Entry _)), ⟨(il_nil rfl), ⟨(il_nil rfl), trivial⟩⟩⟩⟩⟩⟩⟩⟩⟩⟩⟩, ⟨⟨(il_nil rfl), ⟨(il_nil rfl), ⟨(il_nil rfl), ⟨(il_nil rfl), ⟨(il_nil rfl), trivial⟩⟩⟩⟩⟩, ⟨⟨(il_nil rfl), ⟨(il_nil rfl), ⟨(il_nil rfl), ⟨(il_nil rfl), ⟨(il_nil rfl), ⟨(il_nil rfl), ⟨(il_nil rfl), ⟨(il_nil rfl), ⟨(il_nil rfl), ⟨(il_nil rfl), ⟨(il_nil rfl), trivial⟩⟩⟩⟩⟩⟩⟩⟩⟩⟩⟩, trivial⟩⟩⟩⟩⟩
     ·rintro s35 h; replace h : ref03_reading_body_j3 r_ref03_reading_fields r_ref03_reading_term a0 a1 a2 a3 s35 = some r := h; unfold ref03_reading_body_j3 at h
      change BW _ _ _ ⟨[(2, (I64 a2)), (3, (I64 a3)), (4, (PV.rf 0 0)), (5, (PV.rf 1 0)), (8, (PV.rf 2 0)), (9, (PV.rf 3 0)), (18, (I64 a1.kind)), (79, (BO s35))], [.box 78 [(PV.sl none 5 1 (List.map ofB a0.f_b)), (I64 a0.f_at), (I64 a0.f_n), (I64 a0.f_place), (I64 a0.f_why)], .box 29 [(I64 a1.kind), (BO a1.bool), (I64 a1.int), (PV.v (.float .f64 a1.float)), (ofStr a1.text), (PV.sl none 5 1 (List.map ofB a1.bytes)), (PV.v (.int .u64 a1.ref)), (PV.v (.slice none 0 0)), (PV.sl none 86 12 (List.map ofEntry a1.fields)), (ofStr a1.cls), (I64 a1.ver)], .box 78 [(PV.v (.slice none 0 0)), (I64 0), (I64 0), (I64 0), (I64 0)], .box 29 [(I64 0), (BO false), (I64 0), (PV.v (.float .f64 0)), (ofStr []), (PV.v (.slice none 0 0)), (PV.v (.int .u64 0)), (PV.v (.slice none 0 0)), (PV.v (.slice none 0 0)), (ofStr []), (I64 0)]], _⟩ _
      refine bw_cond rfl ?_ ?_
      ·intro hc36; replace h := ocond_t hc36 h
       refine bR ?_
       refine sS rfl rfl rfl ((op1_ldRA inf_78 Try.underlying78 rfl rfl rfl rfl rfl rfl)) ?_
       refine sM rfl rfl rfl rfl rfl ?_
       obtain ⟨x37, hx37, h⟩ := obind h
       refine sS rfl rfl rfl (op1_pcall rfl en_70 rfl (.cons (Wk.refl _) (.cons (Wk.refl _) (.cons (Wk.refl _) (.cons (Wk.refl _) .nil)))) ⟨(ids_S_ref03_reading a0), ⟨rfl, ⟨rfl, ⟨rfl, trivial⟩⟩⟩⟩ (s_ref03_reading_long a0 65536 a2 2 x37 hx37) (ids_tup_cons (ids_S_ref03_reading x37.1) (ids_tup_cons rfl ids_tup_nil))) ?_
       refine sM rfl rfl rfl rfl rfl ?_
       refine sS rfl rfl rfl (op1_ext rfl rfl rfl) ?_
       refine sS rfl rfl rfl (op1_ext rfl rfl rfl) ?_
       refine ao_step0 rfl rfl (op1_store inf_78 rfl rfl rfl rfl rfl rfl (Nat.le_of_ble_eq_true rfl) rfl) ?_
       refine sA rfl rfl rfl rfl rfl (ao_nil ?_)
       change BW _ _ _ _ _
       refine bR ?_
       refine sS rfl rfl rfl ((op1_ldRA inf_78 Try.underlying78 rfl rfl rfl rfl rfl rfl)) ?_
       refine sM rfl rfl rfl rfl rfl ?_
       obtain ⟨x38, hx38, h⟩ := obind h
       refine sS rfl rfl rfl (op1_pcall rfl en_71 rfl (.cons (Wk.refl _) (.cons (Wk.refl _) .nil)) ⟨(ids_S_ref03_reading (x37.1)), ⟨rfl, trivial⟩⟩ (s_ref03_reading_some (x37.1) x37.2 x38 hx38) (ids_tup_cons (ids_S_ref03_reading x38.1) (ids_tup_cons rfl ids_tup_nil))) ?_
       refine sM rfl rfl rfl rfl rfl ?_
       refine sS rfl rfl rfl (op1_ext rfl rfl rfl) ?_
       refine sS rfl rfl rfl (op1_ext rfl rfl rfl) ?_
       refine ao_step0 rfl rfl (op1_store inf_78 rfl rfl rfl rfl rfl rfl (Nat.le_of_ble_eq_true rfl) rfl) ?_
       refine sA rfl rfl rfl rfl rfl (ao_nil ?_)
       change BW _ _ _ _ _
       refine bR ?_
       refine sS rfl rfl rfl (op1_faR st_29 (i := 0) rfl rfl rfl) ?_
       refine sS rfl rfl rfl ((op1_ldR Try.underlying3 rfl rfl rfl rfl rfl)) ?_
       refine sS rfl rfl rfl ((op1_cmp rfl rfl rfl rfl).cast (y := (BO ((a1.kind == 5)))) rfl rfl) (ao_nil ?_)
       change BW _ _ _ _ _
       refine bw_cond rfl ?_ ?_
       ·intro hc39; replace h := ocond_t hc39 h
        refine bw_region ?_
        refine sM rfl rfl rfl rfl rfl ?_
        refine sS rfl rfl rfl (op1_faR st_29 (i := 4) rfl rfl rfl) ?_
        refine ao_step0 rfl rfl (op1_store inf_9 rfl rfl rfl rfl rfl rfl (Nat.le_of_ble_eq_true rfl) rfl) ?_
        refine ao_nil ?_
        exact ⟨rfl, ((x38.1).f_b, (x38.1).f_at, (x38.1).f_n, (x38.1).f_place, (x38.1).f_why, a1.bool, a1.int, a1.float, x38.2, a1.bytes, a1.ref, [], a1.fields, a1.cls, a1.ver), h, ⟨(.cons .same (.cons (.box (.cons (Wk.refl _) (.cons (Wk.refl _) (.cons (Wk.refl _) (.cons (Wk.refl _) (.cons (Wk.refl _) (.cons (Wk.refl _) (.cons (Wk.refl _) (.cons Wk.nil (.cons (Wk.refl _) (.cons (Wk.refl _) (.cons (Wk.refl _) .nil)))))))))))) (.cons .same (.cons .same .nil)))), (sC rfl (sC rfl (sC rfl (sC rfl sub_nil))))⟩⟩
       ·intro hc39; replace h := ocond_f hc39 h
        refine bw_region ?_
        refine sM rfl rfl rfl rfl rfl ?_
        obtain ⟨x40, hx40, h⟩ := obind h
        refine sS rfl rfl rfl (op1_fromT Try.underlying9 Try.underlying23 Try.underlying5 rfl rfl hx40) ?_
        refine sS rfl rfl rfl (op1_faR st_29 (i := 5) rfl rfl rfl) ?_
        refine ao_step0 rfl rfl (op1_store inf_23 rfl rfl rfl rfl rfl rfl (Nat.le_of_ble_eq_true rfl) rfl) ?_
        refine ao_nil ?_
        exact ⟨rfl, ((x38.1).f_b, (x38.1).f_at, (x38.1).f_n, (x38.1).f_place, (x38.1).f_why, a1.bool, a1.int, a1.float, a1.text, x38.2, a1.ref, [], a1.fields, a1.cls, a1.ver), h, ⟨(.cons .same (.cons (.box (.cons (Wk.refl _) (.cons (Wk.refl _) (.cons (Wk.refl _) (.cons (Wk.refl _) (.cons (Wk.refl _) (.cons (Wk.refl _) (.cons (Wk.refl _) (.cons Wk.nil (.cons (Wk.refl _) (.cons (Wk.refl _) (.cons (Wk.refl _) .nil)))))))))))) (.cons .same (.cons .same .nil)))), (sC rfl (sC rfl (sC rfl (sC rfl sub_nil))))⟩⟩
      ·intro hc36; replace h := ocond_f hc36 h
       refine bR ?_
       refine sS rfl rfl rfl ((op1_cmp rfl rfl rfl rfl).cast (y := (BO ((a1.kind == 7)))) rfl rfl) ?_
       refine sA rfl rfl rfl rfl rfl (ao_nil ?_)
       change BW _ _ _ _ _
       refine bw_cond rfl ?_ ?_
       ·intro hc41; replace h := ocond_t hc41 h
        refine bR ?_
        refine sS rfl rfl rfl ((op1_ldRA inf_78 Try.underlying78 rfl rfl rfl rfl rfl rfl)) ?_
        obtain ⟨x42, hx42, h⟩ := obind h
        refine sS rfl rfl rfl (op1_pcall rfl en_69 rfl (.cons (Wk.refl _) .nil) ⟨(ids_S_ref03_reading a0), trivial⟩ (s_ref03_reading_number a0 x42 hx42) (ids_tup_cons (ids_S_ref03_reading x42.1) (ids_tup_cons rfl ids_tup_nil))) ?_
        refine sM rfl rfl rfl rfl rfl ?_
        refine sS rfl rfl rfl (op1_ext rfl rfl rfl) ?_
        refine sS rfl rfl rfl (op1_ext rfl rfl rfl) ?_
        refine ao_step0 rfl rfl (op1_store inf_78 rfl rfl rfl rfl rfl rfl (Nat.le_of_ble_eq_true rfl) rfl) ?_
        refine sA rfl rfl rfl rfl rfl (ao_nil ?_)
        change BW _ _ _ _ _
        refine bw_region ?_
        refine sM rfl rfl rfl rfl rfl ?_
        refine sS rfl rfl rfl (op1_faR st_29 (i := 6) rfl rfl rfl) ?_
        refine ao_step0 rfl rfl (op1_store inf_25 rfl rfl rfl rfl rfl rfl (Nat.le_of_ble_eq_true rfl) rfl) ?_
        refine ao_nil ?_
        exact ⟨rfl, ((x42.1).f_b, (x42.1).f_at, (x42.1).f_n, (x42.1).f_place, (x42.1).f_why, a1.bool, a1.int, a1.float, a1.text, a1.bytes, x42.2, [], a1.fields, a1.cls, a1.ver), h, ⟨(.cons .same (.cons (.box (.cons (Wk.refl _) (.cons (Wk.refl _) (.cons (Wk.refl _) (.cons (Wk.refl _) (.cons (Wk.refl _) (.cons (Wk.refl _) (.cons (Wk.refl _) (.cons Wk.nil (.cons (Wk.refl _) (.cons (Wk.refl _) (.cons (Wk.refl _) .nil)))))))))))) (.cons .same (.cons .same .nil)))), (sC rfl (sC rfl (sC rfl (sC rfl sub_nil))))⟩⟩
       ·intro hc41; replace h := ocond_f hc41 h
        refine bR ?_
        refine sS rfl rfl rfl ((op1_cmp rfl rfl rfl rfl).cast (y := (BO ((a1.kind == 8)))) rfl rfl) ?_
        refine sA rfl rfl rfl rfl rfl (ao_nil ?_)
        change BW _ _ _ _ _
        refine bw_cond rfl ?_ ?_
        ·intro hc43; replace h := ocond_t hc43 h
         refine bR ?_
         refine sS rfl rfl rfl ((op1_ldRA inf_78 Try.underlying78 rfl rfl rfl rfl rfl rfl)) ?_
         refine sM rfl rfl rfl rfl rfl ?_
         obtain ⟨x44, hx44, h⟩ := obind h
         refine sS rfl rfl rfl (op1_pcall rfl en_70 rfl (.cons (Wk.refl _) (.cons (Wk.refl _) (.cons (Wk.refl _) (.cons (Wk.refl _) .nil)))) ⟨(ids_S_ref03_reading a0), ⟨rfl, ⟨rfl, ⟨rfl, trivial⟩⟩⟩⟩ (s_ref03_reading_long a0 4096 a2 2 x44 hx44) (ids_tup_cons (ids_S_ref03_reading x44.1) (ids_tup_cons rfl ids_tup_nil))) ?_
         refine sM rfl rfl rfl rfl rfl ?_
         refine sS rfl rfl rfl (op1_ext rfl rfl rfl) ?_
         refine sS rfl rfl rfl (op1_ext rfl rfl rfl) ?_
         refine ao_step0 rfl rfl (op1_store inf_78 rfl rfl rfl rfl rfl rfl (Nat.le_of_ble_eq_true rfl) rfl) ?_
         refine sA rfl rfl rfl rfl rfl (ao_nil ?_)
         change BW _ _ _ _ _
         refine bR ?_
         refine sA rfl rfl rfl rfl rfl (ao_nil ?_)
         change BW _ _ _ _ _
         refine bw_block ?_
         change BW _ _ _ _ _
         refine bw_ghostB (s := ⟨_, _, _⟩) 1 7 29 (sz := 11) rfl rfl rfl ?_
         unfold ref03_reading_body_l2 at h
         refine bw_loop (σ := (Int × Str × Int × Int × Int × Int × (List Term))) (fun i => [(3, (I64 a3)), (4, (PV.rf 0 0)), (5, (PV.rf 1 0)), (8, (PV.rf 2 0)), (9, (PV.rf 3 0)), (11, (PV.v (.int .u64 x44.2))), (15, (PV.v (.int .u64 i.1)))]) (fun i => [.box 78 [(PV.sl none 5 1 (List.map ofB i.2.1)), (I64 i.2.2.1), (I64 i.2.2.2.1), (I64 i.2.2.2.2.1), (I64 i.2.2.2.2.2.1)], .box 29 [(I64 a1.kind), (BO a1.bool), (I64 a1.int), (PV.v (.float .f64 a1.float)), (ofStr a1.text), (PV.sl none 5 1 (List.map ofB a1.bytes)), (PV.v (.int .u64 a1.ref)), (PV.sl (some 4) 29 11 (List.map ofTerm i.2.2.2.2.2.2)), (PV.sl none 86 12 (List.map ofEntry a1.fields)), (ofStr a1.cls), (I64 a1.ver)], .box 78 [(PV.v (.slice none 0 0)), (I64 0), (I64 0), (I64 0), (I64 0)], .box 29 [(I64 0), (BO false), (I64 0), (PV.v (.float .f64 0)), (ofStr []), (PV.v (.slice none 0 0)), (PV.v (.int .u64 0)), (PV.v (.slice none 0 0)), (PV.v (.slice none 0 0)), (ofStr []), (I64 0)], .arr 29 (i.2.2.2.2.2.2).length]) (0, (x44.1).f_b, (x44.1).f_at, (x44.1).f_n, (x44.1).f_place, (x44.1).f_why, []) h ?_ ?_ ?_
         ·intro i; exact ⟨Nat.le_of_ble_eq_true rfl, ⟨(il_nil rfl), ⟨(il_rf rfl), ⟨(il_rf rfl), ⟨(il_rf rfl), ⟨(il_rf rfl), ⟨(il_nil rfl), ⟨(il_nil rfl), trivial⟩⟩⟩⟩⟩⟩⟩, ⟨⟨(il_nil (ids_slM (fun _ => rfl) _)), ⟨(il_nil rfl), ⟨(il_nil rfl), ⟨(il_nil rfl), ⟨(il_nil rfl), trivial⟩⟩⟩⟩⟩, ⟨⟨(il_nil rfl), ⟨(il_nil rfl), ⟨(il_nil rfl), ⟨(il_nil rfl), ⟨(il_nil rfl), ⟨(il_nil (ids_slM (fun _ => rfl) _)), ⟨(il_nil rfl), ⟨(il_tok rfl (ids_map ids_Term _)), ⟨(il_nil (ids_slM ids_Entry _)), ⟨(il_nil rfl), ⟨(il_nil rfl), trivial⟩⟩⟩⟩⟩⟩⟩⟩⟩⟩⟩, ⟨⟨(il_nil rfl), ⟨(il_nil rfl), ⟨(il_nil rfl), ⟨(il_nil rfl), ⟨(il_nil rfl), trivial⟩⟩⟩⟩⟩, ⟨⟨(il_nil rfl), ⟨(il_nil rfl), ⟨(il_nil rfl), ⟨(il_nil rfl), ⟨(il_nil rfl), ⟨(il_nil rfl), ⟨(il_nil rfl), ⟨(il_nil rfl), ⟨(il_nil rfl), ⟨(il_nil rfl), ⟨(il_nil rfl), trivial⟩⟩⟩⟩⟩⟩⟩⟩⟩⟩⟩, trivial⟩⟩⟩⟩⟩
         ·exact ⟨(.cons .same (.cons .same (.cons .same (.cons .same (.cons .same .nil))))), (sC rfl (sC rfl (sC rfl (sC rfl (sC rfl (sC rfl (sC rfl sub_nil)))))))⟩
         ·rintro g1_f ⟨s45, s46, s47, s48, s49, s50, s51⟩ h; replace h : ref03_reading_body_l2b r_ref03_reading_term a1 a3 x44 (fun y0 y1 y2 y3 y4 y5 y6 => g1_f (y0, y1, y2, y3, y4, y5, y6)) s45 s46 s47 s48 s49 s50 s51 = some r := h; unfold ref03_reading_body_l2b at h
          change BW _ _ _ ⟨[(3, (I64 a3)), (4, (PV.rf 0 0)), (5, (PV.rf 1 0)), (8, (PV.rf 2 0)), (9, (PV.rf 3 0)), (11, (PV.v (.int .u64 x44.2))), (15, (PV.v (.int .u64 s45)))], [.box 78 [(PV.sl none 5 1 (List.map ofB s46)), (I64 s47), (I64 s48), (I64 s49), (I64 s50)], .box 29 [(I64 a1.kind), (BO a1.bool), (I64 a1.int), (PV.v (.float .f64 a1.float)), (ofStr a1.text), (PV.sl none 5 1 (List.map ofB a1.bytes)), (PV.v (.int .u64 a1.ref)), (PV.sl (some 4) 29 11 (List.map ofTerm s51)), (PV.sl none 86 12 (List.map ofEntry a1.fields)), (ofStr a1.cls), (I64 a1.ver)], .box 78 [(PV.v (.slice none 0 0)), (I64 0), (I64 0), (I64 0), (I64 0)], .box 29 [(I64 0), (BO false), (I64 0), (PV.v (.float .f64 0)), (ofStr []), (PV.v (.slice none 0 0)), (PV.v (.int .u64 0)), (PV.v (.slice none 0 0)), (PV.v (.slice none 0 0)), (ofStr []), (I64 0)], .arr 29 (s51).length], _⟩ _
          refine bw_seq ?_
          refine bw_seqJ (ι := Bool) (fun i => ref03_reading_body_j4 r_ref03_reading_term (fun y0 y1 y2 y3 y4 y5 y6 => g1_f (y0, y1, y2, y3, y4, y5, y6)) a1 a3 s45 s46 s47 s48 s49 s50 s51 i = some r) (fun i => [(3, (I64 a3)), (4, (PV.rf 0 0)), (5, (PV.rf 1 0)), (8, (PV.rf 2 0)), (9, (PV.rf 3 0)), (11, (PV.v (.int .u64 x44.2))), (15, (PV.v (.int .u64 s45))), (126, (BO i))]) (fun i => [.box 78 [(PV.sl none 5 1 (List.map ofB s46)), (I64 s47), (I64 s48), (I64 s49), (I64 s50)], .box 29 [(I64 a1.kind), (BO a1.bool), (I64 a1.int), (PV.v (.float .f64 a1.float)), (ofStr a1.text), (PV.sl none 5 1 (List.map ofB a1.bytes)), (PV.v (.int .u64 a1.ref)), (PV.sl (some 4) 29 11 (List.map ofTerm s51)), (PV.sl none 86 12 (List.map ofEntry a1.fields)), (ofStr a1.cls), (I64 a1.ver)], .box 78 [(PV.v (.slice none 0 0)), (I64 0), (I64 0), (I64 0), (I64 0)], .box 29 [(I64 0), (BO false), (I64 0), (PV.v (.float .f64 0)), (ofStr []), (PV.v (.slice none 0 0)), (PV.v (.int .u64 0)), (PV.v (.slice none 0 0)), (PV.v (.slice none 0 0)), (ofStr []), (I64 0)], .arr 29 (s51).length]) ?_ ?_ ?_
          ·intro i; exact ⟨Nat.le_of_ble_eq_true rfl, ⟨(il_nil rfl), ⟨(il_rf rfl), ⟨(il_rf rfl), ⟨(il_rf rfl), ⟨(il_rf rfl), ⟨(il_nil rfl), ⟨(il_nil rfl), ⟨(il_nil rfl), trivial⟩⟩⟩⟩⟩⟩⟩⟩, ⟨⟨(il_nil (ids_slM (fun _ => rfl) _)), ⟨(il_nil rfl), ⟨(il_nil rfl), ⟨(il_nil rfl), ⟨(il_nil rfl), trivial⟩⟩⟩⟩⟩, ⟨⟨(il_nil rfl), ⟨(il_nil rfl), ⟨(il_nil rfl), ⟨(il_nil rfl), ⟨(il_nil rfl), ⟨(il_nil (ids_slM (fun _ => rfl) _)), ⟨(il_nil rfl), ⟨(il_tok rfl (ids_map ids_Term _)), ⟨(il_nil (ids_slM ids_Entry _)), ⟨(il_nil rfl), ⟨(il_nil rfl), trivial⟩⟩⟩⟩⟩⟩⟩⟩⟩⟩⟩, ⟨⟨(il_nil rfl), ⟨(il_nil rfl), ⟨(il_nil rfl), ⟨(il_nil rfl), ⟨(il_nil rfl), trivial⟩⟩⟩⟩⟩, ⟨⟨(il_nil rfl), ⟨(il_nil rfl), ⟨(il_nil rfl), ⟨(il_nil rfl), ⟨(il_nil rfl), ⟨(il_nil rfl), ⟨(il_nil rfl), ⟨(il_nil rfl), ⟨(il_nil rfl), ⟨(il_nil rfl), ⟨(il_nil rfl), trivial⟩⟩⟩⟩⟩⟩⟩⟩⟩⟩⟩, trivial⟩⟩⟩⟩⟩
          ·rintro s52 h; replace h : ref03_reading_body_j4 r_ref03_reading_term (fun y0 y1 y2 y3 y4 y5 y6 => g1_f (y0, y1, y2, y3, y4, y5, y6)) a1 a3 s45 s46 s47 s48 s49 s50 s51 s52 = some r := h; unfold ref03_reading_body_j4 at h
           change BW _ _ _ ⟨[(3, (I64 a3)), (4, (PV.rf 0 0)), (5, (PV.rf 1 0)), (8, (PV.rf 2 0)), (9, (PV.rf 3 0)), (11, (PV.v (.int .u64 x44.2))), (15, (PV.v (.int .u64 s45))), (126, (BO s52))], [.box 78 [(PV.sl none 5 1 (List.map ofB s46)), (I64 s47), (I64 s48), (I64 s49), (I64 s50)], .box 29 [(I64 a1.kind), (BO a1.bool), (I64 a1.int), (PV.v (.float .f64 a1.float)), (ofStr a1.text), (PV.sl none 5 1 (List.map ofB a1.bytes)), (PV.v (.int .u64 a1.ref)), (PV.sl (some 4) 29 11 (List.map ofTerm s51)), (PV.sl none 86 12 (List.map ofEntry a1.fields)), (ofStr a1.cls), (I64 a1.ver)], .box 78 [(PV.v (.slice none 0 0)), (I64 0), (I64 0), (I64 0), (I64 0)], .box 29 [(I64 0), (BO false), (I64 0), (PV.v (.float .f64 0)), (ofStr []), (PV.v (.slice none 0 0)), (PV.v (.int .u64 0)), (PV.v (.slice none 0 0)), (PV.v (.slice none 0 0)), (ofStr []), (I64 0)], .arr 29 (s51).length], _⟩ _
           refine bw_cond rfl ?_ ?_
           ·intro hc53; replace h := ocond_t hc53 h
            refine bw_skip ?_
            change BW _ _ _ _ _
            refine bw_seq ?_
            refine bw_block ?_
            change BW _ _ _ _ _
            refine bR ?_
            refine sS rfl rfl rfl (op1_build (cs := [(I64 0), (BO false), (I64 0), (PV.v (.float .f64 0)), (ofStr []), (PV.v (.slice none 0 0)), (PV.v (.int .u64 0)), (PV.v (.slice none 0 0)), (PV.v (.slice none 0 0)), (ofStr []), (I64 0)]) st_29 inf_29 rfl rfl rfl rfl) ?_
            refine sS rfl rfl rfl (op1_alloc inf_29 rfl) ?_
            refine ao_step0 rfl rfl (op1_store inf_29 rfl rfl rfl rfl rfl rfl (Nat.le_of_ble_eq_true rfl) rfl) ?_
            refine ao_nil ?_
            change BW _ _ _ _ _
            refine bR ?_
            refine sS rfl rfl rfl ((op1_ldRA inf_78 Try.underlying78 rfl rfl rfl rfl rfl rfl)) ?_
            refine sM rfl rfl rfl rfl rfl ?_
            refine sS rfl rfl rfl (op1_addW rfl rfl rfl) ?_
            obtain ⟨x54, hx54, h⟩ := obind h
            refine sS rfl rfl rfl (op1_pcall rfl en_37 rfl (.cons (Wk.refl _) (.cons (Wk.refl _) .nil)) ⟨(ids_S_ref03_reading (S_ref03_reading.mk s46 s47 s48 s49 s50)), ⟨rfl, trivial⟩⟩ (c_ref03_reading_term (S_ref03_reading.mk s46 s47 s48 s49 s50) (IntKind.i64.wrap (a3 + 1)) x54 hx54) (ids_tup_cons (ids_S_ref03_reading x54.1) (ids_tup_cons (ids_TermX x54.2) ids_tup_nil))) ?_
            refine sM rfl rfl rfl rfl rfl ?_
            refine sS rfl rfl rfl (op1_ext rfl rfl rfl) ?_
            refine sS rfl rfl rfl (op1_ext rfl rfl rfl) ?_
            refine ao_step0 rfl rfl (op1_store inf_78 rfl rfl rfl rfl rfl rfl (Nat.le_of_ble_eq_true rfl) rfl) ?_
            refine ao_step0 rfl rfl (op1_store inf_29 rfl rfl rfl rfl rfl rfl (Nat.le_of_ble_eq_true rfl) rfl) ?_
            refine ao_nil ?_
            change BW _ _ _ _ _
            refine bw_region ?_
            refine sS rfl rfl rfl (op1_faR st_29 (i := 7) rfl rfl rfl) ?_
            refine sS rfl rfl rfl ((op1_ldR Try.underlying26 rfl rfl rfl rfl rfl)) ?_
            refine sS rfl rfl rfl ((op1_ldRA inf_29 Try.underlying29 rfl rfl rfl rfl rfl rfl)) ?_
            refine sS rfl rfl rfl ((op1_bslice (xs := [(PV.agg [(I64 ((x54.2).kind)), (BO ((x54.2).bool)), (I64 ((x54.2).int)), (PV.v (.float .f64 (x54.2).float)), (ofStr (x54.2).text), (PV.sl none 5 1 (List.map ofB (x54.2).bytes)), (PV.v (.int .u64 (x54.2).ref)), (PV.sl none 29 11 (List.map ofTerm (x54.2).list)), (PV.sl none 86 12 (List.map ofEntry (x54.2).fields)), (ofStr (x54.2).cls), (I64 ((x54.2).ver))])]) Try.underlying26 inf_29 rfl rfl rfl rfl rfl rfl ⟨Nat.le_of_ble_eq_true rfl, Nat.le_of_ble_eq_true rfl⟩ rfl).cast (y := (PV.sl (some 6) 29 11 (List.map ofTerm ([(x54.2)] : (List Term))))) (by simp only [List.map_cons, List.map_nil, ofTerm_eq]; try rfl) rfl) ?_
            obtain ⟨x55, hx55, h⟩ := obind h
            refine sS rfl rfl rfl (op1_appM Try.underlying26 inf_29 rfl Try.underlying26 rfl rfl rfl rfl csz_Term call1_Term hx55 rfl) ?_
            refine sS rfl rfl rfl (op1_faR st_29 (i := 7) rfl rfl rfl) ?_
            refine ao_step0 rfl rfl (op1_store inf_26 rfl rfl rfl rfl rfl rfl (Nat.le_of_ble_eq_true rfl) rfl) ?_
            refine ao_nil ?_
            change BW _ _ _ _ _
            refine bw_region ?_
            refine sM rfl rfl rfl rfl rfl ?_
            refine sS rfl rfl rfl (op1_addW rfl rfl rfl) ?_
            refine sA rfl rfl rfl rfl rfl (ao_nil ?_)
            exact ⟨rfl, ((IntKind.u64.wrap (s45 + 1)), (x54.1).f_b, (x54.1).f_at, (x54.1).f_n, (x54.1).f_place, (x54.1).f_why, x55), h, ⟨(.cons .same (.cons .same (.cons .same (.cons .same (.cons .same .nil))))), (sC rfl (sC rfl (sC rfl (sC rfl (sC rfl (sC rfl (sC rfl sub_nil)))))))⟩⟩
           ·intro hc53; replace h := ocond_f hc53 h
            refine bw_exit ?_
            exact ⟨rfl, (s46, s47, s48, s49, s50, a1.bool, a1.int, a1.float, a1.text, a1.bytes, a1.ref, s51, a1.fields, a1.cls, a1.ver), h, ⟨(.cons .same (.cons (.box (.cons (Wk.refl _) (.cons (Wk.refl _) (.cons (Wk.refl _) (.cons (Wk.refl _) (.cons (Wk.refl _) (.cons (Wk.refl _) (.cons (Wk.refl _) (.cons Wk.tok (.cons (Wk.refl _) (.cons (Wk.refl _) (.cons (Wk.refl _) .nil)))))))))))) (.cons .same (.cons .same .nil)))), (sC rfl (sC rfl (sC rfl (sC rfl sub_nil))))⟩⟩
          ·refine bw_region ?_
           refine sM rfl rfl rfl rfl rfl ?_
           refine sM rfl rfl rfl rfl rfl ?_
           refine sS rfl rfl rfl ((op1_cmp rfl rfl rfl rfl).cast (y := (BO ((decide (s45 < x44.2))))) rfl rfl) ?_
           refine sM rfl rfl rfl rfl rfl ?_
           refine ao_cases (t := 122) rfl ?_ ?_
           ·intro hb56; replace h := ocond_t hb56 h
            refine ao_yes rfl rfl rfl rfl rfl rfl (op1_faR st_78 (i := 4) rfl rfl rfl) ?_
            refine ao_yes rfl rfl rfl rfl rfl rfl ((op1_ldR Try.underlying31 rfl rfl rfl rfl rfl)) ?_
            refine ao_yes rfl rfl rfl rfl rfl rfl ((op1_cmp rfl rfl rfl rfl).cast (y := (BO ((s50 == 0)))) rfl rfl) ?_
            refine sS rfl rfl rfl (op1_pickT rfl rfl rfl) (ao_nil ?_)
            exact ⟨rfl, (s50 == 0), h, ⟨(.cons .same (.cons .same (.cons .same (.cons .same (.cons .same .nil))))), (sC rfl (sC rfl (sC rfl (sC rfl (sC rfl (sC rfl (sC rfl (sC rfl sub_nil))))))))⟩⟩
           ·intro hb56; replace h := ocond_f hb56 h
            refine ao_no rfl rfl rfl rfl rfl rfl ?_
            refine ao_no rfl rfl rfl rfl rfl rfl ?_
            refine ao_no rfl rfl rfl rfl rfl rfl ?_
            refine sS rfl rfl rfl (op1_pickF rfl rfl rfl) (ao_nil ?_)
            exact ⟨rfl, false, h, ⟨(.cons .same (.cons .same (.cons .same (.cons .same (.cons .same .nil))))), (sC rfl (sC rfl (sC rfl (sC rfl (sC rfl (sC rfl (sC rfl (sC rfl sub_nil))))))))⟩⟩
        ·intro hc43; replace h := ocond_f hc43 h
         refine bR ?_
         refine sS rfl rfl rfl ((op1_cmp rfl rfl rfl rfl).cast (y := (BO ((a1.kind == 9)))) rfl rfl) ?_
         refine sA rfl rfl rfl rfl rfl (ao_nil ?_)
         change BW _ _ _ _ _
         refine bw_cond rfl ?_ ?_
         ·intro hc57; replace h := ocond_t hc57 h
          refine bw_region ?_
          refine sS rfl rfl rfl ((op1_ldRA inf_78 Try.underlying78 rfl rfl rfl rfl rfl rfl)) ?_
          refine sM rfl rfl rfl rfl rfl ?_
          refine sM rfl rfl rfl rfl rfl ?_
          obtain ⟨x58, hx58, h⟩ := obind h
          refine sS rfl rfl rfl (op1_pcall rfl en_72 rfl (.cons (Wk.refl _) (.cons (Wk.refl _) (.cons (Wk.refl _) .nil))) ⟨(ids_S_ref03_reading a0), ⟨rfl, ⟨rfl, trivial⟩⟩⟩ (c_ref03_reading_fields a0 a2 a3 x58 hx58) (ids_tup_cons (ids_S_ref03_reading x58.1) (ids_tup_cons (ids_slM ids_Entry x58.2) ids_tup_nil))) ?_
          refine sM rfl rfl rfl rfl rfl ?_
          refine sS rfl rfl rfl (op1_ext rfl rfl rfl) ?_
          refine sS rfl rfl rfl (op1_ext rfl rfl rfl) ?_
          refine ao_step0 rfl rfl (op1_store inf_78 rfl rfl rfl rfl rfl rfl (Nat.le_of_ble_eq_true rfl) rfl) ?_
          refine sS rfl rfl rfl (op1_faR st_29 (i := 8) rfl rfl rfl) ?_
          refine ao_step0 rfl rfl (op1_store inf_27 rfl rfl rfl rfl rfl rfl (Nat.le_of_ble_eq_true rfl) rfl) ?_
          refine ao_nil ?_
          exact ⟨rfl, ((x58.1).f_b, (x58.1).f_at, (x58.1).f_n, (x58.1).f_place, (x58.1).f_why, a1.bool, a1.int, a1.float, a1.text, a1.bytes, a1.ref, [], x58.2, a1.cls, a1.ver), h, ⟨(.cons .same (.cons (.box (.cons (Wk.refl _) (.cons (Wk.refl _) (.cons (Wk.refl _) (.cons (Wk.refl _) (.cons (Wk.refl _) (.cons (Wk.refl _) (.cons (Wk.refl _) (.cons Wk.nil (.cons (Wk.refl _) (.cons (Wk.refl _) (.cons (Wk.refl _) .nil)))))))))))) (.cons .same (.cons .same .nil)))), (sC rfl (sC rfl (sC rfl (sC rfl sub_nil))))⟩⟩
         ·intro hc57; replace h := ocond_f hc57 h
          refine bR ?_
          refine sS rfl rfl rfl ((op1_cmp rfl rfl rfl rfl).cast (y := (BO ((a1.kind == 10)))) rfl rfl) ?_
          refine sA rfl rfl rfl rfl rfl (ao_nil ?_)
          change BW _ _ _ _ _
          refine bw_cond rfl ?_ ?_
          ·intro hc59; replace h := ocond_t hc59 h
           refine bR ?_
           refine sS rfl rfl rfl ((op1_ldRA inf_78 Try.underlying78 rfl rfl rfl rfl rfl rfl)) ?_
           refine sM rfl rfl rfl rfl rfl ?_
           obtain ⟨x60, hx60, h⟩ := obind h
           refine sS rfl rfl rfl (op1_pcall rfl en_73 rfl (.cons (Wk.refl _) (.cons (Wk.refl _) .nil)) ⟨(ids_S_ref03_reading a0), ⟨rfl, trivial⟩⟩ (s_ref03_reading_name a0 a2 x60 hx60) (ids_tup_cons (ids_S_ref03_reading x60.1) (ids_tup_cons rfl ids_tup_nil))) ?_
           refine sM rfl rfl rfl rfl rfl ?_
           refine sS rfl rfl rfl (op1_ext rfl rfl rfl) ?_
           refine sS rfl rfl rfl (op1_ext rfl rfl rfl) ?_
           refine ao_step0 rfl rfl (op1_store inf_78 rfl rfl rfl rfl rfl rfl (Nat.le_of_ble_eq_true rfl) rfl) ?_
           refine sS rfl rfl rfl (op1_faR st_29 (i := 9) rfl rfl rfl) ?_
           refine ao_step0 rfl rfl (op1_store inf_9 rfl rfl rfl rfl rfl rfl (Nat.le_of_ble_eq_true rfl) rfl) ?_
           refine ao_nil ?_
           change BW _ _ _ _ _
           refine bR ?_
           refine sS rfl rfl rfl ((op1_ldRA inf_78 Try.underlying78 rfl rfl rfl rfl rfl rfl)) ?_
           obtain ⟨x61, hx61, h⟩ := obind h
           refine sS rfl rfl rfl (op1_pcall rfl en_69 rfl (.cons (Wk.refl _) .nil) ⟨(ids_S_ref03_reading (x60.1)), trivial⟩ (s_ref03_reading_number (x60.1) x61 hx61) (ids_tup_cons (ids_S_ref03_reading x61.1) (ids_tup_cons rfl ids_tup_nil))) ?_
           refine sM rfl rfl rfl rfl rfl ?_
           refine sS rfl rfl rfl (op1_ext rfl rfl rfl) ?_
           refine sS rfl rfl rfl (op1_ext rfl rfl rfl) ?_
           refine ao_step0 rfl rfl (op1_store inf_78 rfl rfl rfl rfl rfl rfl (Nat.le_of_ble_eq_true rfl) rfl) ?_
           refine sA rfl rfl rfl rfl rfl (ao_nil ?_)
           change BW _ _ _ _ _
           refine bw_seqJ (ι := (Str × Int × Int × Int × Int)) (fun i => ref03_reading_body_j5 r_ref03_reading_fields a1 a2 a3 x60 x61 i.1 i.2.1 i.2.2.1 i.2.2.2.1 i.2.2.2.2 = some r) (fun i => [(2, (I64 a2)), (3, (I64 a3)), (4, (PV.rf 0 0)), (5, (PV.rf 1 0)), (8, (PV.rf 2 0)), (9, (PV.rf 3 0)), (11, (PV.v (.int .u64 x61.2)))]) (fun i => [.box 78 [(PV.sl none 5 1 (List.map ofB i.1)), (I64 i.2.1), (I64 i.2.2.1), (I64 i.2.2.2.1), (I64 i.2.2.2.2)], .box 29 [(I64 a1.kind), (BO a1.bool), (I64 a1.int), (PV.v (.float .f64 a1.float)), (ofStr a1.text), (PV.sl none 5 1 (List.map ofB a1.bytes)), (PV.v (.int .u64 a1.ref)), (PV.v (.slice none 0 0)), (PV.sl none 86 12 (List.map ofEntry a1.fields)), (ofStr x60.2), (I64 a1.ver)], .box 78 [(PV.v (.slice none 0 0)), (I64 0), (I64 0), (I64 0), (I64 0)], .box 29 [(I64 0), (BO false), (I64 0), (PV.v (.float .f64 0)), (ofStr []), (PV.v (.slice none 0 0)), (PV.v (.int .u64 0)), (PV.v (.slice none 0 0)), (PV.v (.slice none 0 0)), (ofStr []), (I64 0)]]) ?_ ?_ ?_
           ·intro i; exact ⟨Nat.le_of_ble_eq_true rfl, ⟨(il_nil rfl), ⟨(il_nil rfl), ⟨(il_rf rfl), ⟨(il_rf rfl), ⟨(il_rf rfl), ⟨(il_rf rfl), ⟨(il_nil rfl), trivial⟩⟩⟩⟩⟩⟩⟩, ⟨⟨(il_nil (ids_slM (fun _ => rfl) _)), ⟨(il_nil rfl), ⟨(il_nil rfl), ⟨(il_nil rfl), ⟨(il_nil rfl), trivial⟩⟩⟩⟩⟩, ⟨⟨(il_nil rfl), ⟨(il_nil rfl), ⟨(il_nil rfl), ⟨(il_nil rfl), ⟨(il_nil rfl), ⟨(il_nil (ids_slM (fun _ => rfl) _)), ⟨(il_nil rfl), ⟨(il_nil rfl), ⟨(il_nil (ids_slM ids_Entry _)), ⟨(il_nil rfl), ⟨(il_nil rfl), trivial⟩⟩⟩⟩⟩⟩⟩⟩⟩⟩⟩, ⟨⟨(il_nil rfl), ⟨(il_nil rfl), ⟨(il_nil rfl), ⟨(il_nil rfl), ⟨(il_nil rfl), trivial⟩⟩⟩⟩⟩, ⟨⟨(il_nil rfl), ⟨(il_nil rfl), ⟨(il_nil rfl), ⟨(il_nil rfl), ⟨(il_nil rfl), ⟨(il_nil rfl), ⟨(il_nil rfl), ⟨(il_nil rfl), ⟨(il_nil rfl), ⟨(il_nil rfl), ⟨(il_nil rfl), trivial⟩⟩⟩⟩⟩⟩⟩⟩⟩⟩⟩, trivial⟩⟩⟩⟩⟩
           ·rintro ⟨s62, s63, s64, s65, s66⟩ h; replace h : ref03_reading_body_j5 r_ref03_reading_fields a1 a2 a3 x60 x61 s62 s63 s64 s65 s66 = some r := h; unfold ref03_reading_body_j5 at h
            change BW _ _ _ ⟨[(2, (I64 a2)), (3, (I64 a3)), (4, (PV.rf 0 0)), (5, (PV.rf 1 0)), (8, (PV.rf 2 0)), (9, (PV.rf 3 0)), (11, (PV.v (.int .u64 x61.2)))], [.box 78 [(PV.sl none 5 1 (List.map ofB s62)), (I64 s63), (I64 s64), (I64 s65), (I64 s66)], .box 29 [(I64 a1.kind), (BO a1.bool), (I64 a1.int), (PV.v (.float .f64 a1.float)), (ofStr a1.text), (PV.sl none 5 1 (List.map ofB a1.bytes)), (PV.v (.int .u64 a1.ref)), (PV.v (.slice none 0 0)), (PV.sl none 86 12 (List.map ofEntry a1.fields)), (ofStr x60.2), (I64 a1.ver)], .box 78 [(PV.v (.slice none 0 0)), (I64 0), (I64 0), (I64 0), (I64 0)], .box 29 [(I64 0), (BO false), (I64 0), (PV.v (.float .f64 0)), (ofStr []), (PV.v (.slice none 0 0)), (PV.v (.int .u64 0)), (PV.v (.slice none 0 0)), (PV.v (.slice none 0 0)), (ofStr []), (I64 0)]], _⟩ _
            refine bR ?_
            refine sM rfl rfl rfl rfl rfl ?_
            refine sS rfl rfl rfl (op1_convI Try.underlying24 Try.underlying3 rfl rfl) ?_
            refine sS rfl rfl rfl (op1_faR st_29 (i := 10) rfl rfl rfl) ?_
            refine ao_step0 rfl rfl (op1_store inf_3 rfl rfl rfl rfl rfl rfl (Nat.le_of_ble_eq_true rfl) rfl) ?_
            refine ao_nil ?_
            change BW _ _ _ _ _
            refine bw_region ?_
            refine sS rfl rfl rfl ((op1_ldRA inf_78 Try.underlying78 rfl rfl rfl rfl rfl rfl)) ?_
            refine sM rfl rfl rfl rfl rfl ?_
            refine sM rfl rfl rfl rfl rfl ?_
            obtain ⟨x67, hx67, h⟩ := obind h
            refine sS rfl rfl rfl (op1_pcall rfl en_72 rfl (.cons (Wk.refl _) (.cons (Wk.refl _) (.cons (Wk.refl _) .nil))) ⟨(ids_S_ref03_reading (S_ref03_reading.mk s62 s63 s64 s65 s66)), ⟨rfl, ⟨rfl, trivial⟩⟩⟩ (c_ref03_reading_fields (S_ref03_reading.mk s62 s63 s64 s65 s66) a2 a3 x67 hx67) (ids_tup_cons (ids_S_ref03_reading x67.1) (ids_tup_cons (ids_slM ids_Entry x67.2) ids_tup_nil))) ?_
            refine sM rfl rfl rfl rfl rfl ?_
            refine sS rfl rfl rfl (op1_ext rfl rfl rfl) ?_
            refine sS rfl rfl rfl (op1_ext rfl rfl rfl) ?_
            refine ao_step0 rfl rfl (op1_store inf_78 rfl rfl rfl rfl rfl rfl (Nat.le_of_ble_eq_true rfl) rfl) ?_
            refine sS rfl rfl rfl (op1_faR st_29 (i := 8) rfl rfl rfl) ?_
            refine ao_step0 rfl rfl (op1_store inf_27 rfl rfl rfl rfl rfl rfl (Nat.le_of_ble_eq_true rfl) rfl) ?_
            refine ao_nil ?_
            exact ⟨rfl, ((x67.1).f_b, (x67.1).f_at, (x67.1).f_n, (x67.1).f_place, (x67.1).f_why, a1.bool, a1.int, a1.float, a1.text, a1.bytes, a1.ref, [], x67.2, x60.2, (IntKind.i64.wrap x61.2)), h, ⟨(.cons .same (.cons (.box (.cons (Wk.refl _) (.cons (Wk.refl _) (.cons (Wk.refl _) (.cons (Wk.refl _) (.cons (Wk.refl _) (.cons (Wk.refl _) (.cons (Wk.refl _) (.cons Wk.nil (.cons (Wk.refl _) (.cons (Wk.refl _) (.cons (Wk.refl _) .nil)))))))))))) (.cons .same (.cons .same .nil)))), (sC rfl (sC rfl (sC rfl (sC rfl sub_nil))))⟩⟩
           ·refine bw_seqJ (ι := Bool) (fun i => ref03_reading_body_j6 r_ref03_reading_fields a1 a2 a3 x60 x61 i = some r) (fun i => [(2, (I64 a2)), (3, (I64 a3)), (4, (PV.rf 0 0)), (5, (PV.rf 1 0)), (8, (PV.rf 2 0)), (9, (PV.rf 3 0)), (11, (PV.v (.int .u64 x61.2))), (177, (BO i))]) (fun i => [.box 78 [(PV.sl none 5 1 (List.map ofB (x61.1).f_b)), (I64 ((x61.1).f_at)), (I64 ((x61.1).f_n)), (I64 ((x61.1).f_place)), (I64 ((x61.1).f_why))], .box 29 [(I64 a1.kind), (BO a1.bool), (I64 a1.int), (PV.v (.float .f64 a1.float)), (ofStr a1.text), (PV.sl none 5 1 (List.map ofB a1.bytes)), (PV.v (.int .u64 a1.ref)), (PV.v (.slice none 0 0)), (PV.sl none 86 12 (List.map ofEntry a1.fields)), (ofStr x60.2), (I64 a1.ver)], .box 78 [(PV.v (.slice none 0 0)), (I64 0), (I64 0), (I64 0), (I64 0)], .box 29 [(I64 0), (BO false), (I64 0), (PV.v (.float .f64 0)), (ofStr []), (PV.v (.slice none 0 0)), (PV.v (.int .u64 0)), (PV.v (.slice none 0 0)), (PV.v (.slice none 0 0)), (ofStr []), (I64 0)]]) ?_ ?_ ?_
            ·intro i; exact ⟨Nat.le_of_ble_eq_true rfl, ⟨(il_nil rfl), ⟨(il_nil rfl), ⟨(il_rf rfl), ⟨(il_rf rfl), ⟨(il_rf rfl), ⟨(il_rf rfl), ⟨(il_nil rfl), ⟨(il_nil rfl), trivial⟩⟩⟩⟩⟩⟩⟩⟩, ⟨⟨(il_nil (ids_slM (fun _ => rfl) _)), ⟨(il_nil rfl), ⟨(il_nil rfl), ⟨(il_nil rfl), ⟨(il_nil rfl), trivial⟩⟩⟩⟩⟩, ⟨⟨(il_nil rfl), ⟨(il_nil rfl), ⟨(il_nil rfl), ⟨(il_nil rfl), ⟨(il_nil rfl), ⟨(il_nil (ids_slM (fun _ => rfl) _)), ⟨(il_nil rfl), ⟨(il_nil rfl), ⟨(il_nil (ids_slM ids_Entry _)), ⟨(il_nil rfl), ⟨(il_nil rfl), trivial⟩⟩⟩⟩⟩⟩⟩⟩⟩⟩⟩, ⟨⟨(il_nil rfl), ⟨(il_nil rfl), ⟨(il_nil rfl), ⟨(il_nil rfl), ⟨(il_nil rfl), trivial⟩⟩⟩⟩⟩, ⟨⟨(il_nil rfl), ⟨(il_nil rfl), ⟨(il_nil rfl), ⟨(il_nil rfl), ⟨(il_nil rfl), ⟨(il_nil rfl), ⟨(il_nil rfl), ⟨(il_nil rfl), ⟨(il_nil rfl), ⟨(il_nil rfl), ⟨(il_nil rfl), trivial⟩⟩⟩⟩⟩⟩⟩⟩⟩⟩⟩, trivial⟩⟩⟩⟩⟩
            ·rintro s68 h; replace h : ref03_reading_body_j6 r_ref03_reading_fields a1 a2 a3 x60 x61 s68 = some r := h; unfold ref03_reading_body_j6 at h
             change BW _ _ _ ⟨[(2, (I64 a2)), (3, (I64 a3)), (4, (PV.rf 0 0)), (5, (PV.rf 1 0)), (8, (PV.rf 2 0)), (9, (PV.rf 3 0)), (11, (PV.v (.int .u64 x61.2))), (177, (BO s68))], [.box 78 [(PV.sl none 5 1 (List.map ofB (x61.1).f_b)), (I64 ((x61.1).f_at)), (I64 ((x61.1).f_n)), (I64 ((x61.1).f_place)), (I64 ((x61.1).f_why))], .box 29 [(I64 a1.kind), (BO a1.bool), (I64 a1.int), (PV.v (.float .f64 a1.float)), (ofStr a1.text), (PV.sl none 5 1 (List.map ofB a1.bytes)), (PV.v (.int .u64 a1.ref)), (PV.v (.slice none 0 0)), (PV.sl none 86 12 (List.map ofEntry a1.fields)), (ofStr x60.2), (I64 a1.ver)], .box 78 [(PV.v (.slice none 0 0)), (I64 0), (I64 0), (I64 0), (I64 0)], .box 29 [(I64 0), (BO false), (I64 0), (PV.v (.float .f64 0)), (ofStr []), (PV.v (.slice none 0 0)), (PV.v (.int .u64 0)), (PV.v (.slice none 0 0)), (PV.v (.slice none 0 0)), (ofStr []), (I64 0)]], _⟩ _
             refine bw_cond rfl ?_ ?_
             ·intro hc69; replace h := ocond_t hc69 h
              refine bw_region ?_
              refine sS rfl rfl rfl ((op1_ldRA inf_78 Try.underlying78 rfl rfl rfl rfl rfl rfl)) ?_
              refine sM rfl rfl rfl rfl rfl ?_
              obtain ⟨x70, hx70, h⟩ := obind h
              refine sS rfl rfl rfl (op1_pcall rfl en_53 rfl (.cons (Wk.refl _) (.cons (Wk.refl _) (.cons (Wk.refl _) .nil))) ⟨(ids_S_ref03_reading (x61.1)), ⟨rfl, ⟨rfl, trivial⟩⟩⟩ (s_ref03_reading_bad (x61.1) a2 1 x70 hx70) (ids_S_ref03_reading x70)) ?_
              refine ao_step0 rfl rfl (op1_store inf_78 rfl rfl rfl rfl rfl rfl (Nat.le_of_ble_eq_true rfl) rfl) ?_
              refine ao_nil ?_
              exact ⟨rfl, (x70.f_b, x70.f_at, x70.f_n, x70.f_place, x70.f_why), h, ⟨(.cons .same (.cons .same (.cons .same (.cons .same .nil)))), (sC rfl (sC rfl (sC rfl (sC rfl (sC rfl (sC rfl (sC rfl sub_nil)))))))⟩⟩
             ·intro hc69; replace h := ocond_f hc69 h
              refine bw_skip ?_
              exact ⟨rfl, ((x61.1).f_b, (x61.1).f_at, (x61.1).f_n, (x61.1).f_place, (x61.1).f_why), h, ⟨(.cons .same (.cons .same (.cons .same (.cons .same .nil)))), (sC rfl (sC rfl (sC rfl (sC rfl (sC rfl (sC rfl (sC rfl sub_nil)))))))⟩⟩
            ·refine bw_region ?_
             refine sS rfl rfl rfl (op1_faR st_78 (i := 4) rfl rfl rfl) ?_
             refine sS rfl rfl rfl ((op1_ldR Try.underlying31 rfl rfl rfl rfl rfl)) ?_
             refine sS rfl rfl rfl ((op1_cmp rfl rfl rfl rfl).cast (y := (BO (((x61.1).f_why == 0)))) rfl rfl) ?_
             refine sM rfl rfl rfl rfl rfl ?_
             refine ao_cases (t := 170) rfl ?_ ?_
             ·intro hb71; replace h := ocond_t hb71 h
              refine ao_yes rfl rfl rfl rfl rfl rfl (op1_move rfl rfl) ?_
              refine ao_yes rfl rfl rfl rfl rfl rfl ((op1_cmp rfl rfl rfl rfl).cast (y := (BO ((decide (x61.2 < 1))))) rfl rfl) ?_
              refine ao_yes rfl rfl rfl rfl rfl rfl (op1_move rfl rfl) ?_
              refine ao_cases (t := 173) rfl ?_ ?_
              ·intro hb72; replace h := ocond_t hb72 h
               refine ao_no rfl rfl rfl rfl rfl rfl ?_
               refine ao_no rfl rfl rfl rfl rfl rfl ?_
               refine ao_yes rfl rfl rfl rfl rfl rfl (op1_pickT rfl rfl rfl) ?_
               refine sS rfl rfl rfl (op1_pickT rfl rfl rfl) (ao_nil ?_)
               exact ⟨rfl, true, h, ⟨(.cons .same (.cons .same (.cons .same (.cons .same .nil)))), (sC rfl (sC rfl (sC rfl (sC rfl (sC rfl (sC rfl (sC rfl (sC rfl sub_nil))))))))⟩⟩
              ·intro hb72; replace h := ocond_f hb72 h
               refine ao_yes rfl rfl rfl rfl rfl rfl (op1_move rfl rfl) ?_
               refine ao_yes rfl rfl rfl rfl rfl rfl ((op1_cmp rfl rfl rfl rfl).cast (y := (BO ((decide (x61.2 > 1000))))) rfl rfl) ?_
               refine ao_yes rfl rfl rfl rfl rfl rfl (op1_pickF rfl rfl rfl) ?_
               refine sS rfl rfl rfl (op1_pickT rfl rfl rfl) (ao_nil ?_)
               exact ⟨rfl, (decide (x61.2 > 1000)), h, ⟨(.cons .same (.cons .same (.cons .same (.cons .same .nil)))), (sC rfl (sC rfl (sC rfl (sC rfl (sC rfl (sC rfl (sC rfl (sC rfl sub_nil))))))))⟩⟩
             ·intro hb71; replace h := ocond_f hb71 h
              refine ao_no rfl rfl rfl rfl rfl rfl ?_
              refine ao_no rfl rfl rfl rfl rfl rfl ?_
              refine ao_no rfl rfl rfl rfl rfl rfl ?_
              refine ao_no rfl rfl rfl rfl rfl rfl ?_
              refine ao_no rfl rfl rfl rfl rfl rfl ?_
              refine ao_no rfl rfl rfl rfl rfl rfl ?_
              refine sS rfl rfl rfl (op1_pickF rfl rfl rfl) (ao_nil ?_)
              exact ⟨rfl, false, h, ⟨(.cons .same (.cons .same (.cons .same (.cons .same .nil)))), (sC rfl (sC rfl (sC rfl (sC rfl (sC rfl (sC rfl (sC rfl (sC rfl sub_nil))))))))⟩⟩
          ·intro hc59; replace h := ocond_f hc59 h
           refine bw_skip ?_
           exact ⟨rfl, (a0.f_b, a0.f_at, a0.f_n, a0.f_place, a0.f_why, a1.bool, a1.int, a1.float, a1.text, a1.bytes, a1.ref, [], a1.fields, a1.cls, a1.ver), h, ⟨(.cons .same (.cons (.box (.cons (Wk.refl _) (.cons (Wk.refl _) (.cons (Wk.refl _) (.cons (Wk.refl _) (.cons (Wk.refl _) (.cons (Wk.refl _) (.cons (Wk.refl _) (.cons Wk.nil (.cons (Wk.refl _) (.cons (Wk.refl _) (.cons (Wk.refl _) .nil)))))))))))) (.cons .same (.cons .same .nil)))), (sC rfl (sC rfl (sC rfl (sC rfl sub_nil))))⟩⟩
     ·refine bR ?_
      refine sS rfl rfl rfl ((op1_cmp rfl rfl rfl rfl).cast (y := (BO ((a1.kind == 5)))) rfl rfl) ?_
      refine sA rfl rfl rfl rfl rfl (ao_nil ?_)
      change BW _ _ _ _ _
      refine bw_cond rfl ?_ ?_
      ·intro hc73; replace h := ocond_t hc73 h
       refine bw_skip ?_
       exact ⟨rfl, (a1.kind == 5), h, ⟨(.cons .same (.cons .same (.cons .same (.cons .same .nil)))), (sC rfl (sC rfl (sC rfl (sC rfl (sC rfl (sC rfl (sC rfl (sC rfl sub_nil))))))))⟩⟩
      ·intro hc73; replace h := ocond_f hc73 h
       refine bw_region ?_
       refine sS rfl rfl rfl ((op1_cmp rfl rfl rfl rfl).cast (y := (BO ((a1.kind == 6)))) rfl rfl) ?_
       refine sA rfl rfl rfl rfl rfl (ao_nil ?_)
       exact ⟨rfl, (a1.kind == 6), h, ⟨(.cons .same (.cons .same (.cons .same (.cons .same .nil)))), (sC rfl (sC rfl (sC rfl (sC rfl (sC rfl (sC rfl (sC rfl (sC rfl sub_nil))))))))⟩⟩
theorem t_ref03_reading_term (r_ref03_reading_fields : S_ref03_reading → Int → Int → Option (S_ref03_reading × (List (Str × Term)))) (c_ref03_reading_fields : ∀ (a0 : S_ref03_reading) (a1 : Int) (a2 : Int) r, r_ref03_reading_fields a0 a1 a2 = some r → PCalls Try.prog 72 [(of_ref03_reading a0), (I64 a1), (I64 a2)] (PV.tup [(of_ref03_reading r.1), (PV.sl none 86 12 (List.map ofEntry r.2))])) (r_ref03_reading_body : S_ref03_reading → Term → Int → Int → Option (S_ref03_reading × Term)) (c_ref03_reading_body : ∀ (a0 : S_ref03_reading) (a1 : Term) (a2 : Int) (a3 : Int) r, r_ref03_reading_body a0 a1 a2 a3 = some r → PCalls Try.prog 55 [(of_ref03_reading a0), (PV.agg [(I64 a1.kind), (BO a1.bool), (I64 a1.int), (PV.v (.float .f64 a1.float)), (ofStr a1.text), (PV.sl none 5 1 (List.map ofB a1.bytes)), (PV.v (.int .u64 a1.ref)), (PV.v (.slice none 0 0)), (PV.sl none 86 12 (List.map ofEntry a1.fields)), (ofStr a1.cls), (I64 a1.ver)]), (I64 a2), (I64 a3)] (PV.tup [(of_ref03_reading r.1), (ofTermX r.2)])) (r_ref03_reading_term : S_ref03_reading → Int → Option (S_ref03_reading × Term)) (c_ref03_reading_term : ∀ (a0 : S_ref03_reading) (a1 : Int) r, r_ref03_reading_term a0 a1 = some r → PCalls Try.prog 37 [(of_ref03_reading a0), (I64 a1)] (PV.tup [(of_ref03_reading r.1), (ofTermX r.2)])) (a0 : S_ref03_reading) (a1 : Int) (r : (S_ref03_reading × Term)) (h : b_ref03_reading_term r_ref03_reading_fields r_ref03_reading_body r_ref03_reading_term a0 a1 = some r) : PCalls Try.prog 37 [(of_ref03_reading a0), (I64 a1)] (PV.tup [(of_ref03_reading r.1), (ofTermX r.2)]) := by
 unfold b_ref03_reading_term at h
 refine acalls_of Try.func37 rfl Try.ntmps37 Try.results37 rfl (aw_of_bw ?_)
 change BW _ _ _ ⟨[(0, (of_ref03_reading a0)), (1, (I64 a1))], [], _⟩ _
 refine bR ?_
 refine sS rfl rfl rfl (op1_box rfl rfl rfl) ?_
 refine sS rfl rfl rfl (op1_alloc inf_78 rfl) ?_
 refine sS rfl rfl rfl (op1_alloc inf_29 rfl) (ao_nil ?_)
 change BW _ _ _ _ _
 refine bw_seq ?_
 refine bR ?_
 refine sS rfl rfl rfl (op1_faR st_78 (i := 4) rfl rfl rfl) ?_
 refine sS rfl rfl rfl ((op1_ldR Try.underlying31 rfl rfl rfl rfl rfl)) ?_
 refine sS rfl rfl rfl ((op1_cmp rfl rfl rfl rfl).cast (y := (BO ((a0.f_why != 0)))) rfl rfl) (ao_nil ?_)
 change BW _ _ _ _ _
 refine bw_cond rfl ?_ ?_
 ·intro hc1; replace h := ocond_t hc1 h
  refine bR ?_
  refine sS rfl rfl rfl ((op1_ldRA inf_78 Try.underlying78 rfl rfl rfl rfl rfl rfl)) ?_
  refine sS rfl rfl rfl (op1_build (cs := [(I64 0), (BO false), (I64 0), (PV.v (.float .f64 0)), (ofStr []), (PV.v (.slice none 0 0)), (PV.v (.int .u64 0)), (PV.v (.slice none 0 0)), (PV.v (.slice none 0 0)), (ofStr []), (I64 0)]) st_29 inf_29 rfl rfl rfl rfl) ?_
  refine ao_step0 rfl rfl (op1_store inf_78 rfl rfl rfl rfl rfl rfl (Nat.le_of_ble_eq_true rfl) rfl) ?_
  refine ao_step0 rfl rfl (op1_store inf_29 rfl rfl rfl rfl rfl rfl (Nat.le_of_ble_eq_true rfl) rfl) ?_
  refine ao_nil ?_
  change BW _ _ _ _ _
  refine bw_ret ?_
  change ∃ xs, _ = some xs ∧ EndOk _ _ _ _
  obtain rfl := Option.some.inj h
  exact ⟨_, rfl, endOk0 (y := (PV.tup [(of_ref03_reading a0), (ofTermX (Term.mk 0 false 0 0 [] [] 0 [] [] [] 0))])) (Wk.tup (.cons (Wk.refl _) (.cons (Wk.agg (.cons (Wk.refl _) (.cons (Wk.refl _) (.cons (Wk.refl _) (.cons (Wk.refl _) (.cons (Wk.refl _) (.cons Wk.nil (.cons (Wk.refl _) (.cons Wk.nil (.cons Wk.nil (.cons (Wk.refl _) (.cons (Wk.refl _) .nil)))))))))))) .nil))) (ids_tup_cons (ids_S_ref03_reading a0) (ids_tup_cons (ids_TermX (Term.mk 0 false 0 0 [] [] 0 [] [] [] 0)) ids_tup_nil)) ⟨rfl, rfl⟩⟩
 ·intro hc1; replace h := ocond_f hc1 h
  refine bw_skip ?_
  change BW _ _ _ _ _
  refine bR ?_
  refine sS rfl rfl rfl (op1_faR st_78 (i := 1) rfl rfl rfl) ?_
  refine sS rfl rfl rfl ((op1_ldR Try.underlying3 rfl rfl rfl rfl rfl)) ?_
  refine sA rfl rfl rfl rfl rfl (ao_nil ?_)
  change BW _ _ _ _ _
  refine bw_seq ?_
  refine bR ?_
  refine sM rfl rfl rfl rfl rfl ?_
  refine sS rfl rfl rfl (op1_faR st_78 (i := 0) rfl rfl rfl) ?_
  refine sS rfl rfl rfl ((op1_ldR Try.underlying23 rfl rfl rfl rfl rfl)) ?_
  refine sS rfl rfl rfl (op1_lenM Try.underlying23 rfl rfl) ?_
  refine sS rfl rfl rfl ((op1_cmp rfl rfl rfl rfl).cast (y := (BO ((a0.f_at == (((a0.f_b).length : Nat) : Int))))) rfl rfl) (ao_nil ?_)
  change BW _ _ _ _ _
  refine bw_cond rfl ?_ ?_
  ·intro hc2; replace h := ocond_t hc2 h
   refine bR ?_
   refine sS rfl rfl rfl ((op1_ldRA inf_78 Try.underlying78 rfl rfl rfl rfl rfl rfl)) ?_
   refine sM rfl rfl rfl rfl rfl ?_
   obtain ⟨x3, hx3, h⟩ := obind h
   refine sS rfl rfl rfl (op1_pcall rfl en_53 rfl (.cons (Wk.refl _) (.cons (Wk.refl _) (.cons (Wk.refl _) .nil))) ⟨(ids_S_ref03_reading a0), ⟨rfl, ⟨rfl, trivial⟩⟩⟩ (s_ref03_reading_bad a0 a0.f_at 4 x3 hx3) (ids_S_ref03_reading x3)) ?_
   refine sS rfl rfl rfl (op1_build (cs := [(I64 0), (BO false), (I64 0), (PV.v (.float .f64 0)), (ofStr []), (PV.v (.slice none 0 0)), (PV.v (.int .u64 0)), (PV.v (.slice none 0 0)), (PV.v (.slice none 0 0)), (ofStr []), (I64 0)]) st_29 inf_29 rfl rfl rfl rfl) ?_
   refine ao_step0 rfl rfl (op1_store inf_78 rfl rfl rfl rfl rfl rfl (Nat.le_of_ble_eq_true rfl) rfl) ?_
   refine ao_step0 rfl rfl (op1_store inf_29 rfl rfl rfl rfl rfl rfl (Nat.le_of_ble_eq_true rfl) rfl) ?_
   refine ao_nil ?_
   change BW _ _ _ _ _
   refine bw_ret ?_
   change ∃ xs, _ = some xs ∧ EndOk _ _ _ _
   obtain rfl := Option.some.inj h
   exact ⟨_, rfl, endOk0 (y := (PV.tup [(of_ref03_reading x3), (ofTermX (Term.mk 0 false 0 0 [] [] 0 [] [] [] 0))])) (Wk.tup (.cons (Wk.refl _) (.cons (Wk.agg (.cons (Wk.refl _) (.cons (Wk.refl _) (.cons (Wk.refl _) (.cons (Wk.refl _) (.cons (Wk.refl _) (.cons Wk.nil (.cons (Wk.refl _) (.cons Wk.nil (.cons Wk.nil (.cons (Wk.refl _) (.cons (Wk.refl _) .nil)))))))))))) .nil))) (ids_tup_cons (ids_S_ref03_reading x3) (ids_tup_cons (ids_TermX (Term.mk 0 false 0 0 [] [] 0 [] [] [] 0)) ids_tup_nil)) ⟨rfl, rfl⟩⟩
  ·intro hc2; replace h := ocond_f hc2 h
   refine bw_skip ?_
   change BW _ _ _ _ _
   refine bw_seq ?_
   refine bw_seqJ (ι := Bool) (fun i => ref03_reading_term_j1 r_ref03_reading_body a0 a1 i = some r) (fun i => [(1, (I64 a1)), (2, (PV.rf 0 0)), (4, (PV.rf 1 0)), (5, (PV.rf 2 0)), (6, (I64 a0.f_at)), (30, (BO i))]) (fun i => [.box 78 [(PV.sl none 5 1 (List.map ofB a0.f_b)), (I64 a0.f_at), (I64 a0.f_n), (I64 a0.f_place), (I64 a0.f_why)], .box 78 [(PV.v (.slice none 0 0)), (I64 0), (I64 0), (I64 0), (I64 0)], .box 29 [(I64 0), (BO false), (I64 0), (PV.v (.float .f64 0)), (ofStr []), (PV.v (.slice none 0 0)), (PV.v (.int .u64 0)), (PV.v (.slice none 0 0)), (PV.v (.slice none 0 0)), (ofStr []), (I64 0)]]) ?_ ?_ ?_
   ·intro i; exact ⟨Nat.le_of_ble_eq_true rfl, ⟨(il_nil rfl), ⟨(il_rf rfl), ⟨(il_rf rfl), ⟨(il_rf rfl), ⟨(il_nil rfl), ⟨(il_nil rfl), trivial⟩⟩⟩⟩⟩⟩, ⟨⟨(il_nil (ids_slM (fun _ => rfl) _)), ⟨(il_nil rfl), ⟨(il_nil rfl), ⟨(il_nil rfl), ⟨(il_nil rfl), trivial⟩⟩⟩⟩⟩, ⟨⟨(il_nil rfl), ⟨(il_nil rfl), ⟨(il_nil rfl), ⟨(il_nil rfl), ⟨(il_nil rfl), trivial⟩⟩⟩⟩⟩, ⟨⟨(il_nil rfl), ⟨(il_nil rfl), ⟨(il_nil rfl), ⟨(il_nil rfl), ⟨(il_nil rfl), ⟨(il_nil rfl), ⟨(il_nil rfl), ⟨(il_nil rfl), ⟨(il_nil rfl), ⟨(il_nil rfl), ⟨(il_nil rfl), trivial⟩⟩⟩⟩⟩⟩⟩⟩⟩⟩⟩, trivial⟩⟩⟩⟩
   ·rintro s4 h; replace h : ref03_reading_term_j1 r_ref03_reading_body a0 a1 s4 = some r := h; unfold ref03_reading_term_j1 at h
    change BW _ _ _ ⟨[(1, (I64 a1)), (2, (PV.rf 0 0)), (4, (PV.rf 1 0)), (5, (PV.rf 2 0)), (6, (I64 a0.f_at)), (30, (BO s4))], [.box 78 [(PV.sl none 5 1 (List.map ofB a0.f_b)), (I64 a0.f_at), (I64 a0.f_n), (I64 a0.f_place), (I64 a0.f_why)], .box 78 [(PV.v (.slice none 0 0)), (I64 0), (I64 0), (I64 0), (I64 0)], .box 29 [(I64 0), (BO false), (I64 0), (PV.v (.float .f64 0)), (ofStr []), (PV.v (.slice none 0 0)), (PV.v (.int .u64 0)), (PV.v (.slice none 0 0)), (PV.v (.slice none 0 0)), (ofStr []), (I64 0)]], _⟩ _
    refine bw_cond rfl ?_ ?_
    ·intro hc5; replace h := ocond_t hc5 h
     refine bR ?_
     refine sS rfl rfl rfl ((op1_ldRA inf_78 Try.underlying78 rfl rfl rfl rfl rfl rfl)) ?_
     refine sM rfl rfl rfl rfl rfl ?_
     obtain ⟨x6, hx6, h⟩ := obind h
     refine sS rfl rfl rfl (op1_pcall rfl en_53 rfl (.cons (Wk.refl _) (.cons (Wk.refl _) (.cons (Wk.refl _) .nil))) ⟨(ids_S_ref03_reading a0), ⟨rfl, ⟨rfl, trivial⟩⟩⟩ (s_ref03_reading_bad a0 a0.f_at 2 x6 hx6) (ids_S_ref03_reading x6)) ?_
     refine sS rfl rfl rfl (op1_build (cs := [(I64 0), (BO false), (I64 0), (PV.v (.float .f64 0)), (ofStr []), (PV.v (.slice none 0 0)), (PV.v (.int .u64 0)), (PV.v (.slice none 0 0)), (PV.v (.slice none 0 0)), (ofStr []), (I64 0)]) st_29 inf_29 rfl rfl rfl rfl) ?_
     refine ao_step0 rfl rfl (op1_store inf_78 rfl rfl rfl rfl rfl rfl (Nat.le_of_ble_eq_true rfl) rfl) ?_
     refine ao_step0 rfl rfl (op1_store inf_29 rfl rfl rfl rfl rfl rfl (Nat.le_of_ble_eq_true rfl) rfl) ?_
     refine ao_nil ?_
     change BW _ _ _ _ _
     refine bw_ret ?_
     change ∃ xs, _ = some xs ∧ EndOk _ _ _ _
     obtain rfl := Option.some.inj h
     exact ⟨_, rfl, endOk0 (y := (PV.tup [(of_ref03_reading x6), (ofTermX (Term.mk 0 false 0 0 [] [] 0 [] [] [] 0))])) (Wk.tup (.cons (Wk.refl _) (.cons (Wk.agg (.cons (Wk.refl _) (.cons (Wk.refl _) (.cons (Wk.refl _) (.cons (Wk.refl _) (.cons (Wk.refl _) (.cons Wk.nil (.cons (Wk.refl _) (.cons Wk.nil (.cons Wk.nil (.cons (Wk.refl _) (.cons (Wk.refl _) .nil)))))))))))) .nil))) (ids_tup_cons (ids_S_ref03_reading x6) (ids_tup_cons (ids_TermX (Term.mk 0 false 0 0 [] [] 0 [] [] [] 0)) ids_tup_nil)) ⟨rfl, rfl⟩⟩
    ·intro hc5; replace h := ocond_f hc5 h
     refine bw_skip ?_
     change BW _ _ _ _ _
     refine bR ?_
     refine sS rfl rfl rfl (op1_faR st_78 (i := 2) rfl rfl rfl) ?_
     refine sS rfl rfl rfl ((op1_ldR Try.underlying3 rfl rfl rfl rfl rfl)) ?_
     refine sS rfl rfl rfl (op1_addW rfl rfl rfl) ?_
     refine sS rfl rfl rfl (op1_faR st_78 (i := 2) rfl rfl rfl) ?_
     refine ao_step0 rfl rfl (op1_store inf_3 rfl rfl rfl rfl rfl rfl (Nat.le_of_ble_eq_true rfl) rfl) ?_
     refine ao_nil ?_
     change BW _ _ _ _ _
     refine bR ?_
     refine sS rfl rfl rfl ((op1_ldRA inf_78 Try.underlying78 rfl rfl rfl rfl rfl rfl)) ?_
     obtain ⟨x7, hx7, h⟩ := obind h
     refine sS rfl rfl rfl (op1_pcall rfl en_54 rfl (.cons (Wk.refl _) .nil) ⟨(ids_S_ref03_reading (S_ref03_reading.mk a0.f_b a0.f_at (IntKind.i64.wrap (a0.f_n + 1)) a0.f_place a0.f_why)), trivial⟩ (s_ref03_reading_one (S_ref03_reading.mk a0.f_b a0.f_at (IntKind.i64.wrap (a0.f_n + 1)) a0.f_place a0.f_why) x7 hx7) (ids_tup_cons (ids_S_ref03_reading x7.1) (ids_tup_cons rfl ids_tup_nil))) ?_
     refine sM rfl rfl rfl rfl rfl ?_
     refine sS rfl rfl rfl (op1_ext rfl rfl rfl) ?_
     refine sS rfl rfl rfl (op1_ext rfl rfl rfl) ?_
     refine ao_step0 rfl rfl (op1_store inf_78 rfl rfl rfl rfl rfl rfl (Nat.le_of_ble_eq_true rfl) rfl) ?_
     refine sA rfl rfl rfl rfl rfl (ao_nil ?_)
     change BW _ _ _ _ _
     refine bw_seq ?_
     refine bw_seqJ (ι := Bool) (fun i => ref03_reading_term_j2 r_ref03_reading_body a0 a1 x7 i = some r) (fun i => [(1, (I64 a1)), (2, (PV.rf 0 0)), (4, (PV.rf 1 0)), (5, (PV.rf 2 0)), (6, (I64 a0.f_at)), (7, (ofB x7.2)), (49, (BO i))]) (fun i => [.box 78 [(PV.sl none 5 1 (List.map ofB (x7.1).f_b)), (I64 ((x7.1).f_at)), (I64 ((x7.1).f_n)), (I64 ((x7.1).f_place)), (I64 ((x7.1).f_why))], .box 78 [(PV.v (.slice none 0 0)), (I64 0), (I64 0), (I64 0), (I64 0)], .box 29 [(I64 0), (BO false), (I64 0), (PV.v (.float .f64 0)), (ofStr []), (PV.v (.slice none 0 0)), (PV.v (.int .u64 0)), (PV.v (.slice none 0 0)), (PV.v (.slice none 0 0)), (ofStr []), (I64 0)]]) ?_ ?_ ?_
     ·intro i; exact ⟨Nat.le_of_ble_eq_true rfl, ⟨(il_nil rfl), ⟨(il_rf rfl), ⟨(il_rf rfl), ⟨(il_rf rfl), ⟨(il_nil rfl), ⟨(il_nil rfl), ⟨(il_nil rfl), trivial⟩⟩⟩⟩⟩⟩⟩, ⟨⟨(il_nil (ids_slM (fun _ => rfl) _)), ⟨(il_nil rfl), ⟨(il_nil rfl), ⟨(il_nil rfl), ⟨(il_nil rfl), trivial⟩⟩⟩⟩⟩, ⟨⟨(il_nil rfl), ⟨(il_nil rfl), ⟨(il_nil rfl), ⟨(il_nil rfl), ⟨(il_nil rfl), trivial⟩⟩⟩⟩⟩, ⟨⟨(il_nil rfl), ⟨(il_nil rfl), ⟨(il_nil rfl), ⟨(il_nil rfl), ⟨(il_nil rfl), ⟨(il_nil rfl), ⟨(il_nil rfl), ⟨(il_nil rfl), ⟨(il_nil rfl), ⟨(il_nil rfl), ⟨(il_nil rfl), trivial⟩⟩⟩⟩⟩⟩⟩⟩⟩⟩⟩, trivial⟩⟩⟩⟩
     ·rintro s8 h; replace h : ref03_reading_term_j2 r_ref03_reading_body a0 a1 x7 s8 = some r := h; unfold ref03_reading_term_j2 at h
      change BW _ _ _ ⟨[(1, (I64 a1)), (2, (PV.rf 0 0)), (4, (PV.rf 1 0)), (5, (PV.rf 2 0)), (6, (I64 a0.f_at)), (7, (ofB x7.2)), (49, (BO s8))], [.box 78 [(PV.sl none 5 1 (List.map ofB (x7.1).f_b)), (I64 ((x7.1).f_at)), (I64 ((x7.1).f_n)), (I64 ((x7.1).f_place)), (I64 ((x7.1).f_why))], .box 78 [(PV.v (.slice none 0 0)), (I64 0), (I64 0), (I64 0), (I64 0)], .box 29 [(I64 0), (BO false), (I64 0), (PV.v (.float .f64 0)), (ofStr []), (PV.v (.slice none 0 0)), (PV.v (.int .u64 0)), (PV.v (.slice none 0 0)), (PV.v (.slice none 0 0)), (ofStr []), (I64 0)]], _⟩ _
      refine bw_cond rfl ?_ ?_
      ·intro hc9; replace h := ocond_t hc9 h
       refine bR ?_
       refine sS rfl rfl rfl ((op1_ldRA inf_78 Try.underlying78 rfl rfl rfl rfl rfl rfl)) ?_
       refine sM rfl rfl rfl rfl rfl ?_
       obtain ⟨x10, hx10, h⟩ := obind h
       refine sS rfl rfl rfl (op1_pcall rfl en_53 rfl (.cons (Wk.refl _) (.cons (Wk.refl _) (.cons (Wk.refl _) .nil))) ⟨(ids_S_ref03_reading (x7.1)), ⟨rfl, ⟨rfl, trivial⟩⟩⟩ (s_ref03_reading_bad (x7.1) a0.f_at 30 x10 hx10) (ids_S_ref03_reading x10)) ?_
       refine sS rfl rfl rfl (op1_build (cs := [(I64 0), (BO false), (I64 0), (PV.v (.float .f64 0)), (ofStr []), (PV.v (.slice none 0 0)), (PV.v (.int .u64 0)), (PV.v (.slice none 0 0)), (PV.v (.slice none 0 0)), (ofStr []), (I64 0)]) st_29 inf_29 rfl rfl rfl rfl) ?_
       refine ao_step0 rfl rfl (op1_store inf_78 rfl rfl rfl rfl rfl rfl (Nat.le_of_ble_eq_true rfl) rfl) ?_
       refine ao_step0 rfl rfl (op1_store inf_29 rfl rfl rfl rfl rfl rfl (Nat.le_of_ble_eq_true rfl) rfl) ?_
       refine ao_nil ?_
       change BW _ _ _ _ _
       refine bw_ret ?_
       change ∃ xs, _ = some xs ∧ EndOk _ _ _ _
       obtain rfl := Option.some.inj h
       exact ⟨_, rfl, endOk0 (y := (PV.tup [(of_ref03_reading x10), (ofTermX (Term.mk 0 false 0 0 [] [] 0 [] [] [] 0))])) (Wk.tup (.cons (Wk.refl _) (.cons (Wk.agg (.cons (Wk.refl _) (.cons (Wk.refl _) (.cons (Wk.refl _) (.cons (Wk.refl _) (.cons (Wk.refl _) (.cons Wk.nil (.cons (Wk.refl _) (.cons Wk.nil (.cons Wk.nil (.cons (Wk.refl _) (.cons (Wk.refl _) .nil)))))))))))) .nil))) (ids_tup_cons (ids_S_ref03_reading x10) (ids_tup_cons (ids_TermX (Term.mk 0 false 0 0 [] [] 0 [] [] [] 0)) ids_tup_nil)) ⟨rfl, rfl⟩⟩
      ·intro hc9; replace h := ocond_f hc9 h
       refine bw_skip ?_
       change BW _ _ _ _ _
       refine bR ?_
       refine sS rfl rfl rfl ((op1_ldRA inf_78 Try.underlying78 rfl rfl rfl rfl rfl rfl)) ?_
       refine sM rfl rfl rfl rfl rfl ?_
       refine sS rfl rfl rfl ((op1_convI Try.underlying5 Try.underlying3 rfl rfl).cast (y := (I64 (((x7.2).toNat : Int)))) (by rw [wrapB_i64]) rfl) ?_
       refine sS rfl rfl rfl (op1_build (cs := [(I64 (((x7.2).toNat : Int))), (BO false), (I64 0), (PV.v (.float .f64 0)), (ofStr []), (PV.v (.slice none 0 0)), (PV.v (.int .u64 0)), (PV.v (.slice none 0 0)), (PV.v (.slice none 0 0)), (ofStr []), (I64 0)]) st_29 inf_29 rfl rfl rfl rfl) ?_
       refine sM rfl rfl rfl rfl rfl ?_
       refine sM rfl rfl rfl rfl rfl ?_
       obtain ⟨x11, hx11, h⟩ := obind h
       refine sS rfl rfl rfl (op1_pcall rfl en_55 rfl (.cons (Wk.refl _) (.cons (Wk.agg (.cons (Wk.refl _) (.cons (Wk.refl _) (.cons (Wk.refl _) (.cons (Wk.refl _) (.cons (Wk.refl _) (.cons Wk.nil (.cons (Wk.refl _) (.cons (Wk.refl _) (.cons Wk.nil (.cons (Wk.refl _) (.cons (Wk.refl _) .nil)))))))))))) (.cons (Wk.refl _) (.cons (Wk.refl _) .nil)))) ⟨(ids_S_ref03_reading (x7.1)), ⟨(by exact ids_agg_cons rfl (ids_agg_cons rfl (ids_agg_cons rfl (ids_agg_cons rfl (ids_agg_cons (by rfl) (ids_agg_cons (by rfl) (ids_agg_cons rfl (ids_agg_cons (by rfl) (ids_agg_cons (by rfl) (ids_agg_cons (by rfl) (ids_agg_cons rfl (ids_agg_nil)))))))))))), ⟨rfl, ⟨rfl, trivial⟩⟩⟩⟩ (c_ref03_reading_body (x7.1) (Term.mk ((x7.2).toNat : Int) false 0 0 [] [] 0 [] [] [] 0) a0.f_at a1 x11 hx11) (ids_tup_cons (ids_S_ref03_reading x11.1) (ids_tup_cons (ids_TermX x11.2) ids_tup_nil))) ?_
       refine sS rfl rfl rfl (op1_ext rfl rfl rfl) ?_
       refine sS rfl rfl rfl (op1_ext rfl rfl rfl) ?_
       refine ao_step0 rfl rfl (op1_store inf_78 rfl rfl rfl rfl rfl rfl (Nat.le_of_ble_eq_true rfl) rfl) ?_
       refine ao_step0 rfl rfl (op1_store inf_29 rfl rfl rfl rfl rfl rfl (Nat.le_of_ble_eq_true rfl) rfl) ?_
       refine ao_nil ?_
       change BW _ _ _ _ _
       refine bw_ret ?_
       change ∃ xs, _ = some xs ∧ EndOk _ _ _ _
       obtain rfl := Option.some.inj h
       exact ⟨_, rfl, endOk0 (y := (PV.tup [(of_ref03_reading (x11.1)), (ofTermX (x11.2))])) (Wk.refl _) (ids_tup_cons (ids_S_ref03_reading (x11.1)) (ids_tup_cons (ids_TermX (x11.2)) ids_tup_nil)) ⟨rfl, rfl⟩⟩
     ·refine bw_region ?_
      refine sM rfl rfl rfl rfl rfl ?_
      refine sS rfl rfl rfl ((op1_cmp rfl rfl rfl rfl).cast (y := (BO ((decide (((x7.2).toNat : Int) < (((1 : UInt8)).toNat : Int)))))) rfl rfl) ?_
      refine sM rfl rfl rfl rfl rfl ?_
      refine ao_cases (t := 46) rfl ?_ ?_
      ·intro hb12; replace h := ocond_t hb12 h
       refine ao_no rfl rfl rfl rfl rfl rfl ?_
       refine ao_no rfl rfl rfl rfl rfl rfl ?_
       refine sS rfl rfl rfl (op1_pickT rfl rfl rfl) (ao_nil ?_)
       exact ⟨rfl, true, h, ⟨(.cons .same (.cons .same (.cons .same .nil))), (sC rfl (sC rfl (sC rfl (sC rfl (sC rfl (sC rfl (sC rfl sub_nil)))))))⟩⟩
      ·intro hb12; replace h := ocond_f hb12 h
       refine ao_yes rfl rfl rfl rfl rfl rfl (op1_move rfl rfl) ?_
       refine ao_yes rfl rfl rfl rfl rfl rfl ((op1_cmp rfl rfl rfl rfl).cast (y := (BO ((decide (((x7.2).toNat : Int) > (((10 : UInt8)).toNat : Int)))))) rfl rfl) ?_
       refine sS rfl rfl rfl (op1_pickF rfl rfl rfl) (ao_nil ?_)
       exact ⟨rfl, (decide (((x7.2).toNat : Int) > (((10 : UInt8)).toNat : Int))), h, ⟨(.cons .same (.cons .same (.cons .same .nil))), (sC rfl (sC rfl (sC rfl (sC rfl (sC rfl (sC rfl (sC rfl sub_nil)))))))⟩⟩
   ·refine bw_region ?_
    refine sS rfl rfl rfl (op1_faR st_78 (i := 2) rfl rfl rfl) ?_
    refine sS rfl rfl rfl ((op1_ldR Try.underlying3 rfl rfl rfl rfl rfl)) ?_
    refine sS rfl rfl rfl ((op1_cmp rfl rfl rfl rfl).cast (y := (BO ((decide (a0.f_n ≥ 16384))))) rfl rfl) ?_
    refine sM rfl rfl rfl rfl rfl ?_
    refine ao_cases (t := 27) rfl ?_ ?_
    ·intro hb13; replace h := ocond_t hb13 h
     refine ao_no rfl rfl rfl rfl rfl rfl ?_
     refine ao_no rfl rfl rfl rfl rfl rfl ?_
     refine sS rfl rfl rfl (op1_pickT rfl rfl rfl) (ao_nil ?_)
     exact ⟨rfl, true, h, ⟨(.cons .same (.cons .same (.cons .same .nil))), (sC rfl (sC rfl (sC rfl (sC rfl (sC rfl (sC rfl sub_nil))))))⟩⟩
    ·intro hb13; replace h := ocond_f hb13 h
     refine ao_yes rfl rfl rfl rfl rfl rfl (op1_move rfl rfl) ?_
     refine ao_yes rfl rfl rfl rfl rfl rfl ((op1_cmp rfl rfl rfl rfl).cast (y := (BO ((decide (a1 > 64))))) rfl rfl) ?_
     refine sS rfl rfl rfl (op1_pickF rfl rfl rfl) (ao_nil ?_)
     exact ⟨rfl, (decide (a1 > 64)), h, ⟨(.cons .same (.cons .same (.cons .same .nil))), (sC rfl (sC rfl (sC rfl (sC rfl (sC rfl (sC rfl sub_nil))))))⟩⟩
theorem C_ref03_reading_fields.sound : ∀ (i : C_ref03_reading_fields) (r : i.R), fixO C_ref03_reading_fields.F i = some r → C_ref03_reading_fields.Q i r := by
 refine fixO_ind (Φ := C_ref03_reading_fields.F) (Q := C_ref03_reading_fields.Q) ?_
 intro g hg i r h
 cases i with
 | k_ref03_reading_fields a0 a1 a2 => exact t_ref03_reading_fields (fun a0 a1 a2 => g (.k_ref03_reading_fields a0 a1 a2)) (fun a0 a1 a2 r hr => hg (.k_ref03_reading_fields a0 a1 a2) r hr) (fun a0 a1 a2 a3 => g (.k_ref03_reading_body a0 a1 a2 a3)) (fun a0 a1 a2 a3 r hr => hg (.k_ref03_reading_body a0 a1 a2 a3) r hr) (fun a0 a1 => g (.k_ref03_reading_term a0 a1)) (fun a0 a1 r hr => hg (.k_ref03_reading_term a0 a1) r hr) a0 a1 a2 r h
 | k_ref03_reading_body a0 a1 a2 a3 => exact t_ref03_reading_body (fun a0 a1 a2 => g (.k_ref03_reading_fields a0 a1 a2)) (fun a0 a1 a2 r hr => hg (.k_ref03_reading_fields a0 a1 a2) r hr) (fun a0 a1 a2 a3 => g (.k_ref03_reading_body a0 a1 a2 a3)) (fun a0 a1 a2 a3 r hr => hg (.k_ref03_reading_body a0 a1 a2 a3) r hr) (fun a0 a1 => g (.k_ref03_reading_term a0 a1)) (fun a0 a1 r hr => hg (.k_ref03_reading_term a0 a1) r hr) a0 a1 a2 a3 r h
 | k_ref03_reading_term a0 a1 => exact t_ref03_reading_term (fun a0 a1 a2 => g (.k_ref03_reading_fields a0 a1 a2)) (fun a0 a1 a2 r hr => hg (.k_ref03_reading_fields a0 a1 a2) r hr) (fun a0 a1 a2 a3 => g (.k_ref03_reading_body a0 a1 a2 a3)) (fun a0 a1 a2 a3 r hr => hg (.k_ref03_reading_body a0 a1 a2 a3) r hr) (fun a0 a1 => g (.k_ref03_reading_term a0 a1)) (fun a0 a1 r hr => hg (.k_ref03_reading_term a0 a1) r hr) a0 a1 r h
theorem s_ref03_reading_term (a0 : S_ref03_reading) (a1 : Int) (r : (S_ref03_reading × Term)) (h : p_ref03_reading_term a0 a1 = some r) : PCalls Try.prog 37 [(of_ref03_reading a0), (I64 a1)] (PV.tup [(of_ref03_reading r.1), (ofTermX r.2)]) := C_ref03_reading_fields.sound (.k_ref03_reading_term a0 a1) r h
end Go.Proofs.Ytigadhiciinicaa
