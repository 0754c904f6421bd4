/- Pure functions, and that calls answer as they say. Written by gen.py. -/
import Derived.Test.YtkmhecgagibgjaaG3
namespace Go.Proofs.Ytkmhecgagibgjaa
open Go Aw
set_option linter.unusedVariables false
set_option linter.unusedSimpArgs false
set_option maxRecDepth 20000
set_option maxHeartbeats 2000000
noncomputable def merge_merger_list_l1b (r_merge_merger_put : S_merge_merger → (List S_api_Step) → S_merge_side → S_merge_side → S_merge_side → Option (S_merge_side × S_merge_merger)) (a1 : (List S_api_Step)) (a2 : V) (a3 : V) (a4 : V) (g1 : (List V) → Nat → Unit → (List S_api_Conflict) → Option (S_merge_side × Bool × S_merge_merger)) (s3 : (List V)) (s4 : Nat) (s5 : Unit) (s6 : (List S_api_Conflict)) : Option (S_merge_side × Bool × S_merge_merger) :=
 bif (decide (((s4 : Nat) : Int) < ((((a2).asList).length : Nat) : Int))) then (
  Option.bind (p_slices_Clip_api_Step_api_Step a1) fun x9 =>
  Option.bind (appO 32 x9 ([(S_api_Step.mk [] true ((s4 : Nat) : Int))] : (List S_api_Step))) fun x10 =>
  Option.bind (((a2).asList)[s4]?) fun x11 =>
  Option.bind (((a3).asList)[s4]?) fun x12 =>
  Option.bind (((a4).asList)[s4]?) fun x13 =>
  Option.bind (r_merge_merger_put (S_merge_merger.mk s5 s6) x10 (S_merge_side.mk x11 true) (S_merge_side.mk x12 true) (S_merge_side.mk x13 true)) fun x14 =>
  Option.bind (appO 16 s3 ([(x14.1).f_v] : (List V))) fun x15 =>
  g1 x15 (s4 + 1) ((x14.2).f_settle) ((x14.2).f_conflicts)
 ) else (
  some ((S_merge_side.mk (V.list s3) true), true, (S_merge_merger.mk s5 s6))
 )
theorem merge_merger_list_l1b_cm {ι : Type} {ρ : ι → Type} (r_merge_merger_put : (∀ i, Option (ρ i)) → S_merge_merger → (List S_api_Step) → S_merge_side → S_merge_side → S_merge_side → Option (S_merge_side × S_merge_merger)) (h_r_merge_merger_put : ∀ y0 y1 y2 y3 y4, CM (fun G => r_merge_merger_put G y0 y1 y2 y3 y4)) (g1 : (∀ i, Option (ρ i)) → (List V) → Nat → Unit → (List S_api_Conflict) → Option (S_merge_side × Bool × S_merge_merger)) (h_g1 : ∀ y0 y1 y2 y3, CM (fun G => g1 G y0 y1 y2 y3)) (a1 : (List S_api_Step)) (a2 : V) (a3 : V) (a4 : V) (s3 : (List V)) (s4 : Nat) (s5 : Unit) (s6 : (List S_api_Conflict)) : CM (fun G : (∀ i, Option (ρ i)) => merge_merger_list_l1b (r_merge_merger_put G) a1 a2 a3 a4 (g1 G) s3 s4 s5 s6) := by
 simp only [merge_merger_list_l1b]
 repeat (first | exact cm_const | exact h_r_merge_merger_put _ _ _ _ _ | exact h_g1 _ _ _ _ | refine cm_cond ?_ ?_ | refine cm_bind ?_ (fun _ => ?_))
noncomputable def merge_merger_list_l1 (r_merge_merger_put : S_merge_merger → (List S_api_Step) → S_merge_side → S_merge_side → S_merge_side → Option (S_merge_side × S_merge_merger)) (a1 : (List S_api_Step)) (a2 : V) (a3 : V) (a4 : V) (s3 : (List V)) (s4 : Nat) (s5 : Unit) (s6 : (List S_api_Conflict)) : Option (S_merge_side × Bool × S_merge_merger) :=
 fixO (ι := ((List V) × Nat × Unit × (List S_api_Conflict))) (ρ := fun _ => (S_merge_side × Bool × S_merge_merger)) (fun g i => merge_merger_list_l1b r_merge_merger_put a1 a2 a3 a4 (fun s3 s4 s5 s6 => g (s3, s4, s5, s6)) i.1 i.2.1 i.2.2.1 i.2.2.2) (s3, s4, s5, s6)
theorem merge_merger_list_l1_eq (r_merge_merger_put : S_merge_merger → (List S_api_Step) → S_merge_side → S_merge_side → S_merge_side → Option (S_merge_side × S_merge_merger)) (a1 : (List S_api_Step)) (a2 : V) (a3 : V) (a4 : V) (s3 : (List V)) (s4 : Nat) (s5 : Unit) (s6 : (List S_api_Conflict)) : merge_merger_list_l1 r_merge_merger_put a1 a2 a3 a4 s3 s4 s5 s6 = merge_merger_list_l1b r_merge_merger_put a1 a2 a3 a4 (merge_merger_list_l1 r_merge_merger_put a1 a2 a3 a4) s3 s4 s5 s6 :=
 fixO_eq (ι := ((List V) × Nat × Unit × (List S_api_Conflict))) (ρ := fun _ => (S_merge_side × Bool × S_merge_merger)) (Φ := fun g i => merge_merger_list_l1b r_merge_merger_put a1 a2 a3 a4 (fun s3 s4 s5 s6 => g (s3, s4, s5, s6)) i.1 i.2.1 i.2.2.1 i.2.2.2) (fun i => merge_merger_list_l1b_cm (ι := ((List V) × Nat × Unit × (List S_api_Conflict))) (ρ := fun _ => (S_merge_side × Bool × S_merge_merger)) (fun _ => r_merge_merger_put) (fun _ _ _ _ _ => cm_const) (fun g => (fun s3 s4 s5 s6 => g (s3, s4, s5, s6))) (fun _ _ _ _ => cm_app) a1 a2 a3 a4 i.1 i.2.1 i.2.2.1 i.2.2.2) (s3, s4, s5, s6)
theorem merge_merger_list_l1_cm {ι : Type} {ρ : ι → Type} (r_merge_merger_put : (∀ i, Option (ρ i)) → S_merge_merger → (List S_api_Step) → S_merge_side → S_merge_side → S_merge_side → Option (S_merge_side × S_merge_merger)) (h_r_merge_merger_put : ∀ y0 y1 y2 y3 y4, CM (fun G => r_merge_merger_put G y0 y1 y2 y3 y4)) (a1 : (List S_api_Step)) (a2 : V) (a3 : V) (a4 : V) (s3 : (List V)) (s4 : Nat) (s5 : Unit) (s6 : (List S_api_Conflict)) : CM (fun G : (∀ i, Option (ρ i)) => merge_merger_list_l1 (r_merge_merger_put G) a1 a2 a3 a4 s3 s4 s5 s6) :=
 cm_fix (κ := ((List V) × Nat × Unit × (List S_api_Conflict))) (τ := fun _ => (S_merge_side × Bool × S_merge_merger)) (Φ := fun G g i => merge_merger_list_l1b (r_merge_merger_put G) a1 a2 a3 a4 (fun s3 s4 s5 s6 => g (s3, s4, s5, s6)) i.1 i.2.1 i.2.2.1 i.2.2.2) (fun g i => merge_merger_list_l1b_cm r_merge_merger_put h_r_merge_merger_put (fun _ => (fun s3 s4 s5 s6 => g (s3, s4, s5, s6))) (fun _ _ _ _ => cm_const) a1 a2 a3 a4 i.1 i.2.1 i.2.2.1 i.2.2.2) (fun G i => merge_merger_list_l1b_cm (ι := ((List V) × Nat × Unit × (List S_api_Conflict))) (ρ := fun _ => (S_merge_side × Bool × S_merge_merger)) (fun _ => r_merge_merger_put G) (fun _ _ _ _ _ => cm_const) (fun g => (fun s3 s4 s5 s6 => g (s3, s4, s5, s6))) (fun _ _ _ _ => cm_app) a1 a2 a3 a4 i.1 i.2.1 i.2.2.1 i.2.2.2) (s3, s4, s5, s6)
noncomputable def merge_merger_list_j1 (r_merge_merger_put : S_merge_merger → (List S_api_Step) → S_merge_side → S_merge_side → S_merge_side → Option (S_merge_side × S_merge_merger)) (a0 : S_merge_merger) (a1 : (List S_api_Step)) (a2 : V) (a3 : V) (a4 : V) (s1 : Bool) : Option (S_merge_side × Bool × S_merge_merger) :=
 bif s1 then (
  some ((S_merge_side.mk V.nil false), false, a0)
 ) else (
  merge_merger_list_l1 r_merge_merger_put a1 a2 a3 a4 ([] : (List V)) 0 a0.f_settle a0.f_conflicts
 )
theorem merge_merger_list_j1_cm {ι : Type} {ρ : ι → Type} (r_merge_merger_put : (∀ i, Option (ρ i)) → S_merge_merger → (List S_api_Step) → S_merge_side → S_merge_side → S_merge_side → Option (S_merge_side × S_merge_merger)) (h_r_merge_merger_put : ∀ y0 y1 y2 y3 y4, CM (fun G => r_merge_merger_put G y0 y1 y2 y3 y4)) (a0 : S_merge_merger) (a1 : (List S_api_Step)) (a2 : V) (a3 : V) (a4 : V) (s1 : Bool) : CM (fun G : (∀ i, Option (ρ i)) => merge_merger_list_j1 (r_merge_merger_put G) a0 a1 a2 a3 a4 s1) := by
 simp only [merge_merger_list_j1]
 repeat (first | exact cm_const | exact h_r_merge_merger_put _ _ _ _ _ | apply merge_merger_list_l1_cm | refine cm_cond ?_ ?_ | refine cm_bind ?_ (fun _ => ?_) | intro _ | assumption)
noncomputable def b_merge_merger_list (r_merge_merger_list : S_merge_merger → (List S_api_Step) → V → V → V → Option (S_merge_side × Bool × S_merge_merger)) (r_merge_merger_fields : S_merge_merger → (List S_api_Step) → V → V → V → Option (S_merge_side × Bool × S_merge_merger)) (r_merge_merger_put : S_merge_merger → (List S_api_Step) → S_merge_side → S_merge_side → S_merge_side → Option (S_merge_side × S_merge_merger)) (a0 : S_merge_merger) (a1 : (List S_api_Step)) (a2 : V) (a3 : V) (a4 : V) : Option (S_merge_side × Bool × S_merge_merger) :=
 bif (!(a2).isList) then (
  merge_merger_list_j1 r_merge_merger_put a0 a1 a2 a3 a4 true
 ) else (
  bif (!(a3).isList) then (
   merge_merger_list_j1 r_merge_merger_put a0 a1 a2 a3 a4 true
  ) else (
   bif (!(a4).isList) then (
    merge_merger_list_j1 r_merge_merger_put a0 a1 a2 a3 a4 true
   ) else (
    bif (((((a2).asList).length : Nat) : Int) != ((((a3).asList).length : Nat) : Int)) then (
     merge_merger_list_j1 r_merge_merger_put a0 a1 a2 a3 a4 true
    ) else (
     merge_merger_list_j1 r_merge_merger_put a0 a1 a2 a3 a4 (((((a2).asList).length : Nat) : Int) != ((((a4).asList).length : Nat) : Int))
    )
   )
  )
 )
theorem b_merge_merger_list_cm {ι : Type} {ρ : ι → Type} (r_merge_merger_list : (∀ i, Option (ρ i)) → S_merge_merger → (List S_api_Step) → V → V → V → Option (S_merge_side × Bool × S_merge_merger)) (h_r_merge_merger_list : ∀ y0 y1 y2 y3 y4, CM (fun G => r_merge_merger_list G y0 y1 y2 y3 y4)) (r_merge_merger_fields : (∀ i, Option (ρ i)) → S_merge_merger → (List S_api_Step) → V → V → V → Option (S_merge_side × Bool × S_merge_merger)) (h_r_merge_merger_fields : ∀ y0 y1 y2 y3 y4, CM (fun G => r_merge_merger_fields G y0 y1 y2 y3 y4)) (r_merge_merger_put : (∀ i, Option (ρ i)) → S_merge_merger → (List S_api_Step) → S_merge_side → S_merge_side → S_merge_side → Option (S_merge_side × S_merge_merger)) (h_r_merge_merger_put : ∀ y0 y1 y2 y3 y4, CM (fun G => r_merge_merger_put G y0 y1 y2 y3 y4)) (a0 : S_merge_merger) (a1 : (List S_api_Step)) (a2 : V) (a3 : V) (a4 : V) : CM (fun G : (∀ i, Option (ρ i)) => b_merge_merger_list (r_merge_merger_list G) (r_merge_merger_fields G) (r_merge_merger_put G) a0 a1 a2 a3 a4) := by
 simp only [b_merge_merger_list]
 repeat (first | exact cm_const | exact h_r_merge_merger_list _ _ _ _ _ | exact h_r_merge_merger_fields _ _ _ _ _ | exact h_r_merge_merger_put _ _ _ _ _ | apply merge_merger_list_j1_cm | refine cm_cond ?_ ?_ | refine cm_bind ?_ (fun _ => ?_) | intro _ | assumption)
noncomputable def merge_merger_fields_l2b (g1 : (List Str) → Int → Option (S_merge_side × Bool × S_merge_merger)) (s7 : Int) (x9 : (List (Str × V))) (g2 : (List Str) → Nat → Option (S_merge_side × Bool × S_merge_merger)) (s10 : (List Str)) (s11 : Nat) : Option (S_merge_side × Bool × S_merge_merger) :=
 bif (decide (((s11 : Nat) : Int) < (((x9).length : Nat) : Int))) then (
  Option.bind ((x9)[s11]?) fun x14 =>
  Option.bind (appO 16 s10 ([x14.1] : (List Str))) fun x15 =>
  g2 x15 (s11 + 1)
 ) else (
  g1 s10 (IntKind.i64.wrap (s7 + 1))
 )
theorem merge_merger_fields_l2b_cm {ι : Type} {ρ : ι → Type} (g1 : (∀ i, Option (ρ i)) → (List Str) → Int → Option (S_merge_side × Bool × S_merge_merger)) (h_g1 : ∀ y0 y1, CM (fun G => g1 G y0 y1)) (g2 : (∀ i, Option (ρ i)) → (List Str) → Nat → Option (S_merge_side × Bool × S_merge_merger)) (h_g2 : ∀ y0 y1, CM (fun G => g2 G y0 y1)) (s7 : Int) (x9 : (List (Str × V))) (s10 : (List Str)) (s11 : Nat) : CM (fun G : (∀ i, Option (ρ i)) => merge_merger_fields_l2b (g1 G) s7 x9 (g2 G) s10 s11) := by
 simp only [merge_merger_fields_l2b]
 repeat (first | exact cm_const | exact h_g1 _ _ | exact h_g2 _ _ | refine cm_cond ?_ ?_ | refine cm_bind ?_ (fun _ => ?_))
noncomputable def merge_merger_fields_l2 (g1 : (List Str) → Int → Option (S_merge_side × Bool × S_merge_merger)) (s7 : Int) (x9 : (List (Str × V))) (s10 : (List Str)) (s11 : Nat) : Option (S_merge_side × Bool × S_merge_merger) :=
 fixO (ι := ((List Str) × Nat)) (ρ := fun _ => (S_merge_side × Bool × S_merge_merger)) (fun g i => merge_merger_fields_l2b g1 s7 x9 (fun s10 s11 => g (s10, s11)) i.1 i.2) (s10, s11)
theorem merge_merger_fields_l2_eq (g1 : (List Str) → Int → Option (S_merge_side × Bool × S_merge_merger)) (s7 : Int) (x9 : (List (Str × V))) (s10 : (List Str)) (s11 : Nat) : merge_merger_fields_l2 g1 s7 x9 s10 s11 = merge_merger_fields_l2b g1 s7 x9 (merge_merger_fields_l2 g1 s7 x9) s10 s11 :=
 fixO_eq (ι := ((List Str) × Nat)) (ρ := fun _ => (S_merge_side × Bool × S_merge_merger)) (Φ := fun g i => merge_merger_fields_l2b g1 s7 x9 (fun s10 s11 => g (s10, s11)) i.1 i.2) (fun i => merge_merger_fields_l2b_cm (ι := ((List Str) × Nat)) (ρ := fun _ => (S_merge_side × Bool × S_merge_merger)) (fun _ => g1) (fun _ _ => cm_const) (fun g => (fun s10 s11 => g (s10, s11))) (fun _ _ => cm_app) s7 x9 i.1 i.2) (s10, s11)
theorem merge_merger_fields_l2_cm {ι : Type} {ρ : ι → Type} (g1 : (∀ i, Option (ρ i)) → (List Str) → Int → Option (S_merge_side × Bool × S_merge_merger)) (h_g1 : ∀ y0 y1, CM (fun G => g1 G y0 y1)) (s7 : Int) (x9 : (List (Str × V))) (s10 : (List Str)) (s11 : Nat) : CM (fun G : (∀ i, Option (ρ i)) => merge_merger_fields_l2 (g1 G) s7 x9 s10 s11) :=
 cm_fix (κ := ((List Str) × Nat)) (τ := fun _ => (S_merge_side × Bool × S_merge_merger)) (Φ := fun G g i => merge_merger_fields_l2b (g1 G) s7 x9 (fun s10 s11 => g (s10, s11)) i.1 i.2) (fun g i => merge_merger_fields_l2b_cm g1 h_g1 (fun _ => (fun s10 s11 => g (s10, s11))) (fun _ _ => cm_const) s7 x9 i.1 i.2) (fun G i => merge_merger_fields_l2b_cm (ι := ((List Str) × Nat)) (ρ := fun _ => (S_merge_side × Bool × S_merge_merger)) (fun _ => g1 G) (fun _ _ => cm_const) (fun g => (fun s10 s11 => g (s10, s11))) (fun _ _ => cm_app) s7 x9 i.1 i.2) (s10, s11)
noncomputable def merge_merger_fields_j2 (g2 : (List (Str × V)) → Int → Unit → (List S_api_Conflict) → Option (S_merge_side × Bool × S_merge_merger)) (s18 : Int) (s22 : (List (Str × V))) (s23 : Unit) (s24 : (List S_api_Conflict)) : Option (S_merge_side × Bool × S_merge_merger) :=
 g2 s22 (IntKind.i64.wrap (s18 + 1)) s23 s24
theorem merge_merger_fields_j2_cm {ι : Type} {ρ : ι → Type} (g2 : (∀ i, Option (ρ i)) → (List (Str × V)) → Int → Unit → (List S_api_Conflict) → Option (S_merge_side × Bool × S_merge_merger)) (h_g2 : ∀ y0 y1 y2 y3, CM (fun G => g2 G y0 y1 y2 y3)) (s18 : Int) (s22 : (List (Str × V))) (s23 : Unit) (s24 : (List S_api_Conflict)) : CM (fun G : (∀ i, Option (ρ i)) => merge_merger_fields_j2 (g2 G) s18 s22 s23 s24) := by
 simp only [merge_merger_fields_j2]
 repeat (first | exact cm_const | exact h_g2 _ _ _ _ | refine cm_cond ?_ ?_ | refine cm_bind ?_ (fun _ => ?_))
noncomputable def merge_merger_fields_l3b (r_merge_merger_put : S_merge_merger → (List S_api_Step) → S_merge_side → S_merge_side → S_merge_side → Option (S_merge_side × S_merge_merger)) (a1 : (List S_api_Step)) (x1 : ((List (Str × V)) × Str × Int × Bool)) (x2 : ((List (Str × V)) × Str × Int × Bool)) (x3 : ((List (Str × V)) × Str × Int × Bool)) (x16 : (List Str)) (g2 : (List (Str × V)) → Int → Unit → (List S_api_Conflict) → Option (S_merge_side × Bool × S_merge_merger)) (s17 : (List (Str × V))) (s18 : Int) (s19 : Unit) (s20 : (List S_api_Conflict)) : Option (S_merge_side × Bool × S_merge_merger) :=
 bif (decide (s18 < ((((compS x16)).length : Nat) : Int))) then (
  Option.bind (idxI (compS x16) s18) fun x25 =>
  Option.bind (p_slices_Clip_api_Step_api_Step a1) fun x26 =>
  Option.bind (appO 32 x26 ([(S_api_Step.mk x25 false 0)] : (List S_api_Step))) fun x27 =>
  Option.bind (p_merge_under x1.1 x25) fun x28 =>
  Option.bind (p_merge_under x2.1 x25) fun x29 =>
  Option.bind (p_merge_under x3.1 x25) fun x30 =>
  Option.bind (r_merge_merger_put (S_merge_merger.mk s19 s20) x27 x28 x29 x30) fun x31 =>
  bif (x31.1).f_has then (
   Option.bind (appO 32 s17 ([(x25, (x31.1).f_v)] : (List (Str × V)))) fun x33 =>
   merge_merger_fields_j2 g2 s18 x33 ((x31.2).f_settle) ((x31.2).f_conflicts)
  ) else (
   merge_merger_fields_j2 g2 s18 s17 ((x31.2).f_settle) ((x31.2).f_conflicts)
  )
 ) else (
  bif (x1.2.1 == ([] : Str)) then (
   some ((S_merge_side.mk (V.dict s17) true), true, (S_merge_merger.mk s19 s20))
  ) else (
   some ((S_merge_side.mk (V.record x1.2.1 x1.2.2.1 s17) true), true, (S_merge_merger.mk s19 s20))
  )
 )
theorem merge_merger_fields_l3b_cm {ι : Type} {ρ : ι → Type} (r_merge_merger_put : (∀ i, Option (ρ i)) → S_merge_merger → (List S_api_Step) → S_merge_side → S_merge_side → S_merge_side → Option (S_merge_side × S_merge_merger)) (h_r_merge_merger_put : ∀ y0 y1 y2 y3 y4, CM (fun G => r_merge_merger_put G y0 y1 y2 y3 y4)) (g2 : (∀ i, Option (ρ i)) → (List (Str × V)) → Int → Unit → (List S_api_Conflict) → Option (S_merge_side × Bool × S_merge_merger)) (h_g2 : ∀ y0 y1 y2 y3, CM (fun G => g2 G y0 y1 y2 y3)) (a1 : (List S_api_Step)) (x1 : ((List (Str × V)) × Str × Int × Bool)) (x2 : ((List (Str × V)) × Str × Int × Bool)) (x3 : ((List (Str × V)) × Str × Int × Bool)) (x16 : (List Str)) (s17 : (List (Str × V))) (s18 : Int) (s19 : Unit) (s20 : (List S_api_Conflict)) : CM (fun G : (∀ i, Option (ρ i)) => merge_merger_fields_l3b (r_merge_merger_put G) a1 x1 x2 x3 x16 (g2 G) s17 s18 s19 s20) := by
 simp only [merge_merger_fields_l3b]
 repeat (first | exact cm_const | exact h_r_merge_merger_put _ _ _ _ _ | exact h_g2 _ _ _ _ | apply merge_merger_fields_j2_cm | refine cm_cond ?_ ?_ | refine cm_bind ?_ (fun _ => ?_) | intro _ | assumption)
noncomputable def merge_merger_fields_l3 (r_merge_merger_put : S_merge_merger → (List S_api_Step) → S_merge_side → S_merge_side → S_merge_side → Option (S_merge_side × S_merge_merger)) (a1 : (List S_api_Step)) (x1 : ((List (Str × V)) × Str × Int × Bool)) (x2 : ((List (Str × V)) × Str × Int × Bool)) (x3 : ((List (Str × V)) × Str × Int × Bool)) (x16 : (List Str)) (s17 : (List (Str × V))) (s18 : Int) (s19 : Unit) (s20 : (List S_api_Conflict)) : Option (S_merge_side × Bool × S_merge_merger) :=
 fixO (ι := ((List (Str × V)) × Int × Unit × (List S_api_Conflict))) (ρ := fun _ => (S_merge_side × Bool × S_merge_merger)) (fun g i => merge_merger_fields_l3b r_merge_merger_put a1 x1 x2 x3 x16 (fun s17 s18 s19 s20 => g (s17, s18, s19, s20)) i.1 i.2.1 i.2.2.1 i.2.2.2) (s17, s18, s19, s20)
theorem merge_merger_fields_l3_eq (r_merge_merger_put : S_merge_merger → (List S_api_Step) → S_merge_side → S_merge_side → S_merge_side → Option (S_merge_side × S_merge_merger)) (a1 : (List S_api_Step)) (x1 : ((List (Str × V)) × Str × Int × Bool)) (x2 : ((List (Str × V)) × Str × Int × Bool)) (x3 : ((List (Str × V)) × Str × Int × Bool)) (x16 : (List Str)) (s17 : (List (Str × V))) (s18 : Int) (s19 : Unit) (s20 : (List S_api_Conflict)) : merge_merger_fields_l3 r_merge_merger_put a1 x1 x2 x3 x16 s17 s18 s19 s20 = merge_merger_fields_l3b r_merge_merger_put a1 x1 x2 x3 x16 (merge_merger_fields_l3 r_merge_merger_put a1 x1 x2 x3 x16) s17 s18 s19 s20 :=
 fixO_eq (ι := ((List (Str × V)) × Int × Unit × (List S_api_Conflict))) (ρ := fun _ => (S_merge_side × Bool × S_merge_merger)) (Φ := fun g i => merge_merger_fields_l3b r_merge_merger_put a1 x1 x2 x3 x16 (fun s17 s18 s19 s20 => g (s17, s18, s19, s20)) i.1 i.2.1 i.2.2.1 i.2.2.2) (fun i => merge_merger_fields_l3b_cm (ι := ((List (Str × V)) × Int × Unit × (List S_api_Conflict))) (ρ := fun _ => (S_merge_side × Bool × S_merge_merger)) (fun _ => r_merge_merger_put) (fun _ _ _ _ _ => cm_const) (fun g => (fun s17 s18 s19 s20 => g (s17, s18, s19, s20))) (fun _ _ _ _ => cm_app) a1 x1 x2 x3 x16 i.1 i.2.1 i.2.2.1 i.2.2.2) (s17, s18, s19, s20)
theorem merge_merger_fields_l3_cm {ι : Type} {ρ : ι → Type} (r_merge_merger_put : (∀ i, Option (ρ i)) → S_merge_merger → (List S_api_Step) → S_merge_side → S_merge_side → S_merge_side → Option (S_merge_side × S_merge_merger)) (h_r_merge_merger_put : ∀ y0 y1 y2 y3 y4, CM (fun G => r_merge_merger_put G y0 y1 y2 y3 y4)) (a1 : (List S_api_Step)) (x1 : ((List (Str × V)) × Str × Int × Bool)) (x2 : ((List (Str × V)) × Str × Int × Bool)) (x3 : ((List (Str × V)) × Str × Int × Bool)) (x16 : (List Str)) (s17 : (List (Str × V))) (s18 : Int) (s19 : Unit) (s20 : (List S_api_Conflict)) : CM (fun G : (∀ i, Option (ρ i)) => merge_merger_fields_l3 (r_merge_merger_put G) a1 x1 x2 x3 x16 s17 s18 s19 s20) :=
 cm_fix (κ := ((List (Str × V)) × Int × Unit × (List S_api_Conflict))) (τ := fun _ => (S_merge_side × Bool × S_merge_merger)) (Φ := fun G g i => merge_merger_fields_l3b (r_merge_merger_put G) a1 x1 x2 x3 x16 (fun s17 s18 s19 s20 => g (s17, s18, s19, s20)) i.1 i.2.1 i.2.2.1 i.2.2.2) (fun g i => merge_merger_fields_l3b_cm r_merge_merger_put h_r_merge_merger_put (fun _ => (fun s17 s18 s19 s20 => g (s17, s18, s19, s20))) (fun _ _ _ _ => cm_const) a1 x1 x2 x3 x16 i.1 i.2.1 i.2.2.1 i.2.2.2) (fun G i => merge_merger_fields_l3b_cm (ι := ((List (Str × V)) × Int × Unit × (List S_api_Conflict))) (ρ := fun _ => (S_merge_side × Bool × S_merge_merger)) (fun _ => r_merge_merger_put G) (fun _ _ _ _ _ => cm_const) (fun g => (fun s17 s18 s19 s20 => g (s17, s18, s19, s20))) (fun _ _ _ _ => cm_app) a1 x1 x2 x3 x16 i.1 i.2.1 i.2.2.1 i.2.2.2) (s17, s18, s19, s20)
noncomputable def merge_merger_fields_l1b (r_merge_merger_put : S_merge_merger → (List S_api_Step) → S_merge_side → S_merge_side → S_merge_side → Option (S_merge_side × S_merge_merger)) (a0 : S_merge_merger) (a1 : (List S_api_Step)) (x1 : ((List (Str × V)) × Str × Int × Bool)) (x2 : ((List (Str × V)) × Str × Int × Bool)) (x3 : ((List (Str × V)) × Str × Int × Bool)) (g1 : (List Str) → Int → Option (S_merge_side × Bool × S_merge_merger)) (s6 : (List Str)) (s7 : Int) : Option (S_merge_side × Bool × S_merge_merger) :=
 bif (decide (s7 < (((([x1.1, x2.1, x3.1] : (List (List (Str × V))))).length : Nat) : Int))) then (
  Option.bind (idxI ([x1.1, x2.1, x3.1] : (List (List (Str × V)))) s7) fun x9 =>
  merge_merger_fields_l2 g1 s7 x9 s6 0
 ) else (
  Option.bind (sortO s6) fun x16 =>
  merge_merger_fields_l3 r_merge_merger_put a1 x1 x2 x3 x16 ([] : (List (Str × V))) 0 a0.f_settle a0.f_conflicts
 )
theorem merge_merger_fields_l1b_cm {ι : Type} {ρ : ι → Type} (r_merge_merger_put : (∀ i, Option (ρ i)) → S_merge_merger → (List S_api_Step) → S_merge_side → S_merge_side → S_merge_side → Option (S_merge_side × S_merge_merger)) (h_r_merge_merger_put : ∀ y0 y1 y2 y3 y4, CM (fun G => r_merge_merger_put G y0 y1 y2 y3 y4)) (g1 : (∀ i, Option (ρ i)) → (List Str) → Int → Option (S_merge_side × Bool × S_merge_merger)) (h_g1 : ∀ y0 y1, CM (fun G => g1 G y0 y1)) (a0 : S_merge_merger) (a1 : (List S_api_Step)) (x1 : ((List (Str × V)) × Str × Int × Bool)) (x2 : ((List (Str × V)) × Str × Int × Bool)) (x3 : ((List (Str × V)) × Str × Int × Bool)) (s6 : (List Str)) (s7 : Int) : CM (fun G : (∀ i, Option (ρ i)) => merge_merger_fields_l1b (r_merge_merger_put G) a0 a1 x1 x2 x3 (g1 G) s6 s7) := by
 simp only [merge_merger_fields_l1b]
 repeat (first | exact cm_const | exact h_r_merge_merger_put _ _ _ _ _ | exact h_g1 _ _ | apply merge_merger_fields_l2_cm | apply merge_merger_fields_l3_cm | refine cm_cond ?_ ?_ | refine cm_bind ?_ (fun _ => ?_) | intro _ | assumption)
noncomputable def merge_merger_fields_l1 (r_merge_merger_put : S_merge_merger → (List S_api_Step) → S_merge_side → S_merge_side → S_merge_side → Option (S_merge_side × S_merge_merger)) (a0 : S_merge_merger) (a1 : (List S_api_Step)) (x1 : ((List (Str × V)) × Str × Int × Bool)) (x2 : ((List (Str × V)) × Str × Int × Bool)) (x3 : ((List (Str × V)) × Str × Int × Bool)) (s6 : (List Str)) (s7 : Int) : Option (S_merge_side × Bool × S_merge_merger) :=
 fixO (ι := ((List Str) × Int)) (ρ := fun _ => (S_merge_side × Bool × S_merge_merger)) (fun g i => merge_merger_fields_l1b r_merge_merger_put a0 a1 x1 x2 x3 (fun s6 s7 => g (s6, s7)) i.1 i.2) (s6, s7)
theorem merge_merger_fields_l1_eq (r_merge_merger_put : S_merge_merger → (List S_api_Step) → S_merge_side → S_merge_side → S_merge_side → Option (S_merge_side × S_merge_merger)) (a0 : S_merge_merger) (a1 : (List S_api_Step)) (x1 : ((List (Str × V)) × Str × Int × Bool)) (x2 : ((List (Str × V)) × Str × Int × Bool)) (x3 : ((List (Str × V)) × Str × Int × Bool)) (s6 : (List Str)) (s7 : Int) : merge_merger_fields_l1 r_merge_merger_put a0 a1 x1 x2 x3 s6 s7 = merge_merger_fields_l1b r_merge_merger_put a0 a1 x1 x2 x3 (merge_merger_fields_l1 r_merge_merger_put a0 a1 x1 x2 x3) s6 s7 :=
 fixO_eq (ι := ((List Str) × Int)) (ρ := fun _ => (S_merge_side × Bool × S_merge_merger)) (Φ := fun g i => merge_merger_fields_l1b r_merge_merger_put a0 a1 x1 x2 x3 (fun s6 s7 => g (s6, s7)) i.1 i.2) (fun i => merge_merger_fields_l1b_cm (ι := ((List Str) × Int)) (ρ := fun _ => (S_merge_side × Bool × S_merge_merger)) (fun _ => r_merge_merger_put) (fun _ _ _ _ _ => cm_const) (fun g => (fun s6 s7 => g (s6, s7))) (fun _ _ => cm_app) a0 a1 x1 x2 x3 i.1 i.2) (s6, s7)
theorem merge_merger_fields_l1_cm {ι : Type} {ρ : ι → Type} (r_merge_merger_put : (∀ i, Option (ρ i)) → S_merge_merger → (List S_api_Step) → S_merge_side → S_merge_side → S_merge_side → Option (S_merge_side × S_merge_merger)) (h_r_merge_merger_put : ∀ y0 y1 y2 y3 y4, CM (fun G => r_merge_merger_put G y0 y1 y2 y3 y4)) (a0 : S_merge_merger) (a1 : (List S_api_Step)) (x1 : ((List (Str × V)) × Str × Int × Bool)) (x2 : ((List (Str × V)) × Str × Int × Bool)) (x3 : ((List (Str × V)) × Str × Int × Bool)) (s6 : (List Str)) (s7 : Int) : CM (fun G : (∀ i, Option (ρ i)) => merge_merger_fields_l1 (r_merge_merger_put G) a0 a1 x1 x2 x3 s6 s7) :=
 cm_fix (κ := ((List Str) × Int)) (τ := fun _ => (S_merge_side × Bool × S_merge_merger)) (Φ := fun G g i => merge_merger_fields_l1b (r_merge_merger_put G) a0 a1 x1 x2 x3 (fun s6 s7 => g (s6, s7)) i.1 i.2) (fun g i => merge_merger_fields_l1b_cm r_merge_merger_put h_r_merge_merger_put (fun _ => (fun s6 s7 => g (s6, s7))) (fun _ _ => cm_const) a0 a1 x1 x2 x3 i.1 i.2) (fun G i => merge_merger_fields_l1b_cm (ι := ((List Str) × Int)) (ρ := fun _ => (S_merge_side × Bool × S_merge_merger)) (fun _ => r_merge_merger_put G) (fun _ _ _ _ _ => cm_const) (fun g => (fun s6 s7 => g (s6, s7))) (fun _ _ => cm_app) a0 a1 x1 x2 x3 i.1 i.2) (s6, s7)
noncomputable def merge_merger_fields_j1 (r_merge_merger_put : S_merge_merger → (List S_api_Step) → S_merge_side → S_merge_side → S_merge_side → Option (S_merge_side × S_merge_merger)) (a0 : S_merge_merger) (a1 : (List S_api_Step)) (x1 : ((List (Str × V)) × Str × Int × Bool)) (x2 : ((List (Str × V)) × Str × Int × Bool)) (x3 : ((List (Str × V)) × Str × Int × Bool)) (s4 : Bool) : Option (S_merge_side × Bool × S_merge_merger) :=
 bif s4 then (
  some ((S_merge_side.mk V.nil false), false, a0)
 ) else (
  merge_merger_fields_l1 r_merge_merger_put a0 a1 x1 x2 x3 ([] : (List Str)) 0
 )
theorem merge_merger_fields_j1_cm {ι : Type} {ρ : ι → Type} (r_merge_merger_put : (∀ i, Option (ρ i)) → S_merge_merger → (List S_api_Step) → S_merge_side → S_merge_side → S_merge_side → Option (S_merge_side × S_merge_merger)) (h_r_merge_merger_put : ∀ y0 y1 y2 y3 y4, CM (fun G => r_merge_merger_put G y0 y1 y2 y3 y4)) (a0 : S_merge_merger) (a1 : (List S_api_Step)) (x1 : ((List (Str × V)) × Str × Int × Bool)) (x2 : ((List (Str × V)) × Str × Int × Bool)) (x3 : ((List (Str × V)) × Str × Int × Bool)) (s4 : Bool) : CM (fun G : (∀ i, Option (ρ i)) => merge_merger_fields_j1 (r_merge_merger_put G) a0 a1 x1 x2 x3 s4) := by
 simp only [merge_merger_fields_j1]
 repeat (first | exact cm_const | exact h_r_merge_merger_put _ _ _ _ _ | apply merge_merger_fields_l1_cm | refine cm_cond ?_ ?_ | refine cm_bind ?_ (fun _ => ?_) | intro _ | assumption)
noncomputable def b_merge_merger_fields (r_merge_merger_list : S_merge_merger → (List S_api_Step) → V → V → V → Option (S_merge_side × Bool × S_merge_merger)) (r_merge_merger_fields : S_merge_merger → (List S_api_Step) → V → V → V → Option (S_merge_side × Bool × S_merge_merger)) (r_merge_merger_put : S_merge_merger → (List S_api_Step) → S_merge_side → S_merge_side → S_merge_side → Option (S_merge_side × S_merge_merger)) (a0 : S_merge_merger) (a1 : (List S_api_Step)) (a2 : V) (a3 : V) (a4 : V) : Option (S_merge_side × Bool × S_merge_merger) :=
 Option.bind (p_merge_fieldsOf a2) fun x1 =>
 Option.bind (p_merge_fieldsOf a3) fun x2 =>
 Option.bind (p_merge_fieldsOf a4) fun x3 =>
 bif (!x1.2.2.2) then (
  merge_merger_fields_j1 r_merge_merger_put a0 a1 x1 x2 x3 true
 ) else (
  bif (!x2.2.2.2) then (
   merge_merger_fields_j1 r_merge_merger_put a0 a1 x1 x2 x3 true
  ) else (
   bif (!x3.2.2.2) then (
    merge_merger_fields_j1 r_merge_merger_put a0 a1 x1 x2 x3 true
   ) else (
    bif (!(x1.2.1 == x2.2.1)) then (
     merge_merger_fields_j1 r_merge_merger_put a0 a1 x1 x2 x3 true
    ) else (
     bif (!(x1.2.1 == x3.2.1)) then (
      merge_merger_fields_j1 r_merge_merger_put a0 a1 x1 x2 x3 true
     ) else (
      bif (x1.2.2.1 != x2.2.2.1) then (
       merge_merger_fields_j1 r_merge_merger_put a0 a1 x1 x2 x3 true
      ) else (
       merge_merger_fields_j1 r_merge_merger_put a0 a1 x1 x2 x3 (x1.2.2.1 != x3.2.2.1)
      )
     )
    )
   )
  )
 )
theorem b_merge_merger_fields_cm {ι : Type} {ρ : ι → Type} (r_merge_merger_list : (∀ i, Option (ρ i)) → S_merge_merger → (List S_api_Step) → V → V → V → Option (S_merge_side × Bool × S_merge_merger)) (h_r_merge_merger_list : ∀ y0 y1 y2 y3 y4, CM (fun G => r_merge_merger_list G y0 y1 y2 y3 y4)) (r_merge_merger_fields : (∀ i, Option (ρ i)) → S_merge_merger → (List S_api_Step) → V → V → V → Option (S_merge_side × Bool × S_merge_merger)) (h_r_merge_merger_fields : ∀ y0 y1 y2 y3 y4, CM (fun G => r_merge_merger_fields G y0 y1 y2 y3 y4)) (r_merge_merger_put : (∀ i, Option (ρ i)) → S_merge_merger → (List S_api_Step) → S_merge_side → S_merge_side → S_merge_side → Option (S_merge_side × S_merge_merger)) (h_r_merge_merger_put : ∀ y0 y1 y2 y3 y4, CM (fun G => r_merge_merger_put G y0 y1 y2 y3 y4)) (a0 : S_merge_merger) (a1 : (List S_api_Step)) (a2 : V) (a3 : V) (a4 : V) : CM (fun G : (∀ i, Option (ρ i)) => b_merge_merger_fields (r_merge_merger_list G) (r_merge_merger_fields G) (r_merge_merger_put G) a0 a1 a2 a3 a4) := by
 simp only [b_merge_merger_fields]
 repeat (first | exact cm_const | exact h_r_merge_merger_list _ _ _ _ _ | exact h_r_merge_merger_fields _ _ _ _ _ | exact h_r_merge_merger_put _ _ _ _ _ | apply merge_merger_fields_j1_cm | refine cm_cond ?_ ?_ | refine cm_bind ?_ (fun _ => ?_) | intro _ | assumption)
noncomputable def merge_merger_put_j2 (a1 : (List S_api_Step)) (a2 : S_merge_side) (a3 : S_merge_side) (a4 : S_merge_side) (s5 : Unit) (s6 : (List S_api_Conflict)) : Option (S_merge_side × S_merge_merger) :=
 Option.bind (p_merge_merger_conflict (S_merge_merger.mk s5 s6) a1 a2 a3 a4) fun x7 =>
 some ((x7.1), (x7.2))
noncomputable def merge_merger_put_j3 (r_merge_merger_list : S_merge_merger → (List S_api_Step) → V → V → V → Option (S_merge_side × Bool × S_merge_merger)) (r_merge_merger_fields : S_merge_merger → (List S_api_Step) → V → V → V → Option (S_merge_side × Bool × S_merge_merger)) (a0 : S_merge_merger) (a1 : (List S_api_Step)) (a2 : S_merge_side) (a3 : S_merge_side) (a4 : S_merge_side) (s8 : Bool) : Option (S_merge_side × S_merge_merger) :=
 bif s8 then (
  Option.bind (r_merge_merger_fields a0 a1 a2.f_v a3.f_v a4.f_v) fun x10 =>
  bif x10.2.1 then (
   some ((x10.1), (x10.2.2))
  ) else (
   Option.bind (r_merge_merger_list (x10.2.2) a1 a2.f_v a3.f_v a4.f_v) fun x12 =>
   bif x12.2.1 then (
    some ((x12.1), (x12.2.2))
   ) else (
    merge_merger_put_j2 a1 a2 a3 a4 ((x12.2.2).f_settle) ((x12.2.2).f_conflicts)
   )
  )
 ) else (
  merge_merger_put_j2 a1 a2 a3 a4 a0.f_settle a0.f_conflicts
 )
theorem merge_merger_put_j3_cm {ι : Type} {ρ : ι → Type} (r_merge_merger_list : (∀ i, Option (ρ i)) → S_merge_merger → (List S_api_Step) → V → V → V → Option (S_merge_side × Bool × S_merge_merger)) (h_r_merge_merger_list : ∀ y0 y1 y2 y3 y4, CM (fun G => r_merge_merger_list G y0 y1 y2 y3 y4)) (r_merge_merger_fields : (∀ i, Option (ρ i)) → S_merge_merger → (List S_api_Step) → V → V → V → Option (S_merge_side × Bool × S_merge_merger)) (h_r_merge_merger_fields : ∀ y0 y1 y2 y3 y4, CM (fun G => r_merge_merger_fields G y0 y1 y2 y3 y4)) (a0 : S_merge_merger) (a1 : (List S_api_Step)) (a2 : S_merge_side) (a3 : S_merge_side) (a4 : S_merge_side) (s8 : Bool) : CM (fun G : (∀ i, Option (ρ i)) => merge_merger_put_j3 (r_merge_merger_list G) (r_merge_merger_fields G) a0 a1 a2 a3 a4 s8) := by
 simp only [merge_merger_put_j3]
 repeat (first | exact cm_const | exact h_r_merge_merger_list _ _ _ _ _ | exact h_r_merge_merger_fields _ _ _ _ _ | apply merge_merger_put_j2_cm | refine cm_cond ?_ ?_ | refine cm_bind ?_ (fun _ => ?_) | intro _ | assumption)
noncomputable def merge_merger_put_j1 (r_merge_merger_list : S_merge_merger → (List S_api_Step) → V → V → V → Option (S_merge_side × Bool × S_merge_merger)) (r_merge_merger_fields : S_merge_merger → (List S_api_Step) → V → V → V → Option (S_merge_side × Bool × S_merge_merger)) (a0 : S_merge_merger) (a1 : (List S_api_Step)) (a2 : S_merge_side) (a3 : S_merge_side) (a4 : S_merge_side) (s1 : Bool) : Option (S_merge_side × S_merge_merger) :=
 bif s1 then (
  some (a3, a0)
 ) else (
  Option.bind (p_merge_one a3 a2) fun x3 =>
  bif x3 then (
   some (a4, a0)
  ) else (
   bif a2.f_has then (
    bif a3.f_has then (
     merge_merger_put_j3 r_merge_merger_list r_merge_merger_fields a0 a1 a2 a3 a4 a4.f_has
    ) else (
     merge_merger_put_j3 r_merge_merger_list r_merge_merger_fields a0 a1 a2 a3 a4 false
    )
   ) else (
    merge_merger_put_j3 r_merge_merger_list r_merge_merger_fields a0 a1 a2 a3 a4 false
   )
  )
 )
theorem merge_merger_put_j1_cm {ι : Type} {ρ : ι → Type} (r_merge_merger_list : (∀ i, Option (ρ i)) → S_merge_merger → (List S_api_Step) → V → V → V → Option (S_merge_side × Bool × S_merge_merger)) (h_r_merge_merger_list : ∀ y0 y1 y2 y3 y4, CM (fun G => r_merge_merger_list G y0 y1 y2 y3 y4)) (r_merge_merger_fields : (∀ i, Option (ρ i)) → S_merge_merger → (List S_api_Step) → V → V → V → Option (S_merge_side × Bool × S_merge_merger)) (h_r_merge_merger_fields : ∀ y0 y1 y2 y3 y4, CM (fun G => r_merge_merger_fields G y0 y1 y2 y3 y4)) (a0 : S_merge_merger) (a1 : (List S_api_Step)) (a2 : S_merge_side) (a3 : S_merge_side) (a4 : S_merge_side) (s1 : Bool) : CM (fun G : (∀ i, Option (ρ i)) => merge_merger_put_j1 (r_merge_merger_list G) (r_merge_merger_fields G) a0 a1 a2 a3 a4 s1) := by
 simp only [merge_merger_put_j1]
 repeat (first | exact cm_const | exact h_r_merge_merger_list _ _ _ _ _ | exact h_r_merge_merger_fields _ _ _ _ _ | apply merge_merger_put_j3_cm | refine cm_cond ?_ ?_ | refine cm_bind ?_ (fun _ => ?_) | intro _ | assumption)
noncomputable def b_merge_merger_put (r_merge_merger_list : S_merge_merger → (List S_api_Step) → V → V → V → Option (S_merge_side × Bool × S_merge_merger)) (r_merge_merger_fields : S_merge_merger → (List S_api_Step) → V → V → V → Option (S_merge_side × Bool × S_merge_merger)) (r_merge_merger_put : S_merge_merger → (List S_api_Step) → S_merge_side → S_merge_side → S_merge_side → Option (S_merge_side × S_merge_merger)) (a0 : S_merge_merger) (a1 : (List S_api_Step)) (a2 : S_merge_side) (a3 : S_merge_side) (a4 : S_merge_side) : Option (S_merge_side × S_merge_merger) :=
 Option.bind (p_merge_one a3 a4) fun x16 =>
 bif x16 then (
  merge_merger_put_j1 r_merge_merger_list r_merge_merger_fields a0 a1 a2 a3 a4 true
 ) else (
  Option.bind (p_merge_one a4 a2) fun x18 =>
  merge_merger_put_j1 r_merge_merger_list r_merge_merger_fields a0 a1 a2 a3 a4 x18
 )
theorem b_merge_merger_put_cm {ι : Type} {ρ : ι → Type} (r_merge_merger_list : (∀ i, Option (ρ i)) → S_merge_merger → (List S_api_Step) → V → V → V → Option (S_merge_side × Bool × S_merge_merger)) (h_r_merge_merger_list : ∀ y0 y1 y2 y3 y4, CM (fun G => r_merge_merger_list G y0 y1 y2 y3 y4)) (r_merge_merger_fields : (∀ i, Option (ρ i)) → S_merge_merger → (List S_api_Step) → V → V → V → Option (S_merge_side × Bool × S_merge_merger)) (h_r_merge_merger_fields : ∀ y0 y1 y2 y3 y4, CM (fun G => r_merge_merger_fields G y0 y1 y2 y3 y4)) (r_merge_merger_put : (∀ i, Option (ρ i)) → S_merge_merger → (List S_api_Step) → S_merge_side → S_merge_side → S_merge_side → Option (S_merge_side × S_merge_merger)) (h_r_merge_merger_put : ∀ y0 y1 y2 y3 y4, CM (fun G => r_merge_merger_put G y0 y1 y2 y3 y4)) (a0 : S_merge_merger) (a1 : (List S_api_Step)) (a2 : S_merge_side) (a3 : S_merge_side) (a4 : S_merge_side) : CM (fun G : (∀ i, Option (ρ i)) => b_merge_merger_put (r_merge_merger_list G) (r_merge_merger_fields G) (r_merge_merger_put G) a0 a1 a2 a3 a4) := by
 simp only [b_merge_merger_put]
 repeat (first | exact cm_const | exact h_r_merge_merger_list _ _ _ _ _ | exact h_r_merge_merger_fields _ _ _ _ _ | exact h_r_merge_merger_put _ _ _ _ _ | apply merge_merger_put_j1_cm | refine cm_cond ?_ ?_ | refine cm_bind ?_ (fun _ => ?_) | intro _ | assumption)
inductive C_merge_merger_list where
 | k_merge_merger_list (a0 : S_merge_merger) (a1 : (List S_api_Step)) (a2 : V) (a3 : V) (a4 : V)
 | k_merge_merger_fields (a0 : S_merge_merger) (a1 : (List S_api_Step)) (a2 : V) (a3 : V) (a4 : V)
 | k_merge_merger_put (a0 : S_merge_merger) (a1 : (List S_api_Step)) (a2 : S_merge_side) (a3 : S_merge_side) (a4 : S_merge_side)
def C_merge_merger_list.R : C_merge_merger_list → Type
 | .k_merge_merger_list _ _ _ _ _ => (S_merge_side × Bool × S_merge_merger)
 | .k_merge_merger_fields _ _ _ _ _ => (S_merge_side × Bool × S_merge_merger)
 | .k_merge_merger_put _ _ _ _ _ => (S_merge_side × S_merge_merger)
noncomputable def C_merge_merger_list.F (g : ∀ i : C_merge_merger_list, Option i.R) : ∀ i : C_merge_merger_list, Option i.R
 | .k_merge_merger_list a0 a1 a2 a3 a4 => b_merge_merger_list (fun a0 a1 a2 a3 a4 => g (.k_merge_merger_list a0 a1 a2 a3 a4)) (fun a0 a1 a2 a3 a4 => g (.k_merge_merger_fields a0 a1 a2 a3 a4)) (fun a0 a1 a2 a3 a4 => g (.k_merge_merger_put a0 a1 a2 a3 a4)) a0 a1 a2 a3 a4
 | .k_merge_merger_fields a0 a1 a2 a3 a4 => b_merge_merger_fields (fun a0 a1 a2 a3 a4 => g (.k_merge_merger_list a0 a1 a2 a3 a4)) (fun a0 a1 a2 a3 a4 => g (.k_merge_merger_fields a0 a1 a2 a3 a4)) (fun a0 a1 a2 a3 a4 => g (.k_merge_merger_put a0 a1 a2 a3 a4)) a0 a1 a2 a3 a4
 | .k_merge_merger_put a0 a1 a2 a3 a4 => b_merge_merger_put (fun a0 a1 a2 a3 a4 => g (.k_merge_merger_list a0 a1 a2 a3 a4)) (fun a0 a1 a2 a3 a4 => g (.k_merge_merger_fields a0 a1 a2 a3 a4)) (fun a0 a1 a2 a3 a4 => g (.k_merge_merger_put a0 a1 a2 a3 a4)) a0 a1 a2 a3 a4
noncomputable def p_merge_merger_list (a0 : S_merge_merger) (a1 : (List S_api_Step)) (a2 : V) (a3 : V) (a4 : V) : Option (S_merge_side × Bool × S_merge_merger) := fixO C_merge_merger_list.F (.k_merge_merger_list a0 a1 a2 a3 a4)
noncomputable def p_merge_merger_fields (a0 : S_merge_merger) (a1 : (List S_api_Step)) (a2 : V) (a3 : V) (a4 : V) : Option (S_merge_side × Bool × S_merge_merger) := fixO C_merge_merger_list.F (.k_merge_merger_fields a0 a1 a2 a3 a4)
noncomputable def p_merge_merger_put (a0 : S_merge_merger) (a1 : (List S_api_Step)) (a2 : S_merge_side) (a3 : S_merge_side) (a4 : S_merge_side) : Option (S_merge_side × S_merge_merger) := fixO C_merge_merger_list.F (.k_merge_merger_put a0 a1 a2 a3 a4)
theorem C_merge_merger_list.cm (i : C_merge_merger_list) : CM (fun g : (∀ i : C_merge_merger_list, Option i.R) => C_merge_merger_list.F g i) := by
 cases i with
 | k_merge_merger_list a0 a1 a2 a3 a4 => exact b_merge_merger_list_cm (fun (g : ∀ i : C_merge_merger_list, Option i.R) a0 a1 a2 a3 a4 => g (.k_merge_merger_list a0 a1 a2 a3 a4)) (fun a0 a1 a2 a3 a4 => cm_app (i := C_merge_merger_list.k_merge_merger_list a0 a1 a2 a3 a4)) (fun (g : ∀ i : C_merge_merger_list, Option i.R) a0 a1 a2 a3 a4 => g (.k_merge_merger_fields a0 a1 a2 a3 a4)) (fun a0 a1 a2 a3 a4 => cm_app (i := C_merge_merger_list.k_merge_merger_fields a0 a1 a2 a3 a4)) (fun (g : ∀ i : C_merge_merger_list, Option i.R) a0 a1 a2 a3 a4 => g (.k_merge_merger_put a0 a1 a2 a3 a4)) (fun a0 a1 a2 a3 a4 => cm_app (i := C_merge_merger_list.k_merge_merger_put a0 a1 a2 a3 a4)) a0 a1 a2 a3 a4
 | k_merge_merger_fields a0 a1 a2 a3 a4 => exact b_merge_merger_fields_cm (fun (g : ∀ i : C_merge_merger_list, Option i.R) a0 a1 a2 a3 a4 => g (.k_merge_merger_list a0 a1 a2 a3 a4)) (fun a0 a1 a2 a3 a4 => cm_app (i := C_merge_merger_list.k_merge_merger_list a0 a1 a2 a3 a4)) (fun (g : ∀ i : C_merge_merger_list, Option i.R) a0 a1 a2 a3 a4 => g (.k_merge_merger_fields a0 a1 a2 a3 a4)) (fun a0 a1 a2 a3 a4 => cm_app (i := C_merge_merger_list.k_merge_merger_fields a0 a1 a2 a3 a4)) (fun (g : ∀ i : C_merge_merger_list, Option i.R) a0 a1 a2 a3 a4 => g (.k_merge_merger_put a0 a1 a2 a3 a4)) (fun a0 a1 a2 a3 a4 => cm_app (i := C_merge_merger_list.k_merge_merger_put a0 a1 a2 a3 a4)) a0 a1 a2 a3 a4
 | k_merge_merger_put a0 a1 a2 a3 a4 => exact b_merge_merger_put_cm (fun (g : ∀ i : C_merge_merger_list, Option i.R) a0 a1 a2 a3 a4 => g (.k_merge_merger_list a0 a1 a2 a3 a4)) (fun a0 a1 a2 a3 a4 => cm_app (i := C_merge_merger_list.k_merge_merger_list a0 a1 a2 a3 a4)) (fun (g : ∀ i : C_merge_merger_list, Option i.R) a0 a1 a2 a3 a4 => g (.k_merge_merger_fields a0 a1 a2 a3 a4)) (fun a0 a1 a2 a3 a4 => cm_app (i := C_merge_merger_list.k_merge_merger_fields a0 a1 a2 a3 a4)) (fun (g : ∀ i : C_merge_merger_list, Option i.R) a0 a1 a2 a3 a4 => g (.k_merge_merger_put a0 a1 a2 a3 a4)) (fun a0 a1 a2 a3 a4 => cm_app (i := C_merge_merger_list.k_merge_merger_put a0 a1 a2 a3 a4)) a0 a1 a2 a3 a4
theorem e_merge_merger_list (a0 : S_merge_merger) (a1 : (List S_api_Step)) (a2 : V) (a3 : V) (a4 : V) : p_merge_merger_list a0 a1 a2 a3 a4 = b_merge_merger_list p_merge_merger_list p_merge_merger_fields p_merge_merger_put a0 a1 a2 a3 a4 := fixO_eq C_merge_merger_list.cm (.k_merge_merger_list a0 a1 a2 a3 a4)
theorem e_merge_merger_fields (a0 : S_merge_merger) (a1 : (List S_api_Step)) (a2 : V) (a3 : V) (a4 : V) : p_merge_merger_fields a0 a1 a2 a3 a4 = b_merge_merger_fields p_merge_merger_list p_merge_merger_fields p_merge_merger_put a0 a1 a2 a3 a4 := fixO_eq C_merge_merger_list.cm (.k_merge_merger_fields a0 a1 a2 a3 a4)
theorem e_merge_merger_put (a0 : S_merge_merger) (a1 : (List S_api_Step)) (a2 : S_merge_side) (a3 : S_merge_side) (a4 : S_merge_side) : p_merge_merger_put a0 a1 a2 a3 a4 = b_merge_merger_put p_merge_merger_list p_merge_merger_fields p_merge_merger_put a0 a1 a2 a3 a4 := fixO_eq C_merge_merger_list.cm (.k_merge_merger_put a0 a1 a2 a3 a4)
def C_merge_merger_list.Q : ∀ i : C_merge_merger_list, i.R → Prop
 | .k_merge_merger_list a0 a1 a2 a3 a4 => fun (r : (S_merge_side × Bool × S_merge_merger)) => MCalls Try.prog 56 [(PV.rf 0 0), (PV.sl none 57 3 (List.map of_api_Step a1)), (ofV a2), (ofV a3), (ofV a4)] [.box 83 [(PV.v .nilFunc), (PV.sl (some 1) 44 7 (List.map of_api_Conflict a0.f_conflicts))], .arr 44 (a0.f_conflicts).length] (PV.tup [(of_merge_side r.1), (BO r.2.1)]) [.box 83 [(PV.v .nilFunc), (PV.sl (some 1) 44 7 (List.map of_api_Conflict (r.2.2).f_conflicts))], .arr 44 ((r.2.2).f_conflicts).length]
 | .k_merge_merger_fields a0 a1 a2 a3 a4 => fun (r : (S_merge_side × Bool × S_merge_merger)) => MCalls Try.prog 55 [(PV.rf 0 0), (PV.sl none 57 3 (List.map of_api_Step a1)), (ofV a2), (ofV a3), (ofV a4)] [.box 83 [(PV.v .nilFunc), (PV.sl (some 1) 44 7 (List.map of_api_Conflict a0.f_conflicts))], .arr 44 (a0.f_conflicts).length] (PV.tup [(of_merge_side r.1), (BO r.2.1)]) [.box 83 [(PV.v .nilFunc), (PV.sl (some 1) 44 7 (List.map of_api_Conflict (r.2.2).f_conflicts))], .arr 44 ((r.2.2).f_conflicts).length]
 | .k_merge_merger_put a0 a1 a2 a3 a4 => fun (r : (S_merge_side × S_merge_merger)) => MCalls Try.prog 29 [(PV.rf 0 0), (PV.sl none 57 3 (List.map of_api_Step a1)), (of_merge_side a2), (of_merge_side a3), (of_merge_side a4)] [.box 83 [(PV.v .nilFunc), (PV.sl (some 1) 44 7 (List.map of_api_Conflict a0.f_conflicts))], .arr 44 (a0.f_conflicts).length] (of_merge_side r.1) [.box 83 [(PV.v .nilFunc), (PV.sl (some 1) 44 7 (List.map of_api_Conflict (r.2).f_conflicts))], .arr 44 ((r.2).f_conflicts).length]
theorem t_merge_merger_list (r_merge_merger_list : S_merge_merger → (List S_api_Step) → V → V → V → Option (S_merge_side × Bool × S_merge_merger)) (c_merge_merger_list : ∀ (a0 : S_merge_merger) (a1 : (List S_api_Step)) (a2 : V) (a3 : V) (a4 : V) r, r_merge_merger_list a0 a1 a2 a3 a4 = some r → MCalls Try.prog 56 [(PV.rf 0 0), (PV.sl none 57 3 (List.map of_api_Step a1)), (ofV a2), (ofV a3), (ofV a4)] [.box 83 [(PV.v .nilFunc), (PV.sl (some 1) 44 7 (List.map of_api_Conflict a0.f_conflicts))], .arr 44 (a0.f_conflicts).length] (PV.tup [(of_merge_side r.1), (BO r.2.1)]) [.box 83 [(PV.v .nilFunc), (PV.sl (some 1) 44 7 (List.map of_api_Conflict (r.2.2).f_conflicts))], .arr 44 ((r.2.2).f_conflicts).length]) (r_merge_merger_fields : S_merge_merger → (List S_api_Step) → V → V → V → Option (S_merge_side × Bool × S_merge_merger)) (c_merge_merger_fields : ∀ (a0 : S_merge_merger) (a1 : (List S_api_Step)) (a2 : V) (a3 : V) (a4 : V) r, r_merge_merger_fields a0 a1 a2 a3 a4 = some r → MCalls Try.prog 55 [(PV.rf 0 0), (PV.sl none 57 3 (List.map of_api_Step a1)), (ofV a2), (ofV a3), (ofV a4)] [.box 83 [(PV.v .nilFunc), (PV.sl (some 1) 44 7 (List.map of_api_Conflict a0.f_conflicts))], .arr 44 (a0.f_conflicts).length] (PV.tup [(of_merge_side r.1), (BO r.2.1)]) [.box 83 [(PV.v .nilFunc), (PV.sl (some 1) 44 7 (List.map of_api_Conflict (r.2.2).f_conflicts))], .arr 44 ((r.2.2).f_conflicts).length]) (r_merge_merger_put : S_merge_merger → (List S_api_Step) → S_merge_side → S_merge_side → S_merge_side → Option (S_merge_side × S_merge_merger)) (c_merge_merger_put : ∀ (a0 : S_merge_merger) (a1 : (List S_api_Step)) (a2 : S_merge_side) (a3 : S_merge_side) (a4 : S_merge_side) r, r_merge_merger_put a0 a1 a2 a3 a4 = some r → MCalls Try.prog 29 [(PV.rf 0 0), (PV.sl none 57 3 (List.map of_api_Step a1)), (of_merge_side a2), (of_merge_side a3), (of_merge_side a4)] [.box 83 [(PV.v .nilFunc), (PV.sl (some 1) 44 7 (List.map of_api_Conflict a0.f_conflicts))], .arr 44 (a0.f_conflicts).length] (of_merge_side r.1) [.box 83 [(PV.v .nilFunc), (PV.sl (some 1) 44 7 (List.map of_api_Conflict (r.2).f_conflicts))], .arr 44 ((r.2).f_conflicts).length]) (a0 : S_merge_merger) (a1 : (List S_api_Step)) (a2 : V) (a3 : V) (a4 : V) (r : (S_merge_side × Bool × S_merge_merger)) (h : b_merge_merger_list r_merge_merger_list r_merge_merger_fields r_merge_merger_put a0 a1 a2 a3 a4 = some r) : MCalls Try.prog 56 [(PV.rf 0 0), (PV.sl none 57 3 (List.map of_api_Step a1)), (ofV a2), (ofV a3), (ofV a4)] [.box 83 [(PV.v .nilFunc), (PV.sl (some 1) 44 7 (List.map of_api_Conflict a0.f_conflicts))], .arr 44 (a0.f_conflicts).length] (PV.tup [(of_merge_side r.1), (BO r.2.1)]) [.box 83 [(PV.v .nilFunc), (PV.sl (some 1) 44 7 (List.map of_api_Conflict (r.2.2).f_conflicts))], .arr 44 ((r.2.2).f_conflicts).length] := by
 unfold b_merge_merger_list at h
 refine acalls_of Try.func56 rfl Try.ntmps56 Try.results56 rfl (aw_of_bw ?_)
 change BW _ _ _ ⟨[(0, (PV.rf 0 0)), (1, (PV.sl none 57 3 (List.map of_api_Step a1))), (2, (ofV a2)), (3, (ofV a3)), (4, (ofV a4))], [.box 83 [(PV.v .nilFunc), (PV.sl (some 1) 44 7 (List.map of_api_Conflict a0.f_conflicts))], .arr 44 (a0.f_conflicts).length], _⟩ _
 refine bR ?_
 refine sS rfl rfl rfl ((op1_alloc inf_87 rfl).cast (H'' := [.box 83 [(PV.v .nilFunc), (PV.sl (some 1) 44 7 (List.map of_api_Conflict a0.f_conflicts))], .arr 44 (a0.f_conflicts).length, .box 87 [(ofV V.nil), (BO false)]]) rfl (by simp only [mk_nil]; rfl)) ?_
 refine sA rfl rfl rfl rfl rfl (ao_nil ?_)
 change BW _ _ _ _ _
 refine bR ?_
 refine sM rfl rfl rfl rfl rfl ?_
 refine sS rfl rfl rfl (op1_taList rfl rfl) ?_
 refine sM rfl rfl rfl rfl rfl ?_
 refine sS rfl rfl rfl (op1_ext rfl rfl rfl) ?_
 refine sS rfl rfl rfl (op1_ext rfl rfl rfl) ?_
 refine sA rfl rfl rfl rfl rfl ?_
 refine sA rfl rfl rfl rfl rfl (ao_nil ?_)
 change BW _ _ _ _ _
 refine bR ?_
 refine sM rfl rfl rfl rfl rfl ?_
 refine sS rfl rfl rfl (op1_taList rfl rfl) ?_
 refine sM rfl rfl rfl rfl rfl ?_
 refine sS rfl rfl rfl (op1_ext rfl rfl rfl) ?_
 refine sS rfl rfl rfl (op1_ext rfl rfl rfl) ?_
 refine sA rfl rfl rfl rfl rfl ?_
 refine sA rfl rfl rfl rfl rfl (ao_nil ?_)
 change BW _ _ _ _ _
 refine bR ?_
 refine sM rfl rfl rfl rfl rfl ?_
 refine sS rfl rfl rfl (op1_taList rfl rfl) ?_
 refine sM rfl rfl rfl rfl rfl ?_
 refine sS rfl rfl rfl (op1_ext rfl rfl rfl) ?_
 refine sS rfl rfl rfl (op1_ext rfl rfl rfl) ?_
 refine sA rfl rfl rfl rfl rfl ?_
 refine sA rfl rfl rfl rfl rfl (ao_nil ?_)
 change BW _ _ _ _ _
 refine bw_seq ?_
 refine bw_seqJ (ι := Bool) (fun i => merge_merger_list_j1 r_merge_merger_put a0 a1 a2 a3 a4 i = some r) (fun i => [(0, (PV.rf 0 0)), (1, (PV.sl none 57 3 (List.map of_api_Step a1))), (10, (PV.rf 2 0)), (12, (PV.sl none 20 1 (List.map ofV (a2).asList))), (14, (PV.sl none 20 1 (List.map ofV (a3).asList))), (16, (PV.sl none 20 1 (List.map ofV (a4).asList))), (59, (BO i))]) (fun i => [.box 83 [(PV.v .nilFunc), (PV.sl (some 1) 44 7 (List.map of_api_Conflict a0.f_conflicts))], .arr 44 (a0.f_conflicts).length, .box 87 [(ofV V.nil), (BO false)]]) ?_ ?_ ?_
 ·intro i; exact ⟨Nat.le_of_ble_eq_true rfl, ⟨(il_rf rfl), ⟨(il_nil (ids_slM ids_S_api_Step _)), ⟨(il_rf rfl), ⟨(il_nil (ids_slM ids_V _)), ⟨(il_nil (ids_slM ids_V _)), ⟨(il_nil (ids_slM ids_V _)), ⟨(il_nil rfl), trivial⟩⟩⟩⟩⟩⟩⟩, ⟨⟨(il_nil rfl), ⟨(il_tok rfl (ids_map ids_S_api_Conflict _)), trivial⟩⟩, ⟨⟨(il_nil (ids_V _)), ⟨(il_nil rfl), trivial⟩⟩, trivial⟩⟩⟩
 ·rintro s1 h; replace h : merge_merger_list_j1 r_merge_merger_put a0 a1 a2 a3 a4 s1 = some r := h; unfold merge_merger_list_j1 at h
  change BW _ _ _ ⟨[(0, (PV.rf 0 0)), (1, (PV.sl none 57 3 (List.map of_api_Step a1))), (10, (PV.rf 2 0)), (12, (PV.sl none 20 1 (List.map ofV (a2).asList))), (14, (PV.sl none 20 1 (List.map ofV (a3).asList))), (16, (PV.sl none 20 1 (List.map ofV (a4).asList))), (59, (BO s1))], [.box 83 [(PV.v .nilFunc), (PV.sl (some 1) 44 7 (List.map of_api_Conflict a0.f_conflicts))], .arr 44 (a0.f_conflicts).length, .box 87 [(ofV V.nil), (BO false)]], _⟩ _
  refine bw_cond rfl ?_ ?_
  ·intro hc2; replace h := ocond_t hc2 h
   refine bR ?_
   refine sS rfl rfl rfl (op1_build (cs := [(PV.v .nilIface), (BO false)]) st_87 inf_87 rfl rfl rfl rfl) ?_
   refine ao_step0 rfl rfl (op1_store inf_87 rfl rfl rfl rfl rfl rfl (Nat.le_of_ble_eq_true rfl) (by show List.all [(PV.v .nilIface), (BO false)] one1 = true; simp only [List.all_cons, List.all_nil, one_V, one_RecP, Bool.and_true, Bool.true_and]; try rfl)) ?_
   refine sA rfl rfl rfl rfl rfl (ao_nil ?_)
   change BW _ _ _ _ _
   refine bw_ret ?_
   change ∃ xs, _ = some xs ∧ EndOk _ _ _ _
   obtain rfl := Option.some.inj h
   exact ⟨_, rfl, endR (y := (PV.tup [(of_merge_side (S_merge_side.mk V.nil false)), (BO false)])) 2 (Wk.tup (.cons (Wk.agg (.cons (Wk.eq mk_nil.symm) (.cons (Wk.refl _) .nil))) (.cons (Wk.refl _) .nil))) rfl rfl (.tup (.cons (.same (ids_S_merge_side (S_merge_side.mk V.nil false))) (.cons (.same rfl) .nil))) (.cons (.box (.cons (.same rfl) (.cons (.row rfl (ids_map ids_S_api_Conflict a0.f_conflicts)) .nil))) (.cons .arr .nil)) ⟨rfl, rfl⟩⟩
  ·intro hc2; replace h := ocond_f hc2 h
   refine bw_skip ?_
   change BW _ _ _ _ _
   refine bR ?_
   refine sS rfl rfl rfl ((op1_bslice (xs := []) Try.underlying47 inf_20 rfl rfl rfl rfl rfl rfl ⟨Nat.le_of_ble_eq_true rfl, Nat.le_of_ble_eq_true rfl⟩ rfl).cast (y := (PV.sl (some 3) 20 1 (List.map ofV ([] : (List V))))) rfl rfl) ?_
   refine sA rfl rfl rfl rfl rfl (ao_nil ?_)
   change BW _ _ _ _ _
   refine bw_seq ?_
   refine bR ?_
   refine sM rfl rfl rfl rfl rfl ?_
   refine sS rfl rfl rfl (op1_lenM Try.underlying47 rfl rfl) ?_
   refine sM rfl rfl rfl rfl rfl (ao_nil ?_)
   change BW _ _ _ _ _
   refine bw_block ?_
   change BW _ _ _ _ _
   unfold merge_merger_list_l1 at h
   refine bw_loop (σ := ((List V) × Nat × Unit × (List S_api_Conflict))) (fun i => [(0, (PV.rf 0 0)), (1, (PV.sl none 57 3 (List.map of_api_Step a1))), (10, (PV.rf 2 0)), (12, (PV.sl none 20 1 (List.map ofV (a2).asList))), (14, (PV.sl none 20 1 (List.map ofV (a3).asList))), (16, (PV.sl none 20 1 (List.map ofV (a4).asList))), (18, (PV.sl (some 3) 20 1 (List.map ofV i.1))), (63, (I64 (((((a2).asList).length : Nat) : Int)))), (64, (I64 (((i.2.1 : Nat) : Int))))]) (fun i => [.box 83 [(PV.v .nilFunc), (PV.sl (some 1) 44 7 (List.map of_api_Conflict i.2.2.2))], .arr 44 (i.2.2.2).length, .box 87 [(ofV V.nil), (BO false)], .arr 20 (i.1).length]) (([] : (List V)), 0, a0.f_settle, a0.f_conflicts) h ?_ ?_ ?_
   ·intro i; exact ⟨Nat.le_of_ble_eq_true rfl, ⟨(il_rf rfl), ⟨(il_nil (ids_slM ids_S_api_Step _)), ⟨(il_rf rfl), ⟨(il_nil (ids_slM ids_V _)), ⟨(il_nil (ids_slM ids_V _)), ⟨(il_nil (ids_slM ids_V _)), ⟨(il_tok rfl (ids_map ids_V _)), ⟨(il_nil rfl), ⟨(il_nil rfl), trivial⟩⟩⟩⟩⟩⟩⟩⟩⟩, ⟨⟨(il_nil rfl), ⟨(il_tok rfl (ids_map ids_S_api_Conflict _)), trivial⟩⟩, ⟨⟨(il_nil (ids_V _)), ⟨(il_nil rfl), trivial⟩⟩, trivial⟩⟩⟩
   ·exact ⟨(.cons .same (.cons .same (.cons .same (.cons .same .nil)))), (sC rfl (sC rfl (sC rfl (sC rfl (sC rfl (sC rfl (sC rfl (sC rfl (sC rfl sub_nil)))))))))⟩
   ·rintro g1_f ⟨s3, s4, s5, s6⟩ h; replace h : merge_merger_list_l1b r_merge_merger_put a1 a2 a3 a4 (fun y0 y1 y2 y3 => g1_f (y0, y1, y2, y3)) s3 s4 s5 s6 = some r := h; unfold merge_merger_list_l1b at h
    change BW _ _ _ ⟨[(0, (PV.rf 0 0)), (1, (PV.sl none 57 3 (List.map of_api_Step a1))), (10, (PV.rf 2 0)), (12, (PV.sl none 20 1 (List.map ofV (a2).asList))), (14, (PV.sl none 20 1 (List.map ofV (a3).asList))), (16, (PV.sl none 20 1 (List.map ofV (a4).asList))), (18, (PV.sl (some 3) 20 1 (List.map ofV s3))), (63, (I64 (((((a2).asList).length : Nat) : Int)))), (64, (I64 (((s4 : Nat) : Int))))], [.box 83 [(PV.v .nilFunc), (PV.sl (some 1) 44 7 (List.map of_api_Conflict s6))], .arr 44 (s6).length, .box 87 [(ofV V.nil), (BO false)], .arr 20 (s3).length], _⟩ _
    refine bR ?_
    refine sS rfl rfl rfl ((op1_cmp rfl rfl rfl rfl).cast (y := (BO ((decide (((s4 : Nat) : Int) < ((((a2).asList).length : Nat) : Int)))))) rfl rfl) (ao_nil ?_)
    change BW _ _ _ _ _
    refine bw_seq ?_
    refine bw_len (t := 12) rfl fun hb8 => ?_
    try rw [List.length_map] at hb8
    refine bw_cond rfl ?_ ?_
    ·intro hc7; replace h := ocond_t hc7 h
     have hc7_ := of_decide_eq_true hc7
     refine bw_skip ?_
     change BW _ _ _ _ _
     refine bw_seq ?_
     refine bw_block ?_
     change BW _ _ _ _ _
     refine bR ?_
     refine sM rfl rfl rfl rfl rfl ?_
     refine sA rfl rfl rfl rfl rfl (ao_nil ?_)
     change BW _ _ _ _ _
     refine bw_seq ?_
     refine bw_place 87 ?_
     refine bw_fill1 23 4 (.box 87 [(PV.v .nilIface), (BO false)]) [2, 6, 22, 24] [] mo (by kernel_rfl) rfl ?_
     refine af_go rfl rfl rfl rfl rfl (fun H hp => op1_move rfl rfl) ?_
     refine af_go rfl rfl rfl rfl rfl (fun H hp => op1_move rfl rfl) ?_
     obtain ⟨x9, hx9, h⟩ := obind h
     refine af_lgo2 (H1 := [.box 83 [(PV.v .nilFunc), (PV.sl (some 1) 44 7 (List.map of_api_Conflict s6))], .arr 44 (s6).length, .box 87 [(ofV V.nil), (BO false)], .arr 20 (s3).length, .arr 87 0]) rfl rfl rfl rfl (op1_ocall rfl en_50 rfl (.cons (Wk.refl _) .nil) ⟨(ids_slM ids_S_api_Step a1), trivial⟩ (s_slices_Clip_api_Step_api_Step a1 x9 hx9) (ren_ownrow (ids_map ids_S_api_Step _) rfl) rfl) trivial rfl (op1_ocall rfl en_50 rfl (.cons (Wk.refl _) .nil) ⟨(ids_slM ids_S_api_Step a1), trivial⟩ (s_slices_Clip_api_Step_api_Step a1 x9 hx9) (ren_ownrow (ids_map ids_S_api_Step _) rfl) rfl) rfl rfl ?_
     refine af_go rfl rfl rfl rfl rfl (fun H hp => op1_move rfl rfl) ?_
     refine af_go rfl rfl rfl rfl rfl (fun H hp => op1_build (cs := [(ofStr []), (BO true), (I64 (((s4 : Nat) : Int)))]) st_57 inf_57 rfl rfl rfl rfl) ?_
     refine af_go rfl rfl rfl rfl rfl (fun H hp => (op1_bsliceH (xs := [(PV.agg [(ofStr []), (BO true), (I64 (((s4 : Nat) : Int)))])]) Try.underlying42 inf_57 rfl rfl rfl rfl rfl rfl ⟨Nat.le_of_ble_eq_true rfl, Nat.le_of_ble_eq_true rfl⟩ rfl).cast (y := (PV.sl none 57 3 (List.map of_api_Step ([(S_api_Step.mk [] true ((s4 : Nat) : Int))] : (List S_api_Step))))) rfl rfl) ?_
     obtain ⟨x10, hx10, h⟩ := obind h
     refine af_lgo2 (H1 := [.box 83 [(PV.v .nilFunc), (PV.sl (some 1) 44 7 (List.map of_api_Conflict s6))], .arr 44 (s6).length, .box 87 [(ofV V.nil), (BO false)], .arr 20 (s3).length, .arr 87 0, .arr 57 (x9).length]) rfl rfl rfl rfl (op1_appM Try.underlying42 inf_57 rfl Try.underlying42 rfl rfl rfl rfl csz_S_api_Step call1_S_api_Step hx10 rfl) trivial rfl (op1_appM Try.underlying42 inf_57 rfl Try.underlying42 rfl rfl rfl rfl csz_S_api_Step call1_S_api_Step hx10 rfl) rfl rfl ?_
     refine af_go rfl rfl rfl rfl rfl (fun H hp => op1_move rfl rfl) ?_
     refine af_go rfl rfl rfl rfl rfl (fun H hp => op1_move rfl rfl) ?_
     obtain ⟨x11, hx11, h⟩ := obind h
     refine af_go rfl rfl rfl rfl rfl (fun H hp => op1_idxN (i := s4) Try.underlying47 inf_20 rfl rfl rfl hx11 rfl) ?_
     refine af_go rfl rfl rfl rfl rfl (fun H hp => op1_ldP (y := (ofV x11)) Try.underlying20 rfl rfl rfl (by rw [cells_V]; rfl)) ?_
     refine af_go rfl rfl rfl rfl rfl (fun H hp => op1_build (cs := [(ofV x11), (BO true)]) st_87 inf_87 rfl rfl (by simp only [List.all_cons, List.all_nil, cok_V, cok_RecP, Bool.and_true, Bool.true_and]; try rfl) (by simp only [afill, List.getElem?_cons_zero, List.getElem?_cons_succ, cells_V, cells_RecP]; rfl)) ?_
     refine af_go rfl rfl rfl rfl rfl (fun H hp => op1_move rfl rfl) ?_
     refine af_go rfl rfl rfl rfl rfl (fun H hp => op1_move rfl rfl) ?_
     obtain ⟨x12, hx12, h⟩ := obind h
     refine af_go rfl rfl rfl rfl rfl (fun H hp => op1_idxN (i := s4) Try.underlying47 inf_20 rfl rfl rfl hx12 rfl) ?_
     refine af_go rfl rfl rfl rfl rfl (fun H hp => op1_ldP (y := (ofV x12)) Try.underlying20 rfl rfl rfl (by rw [cells_V]; rfl)) ?_
     refine af_go rfl rfl rfl rfl rfl (fun H hp => op1_build (cs := [(ofV x12), (BO true)]) st_87 inf_87 rfl rfl (by simp only [List.all_cons, List.all_nil, cok_V, cok_RecP, Bool.and_true, Bool.true_and]; try rfl) (by simp only [afill, List.getElem?_cons_zero, List.getElem?_cons_succ, cells_V, cells_RecP]; rfl)) ?_
     refine af_go rfl rfl rfl rfl rfl (fun H hp => op1_move rfl rfl) ?_
     refine af_go rfl rfl rfl rfl rfl (fun H hp => op1_move rfl rfl) ?_
     obtain ⟨x13, hx13, h⟩ := obind h
     refine af_go rfl rfl rfl rfl rfl (fun H hp => op1_idxN (i := s4) Try.underlying47 inf_20 rfl rfl rfl hx13 rfl) ?_
     refine af_go rfl rfl rfl rfl rfl (fun H hp => op1_ldP (y := (ofV x13)) Try.underlying20 rfl rfl rfl (by rw [cells_V]; rfl)) ?_
     refine af_go rfl rfl rfl rfl rfl (fun H hp => op1_build (cs := [(ofV x13), (BO true)]) st_87 inf_87 rfl rfl (by simp only [List.all_cons, List.all_nil, cok_V, cok_RecP, Bool.and_true, Bool.true_and]; try rfl) (by simp only [afill, List.getElem?_cons_zero, List.getElem?_cons_succ, cells_V, cells_RecP]; rfl)) ?_
     obtain ⟨x14, hx14, h⟩ := obind h
     refine af_lgo2 (H1 := [.box 83 [(PV.v .nilFunc), (PV.sl (some 1) 44 7 (List.map of_api_Conflict s6))], .arr 44 (s6).length, .box 87 [(ofV V.nil), (BO false)], .arr 20 (s3).length, .arr 87 0, .arr 57 (x10).length]) rfl rfl rfl rfl (op1_mcall [0, 1] (.func rfl) en_29 rfl (.cons (Wk.refl _) (.cons Wk.tok (.cons (Wk.refl _) (.cons (Wk.refl _) (.cons (Wk.refl _) .nil))))) rfl (.cons rfl (.box (.cons (.same rfl) (.cons (.row rfl (ids_map ids_S_api_Conflict (((S_merge_merger.mk s5 s6)).f_conflicts))) .nil))) (.cons rfl .arr .nil)) (.cons (.rf rfl) (.cons (.same (ids_slM ids_S_api_Step x10)) (.cons (.same (ids_S_merge_side (S_merge_side.mk x11 true))) (.cons (.same (ids_S_merge_side (S_merge_side.mk x12 true))) (.cons (.same (ids_S_merge_side (S_merge_side.mk x13 true))) .nil))))) (c_merge_merger_put (S_merge_merger.mk s5 s6) x10 (S_merge_side.mk x11 true) (S_merge_side.mk x12 true) (S_merge_side.mk x13 true) x14 hx14) (.same (ids_S_merge_side x14.1)) (.cons (.box (.cons (.same rfl) (.cons (.row rfl (ids_map ids_S_api_Conflict ((x14.2).f_conflicts))) .nil))) (.cons .arr .nil)) rfl) trivial rfl (op1_mcall [0, 1] (.func rfl) en_29 rfl (.cons (Wk.refl _) (.cons Wk.tok (.cons (Wk.refl _) (.cons (Wk.refl _) (.cons (Wk.refl _) .nil))))) rfl (.cons rfl (.box (.cons (.same rfl) (.cons (.row rfl (ids_map ids_S_api_Conflict (((S_merge_merger.mk s5 s6)).f_conflicts))) .nil))) (.cons rfl .arr .nil)) (.cons (.rf rfl) (.cons (.same (ids_slM ids_S_api_Step x10)) (.cons (.same (ids_S_merge_side (S_merge_side.mk x11 true))) (.cons (.same (ids_S_merge_side (S_merge_side.mk x12 true))) (.cons (.same (ids_S_merge_side (S_merge_side.mk x13 true))) .nil))))) (c_merge_merger_put (S_merge_merger.mk s5 s6) x10 (S_merge_side.mk x11 true) (S_merge_side.mk x12 true) (S_merge_side.mk x13 true) x14 hx14) (.same (ids_S_merge_side x14.1)) (.cons (.box (.cons (.same rfl) (.cons (.row rfl (ids_map ids_S_api_Conflict ((x14.2).f_conflicts))) .nil))) (.cons .arr .nil)) rfl) rfl rfl ?_
     refine af_fill rfl rfl rfl rfl rfl inf_87 rfl rfl ?_
     refine af_lgo0 rfl (by kernel_rfl) rfl rfl (op1_store inf_87 rfl rfl rfl rfl rfl rfl (Nat.le_of_ble_eq_true rfl) (by show List.all [(ofV (x14.1).f_v), (BO ((x14.1).f_has))] one1 = true; simp only [List.all_cons, List.all_nil, one_V, one_RecP, Bool.and_true, Bool.true_and]; try rfl)) trivial ?_
     refine af_nil ?_
     change BW _ _ _ _ _
     refine bw_region ?_
     refine sM rfl rfl rfl rfl rfl ?_
     refine sS rfl rfl rfl (op1_faR st_87 (i := 0) rfl rfl rfl) ?_
     refine sS rfl rfl rfl ((op1_ldR Try.underlying20 rfl rfl rfl rfl rfl)) ?_
     refine sS rfl rfl rfl ((op1_bslice (xs := [(ofV (x14.1).f_v)]) Try.underlying47 inf_20 rfl rfl rfl (by simp only [List.all_cons, List.all_nil, cok_V, cok_RecP, Bool.and_true, Bool.true_and]; try rfl) (by simp only [List.all_cons, List.all_nil, csz_V, csz_RecP, cells_V, cells_RecP]; try rfl) rfl ⟨Nat.le_of_ble_eq_true rfl, Nat.le_of_ble_eq_true rfl⟩ (by simp only [zipN, afill, List.flatMap_cons, List.flatMap_nil, cells_V, cells_RecP]; try rfl)).cast (y := (PV.sl (some 6) 20 1 (List.map ofV ([(x14.1).f_v] : (List V))))) rfl rfl) ?_
     obtain ⟨x15, hx15, h⟩ := obind h
     refine sS rfl rfl rfl (op1_appM Try.underlying47 inf_20 rfl Try.underlying47 rfl rfl rfl rfl csz_V call1_V hx15 rfl) ?_
     refine sA rfl rfl rfl rfl rfl (ao_nil ?_)
     change BW _ _ _ _ _
     refine bw_region ?_
     refine sS rfl rfl rfl (op1_incN (k := s4) (c := 1) rfl rfl rfl (by omega)) ?_
     refine sM rfl rfl rfl rfl rfl (ao_nil ?_)
     exact ⟨rfl, (x15, (s4 + 1), (x14.2).f_settle, (x14.2).f_conflicts), h, ⟨(.cons .same (.cons .same (.cons .same (.cons .same .nil)))), (sC rfl (sC rfl (sC rfl (sC rfl (sC rfl (sC rfl (sC rfl (sC rfl (sC rfl sub_nil)))))))))⟩⟩
    ·intro hc7; replace h := ocond_f hc7 h
     refine bw_exit ?_
     change BW _ _ _ _ _
     refine bR ?_
     refine sM rfl rfl rfl rfl rfl ?_
     refine sS rfl rfl rfl ((op1_mkI Try.underlying47 rfl rfl rfl).wk ((Wk.iface Wk.tok).trans (Wk.eq (mk_list _).symm))) ?_
     refine sS rfl rfl rfl (op1_build (cs := [(ofV (V.list s3)), (BO true)]) st_87 inf_87 rfl rfl (by simp only [List.all_cons, List.all_nil, cok_V, cok_RecP, Bool.and_true, Bool.true_and]; try rfl) (by simp only [afill, List.getElem?_cons_zero, List.getElem?_cons_succ, cells_V, cells_RecP]; rfl)) ?_
     refine ao_step0 rfl rfl (op1_store inf_87 rfl rfl rfl rfl rfl rfl (Nat.le_of_ble_eq_true rfl) (by show List.all [(ofV (V.list s3)), (BO true)] one1 = true; simp only [List.all_cons, List.all_nil, one_V, one_RecP, Bool.and_true, Bool.true_and]; try rfl)) ?_
     refine sA rfl rfl rfl rfl rfl (ao_nil ?_)
     change BW _ _ _ _ _
     refine bw_ret ?_
     change ∃ xs, _ = some xs ∧ EndOk _ _ _ _
     obtain rfl := Option.some.inj h
     exact ⟨_, rfl, endR (y := (PV.tup [(of_merge_side (S_merge_side.mk (V.list s3) true)), (BO true)])) 2 (Wk.refl _) rfl rfl (.tup (.cons (.same (ids_S_merge_side (S_merge_side.mk (V.list s3) true))) (.cons (.same rfl) .nil))) (.cons (.box (.cons (.same rfl) (.cons (.row rfl (ids_map ids_S_api_Conflict (((S_merge_merger.mk s5 s6)).f_conflicts))) .nil))) (.cons .arr .nil)) ⟨rfl, rfl⟩⟩
 ·refine bw_region ?_
  refine sM rfl rfl rfl rfl rfl ?_
  refine sS rfl rfl rfl (op1_not rfl rfl) ?_
  refine sM rfl rfl rfl rfl rfl ?_
  refine ao_cases (t := 38) rfl ?_ ?_
  ·intro hb16; replace h := ocond_t hb16 h
   refine ao_no rfl rfl rfl rfl rfl rfl ?_
   refine ao_no rfl rfl rfl rfl rfl rfl ?_
   refine sS rfl rfl rfl (op1_pickT rfl rfl rfl) ?_
   refine sM rfl rfl rfl rfl rfl ?_
   refine ao_no rfl rfl rfl rfl rfl rfl ?_
   refine ao_no rfl rfl rfl rfl rfl rfl ?_
   refine sS rfl rfl rfl (op1_pickT rfl rfl rfl) ?_
   refine sM rfl rfl rfl rfl rfl ?_
   refine ao_no rfl rfl rfl rfl rfl rfl ?_
   refine ao_no rfl rfl rfl rfl rfl rfl ?_
   refine ao_no rfl rfl rfl rfl rfl rfl ?_
   refine ao_no rfl rfl rfl rfl rfl rfl ?_
   refine ao_no rfl rfl rfl rfl rfl rfl ?_
   refine sS rfl rfl rfl (op1_pickT rfl rfl rfl) ?_
   refine sM rfl rfl rfl rfl rfl ?_
   refine ao_no rfl rfl rfl rfl rfl rfl ?_
   refine ao_no rfl rfl rfl rfl rfl rfl ?_
   refine ao_no rfl rfl rfl rfl rfl rfl ?_
   refine ao_no rfl rfl rfl rfl rfl rfl ?_
   refine ao_no rfl rfl rfl rfl rfl rfl ?_
   refine sS rfl rfl rfl (op1_pickT rfl rfl rfl) (ao_nil ?_)
   exact ⟨rfl, true, h, ⟨(.cons .same (.cons .same (.cons .same .nil))), (sC rfl (sC rfl (sC rfl (sC rfl (sC rfl (sC rfl (sC rfl sub_nil)))))))⟩⟩
  ·intro hb16; replace h := ocond_f hb16 h
   refine ao_yes rfl rfl rfl rfl rfl rfl (op1_move rfl rfl) ?_
   refine ao_yes rfl rfl rfl rfl rfl rfl (op1_not rfl rfl) ?_
   refine sS rfl rfl rfl (op1_pickF rfl rfl rfl) ?_
   refine sM rfl rfl rfl rfl rfl ?_
   refine ao_cases (t := 42) rfl ?_ ?_
   ·intro hb17; replace h := ocond_t hb17 h
    refine ao_no rfl rfl rfl rfl rfl rfl ?_
    refine ao_no rfl rfl rfl rfl rfl rfl ?_
    refine sS rfl rfl rfl (op1_pickT rfl rfl rfl) ?_
    refine sM rfl rfl rfl rfl rfl ?_
    refine ao_no rfl rfl rfl rfl rfl rfl ?_
    refine ao_no rfl rfl rfl rfl rfl rfl ?_
    refine ao_no rfl rfl rfl rfl rfl rfl ?_
    refine ao_no rfl rfl rfl rfl rfl rfl ?_
    refine ao_no rfl rfl rfl rfl rfl rfl ?_
    refine sS rfl rfl rfl (op1_pickT rfl rfl rfl) ?_
    refine sM rfl rfl rfl rfl rfl ?_
    refine ao_no rfl rfl rfl rfl rfl rfl ?_
    refine ao_no rfl rfl rfl rfl rfl rfl ?_
    refine ao_no rfl rfl rfl rfl rfl rfl ?_
    refine ao_no rfl rfl rfl rfl rfl rfl ?_
    refine ao_no rfl rfl rfl rfl rfl rfl ?_
    refine sS rfl rfl rfl (op1_pickT rfl rfl rfl) (ao_nil ?_)
    exact ⟨rfl, true, h, ⟨(.cons .same (.cons .same (.cons .same .nil))), (sC rfl (sC rfl (sC rfl (sC rfl (sC rfl (sC rfl (sC rfl sub_nil)))))))⟩⟩
   ·intro hb17; replace h := ocond_f hb17 h
    refine ao_yes rfl rfl rfl rfl rfl rfl (op1_move rfl rfl) ?_
    refine ao_yes rfl rfl rfl rfl rfl rfl (op1_not rfl rfl) ?_
    refine sS rfl rfl rfl (op1_pickF rfl rfl rfl) ?_
    refine sM rfl rfl rfl rfl rfl ?_
    refine ao_cases (t := 46) rfl ?_ ?_
    ·intro hb18; replace h := ocond_t hb18 h
     refine ao_no rfl rfl rfl rfl rfl rfl ?_
     refine ao_no rfl rfl rfl rfl rfl rfl ?_
     refine ao_no rfl rfl rfl rfl rfl rfl ?_
     refine ao_no rfl rfl rfl rfl rfl rfl ?_
     refine ao_no rfl rfl rfl rfl rfl rfl ?_
     refine sS rfl rfl rfl (op1_pickT rfl rfl rfl) ?_
     refine sM rfl rfl rfl rfl rfl ?_
     refine ao_no rfl rfl rfl rfl rfl rfl ?_
     refine ao_no rfl rfl rfl rfl rfl rfl ?_
     refine ao_no rfl rfl rfl rfl rfl rfl ?_
     refine ao_no rfl rfl rfl rfl rfl rfl ?_
     refine ao_no rfl rfl rfl rfl rfl rfl ?_
     refine sS rfl rfl rfl (op1_pickT rfl rfl rfl) (ao_nil ?_)
     exact ⟨rfl, true, h, ⟨(.cons .same (.cons .same (.cons .same .nil))), (sC rfl (sC rfl (sC rfl (sC rfl (sC rfl (sC rfl (sC rfl sub_nil)))))))⟩⟩
    ·intro hb18; replace h := ocond_f hb18 h
     refine ao_yes rfl rfl rfl rfl rfl rfl (op1_move rfl rfl) ?_
     refine ao_yes rfl rfl rfl rfl rfl rfl (op1_lenM Try.underlying47 rfl rfl) ?_
     refine ao_yes rfl rfl rfl rfl rfl rfl (op1_move rfl rfl) ?_
     refine ao_yes rfl rfl rfl rfl rfl rfl (op1_lenM Try.underlying47 rfl rfl) ?_
     refine ao_yes rfl rfl rfl rfl rfl rfl ((op1_cmp rfl rfl rfl rfl).cast (y := (BO ((((((a2).asList).length : Nat) : Int) != ((((a3).asList).length : Nat) : Int))))) rfl rfl) ?_
     refine sS rfl rfl rfl (op1_pickF rfl rfl rfl) ?_
     refine sM rfl rfl rfl rfl rfl ?_
     refine ao_cases (t := 53) rfl ?_ ?_
     ·intro hb19; replace h := ocond_t hb19 h
      refine ao_no rfl rfl rfl rfl rfl rfl ?_
      refine ao_no rfl rfl rfl rfl rfl rfl ?_
      refine ao_no rfl rfl rfl rfl rfl rfl ?_
      refine ao_no rfl rfl rfl rfl rfl rfl ?_
      refine ao_no rfl rfl rfl rfl rfl rfl ?_
      refine sS rfl rfl rfl (op1_pickT rfl rfl rfl) (ao_nil ?_)
      exact ⟨rfl, true, h, ⟨(.cons .same (.cons .same (.cons .same .nil))), (sC rfl (sC rfl (sC rfl (sC rfl (sC rfl (sC rfl (sC rfl sub_nil)))))))⟩⟩
     ·intro hb19; replace h := ocond_f hb19 h
      refine ao_yes rfl rfl rfl rfl rfl rfl (op1_move rfl rfl) ?_
      refine ao_yes rfl rfl rfl rfl rfl rfl (op1_lenM Try.underlying47 rfl rfl) ?_
      refine ao_yes rfl rfl rfl rfl rfl rfl (op1_move rfl rfl) ?_
      refine ao_yes rfl rfl rfl rfl rfl rfl (op1_lenM Try.underlying47 rfl rfl) ?_
      refine ao_yes rfl rfl rfl rfl rfl rfl ((op1_cmp rfl rfl rfl rfl).cast (y := (BO ((((((a2).asList).length : Nat) : Int) != ((((a4).asList).length : Nat) : Int))))) rfl rfl) ?_
      refine sS rfl rfl rfl (op1_pickF rfl rfl rfl) (ao_nil ?_)
      exact ⟨rfl, (((((a2).asList).length : Nat) : Int) != ((((a4).asList).length : Nat) : Int)), h, ⟨(.cons .same (.cons .same (.cons .same .nil))), (sC rfl (sC rfl (sC rfl (sC rfl (sC rfl (sC rfl (sC rfl sub_nil)))))))⟩⟩
theorem t_merge_merger_fields (r_merge_merger_list : S_merge_merger → (List S_api_Step) → V → V → V → Option (S_merge_side × Bool × S_merge_merger)) (c_merge_merger_list : ∀ (a0 : S_merge_merger) (a1 : (List S_api_Step)) (a2 : V) (a3 : V) (a4 : V) r, r_merge_merger_list a0 a1 a2 a3 a4 = some r → MCalls Try.prog 56 [(PV.rf 0 0), (PV.sl none 57 3 (List.map of_api_Step a1)), (ofV a2), (ofV a3), (ofV a4)] [.box 83 [(PV.v .nilFunc), (PV.sl (some 1) 44 7 (List.map of_api_Conflict a0.f_conflicts))], .arr 44 (a0.f_conflicts).length] (PV.tup [(of_merge_side r.1), (BO r.2.1)]) [.box 83 [(PV.v .nilFunc), (PV.sl (some 1) 44 7 (List.map of_api_Conflict (r.2.2).f_conflicts))], .arr 44 ((r.2.2).f_conflicts).length]) (r_merge_merger_fields : S_merge_merger → (List S_api_Step) → V → V → V → Option (S_merge_side × Bool × S_merge_merger)) (c_merge_merger_fields : ∀ (a0 : S_merge_merger) (a1 : (List S_api_Step)) (a2 : V) (a3 : V) (a4 : V) r, r_merge_merger_fields a0 a1 a2 a3 a4 = some r → MCalls Try.prog 55 [(PV.rf 0 0), (PV.sl none 57 3 (List.map of_api_Step a1)), (ofV a2), (ofV a3), (ofV a4)] [.box 83 [(PV.v .nilFunc), (PV.sl (some 1) 44 7 (List.map of_api_Conflict a0.f_conflicts))], .arr 44 (a0.f_conflicts).length] (PV.tup [(of_merge_side r.1), (BO r.2.1)]) [.box 83 [(PV.v .nilFunc), (PV.sl (some 1) 44 7 (List.map of_api_Conflict (r.2.2).f_conflicts))], .arr 44 ((r.2.2).f_conflicts).length]) (r_merge_merger_put : S_merge_merger → (List S_api_Step) → S_merge_side → S_merge_side → S_merge_side → Option (S_merge_side × S_merge_merger)) (c_merge_merger_put : ∀ (a0 : S_merge_merger) (a1 : (List S_api_Step)) (a2 : S_merge_side) (a3 : S_merge_side) (a4 : S_merge_side) r, r_merge_merger_put a0 a1 a2 a3 a4 = some r → MCalls Try.prog 29 [(PV.rf 0 0), (PV.sl none 57 3 (List.map of_api_Step a1)), (of_merge_side a2), (of_merge_side a3), (of_merge_side a4)] [.box 83 [(PV.v .nilFunc), (PV.sl (some 1) 44 7 (List.map of_api_Conflict a0.f_conflicts))], .arr 44 (a0.f_conflicts).length] (of_merge_side r.1) [.box 83 [(PV.v .nilFunc), (PV.sl (some 1) 44 7 (List.map of_api_Conflict (r.2).f_conflicts))], .arr 44 ((r.2).f_conflicts).length]) (a0 : S_merge_merger) (a1 : (List S_api_Step)) (a2 : V) (a3 : V) (a4 : V) (r : (S_merge_side × Bool × S_merge_merger)) (h : b_merge_merger_fields r_merge_merger_list r_merge_merger_fields r_merge_merger_put a0 a1 a2 a3 a4 = some r) : MCalls Try.prog 55 [(PV.rf 0 0), (PV.sl none 57 3 (List.map of_api_Step a1)), (ofV a2), (ofV a3), (ofV a4)] [.box 83 [(PV.v .nilFunc), (PV.sl (some 1) 44 7 (List.map of_api_Conflict a0.f_conflicts))], .arr 44 (a0.f_conflicts).length] (PV.tup [(of_merge_side r.1), (BO r.2.1)]) [.box 83 [(PV.v .nilFunc), (PV.sl (some 1) 44 7 (List.map of_api_Conflict (r.2.2).f_conflicts))], .arr 44 ((r.2.2).f_conflicts).length] := by
 unfold b_merge_merger_fields at h
 refine acalls_of Try.func55 rfl Try.ntmps55 Try.results55 rfl (aw_of_bw ?_)
 change BW _ _ _ ⟨[(0, (PV.rf 0 0)), (1, (PV.sl none 57 3 (List.map of_api_Step a1))), (2, (ofV a2)), (3, (ofV a3)), (4, (ofV a4))], [.box 83 [(PV.v .nilFunc), (PV.sl (some 1) 44 7 (List.map of_api_Conflict a0.f_conflicts))], .arr 44 (a0.f_conflicts).length], _⟩ _
 refine bR ?_
 refine sS rfl rfl rfl ((op1_alloc inf_87 rfl).cast (H'' := [.box 83 [(PV.v .nilFunc), (PV.sl (some 1) 44 7 (List.map of_api_Conflict a0.f_conflicts))], .arr 44 (a0.f_conflicts).length, .box 87 [(ofV V.nil), (BO false)]]) rfl (by simp only [mk_nil]; rfl)) ?_
 refine sA rfl rfl rfl rfl rfl (ao_nil ?_)
 change BW _ _ _ _ _
 refine bR ?_
 refine sM rfl rfl rfl rfl rfl ?_
 obtain ⟨x1, hx1, h⟩ := obind h
 refine sS rfl rfl rfl (op1_pcall rfl en_67 rfl (.cons (Wk.refl _) .nil) ⟨(ids_V a2), trivial⟩ (s_merge_fieldsOf a2 x1 hx1) (ids_tup_cons (ids_slM ids_Fld x1.1) (ids_tup_cons rfl (ids_tup_cons rfl (ids_tup_cons rfl ids_tup_nil))))) ?_
 refine sM rfl rfl rfl rfl rfl ?_
 refine sS rfl rfl rfl (op1_ext rfl rfl rfl) ?_
 refine sS rfl rfl rfl (op1_ext rfl rfl rfl) ?_
 refine sS rfl rfl rfl (op1_ext rfl rfl rfl) ?_
 refine sS rfl rfl rfl (op1_ext rfl rfl rfl) ?_
 refine sA rfl rfl rfl rfl rfl ?_
 refine sA rfl rfl rfl rfl rfl ?_
 refine sA rfl rfl rfl rfl rfl ?_
 refine sA rfl rfl rfl rfl rfl (ao_nil ?_)
 change BW _ _ _ _ _
 refine bR ?_
 refine sM rfl rfl rfl rfl rfl ?_
 obtain ⟨x2, hx2, h⟩ := obind h
 refine sS rfl rfl rfl (op1_pcall rfl en_67 rfl (.cons (Wk.refl _) .nil) ⟨(ids_V a3), trivial⟩ (s_merge_fieldsOf a3 x2 hx2) (ids_tup_cons (ids_slM ids_Fld x2.1) (ids_tup_cons rfl (ids_tup_cons rfl (ids_tup_cons rfl ids_tup_nil))))) ?_
 refine sM rfl rfl rfl rfl rfl ?_
 refine sS rfl rfl rfl (op1_ext rfl rfl rfl) ?_
 refine sS rfl rfl rfl (op1_ext rfl rfl rfl) ?_
 refine sS rfl rfl rfl (op1_ext rfl rfl rfl) ?_
 refine sS rfl rfl rfl (op1_ext rfl rfl rfl) ?_
 refine sA rfl rfl rfl rfl rfl ?_
 refine sA rfl rfl rfl rfl rfl ?_
 refine sA rfl rfl rfl rfl rfl ?_
 refine sA rfl rfl rfl rfl rfl (ao_nil ?_)
 change BW _ _ _ _ _
 refine bR ?_
 refine sM rfl rfl rfl rfl rfl ?_
 obtain ⟨x3, hx3, h⟩ := obind h
 refine sS rfl rfl rfl (op1_pcall rfl en_67 rfl (.cons (Wk.refl _) .nil) ⟨(ids_V a4), trivial⟩ (s_merge_fieldsOf a4 x3 hx3) (ids_tup_cons (ids_slM ids_Fld x3.1) (ids_tup_cons rfl (ids_tup_cons rfl (ids_tup_cons rfl ids_tup_nil))))) ?_
 refine sM rfl rfl rfl rfl rfl ?_
 refine sS rfl rfl rfl (op1_ext rfl rfl rfl) ?_
 refine sS rfl rfl rfl (op1_ext rfl rfl rfl) ?_
 refine sS rfl rfl rfl (op1_ext rfl rfl rfl) ?_
 refine sS rfl rfl rfl (op1_ext rfl rfl rfl) ?_
 refine sA rfl rfl rfl rfl rfl ?_
 refine sA rfl rfl rfl rfl rfl ?_
 refine sA rfl rfl rfl rfl rfl ?_
 refine sA rfl rfl rfl rfl rfl (ao_nil ?_)
 change BW _ _ _ _ _
 refine bw_seq ?_
 refine bw_seqJ (ι := Bool) (fun i => merge_merger_fields_j1 r_merge_merger_put a0 a1 x1 x2 x3 i = some r) (fun i => [(0, (PV.rf 0 0)), (1, (PV.sl none 57 3 (List.map of_api_Step a1))), (10, (PV.rf 2 0)), (12, (PV.sl none 55 2 (List.map ofFld x1.1))), (13, (ofStr x1.2.1)), (14, (I64 x1.2.2.1)), (16, (PV.sl none 55 2 (List.map ofFld x2.1))), (20, (PV.sl none 55 2 (List.map ofFld x3.1))), (83, (BO i))]) (fun i => [.box 83 [(PV.v .nilFunc), (PV.sl (some 1) 44 7 (List.map of_api_Conflict a0.f_conflicts))], .arr 44 (a0.f_conflicts).length, .box 87 [(ofV V.nil), (BO false)]]) ?_ ?_ ?_
 ·intro i; exact ⟨Nat.le_of_ble_eq_true rfl, ⟨(il_rf rfl), ⟨(il_nil (ids_slM ids_S_api_Step _)), ⟨(il_rf rfl), ⟨(il_nil (ids_slM ids_Fld _)), ⟨(il_nil rfl), ⟨(il_nil rfl), ⟨(il_nil (ids_slM ids_Fld _)), ⟨(il_nil (ids_slM ids_Fld _)), ⟨(il_nil rfl), trivial⟩⟩⟩⟩⟩⟩⟩⟩⟩, ⟨⟨(il_nil rfl), ⟨(il_tok rfl (ids_map ids_S_api_Conflict _)), trivial⟩⟩, ⟨⟨(il_nil (ids_V _)), ⟨(il_nil rfl), trivial⟩⟩, trivial⟩⟩⟩
 ·rintro s4 h; replace h : merge_merger_fields_j1 r_merge_merger_put a0 a1 x1 x2 x3 s4 = some r := h; unfold merge_merger_fields_j1 at h
  change BW _ _ _ ⟨[(0, (PV.rf 0 0)), (1, (PV.sl none 57 3 (List.map of_api_Step a1))), (10, (PV.rf 2 0)), (12, (PV.sl none 55 2 (List.map ofFld x1.1))), (13, (ofStr x1.2.1)), (14, (I64 x1.2.2.1)), (16, (PV.sl none 55 2 (List.map ofFld x2.1))), (20, (PV.sl none 55 2 (List.map ofFld x3.1))), (83, (BO s4))], [.box 83 [(PV.v .nilFunc), (PV.sl (some 1) 44 7 (List.map of_api_Conflict a0.f_conflicts))], .arr 44 (a0.f_conflicts).length, .box 87 [(ofV V.nil), (BO false)]], _⟩ _
  refine bw_cond rfl ?_ ?_
  ·intro hc5; replace h := ocond_t hc5 h
   refine bR ?_
   refine sS rfl rfl rfl (op1_build (cs := [(PV.v .nilIface), (BO false)]) st_87 inf_87 rfl rfl rfl rfl) ?_
   refine ao_step0 rfl rfl (op1_store inf_87 rfl rfl rfl rfl rfl rfl (Nat.le_of_ble_eq_true rfl) (by show List.all [(PV.v .nilIface), (BO false)] one1 = true; simp only [List.all_cons, List.all_nil, one_V, one_RecP, Bool.and_true, Bool.true_and]; try rfl)) ?_
   refine sA rfl rfl rfl rfl rfl (ao_nil ?_)
   change BW _ _ _ _ _
   refine bw_ret ?_
   change ∃ xs, _ = some xs ∧ EndOk _ _ _ _
   obtain rfl := Option.some.inj h
   exact ⟨_, rfl, endR (y := (PV.tup [(of_merge_side (S_merge_side.mk V.nil false)), (BO false)])) 2 (Wk.tup (.cons (Wk.agg (.cons (Wk.eq mk_nil.symm) (.cons (Wk.refl _) .nil))) (.cons (Wk.refl _) .nil))) rfl rfl (.tup (.cons (.same (ids_S_merge_side (S_merge_side.mk V.nil false))) (.cons (.same rfl) .nil))) (.cons (.box (.cons (.same rfl) (.cons (.row rfl (ids_map ids_S_api_Conflict a0.f_conflicts)) .nil))) (.cons .arr .nil)) ⟨rfl, rfl⟩⟩
  ·intro hc5; replace h := ocond_f hc5 h
   refine bw_skip ?_
   change BW _ _ _ _ _
   refine bR ?_
   refine sS rfl rfl rfl ((op1_rnil (e := 9) (sz := 1) (.inl rfl) rfl).cast (y := (PV.rs 3 0 (([] : (List Str))).length 9 1)) (H'' := [.box 83 [(PV.v .nilFunc), (PV.sl (some 1) 44 7 (List.map of_api_Conflict a0.f_conflicts))], .arr 44 (a0.f_conflicts).length, .box 87 [(ofV V.nil), (BO false)], rowM ofStr 9 ([] : (List Str))]) rfl rfl) (ao_nil ?_)
   change BW _ _ _ _ _
   refine bw_seq ?_
   refine bR ?_
   refine sM rfl rfl rfl rfl rfl ?_
   refine sM rfl rfl rfl rfl rfl ?_
   refine sM rfl rfl rfl rfl rfl ?_
   refine sS rfl rfl rfl ((op1_bslice (xs := [(PV.sl none 55 2 (List.map ofFld x1.1)), (PV.sl none 55 2 (List.map ofFld x2.1)), (PV.sl none 55 2 (List.map ofFld x3.1))]) Try.underlying129 inf_49 rfl rfl rfl rfl rfl rfl ⟨Nat.le_of_ble_eq_true rfl, Nat.le_of_ble_eq_true rfl⟩ rfl).cast (y := (PV.sl (some 4) 49 1 (List.map (ofSl 55 2 ofFld) ([x1.1, x2.1, x3.1] : (List (List (Str × V))))))) rfl rfl) ?_
   refine sS rfl rfl rfl (op1_lenM Try.underlying129 rfl rfl) ?_
   refine sM rfl rfl rfl rfl rfl (ao_nil ?_)
   change BW _ _ _ _ _
   refine bw_block ?_
   change BW _ _ _ _ _
   unfold merge_merger_fields_l1 at h
   refine bw_loop (σ := ((List Str) × Int)) (fun i => [(0, (PV.rf 0 0)), (1, (PV.sl none 57 3 (List.map of_api_Step a1))), (10, (PV.rf 2 0)), (12, (PV.sl none 55 2 (List.map ofFld x1.1))), (13, (ofStr x1.2.1)), (14, (I64 x1.2.2.1)), (16, (PV.sl none 55 2 (List.map ofFld x2.1))), (20, (PV.sl none 55 2 (List.map ofFld x3.1))), (24, (PV.rs 3 0 (i.1).length 9 1)), (88, (PV.sl (some 4) 49 1 (List.map (ofSl 55 2 ofFld) ([x1.1, x2.1, x3.1] : (List (List (Str × V))))))), (89, (I64 ((((([x1.1, x2.1, x3.1] : (List (List (Str × V))))).length : Nat) : Int)))), (90, (I64 i.2))]) (fun i => [.box 83 [(PV.v .nilFunc), (PV.sl (some 1) 44 7 (List.map of_api_Conflict a0.f_conflicts))], .arr 44 (a0.f_conflicts).length, .box 87 [(ofV V.nil), (BO false)], rowM ofStr 9 i.1, .arr 49 (([x1.1, x2.1, x3.1] : (List (List (Str × V))))).length]) (([] : (List Str)), 0) h ?_ ?_ ?_
   ·intro i; exact ⟨Nat.le_of_ble_eq_true rfl, ⟨(il_rf rfl), ⟨(il_nil (ids_slM ids_S_api_Step _)), ⟨(il_rf rfl), ⟨(il_nil (ids_slM ids_Fld _)), ⟨(il_nil rfl), ⟨(il_nil rfl), ⟨(il_nil (ids_slM ids_Fld _)), ⟨(il_nil (ids_slM ids_Fld _)), ⟨(il_rs rfl), ⟨(il_tok rfl (ids_map (fun a => ids_slM ids_Fld a) _)), ⟨(il_nil rfl), ⟨(il_nil rfl), trivial⟩⟩⟩⟩⟩⟩⟩⟩⟩⟩⟩⟩, ⟨⟨(il_nil rfl), ⟨(il_tok rfl (ids_map ids_S_api_Conflict _)), trivial⟩⟩, ⟨⟨(il_nil (ids_V _)), ⟨(il_nil rfl), trivial⟩⟩, (wfH_row (fun _ => rfl) trivial)⟩⟩⟩
   ·exact ⟨(.cons .same (.cons .same (.cons .same (.cons .same (.cons .same .nil))))), (sC rfl (sC rfl (sC rfl (sC rfl (sC rfl (sC rfl (sC rfl (sC rfl (sC rfl (sC rfl (sC rfl (sC rfl sub_nil))))))))))))⟩
   ·rintro g1_f ⟨s6, s7⟩ h; replace h : merge_merger_fields_l1b r_merge_merger_put a0 a1 x1 x2 x3 (fun y0 y1 => g1_f (y0, y1)) s6 s7 = some r := h; unfold merge_merger_fields_l1b at h
    change BW _ _ _ ⟨[(0, (PV.rf 0 0)), (1, (PV.sl none 57 3 (List.map of_api_Step a1))), (10, (PV.rf 2 0)), (12, (PV.sl none 55 2 (List.map ofFld x1.1))), (13, (ofStr x1.2.1)), (14, (I64 x1.2.2.1)), (16, (PV.sl none 55 2 (List.map ofFld x2.1))), (20, (PV.sl none 55 2 (List.map ofFld x3.1))), (24, (PV.rs 3 0 (s6).length 9 1)), (88, (PV.sl (some 4) 49 1 (List.map (ofSl 55 2 ofFld) ([x1.1, x2.1, x3.1] : (List (List (Str × V))))))), (89, (I64 ((((([x1.1, x2.1, x3.1] : (List (List (Str × V))))).length : Nat) : Int)))), (90, (I64 s7))], [.box 83 [(PV.v .nilFunc), (PV.sl (some 1) 44 7 (List.map of_api_Conflict a0.f_conflicts))], .arr 44 (a0.f_conflicts).length, .box 87 [(ofV V.nil), (BO false)], rowM ofStr 9 s6, .arr 49 (([x1.1, x2.1, x3.1] : (List (List (Str × V))))).length], _⟩ _
    refine bR ?_
    refine sS rfl rfl rfl ((op1_cmp rfl rfl rfl rfl).cast (y := (BO ((decide (s7 < (((([x1.1, x2.1, x3.1] : (List (List (Str × V))))).length : Nat) : Int)))))) rfl rfl) (ao_nil ?_)
    change BW _ _ _ _ _
    refine bw_seq ?_
    refine bw_cond rfl ?_ ?_
    ·intro hc8; replace h := ocond_t hc8 h
     refine bw_skip ?_
     change BW _ _ _ _ _
     refine bw_seq ?_
     refine bw_block ?_
     change BW _ _ _ _ _
     refine bR ?_
     obtain ⟨x9, hx9, h⟩ := obind h
     refine sS rfl rfl rfl (op1_idxM Try.underlying129 inf_49 rfl rfl rfl hx9 rfl) ?_
     refine sS rfl rfl rfl (op1_ldP (y := (PV.sl none 55 2 (List.map ofFld x9))) Try.underlying49 rfl rfl rfl rfl) ?_
     refine sA rfl rfl rfl rfl rfl (ao_nil ?_)
     change BW _ _ _ _ _
     refine bR ?_
     refine sM rfl rfl rfl rfl rfl ?_
     refine sS rfl rfl rfl (op1_lenM Try.underlying49 rfl rfl) ?_
     refine sM rfl rfl rfl rfl rfl (ao_nil ?_)
     change BW _ _ _ _ _
     refine bw_block ?_
     change BW _ _ _ _ _
     unfold merge_merger_fields_l2 at h
     refine bw_loopR (σ := ((List Str) × Nat)) (fun i => [(0, (PV.rf 0 0)), (1, (PV.sl none 57 3 (List.map of_api_Step a1))), (10, (PV.rf 2 0)), (12, (PV.sl none 55 2 (List.map ofFld x1.1))), (13, (ofStr x1.2.1)), (14, (I64 x1.2.2.1)), (16, (PV.sl none 55 2 (List.map ofFld x2.1))), (20, (PV.sl none 55 2 (List.map ofFld x3.1))), (24, (PV.rs 3 0 (i.1).length 9 1)), (88, (PV.sl (some 4) 49 1 (List.map (ofSl 55 2 ofFld) ([x1.1, x2.1, x3.1] : (List (List (Str × V))))))), (89, (I64 ((((([x1.1, x2.1, x3.1] : (List (List (Str × V))))).length : Nat) : Int)))), (90, (I64 s7)), (94, (PV.sl none 55 2 (List.map ofFld x9))), (95, (I64 ((((x9).length : Nat) : Int)))), (96, (I64 (((i.2 : Nat) : Int))))]) (fun i => [.box 83 [(PV.v .nilFunc), (PV.sl (some 1) 44 7 (List.map of_api_Conflict a0.f_conflicts))], .arr 44 (a0.f_conflicts).length, .box 87 [(ofV V.nil), (BO false)], rowM ofStr 9 i.1, .arr 49 (([x1.1, x2.1, x3.1] : (List (List (Str × V))))).length]) (s6, 0) h ?_ ?_ ?_
     ·intro i; exact ⟨Nat.le_of_ble_eq_true rfl, ⟨(il_rf rfl), ⟨(il_nil (ids_slM ids_S_api_Step _)), ⟨(il_rf rfl), ⟨(il_nil (ids_slM ids_Fld _)), ⟨(il_nil rfl), ⟨(il_nil rfl), ⟨(il_nil (ids_slM ids_Fld _)), ⟨(il_nil (ids_slM ids_Fld _)), ⟨(il_rs rfl), ⟨(il_tok rfl (ids_map (fun a => ids_slM ids_Fld a) _)), ⟨(il_nil rfl), ⟨(il_nil rfl), ⟨(il_nil (ids_slM ids_Fld _)), ⟨(il_nil rfl), ⟨(il_nil rfl), trivial⟩⟩⟩⟩⟩⟩⟩⟩⟩⟩⟩⟩⟩⟩⟩, ⟨⟨(il_nil rfl), ⟨(il_tok rfl (ids_map ids_S_api_Conflict _)), trivial⟩⟩, ⟨⟨(il_nil (ids_V _)), ⟨(il_nil rfl), trivial⟩⟩, (wfH_row (fun _ => rfl) trivial)⟩⟩⟩
     ·exact (joinsR [0, 1, 2, 3, 4] rfl (.cons rfl (.box (.cons (.none rfl (Wk.refl _)) (.cons (.tok rfl rfl (ids_map ids_S_api_Conflict _)) .nil))) (.cons rfl (.same rfl) (.cons rfl (.box (.cons (.none (ids_V _) (Wk.refl _)) (.cons (.none rfl (Wk.refl _)) .nil))) (.cons rfl (.same (ids_rowM (fun _ => rfl))) (.cons rfl (.same rfl) .nil))))) (subr_cons rfl (Wk.refl _) (.rf rfl rfl) (subr_cons rfl (Wk.refl _) (.none (ids_slM ids_S_api_Step _) (Wk.refl _)) (subr_cons rfl (Wk.refl _) (.rf rfl rfl) (subr_cons rfl (Wk.refl _) (.none (ids_slM ids_Fld _) (Wk.refl _)) (subr_cons rfl (Wk.refl _) (.none rfl (Wk.refl _)) (subr_cons rfl (Wk.refl _) (.none rfl (Wk.refl _)) (subr_cons rfl (Wk.refl _) (.none (ids_slM ids_Fld _) (Wk.refl _)) (subr_cons rfl (Wk.refl _) (.none (ids_slM ids_Fld _) (Wk.refl _)) (subr_cons rfl (Wk.refl _) (.rs rfl rfl rfl) (subr_cons rfl (Wk.refl _) (.tok rfl rfl (ids_map (fun a => ids_slM ids_Fld a) _)) (subr_cons rfl (Wk.refl _) (.none rfl (Wk.refl _)) (subr_cons rfl (Wk.refl _) (.none rfl (Wk.refl _)) (subr_cons rfl (Wk.refl _) (.none (ids_slM ids_Fld _) (Wk.refl _)) (subr_cons rfl (Wk.refl _) (.none rfl (Wk.refl _)) (subr_cons rfl (Wk.refl _) (.none rfl (Wk.refl _)) subr_nil))))))))))))))))
     ·rintro g2_f ⟨s10, s11⟩ h; replace h : merge_merger_fields_l2b (fun y0 y1 => g1_f (y0, y1)) s7 x9 (fun y0 y1 => g2_f (y0, y1)) s10 s11 = some r := h; unfold merge_merger_fields_l2b at h
      change BW _ _ _ ⟨[(0, (PV.rf 0 0)), (1, (PV.sl none 57 3 (List.map of_api_Step a1))), (10, (PV.rf 2 0)), (12, (PV.sl none 55 2 (List.map ofFld x1.1))), (13, (ofStr x1.2.1)), (14, (I64 x1.2.2.1)), (16, (PV.sl none 55 2 (List.map ofFld x2.1))), (20, (PV.sl none 55 2 (List.map ofFld x3.1))), (24, (PV.rs 3 0 (s10).length 9 1)), (88, (PV.sl (some 4) 49 1 (List.map (ofSl 55 2 ofFld) ([x1.1, x2.1, x3.1] : (List (List (Str × V))))))), (89, (I64 ((((([x1.1, x2.1, x3.1] : (List (List (Str × V))))).length : Nat) : Int)))), (90, (I64 s7)), (94, (PV.sl none 55 2 (List.map ofFld x9))), (95, (I64 ((((x9).length : Nat) : Int)))), (96, (I64 (((s11 : Nat) : Int))))], [.box 83 [(PV.v .nilFunc), (PV.sl (some 1) 44 7 (List.map of_api_Conflict a0.f_conflicts))], .arr 44 (a0.f_conflicts).length, .box 87 [(ofV V.nil), (BO false)], rowM ofStr 9 s10, .arr 49 (([x1.1, x2.1, x3.1] : (List (List (Str × V))))).length], _⟩ _
      refine bR ?_
      refine sS rfl rfl rfl ((op1_cmp rfl rfl rfl rfl).cast (y := (BO ((decide (((s11 : Nat) : Int) < (((x9).length : Nat) : Int)))))) rfl rfl) (ao_nil ?_)
      change BW _ _ _ _ _
      refine bw_seq ?_
      refine bw_len (t := 94) rfl fun hb13 => ?_
      try rw [List.length_map] at hb13
      refine bw_cond rfl ?_ ?_
      ·intro hc12; replace h := ocond_t hc12 h
       have hc12_ := of_decide_eq_true hc12
       refine bw_skip ?_
       change BW _ _ _ _ _
       refine bw_seq ?_
       refine bw_block ?_
       change BW _ _ _ _ _
       refine bR ?_
       obtain ⟨x14, hx14, h⟩ := obind h
       refine sS rfl rfl rfl (op1_idxN (i := s11) Try.underlying49 inf_55 rfl rfl rfl hx14 rfl) ?_
       refine sS rfl rfl rfl (op1_ldPW inf_55 Try.underlying55 rfl rfl rfl rfl rfl) ?_
       refine sS rfl rfl rfl ((op1_alloc inf_55 rfl).cast (H'' := [.box 83 [(PV.v .nilFunc), (PV.sl (some 1) 44 7 (List.map of_api_Conflict a0.f_conflicts))], .arr 44 (a0.f_conflicts).length, .box 87 [(ofV V.nil), (BO false)], rowM ofStr 9 s10, .arr 49 (([x1.1, x2.1, x3.1] : (List (List (Str × V))))).length, .box 55 [(ofStr []), (ofV V.nil)]]) rfl (by simp only [mk_nil]; rfl)) ?_
       refine ao_step0 rfl rfl (op1_store inf_55 rfl rfl rfl rfl rfl rfl (Nat.le_of_ble_eq_true rfl) (by show List.all [(ofStr x14.1), (ofV x14.2)] one1 = true; simp only [List.all_cons, List.all_nil, one_V, one_RecP, Bool.and_true, Bool.true_and]; try rfl)) ?_
       refine ao_nil ?_
       change BW _ _ _ _ _
       refine bw_region ?_
       refine sM rfl rfl rfl rfl rfl ?_
       refine sS rfl rfl rfl (op1_faR st_55 (i := 0) rfl rfl rfl) ?_
       refine sS rfl rfl rfl ((op1_ldR Try.underlying9 rfl rfl rfl rfl rfl)) ?_
       refine sS rfl rfl rfl ((op1_bslice (xs := [(ofStr x14.1)]) Try.underlying128 inf_9 rfl rfl rfl rfl rfl rfl ⟨Nat.le_of_ble_eq_true rfl, Nat.le_of_ble_eq_true rfl⟩ rfl).cast (y := (PV.sl (some 6) 9 1 (List.map ofStr ([x14.1] : (List Str))))) rfl rfl) ?_
       obtain ⟨x15, hx15, h⟩ := obind h
       refine sS rfl rfl rfl (op1_rappM (f := ofStr) (l := s10) Try.underlying128 inf_9 rfl rfl Try.underlying128 rfl rfl rfl rfl rfl (fun _ => rfl) (fun _ => rfl) hx15 rfl) ?_
       refine sA rfl rfl rfl rfl rfl (ao_nil ?_)
       change BW _ _ _ _ _
       refine bw_region ?_
       refine sS rfl rfl rfl (op1_incN (k := s11) (c := 1) rfl rfl rfl (by omega)) ?_
       refine sM rfl rfl rfl rfl rfl (ao_nil ?_)
       exact ⟨rfl, (x15, (s11 + 1)), h, (joinsR [0, 1, 2, 7, 4] rfl (.cons rfl (.box (.cons (.none rfl (Wk.refl _)) (.cons (.tok rfl rfl (ids_map ids_S_api_Conflict _)) .nil))) (.cons rfl (.same rfl) (.cons rfl (.box (.cons (.none (ids_V _) (Wk.refl _)) (.cons (.none rfl (Wk.refl _)) .nil))) (.cons rfl (.same (ids_rowM (fun _ => rfl))) (.cons rfl (.same rfl) .nil))))) (subr_cons rfl (Wk.refl _) (.rf rfl rfl) (subr_cons rfl (Wk.refl _) (.none (ids_slM ids_S_api_Step _) (Wk.refl _)) (subr_cons rfl (Wk.refl _) (.rf rfl rfl) (subr_cons rfl (Wk.refl _) (.none (ids_slM ids_Fld _) (Wk.refl _)) (subr_cons rfl (Wk.refl _) (.none rfl (Wk.refl _)) (subr_cons rfl (Wk.refl _) (.none rfl (Wk.refl _)) (subr_cons rfl (Wk.refl _) (.none (ids_slM ids_Fld _) (Wk.refl _)) (subr_cons rfl (Wk.refl _) (.none (ids_slM ids_Fld _) (Wk.refl _)) (subr_cons rfl (Wk.refl _) (.rs rfl rfl rfl) (subr_cons rfl (Wk.refl _) (.tok rfl rfl (ids_map (fun a => ids_slM ids_Fld a) _)) (subr_cons rfl (Wk.refl _) (.none rfl (Wk.refl _)) (subr_cons rfl (Wk.refl _) (.none rfl (Wk.refl _)) (subr_cons rfl (Wk.refl _) (.none (ids_slM ids_Fld _) (Wk.refl _)) (subr_cons rfl (Wk.refl _) (.none rfl (Wk.refl _)) (subr_cons rfl (Wk.refl _) (.none rfl (Wk.refl _)) subr_nil))))))))))))))))⟩
      ·intro hc12; replace h := ocond_f hc12 h
       refine bw_exit ?_
       change BW _ _ _ _ _
       refine bw_region ?_
       refine sS rfl rfl rfl (op1_addW rfl rfl rfl) ?_
       refine sM rfl rfl rfl rfl rfl (ao_nil ?_)
       exact ⟨rfl, (s10, (IntKind.i64.wrap (s7 + 1))), h, ⟨(.cons .same (.cons .same (.cons .same (.cons .same (.cons .same .nil))))), (sC rfl (sC rfl (sC rfl (sC rfl (sC rfl (sC rfl (sC rfl (sC rfl (sC rfl (sC rfl (sC rfl (sC rfl sub_nil))))))))))))⟩⟩
    ·intro hc8; replace h := ocond_f hc8 h
     refine bw_exit ?_
     change BW _ _ _ _ _
     refine bR ?_
     refine sM rfl rfl rfl rfl rfl ?_
     obtain ⟨x16, hx16, h⟩ := obind h
     refine sS rfl rfl rfl (op1_rsort (l := s6) sorts_68 en_68 rfl rfl rfl rfl hx16) (ao_nil ?_)
     change BW _ _ _ _ _
     refine bR ?_
     refine sS rfl rfl rfl ((op1_bslice (xs := []) Try.underlying49 inf_55 rfl rfl rfl rfl rfl rfl ⟨Nat.le_of_ble_eq_true rfl, Nat.le_of_ble_eq_true rfl⟩ rfl).cast (y := (PV.sl (some 5) 55 2 (List.map ofFld ([] : (List (Str × V)))))) rfl rfl) ?_
     refine sA rfl rfl rfl rfl rfl (ao_nil ?_)
     change BW _ _ _ _ _
     refine bw_seq ?_
     refine bR ?_
     refine sM rfl rfl rfl rfl rfl ?_
     refine sS rfl rfl rfl (op1_rcomp (l := x16) compacts_69 en_69 rfl rfl (sortO_len hx16) rfl) ?_
     refine sS rfl rfl rfl (op1_rlen Try.underlying128 rfl rfl) ?_
     refine sM rfl rfl rfl rfl rfl (ao_nil ?_)
     change BW _ _ _ _ _
     refine bw_block ?_
     change BW _ _ _ _ _
     unfold merge_merger_fields_l3 at h
     refine bw_loop (σ := ((List (Str × V)) × Int × Unit × (List S_api_Conflict))) (fun i => [(0, (PV.rf 0 0)), (1, (PV.sl none 57 3 (List.map of_api_Step a1))), (10, (PV.rf 2 0)), (12, (PV.sl none 55 2 (List.map ofFld x1.1))), (13, (ofStr x1.2.1)), (14, (I64 x1.2.2.1)), (16, (PV.sl none 55 2 (List.map ofFld x2.1))), (20, (PV.sl none 55 2 (List.map ofFld x3.1))), (29, (PV.sl (some 5) 55 2 (List.map ofFld i.1))), (111, (PV.rs 3 0 ((compS x16)).length 9 1)), (112, (I64 (((((compS x16)).length : Nat) : Int)))), (113, (I64 i.2.1))]) (fun i => [.box 83 [(PV.v .nilFunc), (PV.sl (some 1) 44 7 (List.map of_api_Conflict i.2.2.2))], .arr 44 (i.2.2.2).length, .box 87 [(ofV V.nil), (BO false)], rowM ofStr 9 (compS x16), .dead, .arr 55 (i.1).length]) (([] : (List (Str × V))), 0, a0.f_settle, a0.f_conflicts) h ?_ ?_ ?_
     ·intro i; exact ⟨Nat.le_of_ble_eq_true rfl, ⟨(il_rf rfl), ⟨(il_nil (ids_slM ids_S_api_Step _)), ⟨(il_rf rfl), ⟨(il_nil (ids_slM ids_Fld _)), ⟨(il_nil rfl), ⟨(il_nil rfl), ⟨(il_nil (ids_slM ids_Fld _)), ⟨(il_nil (ids_slM ids_Fld _)), ⟨(il_tok rfl (ids_map ids_Fld _)), ⟨(il_rs rfl), ⟨(il_nil rfl), ⟨(il_nil rfl), trivial⟩⟩⟩⟩⟩⟩⟩⟩⟩⟩⟩⟩, ⟨⟨(il_nil rfl), ⟨(il_tok rfl (ids_map ids_S_api_Conflict _)), trivial⟩⟩, ⟨⟨(il_nil (ids_V _)), ⟨(il_nil rfl), trivial⟩⟩, (wfH_row (fun _ => rfl) trivial)⟩⟩⟩
     ·exact ⟨(.cons .same (.cons .same (.cons .same (.cons .same (.cons .dead (.cons .same .nil)))))), (sC rfl (sC rfl (sC rfl (sC rfl (sC rfl (sC rfl (sC rfl (sC rfl (sC rfl (sC rfl (sC rfl (sC rfl sub_nil))))))))))))⟩
     ·rintro g2_f ⟨s17, s18, s19, s20⟩ h; replace h : merge_merger_fields_l3b r_merge_merger_put a1 x1 x2 x3 x16 (fun y0 y1 y2 y3 => g2_f (y0, y1, y2, y3)) s17 s18 s19 s20 = some r := h; unfold merge_merger_fields_l3b at h
      change BW _ _ _ ⟨[(0, (PV.rf 0 0)), (1, (PV.sl none 57 3 (List.map of_api_Step a1))), (10, (PV.rf 2 0)), (12, (PV.sl none 55 2 (List.map ofFld x1.1))), (13, (ofStr x1.2.1)), (14, (I64 x1.2.2.1)), (16, (PV.sl none 55 2 (List.map ofFld x2.1))), (20, (PV.sl none 55 2 (List.map ofFld x3.1))), (29, (PV.sl (some 5) 55 2 (List.map ofFld s17))), (111, (PV.rs 3 0 ((compS x16)).length 9 1)), (112, (I64 (((((compS x16)).length : Nat) : Int)))), (113, (I64 s18))], [.box 83 [(PV.v .nilFunc), (PV.sl (some 1) 44 7 (List.map of_api_Conflict s20))], .arr 44 (s20).length, .box 87 [(ofV V.nil), (BO false)], rowM ofStr 9 (compS x16), .dead, .arr 55 (s17).length], _⟩ _
      refine bR ?_
      refine sS rfl rfl rfl ((op1_cmp rfl rfl rfl rfl).cast (y := (BO ((decide (s18 < ((((compS x16)).length : Nat) : Int)))))) rfl rfl) (ao_nil ?_)
      change BW _ _ _ _ _
      refine bw_seq ?_
      refine bw_cond rfl ?_ ?_
      ·intro hc21; replace h := ocond_t hc21 h
       refine bw_skip ?_
       change BW _ _ _ _ _
       refine bw_seqJ (ι := ((List (Str × V)) × Unit × (List S_api_Conflict))) (fun i => merge_merger_fields_j2 (fun y0 y1 y2 y3 => g2_f (y0, y1, y2, y3)) s18 i.1 i.2.1 i.2.2 = some r) (fun i => [(0, (PV.rf 0 0)), (1, (PV.sl none 57 3 (List.map of_api_Step a1))), (10, (PV.rf 2 0)), (12, (PV.sl none 55 2 (List.map ofFld x1.1))), (13, (ofStr x1.2.1)), (14, (I64 x1.2.2.1)), (16, (PV.sl none 55 2 (List.map ofFld x2.1))), (20, (PV.sl none 55 2 (List.map ofFld x3.1))), (29, (PV.sl (some 5) 55 2 (List.map ofFld i.1))), (111, (PV.rs 3 0 ((compS x16)).length 9 1)), (112, (I64 (((((compS x16)).length : Nat) : Int)))), (113, (I64 s18))]) (fun i => [.box 83 [(PV.v .nilFunc), (PV.sl (some 1) 44 7 (List.map of_api_Conflict i.2.2))], .arr 44 (i.2.2).length, .box 87 [(ofV V.nil), (BO false)], rowM ofStr 9 (compS x16), .dead, .arr 55 (i.1).length]) ?_ ?_ ?_
       ·intro i; exact ⟨Nat.le_of_ble_eq_true rfl, ⟨(il_rf rfl), ⟨(il_nil (ids_slM ids_S_api_Step _)), ⟨(il_rf rfl), ⟨(il_nil (ids_slM ids_Fld _)), ⟨(il_nil rfl), ⟨(il_nil rfl), ⟨(il_nil (ids_slM ids_Fld _)), ⟨(il_nil (ids_slM ids_Fld _)), ⟨(il_tok rfl (ids_map ids_Fld _)), ⟨(il_rs rfl), ⟨(il_nil rfl), ⟨(il_nil rfl), trivial⟩⟩⟩⟩⟩⟩⟩⟩⟩⟩⟩⟩, ⟨⟨(il_nil rfl), ⟨(il_tok rfl (ids_map ids_S_api_Conflict _)), trivial⟩⟩, ⟨⟨(il_nil (ids_V _)), ⟨(il_nil rfl), trivial⟩⟩, (wfH_row (fun _ => rfl) trivial)⟩⟩⟩
       ·rintro ⟨s22, s23, s24⟩ h; replace h : merge_merger_fields_j2 (fun y0 y1 y2 y3 => g2_f (y0, y1, y2, y3)) s18 s22 s23 s24 = some r := h; unfold merge_merger_fields_j2 at h
        change BW _ _ _ ⟨[(0, (PV.rf 0 0)), (1, (PV.sl none 57 3 (List.map of_api_Step a1))), (10, (PV.rf 2 0)), (12, (PV.sl none 55 2 (List.map ofFld x1.1))), (13, (ofStr x1.2.1)), (14, (I64 x1.2.2.1)), (16, (PV.sl none 55 2 (List.map ofFld x2.1))), (20, (PV.sl none 55 2 (List.map ofFld x3.1))), (29, (PV.sl (some 5) 55 2 (List.map ofFld s22))), (111, (PV.rs 3 0 ((compS x16)).length 9 1)), (112, (I64 (((((compS x16)).length : Nat) : Int)))), (113, (I64 s18))], [.box 83 [(PV.v .nilFunc), (PV.sl (some 1) 44 7 (List.map of_api_Conflict s24))], .arr 44 (s24).length, .box 87 [(ofV V.nil), (BO false)], rowM ofStr 9 (compS x16), .dead, .arr 55 (s22).length], _⟩ _
        refine bw_region ?_
        refine sS rfl rfl rfl (op1_addW rfl rfl rfl) ?_
        refine sM rfl rfl rfl rfl rfl (ao_nil ?_)
        exact ⟨rfl, (s22, (IntKind.i64.wrap (s18 + 1)), s23, s24), h, ⟨(.cons .same (.cons .same (.cons .same (.cons .same (.cons .dead (.cons .same .nil)))))), (sC rfl (sC rfl (sC rfl (sC rfl (sC rfl (sC rfl (sC rfl (sC rfl (sC rfl (sC rfl (sC rfl (sC rfl sub_nil))))))))))))⟩⟩
       ·refine bw_block ?_
        change BW _ _ _ _ _
        refine bR ?_
        obtain ⟨x25, hx25, h⟩ := obind h
        refine sS rfl rfl rfl (op1_ridxM (l := (compS x16)) Try.underlying128 inf_9 rfl rfl rfl rfl hx25) ?_
        refine sS rfl rfl rfl (op1_rld (f := ofStr) (y := (ofStr x25)) Try.underlying9 rfl rfl rfl rfl (idxI_some hx25).2 (fun _ => rfl) rfl (q := 0) rfl rfl) ?_
        refine sA rfl rfl rfl rfl rfl (ao_nil ?_)
        change BW _ _ _ _ _
        refine bR ?_
        refine sM rfl rfl rfl rfl rfl ?_
        refine sM rfl rfl rfl rfl rfl ?_
        obtain ⟨x26, hx26, h⟩ := obind h
        refine sS rfl rfl rfl (op1_ocall rfl en_50 rfl (.cons (Wk.refl _) .nil) ⟨(ids_slM ids_S_api_Step a1), trivial⟩ (s_slices_Clip_api_Step_api_Step a1 x26 hx26) (ren_ownrow (ids_map ids_S_api_Step _) rfl) rfl) ?_
        refine sM rfl rfl rfl rfl rfl ?_
        refine sS rfl rfl rfl (op1_build (cs := [(ofStr x25), (BO false), (I64 0)]) st_57 inf_57 rfl rfl rfl rfl) ?_
        refine sS rfl rfl rfl ((op1_bslice (xs := [(PV.agg [(ofStr x25), (BO false), (I64 0)])]) Try.underlying42 inf_57 rfl rfl rfl rfl rfl rfl ⟨Nat.le_of_ble_eq_true rfl, Nat.le_of_ble_eq_true rfl⟩ rfl).cast (y := (PV.sl (some 7) 57 3 (List.map of_api_Step ([(S_api_Step.mk x25 false 0)] : (List S_api_Step))))) rfl rfl) ?_
        obtain ⟨x27, hx27, h⟩ := obind h
        refine sS rfl rfl rfl (op1_appM Try.underlying42 inf_57 rfl Try.underlying42 rfl rfl rfl rfl csz_S_api_Step call1_S_api_Step hx27 rfl) ?_
        refine sM rfl rfl rfl rfl rfl ?_
        refine sM rfl rfl rfl rfl rfl ?_
        obtain ⟨x28, hx28, h⟩ := obind h
        refine sS rfl rfl rfl (op1_pcall rfl en_70 rfl (.cons (Wk.refl _) (.cons (Wk.refl _) .nil)) ⟨(ids_slM ids_Fld x1.1), ⟨rfl, trivial⟩⟩ (s_merge_under x1.1 x25 x28 hx28) (ids_S_merge_side x28)) ?_
        refine sM rfl rfl rfl rfl rfl ?_
        refine sM rfl rfl rfl rfl rfl ?_
        obtain ⟨x29, hx29, h⟩ := obind h
        refine sS rfl rfl rfl (op1_pcall rfl en_70 rfl (.cons (Wk.refl _) (.cons (Wk.refl _) .nil)) ⟨(ids_slM ids_Fld x2.1), ⟨rfl, trivial⟩⟩ (s_merge_under x2.1 x25 x29 hx29) (ids_S_merge_side x29)) ?_
        refine sM rfl rfl rfl rfl rfl ?_
        refine sM rfl rfl rfl rfl rfl ?_
        obtain ⟨x30, hx30, h⟩ := obind h
        refine sS rfl rfl rfl (op1_pcall rfl en_70 rfl (.cons (Wk.refl _) (.cons (Wk.refl _) .nil)) ⟨(ids_slM ids_Fld x3.1), ⟨rfl, trivial⟩⟩ (s_merge_under x3.1 x25 x30 hx30) (ids_S_merge_side x30)) ?_
        obtain ⟨x31, hx31, h⟩ := obind h
        refine sS rfl rfl rfl (op1_mcall [0, 1] (.func rfl) en_29 rfl (.cons (Wk.refl _) (.cons Wk.tok (.cons (Wk.refl _) (.cons (Wk.refl _) (.cons (Wk.refl _) .nil))))) rfl (.cons rfl (.box (.cons (.same rfl) (.cons (.row rfl (ids_map ids_S_api_Conflict (((S_merge_merger.mk s19 s20)).f_conflicts))) .nil))) (.cons rfl .arr .nil)) (.cons (.rf rfl) (.cons (.same (ids_slM ids_S_api_Step x27)) (.cons (.same (ids_S_merge_side x28)) (.cons (.same (ids_S_merge_side x29)) (.cons (.same (ids_S_merge_side x30)) .nil))))) (c_merge_merger_put (S_merge_merger.mk s19 s20) x27 x28 x29 x30 x31 hx31) (.same (ids_S_merge_side x31.1)) (.cons (.box (.cons (.same rfl) (.cons (.row rfl (ids_map ids_S_api_Conflict ((x31.2).f_conflicts))) .nil))) (.cons .arr .nil)) rfl) ?_
        refine sS rfl rfl rfl ((op1_alloc inf_87 rfl).cast (H'' := [.box 83 [(PV.v .nilFunc), (PV.sl (some 1) 44 7 (List.map of_api_Conflict (x31.2).f_conflicts))], .arr 44 ((x31.2).f_conflicts).length, .box 87 [(ofV V.nil), (BO false)], rowM ofStr 9 (compS x16), .dead, .arr 55 (s17).length, .arr 57 (x27).length, .arr 57 (([(S_api_Step.mk x25 false 0)] : (List S_api_Step))).length, .box 87 [(ofV V.nil), (BO false)]]) rfl (by simp only [mk_nil]; rfl)) ?_
        refine ao_step0 rfl rfl (op1_store inf_87 rfl rfl rfl rfl rfl rfl (Nat.le_of_ble_eq_true rfl) (by show List.all [(ofV (x31.1).f_v), (BO ((x31.1).f_has))] one1 = true; simp only [List.all_cons, List.all_nil, one_V, one_RecP, Bool.and_true, Bool.true_and]; try rfl)) ?_
        refine ao_nil ?_
        change BW _ _ _ _ _
        refine bR ?_
        refine sS rfl rfl rfl (op1_faR st_87 (i := 1) rfl rfl rfl) ?_
        refine sS rfl rfl rfl ((op1_ldR Try.underlying4 rfl rfl rfl rfl rfl)) (ao_nil ?_)
        change BW _ _ _ _ _
        refine bw_cond rfl ?_ ?_
        ·intro hc32; replace h := ocond_t hc32 h
         refine bw_region ?_
         refine sM rfl rfl rfl rfl rfl ?_
         refine sM rfl rfl rfl rfl rfl ?_
         refine sS rfl rfl rfl (op1_faR st_87 (i := 0) rfl rfl rfl) ?_
         refine sS rfl rfl rfl ((op1_ldR Try.underlying20 rfl rfl rfl rfl rfl)) ?_
         refine sS rfl rfl rfl (op1_build (cs := [(ofStr x25), (ofV (x31.1).f_v)]) st_55 inf_55 rfl rfl (by simp only [List.all_cons, List.all_nil, cok_V, cok_RecP, Bool.and_true, Bool.true_and]; try rfl) (by simp only [afill, List.getElem?_cons_zero, List.getElem?_cons_succ, cells_V, cells_RecP]; rfl)) ?_
         refine sS rfl rfl rfl ((op1_bslice (xs := [(PV.agg [(ofStr x25), (ofV (x31.1).f_v)])]) Try.underlying49 inf_55 rfl rfl rfl (by simp only [List.all_cons, List.all_nil, cok_V, cok_RecP, Bool.and_true, Bool.true_and]; try rfl) (by simp only [List.all_cons, List.all_nil, csz_V, csz_RecP, cells_V, cells_RecP]; try rfl) rfl ⟨Nat.le_of_ble_eq_true rfl, Nat.le_of_ble_eq_true rfl⟩ (by simp only [zipN, afill, List.flatMap_cons, List.flatMap_nil, cells_V, cells_RecP]; try rfl)).cast (y := (PV.sl (some 9) 55 2 (List.map ofFld ([(x25, (x31.1).f_v)] : (List (Str × V)))))) rfl rfl) ?_
         obtain ⟨x33, hx33, h⟩ := obind h
         refine sS rfl rfl rfl (op1_appM Try.underlying49 inf_55 rfl Try.underlying49 rfl rfl rfl rfl csz_Fld call1_Fld hx33 rfl) ?_
         refine sA rfl rfl rfl rfl rfl (ao_nil ?_)
         exact ⟨rfl, (x33, (x31.2).f_settle, (x31.2).f_conflicts), h, ⟨(.cons .same (.cons .same (.cons .same (.cons .same (.cons .dead (.cons .same .nil)))))), (sC rfl (sC rfl (sC rfl (sC rfl (sC rfl (sC rfl (sC rfl (sC rfl (sC rfl (sC rfl (sC rfl (sC rfl sub_nil))))))))))))⟩⟩
        ·intro hc32; replace h := ocond_f hc32 h
         refine bw_skip ?_
         exact ⟨rfl, (s17, (x31.2).f_settle, (x31.2).f_conflicts), h, ⟨(.cons .same (.cons .same (.cons .same (.cons .same (.cons .dead (.cons .same .nil)))))), (sC rfl (sC rfl (sC rfl (sC rfl (sC rfl (sC rfl (sC rfl (sC rfl (sC rfl (sC rfl (sC rfl (sC rfl sub_nil))))))))))))⟩⟩
      ·intro hc21; replace h := ocond_f hc21 h
       refine bw_exit ?_
       change BW _ _ _ _ _
       refine bw_seq ?_
       refine bR ?_
       refine sM rfl rfl rfl rfl rfl ?_
       refine sS rfl rfl rfl ((op1_cmpT (a := x1.2.1) (b := ([] : Str)) rfl rfl rfl rfl).cast (y := (BO ((x1.2.1 == ([] : Str))))) rfl rfl) (ao_nil ?_)
       change BW _ _ _ _ _
       refine bw_cond rfl ?_ ?_
       ·intro hc34; replace h := ocond_t hc34 h
        refine bR ?_
        refine sM rfl rfl rfl rfl rfl ?_
        refine sS rfl rfl rfl ((op1_mkI Try.underlying49 rfl rfl rfl).wk ((Wk.iface Wk.tok).trans (Wk.eq (mk_dict _).symm))) ?_
        refine sS rfl rfl rfl (op1_build (cs := [(ofV (V.dict s17)), (BO true)]) st_87 inf_87 rfl rfl (by simp only [List.all_cons, List.all_nil, cok_V, cok_RecP, Bool.and_true, Bool.true_and]; try rfl) (by simp only [afill, List.getElem?_cons_zero, List.getElem?_cons_succ, cells_V, cells_RecP]; rfl)) ?_
        refine ao_step0 rfl rfl (op1_store inf_87 rfl rfl rfl rfl rfl rfl (Nat.le_of_ble_eq_true rfl) (by show List.all [(ofV (V.dict s17)), (BO true)] one1 = true; simp only [List.all_cons, List.all_nil, one_V, one_RecP, Bool.and_true, Bool.true_and]; try rfl)) ?_
        refine sA rfl rfl rfl rfl rfl (ao_nil ?_)
        change BW _ _ _ _ _
        refine bw_ret ?_
        change ∃ xs, _ = some xs ∧ EndOk _ _ _ _
        obtain rfl := Option.some.inj h
        exact ⟨_, rfl, endR (y := (PV.tup [(of_merge_side (S_merge_side.mk (V.dict s17) true)), (BO true)])) 2 (Wk.refl _) rfl rfl (.tup (.cons (.same (ids_S_merge_side (S_merge_side.mk (V.dict s17) true))) (.cons (.same rfl) .nil))) (.cons (.box (.cons (.same rfl) (.cons (.row rfl (ids_map ids_S_api_Conflict (((S_merge_merger.mk s19 s20)).f_conflicts))) .nil))) (.cons .arr .nil)) ⟨rfl, rfl⟩⟩
       ·intro hc34; replace h := ocond_f hc34 h
        refine bw_skip ?_
        change BW _ _ _ _ _
        refine bR ?_
        refine sM rfl rfl rfl rfl rfl ?_
        refine sM rfl rfl rfl rfl rfl ?_
        refine sM rfl rfl rfl rfl rfl ?_
        refine sS rfl rfl rfl (op1_build (cs := [(ofStr x1.2.1), (I64 x1.2.2.1), (PV.sl (some 5) 55 2 (List.map ofFld s17))]) st_60 inf_60 rfl rfl rfl rfl) ?_
        refine sS rfl rfl rfl (op1_box rfl rfl rfl) ?_
        refine sS rfl rfl rfl (op1_mkI Try.underlying50 rfl rfl rfl) ?_
        refine ao_thaw (s := ⟨_, _, _⟩) 6 154 (y := (ofV (V.record x1.2.1 x1.2.2.1 s17))) rfl rfl ((Wk.iface (Wk.pt (x := .agg [(ofStr x1.2.1), (I64 x1.2.2.1), (PV.sl (some 5) 55 2 (List.map ofFld s17))]) (y := ofRec (Rec.mk x1.2.1 x1.2.2.1 s17)) (.cons (Wk.refl _) (.cons (Wk.refl _) (.cons Wk.tok .nil))))).trans (Wk.eq (mk_rec (some (Rec.mk x1.2.1 x1.2.2.1 s17))).symm)) ?_
        refine sS rfl rfl rfl (op1_build (cs := [(ofV (V.record x1.2.1 x1.2.2.1 s17)), (BO true)]) st_87 inf_87 rfl rfl (by simp only [List.all_cons, List.all_nil, cok_V, cok_RecP, Bool.and_true, Bool.true_and]; try rfl) (by simp only [afill, List.getElem?_cons_zero, List.getElem?_cons_succ, cells_V, cells_RecP]; rfl)) ?_
        refine ao_step0 rfl rfl (op1_store inf_87 rfl rfl rfl rfl rfl rfl (Nat.le_of_ble_eq_true rfl) (by show List.all [(ofV (V.record x1.2.1 x1.2.2.1 s17)), (BO true)] one1 = true; simp only [List.all_cons, List.all_nil, one_V, one_RecP, Bool.and_true, Bool.true_and]; try rfl)) ?_
        refine sA rfl rfl rfl rfl rfl (ao_nil ?_)
        change BW _ _ _ _ _
        refine bw_ret ?_
        change ∃ xs, _ = some xs ∧ EndOk _ _ _ _
        obtain rfl := Option.some.inj h
        exact ⟨_, rfl, endR (y := (PV.tup [(of_merge_side (S_merge_side.mk (V.record x1.2.1 x1.2.2.1 s17) true)), (BO true)])) 2 (Wk.refl _) rfl rfl (.tup (.cons (.same (ids_S_merge_side (S_merge_side.mk (V.record x1.2.1 x1.2.2.1 s17) true))) (.cons (.same rfl) .nil))) (.cons (.box (.cons (.same rfl) (.cons (.row rfl (ids_map ids_S_api_Conflict (((S_merge_merger.mk s19 s20)).f_conflicts))) .nil))) (.cons .arr .nil)) ⟨rfl, rfl⟩⟩
 ·refine bw_region ?_
  refine sM rfl rfl rfl rfl rfl ?_
  refine sS rfl rfl rfl (op1_not rfl rfl) ?_
  refine sM rfl rfl rfl rfl rfl ?_
  refine ao_cases (t := 56) rfl ?_ ?_
  ·intro hb35; replace h := ocond_t hb35 h
   refine ao_no rfl rfl rfl rfl rfl rfl ?_
   refine ao_no rfl rfl rfl rfl rfl rfl ?_
   refine sS rfl rfl rfl (op1_pickT rfl rfl rfl) ?_
   refine sM rfl rfl rfl rfl rfl ?_
   refine ao_no rfl rfl rfl rfl rfl rfl ?_
   refine ao_no rfl rfl rfl rfl rfl rfl ?_
   refine sS rfl rfl rfl (op1_pickT rfl rfl rfl) ?_
   refine sM rfl rfl rfl rfl rfl ?_
   refine ao_no rfl rfl rfl rfl rfl rfl ?_
   refine ao_no rfl rfl rfl rfl rfl rfl ?_
   refine ao_no rfl rfl rfl rfl rfl rfl ?_
   refine sS rfl rfl rfl (op1_pickT rfl rfl rfl) ?_
   refine sM rfl rfl rfl rfl rfl ?_
   refine ao_no rfl rfl rfl rfl rfl rfl ?_
   refine ao_no rfl rfl rfl rfl rfl rfl ?_
   refine ao_no rfl rfl rfl rfl rfl rfl ?_
   refine sS rfl rfl rfl (op1_pickT rfl rfl rfl) ?_
   refine sM rfl rfl rfl rfl rfl ?_
   refine ao_no rfl rfl rfl rfl rfl rfl ?_
   refine ao_no rfl rfl rfl rfl rfl rfl ?_
   refine ao_no rfl rfl rfl rfl rfl rfl ?_
   refine sS rfl rfl rfl (op1_pickT rfl rfl rfl) ?_
   refine sM rfl rfl rfl rfl rfl ?_
   refine ao_no rfl rfl rfl rfl rfl rfl ?_
   refine ao_no rfl rfl rfl rfl rfl rfl ?_
   refine ao_no rfl rfl rfl rfl rfl rfl ?_
   refine sS rfl rfl rfl (op1_pickT rfl rfl rfl) (ao_nil ?_)
   exact ⟨rfl, true, h, ⟨(.cons .same (.cons .same (.cons .same .nil))), (sC rfl (sC rfl (sC rfl (sC rfl (sC rfl (sC rfl (sC rfl (sC rfl (sC rfl sub_nil)))))))))⟩⟩
  ·intro hb35; replace h := ocond_f hb35 h
   refine ao_yes rfl rfl rfl rfl rfl rfl (op1_move rfl rfl) ?_
   refine ao_yes rfl rfl rfl rfl rfl rfl (op1_not rfl rfl) ?_
   refine sS rfl rfl rfl (op1_pickF rfl rfl rfl) ?_
   refine sM rfl rfl rfl rfl rfl ?_
   refine ao_cases (t := 60) rfl ?_ ?_
   ·intro hb36; replace h := ocond_t hb36 h
    refine ao_no rfl rfl rfl rfl rfl rfl ?_
    refine ao_no rfl rfl rfl rfl rfl rfl ?_
    refine sS rfl rfl rfl (op1_pickT rfl rfl rfl) ?_
    refine sM rfl rfl rfl rfl rfl ?_
    refine ao_no rfl rfl rfl rfl rfl rfl ?_
    refine ao_no rfl rfl rfl rfl rfl rfl ?_
    refine ao_no rfl rfl rfl rfl rfl rfl ?_
    refine sS rfl rfl rfl (op1_pickT rfl rfl rfl) ?_
    refine sM rfl rfl rfl rfl rfl ?_
    refine ao_no rfl rfl rfl rfl rfl rfl ?_
    refine ao_no rfl rfl rfl rfl rfl rfl ?_
    refine ao_no rfl rfl rfl rfl rfl rfl ?_
    refine sS rfl rfl rfl (op1_pickT rfl rfl rfl) ?_
    refine sM rfl rfl rfl rfl rfl ?_
    refine ao_no rfl rfl rfl rfl rfl rfl ?_
    refine ao_no rfl rfl rfl rfl rfl rfl ?_
    refine ao_no rfl rfl rfl rfl rfl rfl ?_
    refine sS rfl rfl rfl (op1_pickT rfl rfl rfl) ?_
    refine sM rfl rfl rfl rfl rfl ?_
    refine ao_no rfl rfl rfl rfl rfl rfl ?_
    refine ao_no rfl rfl rfl rfl rfl rfl ?_
    refine ao_no rfl rfl rfl rfl rfl rfl ?_
    refine sS rfl rfl rfl (op1_pickT rfl rfl rfl) (ao_nil ?_)
    exact ⟨rfl, true, h, ⟨(.cons .same (.cons .same (.cons .same .nil))), (sC rfl (sC rfl (sC rfl (sC rfl (sC rfl (sC rfl (sC rfl (sC rfl (sC rfl sub_nil)))))))))⟩⟩
   ·intro hb36; replace h := ocond_f hb36 h
    refine ao_yes rfl rfl rfl rfl rfl rfl (op1_move rfl rfl) ?_
    refine ao_yes rfl rfl rfl rfl rfl rfl (op1_not rfl rfl) ?_
    refine sS rfl rfl rfl (op1_pickF rfl rfl rfl) ?_
    refine sM rfl rfl rfl rfl rfl ?_
    refine ao_cases (t := 64) rfl ?_ ?_
    ·intro hb37; replace h := ocond_t hb37 h
     refine ao_no rfl rfl rfl rfl rfl rfl ?_
     refine ao_no rfl rfl rfl rfl rfl rfl ?_
     refine ao_no rfl rfl rfl rfl rfl rfl ?_
     refine sS rfl rfl rfl (op1_pickT rfl rfl rfl) ?_
     refine sM rfl rfl rfl rfl rfl ?_
     refine ao_no rfl rfl rfl rfl rfl rfl ?_
     refine ao_no rfl rfl rfl rfl rfl rfl ?_
     refine ao_no rfl rfl rfl rfl rfl rfl ?_
     refine sS rfl rfl rfl (op1_pickT rfl rfl rfl) ?_
     refine sM rfl rfl rfl rfl rfl ?_
     refine ao_no rfl rfl rfl rfl rfl rfl ?_
     refine ao_no rfl rfl rfl rfl rfl rfl ?_
     refine ao_no rfl rfl rfl rfl rfl rfl ?_
     refine sS rfl rfl rfl (op1_pickT rfl rfl rfl) ?_
     refine sM rfl rfl rfl rfl rfl ?_
     refine ao_no rfl rfl rfl rfl rfl rfl ?_
     refine ao_no rfl rfl rfl rfl rfl rfl ?_
     refine ao_no rfl rfl rfl rfl rfl rfl ?_
     refine sS rfl rfl rfl (op1_pickT rfl rfl rfl) (ao_nil ?_)
     exact ⟨rfl, true, h, ⟨(.cons .same (.cons .same (.cons .same .nil))), (sC rfl (sC rfl (sC rfl (sC rfl (sC rfl (sC rfl (sC rfl (sC rfl (sC rfl sub_nil)))))))))⟩⟩
    ·intro hb37; replace h := ocond_f hb37 h
     refine ao_yes rfl rfl rfl rfl rfl rfl (op1_move rfl rfl) ?_
     refine ao_yes rfl rfl rfl rfl rfl rfl (op1_move rfl rfl) ?_
     refine ao_yes rfl rfl rfl rfl rfl rfl ((op1_cmpT (a := x1.2.1) (b := x2.2.1) rfl rfl rfl rfl).cast (y := (BO ((!(x1.2.1 == x2.2.1))))) rfl rfl) ?_
     refine sS rfl rfl rfl (op1_pickF rfl rfl rfl) ?_
     refine sM rfl rfl rfl rfl rfl ?_
     refine ao_cases (t := 69) rfl ?_ ?_
     ·intro hb38; replace h := ocond_t hb38 h
      refine ao_no rfl rfl rfl rfl rfl rfl ?_
      refine ao_no rfl rfl rfl rfl rfl rfl ?_
      refine ao_no rfl rfl rfl rfl rfl rfl ?_
      refine sS rfl rfl rfl (op1_pickT rfl rfl rfl) ?_
      refine sM rfl rfl rfl rfl rfl ?_
      refine ao_no rfl rfl rfl rfl rfl rfl ?_
      refine ao_no rfl rfl rfl rfl rfl rfl ?_
      refine ao_no rfl rfl rfl rfl rfl rfl ?_
      refine sS rfl rfl rfl (op1_pickT rfl rfl rfl) ?_
      refine sM rfl rfl rfl rfl rfl ?_
      refine ao_no rfl rfl rfl rfl rfl rfl ?_
      refine ao_no rfl rfl rfl rfl rfl rfl ?_
      refine ao_no rfl rfl rfl rfl rfl rfl ?_
      refine sS rfl rfl rfl (op1_pickT rfl rfl rfl) (ao_nil ?_)
      exact ⟨rfl, true, h, ⟨(.cons .same (.cons .same (.cons .same .nil))), (sC rfl (sC rfl (sC rfl (sC rfl (sC rfl (sC rfl (sC rfl (sC rfl (sC rfl sub_nil)))))))))⟩⟩
     ·intro hb38; replace h := ocond_f hb38 h
      refine ao_yes rfl rfl rfl rfl rfl rfl (op1_move rfl rfl) ?_
      refine ao_yes rfl rfl rfl rfl rfl rfl (op1_move rfl rfl) ?_
      refine ao_yes rfl rfl rfl rfl rfl rfl ((op1_cmpT (a := x1.2.1) (b := x3.2.1) rfl rfl rfl rfl).cast (y := (BO ((!(x1.2.1 == x3.2.1))))) rfl rfl) ?_
      refine sS rfl rfl rfl (op1_pickF rfl rfl rfl) ?_
      refine sM rfl rfl rfl rfl rfl ?_
      refine ao_cases (t := 74) rfl ?_ ?_
      ·intro hb39; replace h := ocond_t hb39 h
       refine ao_no rfl rfl rfl rfl rfl rfl ?_
       refine ao_no rfl rfl rfl rfl rfl rfl ?_
       refine ao_no rfl rfl rfl rfl rfl rfl ?_
       refine sS rfl rfl rfl (op1_pickT rfl rfl rfl) ?_
       refine sM rfl rfl rfl rfl rfl ?_
       refine ao_no rfl rfl rfl rfl rfl rfl ?_
       refine ao_no rfl rfl rfl rfl rfl rfl ?_
       refine ao_no rfl rfl rfl rfl rfl rfl ?_
       refine sS rfl rfl rfl (op1_pickT rfl rfl rfl) (ao_nil ?_)
       exact ⟨rfl, true, h, ⟨(.cons .same (.cons .same (.cons .same .nil))), (sC rfl (sC rfl (sC rfl (sC rfl (sC rfl (sC rfl (sC rfl (sC rfl (sC rfl sub_nil)))))))))⟩⟩
      ·intro hb39; replace h := ocond_f hb39 h
       refine ao_yes rfl rfl rfl rfl rfl rfl (op1_move rfl rfl) ?_
       refine ao_yes rfl rfl rfl rfl rfl rfl (op1_move rfl rfl) ?_
       refine ao_yes rfl rfl rfl rfl rfl rfl ((op1_cmp rfl rfl rfl rfl).cast (y := (BO ((x1.2.2.1 != x2.2.2.1)))) rfl rfl) ?_
       refine sS rfl rfl rfl (op1_pickF rfl rfl rfl) ?_
       refine sM rfl rfl rfl rfl rfl ?_
       refine ao_cases (t := 79) rfl ?_ ?_
       ·intro hb40; replace h := ocond_t hb40 h
        refine ao_no rfl rfl rfl rfl rfl rfl ?_
        refine ao_no rfl rfl rfl rfl rfl rfl ?_
        refine ao_no rfl rfl rfl rfl rfl rfl ?_
        refine sS rfl rfl rfl (op1_pickT rfl rfl rfl) (ao_nil ?_)
        exact ⟨rfl, true, h, ⟨(.cons .same (.cons .same (.cons .same .nil))), (sC rfl (sC rfl (sC rfl (sC rfl (sC rfl (sC rfl (sC rfl (sC rfl (sC rfl sub_nil)))))))))⟩⟩
       ·intro hb40; replace h := ocond_f hb40 h
        refine ao_yes rfl rfl rfl rfl rfl rfl (op1_move rfl rfl) ?_
        refine ao_yes rfl rfl rfl rfl rfl rfl (op1_move rfl rfl) ?_
        refine ao_yes rfl rfl rfl rfl rfl rfl ((op1_cmp rfl rfl rfl rfl).cast (y := (BO ((x1.2.2.1 != x3.2.2.1)))) rfl rfl) ?_
        refine sS rfl rfl rfl (op1_pickF rfl rfl rfl) (ao_nil ?_)
        exact ⟨rfl, (x1.2.2.1 != x3.2.2.1), h, ⟨(.cons .same (.cons .same (.cons .same .nil))), (sC rfl (sC rfl (sC rfl (sC rfl (sC rfl (sC rfl (sC rfl (sC rfl (sC rfl sub_nil)))))))))⟩⟩
theorem t_merge_merger_put (r_merge_merger_list : S_merge_merger → (List S_api_Step) → V → V → V → Option (S_merge_side × Bool × S_merge_merger)) (c_merge_merger_list : ∀ (a0 : S_merge_merger) (a1 : (List S_api_Step)) (a2 : V) (a3 : V) (a4 : V) r, r_merge_merger_list a0 a1 a2 a3 a4 = some r → MCalls Try.prog 56 [(PV.rf 0 0), (PV.sl none 57 3 (List.map of_api_Step a1)), (ofV a2), (ofV a3), (ofV a4)] [.box 83 [(PV.v .nilFunc), (PV.sl (some 1) 44 7 (List.map of_api_Conflict a0.f_conflicts))], .arr 44 (a0.f_conflicts).length] (PV.tup [(of_merge_side r.1), (BO r.2.1)]) [.box 83 [(PV.v .nilFunc), (PV.sl (some 1) 44 7 (List.map of_api_Conflict (r.2.2).f_conflicts))], .arr 44 ((r.2.2).f_conflicts).length]) (r_merge_merger_fields : S_merge_merger → (List S_api_Step) → V → V → V → Option (S_merge_side × Bool × S_merge_merger)) (c_merge_merger_fields : ∀ (a0 : S_merge_merger) (a1 : (List S_api_Step)) (a2 : V) (a3 : V) (a4 : V) r, r_merge_merger_fields a0 a1 a2 a3 a4 = some r → MCalls Try.prog 55 [(PV.rf 0 0), (PV.sl none 57 3 (List.map of_api_Step a1)), (ofV a2), (ofV a3), (ofV a4)] [.box 83 [(PV.v .nilFunc), (PV.sl (some 1) 44 7 (List.map of_api_Conflict a0.f_conflicts))], .arr 44 (a0.f_conflicts).length] (PV.tup [(of_merge_side r.1), (BO r.2.1)]) [.box 83 [(PV.v .nilFunc), (PV.sl (some 1) 44 7 (List.map of_api_Conflict (r.2.2).f_conflicts))], .arr 44 ((r.2.2).f_conflicts).length]) (r_merge_merger_put : S_merge_merger → (List S_api_Step) → S_merge_side → S_merge_side → S_merge_side → Option (S_merge_side × S_merge_merger)) (c_merge_merger_put : ∀ (a0 : S_merge_merger) (a1 : (List S_api_Step)) (a2 : S_merge_side) (a3 : S_merge_side) (a4 : S_merge_side) r, r_merge_merger_put a0 a1 a2 a3 a4 = some r → MCalls Try.prog 29 [(PV.rf 0 0), (PV.sl none 57 3 (List.map of_api_Step a1)), (of_merge_side a2), (of_merge_side a3), (of_merge_side a4)] [.box 83 [(PV.v .nilFunc), (PV.sl (some 1) 44 7 (List.map of_api_Conflict a0.f_conflicts))], .arr 44 (a0.f_conflicts).length] (of_merge_side r.1) [.box 83 [(PV.v .nilFunc), (PV.sl (some 1) 44 7 (List.map of_api_Conflict (r.2).f_conflicts))], .arr 44 ((r.2).f_conflicts).length]) (a0 : S_merge_merger) (a1 : (List S_api_Step)) (a2 : S_merge_side) (a3 : S_merge_side) (a4 : S_merge_side) (r : (S_merge_side × S_merge_merger)) (h : b_merge_merger_put r_merge_merger_list r_merge_merger_fields r_merge_merger_put a0 a1 a2 a3 a4 = some r) : MCalls Try.prog 29 [(PV.rf 0 0), (PV.sl none 57 3 (List.map of_api_Step a1)), (of_merge_side a2), (of_merge_side a3), (of_merge_side a4)] [.box 83 [(PV.v .nilFunc), (PV.sl (some 1) 44 7 (List.map of_api_Conflict a0.f_conflicts))], .arr 44 (a0.f_conflicts).length] (of_merge_side r.1) [.box 83 [(PV.v .nilFunc), (PV.sl (some 1) 44 7 (List.map of_api_Conflict (r.2).f_conflicts))], .arr 44 ((r.2).f_conflicts).length] := by
 unfold b_merge_merger_put at h
 refine acalls_of Try.func29 rfl Try.ntmps29 Try.results29 rfl (aw_of_bw ?_)
 change BW _ _ _ ⟨[(0, (PV.rf 0 0)), (1, (PV.sl none 57 3 (List.map of_api_Step a1))), (2, (of_merge_side a2)), (3, (of_merge_side a3)), (4, (of_merge_side a4))], [.box 83 [(PV.v .nilFunc), (PV.sl (some 1) 44 7 (List.map of_api_Conflict a0.f_conflicts))], .arr 44 (a0.f_conflicts).length], _⟩ _
 refine bR ?_
 refine sS rfl rfl rfl (op1_box rfl rfl rfl) ?_
 refine sS rfl rfl rfl (op1_box rfl rfl rfl) ?_
 refine sS rfl rfl rfl (op1_box rfl rfl rfl) ?_
 refine sS rfl rfl rfl ((op1_alloc inf_87 rfl).cast (H'' := [.box 83 [(PV.v .nilFunc), (PV.sl (some 1) 44 7 (List.map of_api_Conflict a0.f_conflicts))], .arr 44 (a0.f_conflicts).length, .box 87 [(ofV a2.f_v), (BO a2.f_has)], .box 87 [(ofV a3.f_v), (BO a3.f_has)], .box 87 [(ofV a4.f_v), (BO a4.f_has)], .box 87 [(ofV V.nil), (BO false)]]) rfl (by simp only [mk_nil]; rfl)) (ao_nil ?_)
 change BW _ _ _ _ _
 refine bw_seq ?_
 refine bw_block ?_
 change BW _ _ _ _ _
 refine bw_seqJ (ι := Bool) (fun i => merge_merger_put_j1 r_merge_merger_list r_merge_merger_fields a0 a1 a2 a3 a4 i = some r) (fun i => [(0, (PV.rf 0 0)), (1, (PV.sl none 57 3 (List.map of_api_Step a1))), (7, (PV.rf 2 0)), (8, (PV.rf 3 0)), (9, (PV.rf 4 0)), (10, (PV.rf 5 0)), (15, (BO i))]) (fun i => [.box 83 [(PV.v .nilFunc), (PV.sl (some 1) 44 7 (List.map of_api_Conflict a0.f_conflicts))], .arr 44 (a0.f_conflicts).length, .box 87 [(ofV a2.f_v), (BO a2.f_has)], .box 87 [(ofV a3.f_v), (BO a3.f_has)], .box 87 [(ofV a4.f_v), (BO a4.f_has)], .box 87 [(ofV V.nil), (BO false)]]) ?_ ?_ ?_
 ·intro i; exact ⟨Nat.le_of_ble_eq_true rfl, ⟨(il_rf rfl), ⟨(il_nil (ids_slM ids_S_api_Step _)), ⟨(il_rf rfl), ⟨(il_rf rfl), ⟨(il_rf rfl), ⟨(il_rf rfl), ⟨(il_nil rfl), trivial⟩⟩⟩⟩⟩⟩⟩, ⟨⟨(il_nil rfl), ⟨(il_tok rfl (ids_map ids_S_api_Conflict _)), trivial⟩⟩, ⟨⟨(il_nil (ids_V _)), ⟨(il_nil rfl), trivial⟩⟩, ⟨⟨(il_nil (ids_V _)), ⟨(il_nil rfl), trivial⟩⟩, ⟨⟨(il_nil (ids_V _)), ⟨(il_nil rfl), trivial⟩⟩, ⟨⟨(il_nil (ids_V _)), ⟨(il_nil rfl), trivial⟩⟩, trivial⟩⟩⟩⟩⟩⟩
 ·rintro s1 h; replace h : merge_merger_put_j1 r_merge_merger_list r_merge_merger_fields a0 a1 a2 a3 a4 s1 = some r := h; unfold merge_merger_put_j1 at h
  change BW _ _ _ ⟨[(0, (PV.rf 0 0)), (1, (PV.sl none 57 3 (List.map of_api_Step a1))), (7, (PV.rf 2 0)), (8, (PV.rf 3 0)), (9, (PV.rf 4 0)), (10, (PV.rf 5 0)), (15, (BO s1))], [.box 83 [(PV.v .nilFunc), (PV.sl (some 1) 44 7 (List.map of_api_Conflict a0.f_conflicts))], .arr 44 (a0.f_conflicts).length, .box 87 [(ofV a2.f_v), (BO a2.f_has)], .box 87 [(ofV a3.f_v), (BO a3.f_has)], .box 87 [(ofV a4.f_v), (BO a4.f_has)], .box 87 [(ofV V.nil), (BO false)]], _⟩ _
  refine bw_cond rfl ?_ ?_
  ·intro hc2; replace h := ocond_t hc2 h
   refine bR ?_
   refine sS rfl rfl rfl ((op1_ldRA inf_87 Try.underlying87 rfl rfl rfl rfl rfl rfl)) ?_
   refine ao_step0 rfl rfl (op1_store inf_87 rfl rfl rfl rfl rfl rfl (Nat.le_of_ble_eq_true rfl) (by show List.all [(ofV a3.f_v), (BO a3.f_has)] one1 = true; simp only [List.all_cons, List.all_nil, one_V, one_RecP, Bool.and_true, Bool.true_and]; try rfl)) ?_
   refine ao_nil ?_
   change BW _ _ _ _ _
   refine bw_ret ?_
   change ∃ xs, _ = some xs ∧ EndOk _ _ _ _
   obtain rfl := Option.some.inj h
   exact ⟨_, rfl, endR (y := (of_merge_side a3)) 2 (Wk.refl _) rfl rfl (.same (ids_S_merge_side a3)) (.cons (.box (.cons (.same rfl) (.cons (.row rfl (ids_map ids_S_api_Conflict a0.f_conflicts)) .nil))) (.cons .arr .nil)) ⟨rfl, rfl⟩⟩
  ·intro hc2; replace h := ocond_f hc2 h
   refine bR ?_
   refine sS rfl rfl rfl ((op1_ldRA inf_87 Try.underlying87 rfl rfl rfl rfl rfl rfl)) ?_
   refine sS rfl rfl rfl ((op1_ldRA inf_87 Try.underlying87 rfl rfl rfl rfl rfl rfl)) ?_
   obtain ⟨x3, hx3, h⟩ := obind h
   refine sS rfl rfl rfl (op1_pcall rfl en_54 rfl (.cons (Wk.refl _) (.cons (Wk.refl _) .nil)) ⟨(ids_S_merge_side a3), ⟨(ids_S_merge_side a2), trivial⟩⟩ (s_merge_one a3 a2 x3 hx3) rfl) ?_
   refine sA rfl rfl rfl rfl rfl (ao_nil ?_)
   change BW _ _ _ _ _
   refine bw_cond rfl ?_ ?_
   ·intro hc4; replace h := ocond_t hc4 h
    refine bR ?_
    refine sS rfl rfl rfl ((op1_ldRA inf_87 Try.underlying87 rfl rfl rfl rfl rfl rfl)) ?_
    refine ao_step0 rfl rfl (op1_store inf_87 rfl rfl rfl rfl rfl rfl (Nat.le_of_ble_eq_true rfl) (by show List.all [(ofV a4.f_v), (BO a4.f_has)] one1 = true; simp only [List.all_cons, List.all_nil, one_V, one_RecP, Bool.and_true, Bool.true_and]; try rfl)) ?_
    refine ao_nil ?_
    change BW _ _ _ _ _
    refine bw_ret ?_
    change ∃ xs, _ = some xs ∧ EndOk _ _ _ _
    obtain rfl := Option.some.inj h
    exact ⟨_, rfl, endR (y := (of_merge_side a4)) 2 (Wk.refl _) rfl rfl (.same (ids_S_merge_side a4)) (.cons (.box (.cons (.same rfl) (.cons (.row rfl (ids_map ids_S_api_Conflict a0.f_conflicts)) .nil))) (.cons .arr .nil)) ⟨rfl, rfl⟩⟩
   ·intro hc4; replace h := ocond_f hc4 h
    refine bw_skip ?_
    change BW _ _ _ _ _
    refine bw_seqJ (ι := (Unit × (List S_api_Conflict))) (fun i => merge_merger_put_j2 a1 a2 a3 a4 i.1 i.2 = some r) (fun i => [(0, (PV.rf 0 0)), (1, (PV.sl none 57 3 (List.map of_api_Step a1))), (7, (PV.rf 2 0)), (8, (PV.rf 3 0)), (9, (PV.rf 4 0)), (10, (PV.rf 5 0))]) (fun i => [.box 83 [(PV.v .nilFunc), (PV.sl (some 1) 44 7 (List.map of_api_Conflict i.2))], .arr 44 (i.2).length, .box 87 [(ofV a2.f_v), (BO a2.f_has)], .box 87 [(ofV a3.f_v), (BO a3.f_has)], .box 87 [(ofV a4.f_v), (BO a4.f_has)], .box 87 [(ofV V.nil), (BO false)]]) ?_ ?_ ?_
    ·intro i; exact ⟨Nat.le_of_ble_eq_true rfl, ⟨(il_rf rfl), ⟨(il_nil (ids_slM ids_S_api_Step _)), ⟨(il_rf rfl), ⟨(il_rf rfl), ⟨(il_rf rfl), ⟨(il_rf rfl), trivial⟩⟩⟩⟩⟩⟩, ⟨⟨(il_nil rfl), ⟨(il_tok rfl (ids_map ids_S_api_Conflict _)), trivial⟩⟩, ⟨⟨(il_nil (ids_V _)), ⟨(il_nil rfl), trivial⟩⟩, ⟨⟨(il_nil (ids_V _)), ⟨(il_nil rfl), trivial⟩⟩, ⟨⟨(il_nil (ids_V _)), ⟨(il_nil rfl), trivial⟩⟩, ⟨⟨(il_nil (ids_V _)), ⟨(il_nil rfl), trivial⟩⟩, trivial⟩⟩⟩⟩⟩⟩
    ·rintro ⟨s5, s6⟩ h; replace h : merge_merger_put_j2 a1 a2 a3 a4 s5 s6 = some r := h; unfold merge_merger_put_j2 at h
     change BW _ _ _ ⟨[(0, (PV.rf 0 0)), (1, (PV.sl none 57 3 (List.map of_api_Step a1))), (7, (PV.rf 2 0)), (8, (PV.rf 3 0)), (9, (PV.rf 4 0)), (10, (PV.rf 5 0))], [.box 83 [(PV.v .nilFunc), (PV.sl (some 1) 44 7 (List.map of_api_Conflict s6))], .arr 44 (s6).length, .box 87 [(ofV a2.f_v), (BO a2.f_has)], .box 87 [(ofV a3.f_v), (BO a3.f_has)], .box 87 [(ofV a4.f_v), (BO a4.f_has)], .box 87 [(ofV V.nil), (BO false)]], _⟩ _
     refine bR ?_
     refine sM rfl rfl rfl rfl rfl ?_
     refine sM rfl rfl rfl rfl rfl ?_
     refine sS rfl rfl rfl ((op1_ldRA inf_87 Try.underlying87 rfl rfl rfl rfl rfl rfl)) ?_
     refine sS rfl rfl rfl ((op1_ldRA inf_87 Try.underlying87 rfl rfl rfl rfl rfl rfl)) ?_
     refine sS rfl rfl rfl ((op1_ldRA inf_87 Try.underlying87 rfl rfl rfl rfl rfl rfl)) ?_
     obtain ⟨x7, hx7, h⟩ := obind h
     refine sS rfl rfl rfl (op1_mcall [0, 1] (.func rfl) en_57 rfl (.cons (Wk.refl _) (.cons (Wk.refl _) (.cons (Wk.refl _) (.cons (Wk.refl _) (.cons (Wk.refl _) .nil))))) rfl (.cons rfl (.box (.cons (.same rfl) (.cons (.row rfl (ids_map ids_S_api_Conflict (((S_merge_merger.mk s5 s6)).f_conflicts))) .nil))) (.cons rfl .arr .nil)) (.cons (.rf rfl) (.cons (.same (ids_slM ids_S_api_Step a1)) (.cons (.same (ids_S_merge_side a2)) (.cons (.same (ids_S_merge_side a3)) (.cons (.same (ids_S_merge_side a4)) .nil))))) (s_merge_merger_conflict (S_merge_merger.mk s5 s6) a1 a2 a3 a4 x7 hx7) (.same (ids_S_merge_side x7.1)) (.cons (.box (.cons (.same rfl) (.cons (.row rfl (ids_map ids_S_api_Conflict ((x7.2).f_conflicts))) .nil))) (.cons .arr .nil)) rfl) ?_
     refine ao_step0 rfl rfl (op1_store inf_87 rfl rfl rfl rfl rfl rfl (Nat.le_of_ble_eq_true rfl) (by show List.all [(ofV (x7.1).f_v), (BO ((x7.1).f_has))] one1 = true; simp only [List.all_cons, List.all_nil, one_V, one_RecP, Bool.and_true, Bool.true_and]; try rfl)) ?_
     refine ao_nil ?_
     change BW _ _ _ _ _
     refine bw_ret ?_
     change ∃ xs, _ = some xs ∧ EndOk _ _ _ _
     obtain rfl := Option.some.inj h
     exact ⟨_, rfl, endR (y := (of_merge_side (x7.1))) 2 (Wk.refl _) rfl rfl (.same (ids_S_merge_side (x7.1))) (.cons (.box (.cons (.same rfl) (.cons (.row rfl (ids_map ids_S_api_Conflict (((x7.2)).f_conflicts))) .nil))) (.cons .arr .nil)) ⟨rfl, rfl⟩⟩
    ·refine bw_seqJ (ι := Bool) (fun i => merge_merger_put_j3 r_merge_merger_list r_merge_merger_fields a0 a1 a2 a3 a4 i = some r) (fun i => [(0, (PV.rf 0 0)), (1, (PV.sl none 57 3 (List.map of_api_Step a1))), (7, (PV.rf 2 0)), (8, (PV.rf 3 0)), (9, (PV.rf 4 0)), (10, (PV.rf 5 0)), (39, (BO i))]) (fun i => [.box 83 [(PV.v .nilFunc), (PV.sl (some 1) 44 7 (List.map of_api_Conflict a0.f_conflicts))], .arr 44 (a0.f_conflicts).length, .box 87 [(ofV a2.f_v), (BO a2.f_has)], .box 87 [(ofV a3.f_v), (BO a3.f_has)], .box 87 [(ofV a4.f_v), (BO a4.f_has)], .box 87 [(ofV V.nil), (BO false)]]) ?_ ?_ ?_
     ·intro i; exact ⟨Nat.le_of_ble_eq_true rfl, ⟨(il_rf rfl), ⟨(il_nil (ids_slM ids_S_api_Step _)), ⟨(il_rf rfl), ⟨(il_rf rfl), ⟨(il_rf rfl), ⟨(il_rf rfl), ⟨(il_nil rfl), trivial⟩⟩⟩⟩⟩⟩⟩, ⟨⟨(il_nil rfl), ⟨(il_tok rfl (ids_map ids_S_api_Conflict _)), trivial⟩⟩, ⟨⟨(il_nil (ids_V _)), ⟨(il_nil rfl), trivial⟩⟩, ⟨⟨(il_nil (ids_V _)), ⟨(il_nil rfl), trivial⟩⟩, ⟨⟨(il_nil (ids_V _)), ⟨(il_nil rfl), trivial⟩⟩, ⟨⟨(il_nil (ids_V _)), ⟨(il_nil rfl), trivial⟩⟩, trivial⟩⟩⟩⟩⟩⟩
     ·rintro s8 h; replace h : merge_merger_put_j3 r_merge_merger_list r_merge_merger_fields a0 a1 a2 a3 a4 s8 = some r := h; unfold merge_merger_put_j3 at h
      change BW _ _ _ ⟨[(0, (PV.rf 0 0)), (1, (PV.sl none 57 3 (List.map of_api_Step a1))), (7, (PV.rf 2 0)), (8, (PV.rf 3 0)), (9, (PV.rf 4 0)), (10, (PV.rf 5 0)), (39, (BO s8))], [.box 83 [(PV.v .nilFunc), (PV.sl (some 1) 44 7 (List.map of_api_Conflict a0.f_conflicts))], .arr 44 (a0.f_conflicts).length, .box 87 [(ofV a2.f_v), (BO a2.f_has)], .box 87 [(ofV a3.f_v), (BO a3.f_has)], .box 87 [(ofV a4.f_v), (BO a4.f_has)], .box 87 [(ofV V.nil), (BO false)]], _⟩ _
      refine bw_cond rfl ?_ ?_
      ·intro hc9; replace h := ocond_t hc9 h
       refine bw_seq ?_
       refine bR ?_
       refine sM rfl rfl rfl rfl rfl ?_
       refine sM rfl rfl rfl rfl rfl ?_
       refine sS rfl rfl rfl (op1_faR st_87 (i := 0) rfl rfl rfl) ?_
       refine sS rfl rfl rfl ((op1_ldR Try.underlying20 rfl rfl rfl rfl rfl)) ?_
       refine sS rfl rfl rfl (op1_faR st_87 (i := 0) rfl rfl rfl) ?_
       refine sS rfl rfl rfl ((op1_ldR Try.underlying20 rfl rfl rfl rfl rfl)) ?_
       refine sS rfl rfl rfl (op1_faR st_87 (i := 0) rfl rfl rfl) ?_
       refine sS rfl rfl rfl ((op1_ldR Try.underlying20 rfl rfl rfl rfl rfl)) ?_
       obtain ⟨x10, hx10, h⟩ := obind h
       refine sS rfl rfl rfl (op1_mcall [0, 1] (.func rfl) en_55 rfl (.cons (Wk.refl _) (.cons (Wk.refl _) (.cons (Wk.refl _) (.cons (Wk.refl _) (.cons (Wk.refl _) .nil))))) rfl (.cons rfl (.box (.cons (.same rfl) (.cons (.row rfl (ids_map ids_S_api_Conflict a0.f_conflicts)) .nil))) (.cons rfl .arr .nil)) (.cons (.rf rfl) (.cons (.same (ids_slM ids_S_api_Step a1)) (.cons (.same (ids_V a2.f_v)) (.cons (.same (ids_V a3.f_v)) (.cons (.same (ids_V a4.f_v)) .nil))))) (c_merge_merger_fields a0 a1 a2.f_v a3.f_v a4.f_v x10 hx10) (.same (ids_tup_cons (ids_S_merge_side x10.1) (ids_tup_cons rfl ids_tup_nil))) (.cons (.box (.cons (.same rfl) (.cons (.row rfl (ids_map ids_S_api_Conflict ((x10.2.2).f_conflicts))) .nil))) (.cons .arr .nil)) rfl) ?_
       refine sM rfl rfl rfl rfl rfl ?_
       refine sS rfl rfl rfl (op1_ext rfl rfl rfl) ?_
       refine sS rfl rfl rfl (op1_ext rfl rfl rfl) ?_
       refine sS rfl rfl rfl ((op1_alloc inf_87 rfl).cast (H'' := [.box 83 [(PV.v .nilFunc), (PV.sl (some 1) 44 7 (List.map of_api_Conflict (x10.2.2).f_conflicts))], .arr 44 ((x10.2.2).f_conflicts).length, .box 87 [(ofV a2.f_v), (BO a2.f_has)], .box 87 [(ofV a3.f_v), (BO a3.f_has)], .box 87 [(ofV a4.f_v), (BO a4.f_has)], .box 87 [(ofV V.nil), (BO false)], .box 87 [(ofV V.nil), (BO false)]]) rfl (by simp only [mk_nil]; rfl)) ?_
       refine ao_step0 rfl rfl (op1_store inf_87 rfl rfl rfl rfl rfl rfl (Nat.le_of_ble_eq_true rfl) (by show List.all [(ofV (x10.1).f_v), (BO ((x10.1).f_has))] one1 = true; simp only [List.all_cons, List.all_nil, one_V, one_RecP, Bool.and_true, Bool.true_and]; try rfl)) ?_
       refine sA rfl rfl rfl rfl rfl (ao_nil ?_)
       change BW _ _ _ _ _
       refine bR ?_
       refine sM rfl rfl rfl rfl rfl (ao_nil ?_)
       change BW _ _ _ _ _
       refine bw_cond rfl ?_ ?_
       ·intro hc11; replace h := ocond_t hc11 h
        refine bR ?_
        refine sS rfl rfl rfl ((op1_ldRA inf_87 Try.underlying87 rfl rfl rfl rfl rfl rfl)) ?_
        refine ao_step0 rfl rfl (op1_store inf_87 rfl rfl rfl rfl rfl rfl (Nat.le_of_ble_eq_true rfl) (by show List.all [(ofV (x10.1).f_v), (BO ((x10.1).f_has))] one1 = true; simp only [List.all_cons, List.all_nil, one_V, one_RecP, Bool.and_true, Bool.true_and]; try rfl)) ?_
        refine ao_nil ?_
        change BW _ _ _ _ _
        refine bw_ret ?_
        change ∃ xs, _ = some xs ∧ EndOk _ _ _ _
        obtain rfl := Option.some.inj h
        exact ⟨_, rfl, endR (y := (of_merge_side (x10.1))) 2 (Wk.refl _) rfl rfl (.same (ids_S_merge_side (x10.1))) (.cons (.box (.cons (.same rfl) (.cons (.row rfl (ids_map ids_S_api_Conflict (((x10.2.2)).f_conflicts))) .nil))) (.cons .arr .nil)) ⟨rfl, rfl⟩⟩
       ·intro hc11; replace h := ocond_f hc11 h
        refine bw_skip ?_
        change BW _ _ _ _ _
        refine bR ?_
        refine sM rfl rfl rfl rfl rfl ?_
        refine sM rfl rfl rfl rfl rfl ?_
        refine sS rfl rfl rfl (op1_faR st_87 (i := 0) rfl rfl rfl) ?_
        refine sS rfl rfl rfl ((op1_ldR Try.underlying20 rfl rfl rfl rfl rfl)) ?_
        refine sS rfl rfl rfl (op1_faR st_87 (i := 0) rfl rfl rfl) ?_
        refine sS rfl rfl rfl ((op1_ldR Try.underlying20 rfl rfl rfl rfl rfl)) ?_
        refine sS rfl rfl rfl (op1_faR st_87 (i := 0) rfl rfl rfl) ?_
        refine sS rfl rfl rfl ((op1_ldR Try.underlying20 rfl rfl rfl rfl rfl)) ?_
        obtain ⟨x12, hx12, h⟩ := obind h
        refine sS rfl rfl rfl (op1_mcall [0, 1] (.func rfl) en_56 rfl (.cons (Wk.refl _) (.cons (Wk.refl _) (.cons (Wk.refl _) (.cons (Wk.refl _) (.cons (Wk.refl _) .nil))))) rfl (.cons rfl (.box (.cons (.same rfl) (.cons (.row rfl (ids_map ids_S_api_Conflict (((x10.2.2)).f_conflicts))) .nil))) (.cons rfl .arr .nil)) (.cons (.rf rfl) (.cons (.same (ids_slM ids_S_api_Step a1)) (.cons (.same (ids_V a2.f_v)) (.cons (.same (ids_V a3.f_v)) (.cons (.same (ids_V a4.f_v)) .nil))))) (c_merge_merger_list (x10.2.2) a1 a2.f_v a3.f_v a4.f_v x12 hx12) (.same (ids_tup_cons (ids_S_merge_side x12.1) (ids_tup_cons rfl ids_tup_nil))) (.cons (.box (.cons (.same rfl) (.cons (.row rfl (ids_map ids_S_api_Conflict ((x12.2.2).f_conflicts))) .nil))) (.cons .arr .nil)) rfl) ?_
        refine sM rfl rfl rfl rfl rfl ?_
        refine sS rfl rfl rfl (op1_ext rfl rfl rfl) ?_
        refine sS rfl rfl rfl (op1_ext rfl rfl rfl) ?_
        refine sS rfl rfl rfl ((op1_alloc inf_87 rfl).cast (H'' := [.box 83 [(PV.v .nilFunc), (PV.sl (some 1) 44 7 (List.map of_api_Conflict (x12.2.2).f_conflicts))], .arr 44 ((x12.2.2).f_conflicts).length, .box 87 [(ofV a2.f_v), (BO a2.f_has)], .box 87 [(ofV a3.f_v), (BO a3.f_has)], .box 87 [(ofV a4.f_v), (BO a4.f_has)], .box 87 [(ofV V.nil), (BO false)], .box 87 [(ofV (x10.1).f_v), (BO ((x10.1).f_has))], .box 87 [(ofV V.nil), (BO false)]]) rfl (by simp only [mk_nil]; rfl)) ?_
        refine ao_step0 rfl rfl (op1_store inf_87 rfl rfl rfl rfl rfl rfl (Nat.le_of_ble_eq_true rfl) (by show List.all [(ofV (x12.1).f_v), (BO ((x12.1).f_has))] one1 = true; simp only [List.all_cons, List.all_nil, one_V, one_RecP, Bool.and_true, Bool.true_and]; try rfl)) ?_
        refine sA rfl rfl rfl rfl rfl (ao_nil ?_)
        change BW _ _ _ _ _
        refine bR ?_
        refine sM rfl rfl rfl rfl rfl (ao_nil ?_)
        change BW _ _ _ _ _
        refine bw_cond rfl ?_ ?_
        ·intro hc13; replace h := ocond_t hc13 h
         refine bR ?_
         refine sS rfl rfl rfl ((op1_ldRA inf_87 Try.underlying87 rfl rfl rfl rfl rfl rfl)) ?_
         refine ao_step0 rfl rfl (op1_store inf_87 rfl rfl rfl rfl rfl rfl (Nat.le_of_ble_eq_true rfl) (by show List.all [(ofV (x12.1).f_v), (BO ((x12.1).f_has))] one1 = true; simp only [List.all_cons, List.all_nil, one_V, one_RecP, Bool.and_true, Bool.true_and]; try rfl)) ?_
         refine ao_nil ?_
         change BW _ _ _ _ _
         refine bw_ret ?_
         change ∃ xs, _ = some xs ∧ EndOk _ _ _ _
         obtain rfl := Option.some.inj h
         exact ⟨_, rfl, endR (y := (of_merge_side (x12.1))) 2 (Wk.refl _) rfl rfl (.same (ids_S_merge_side (x12.1))) (.cons (.box (.cons (.same rfl) (.cons (.row rfl (ids_map ids_S_api_Conflict (((x12.2.2)).f_conflicts))) .nil))) (.cons .arr .nil)) ⟨rfl, rfl⟩⟩
        ·intro hc13; replace h := ocond_f hc13 h
         refine bw_skip ?_
         exact ⟨rfl, ((x12.2.2).f_settle, (x12.2.2).f_conflicts), h, ⟨(.cons .same (.cons .same (.cons .same (.cons .same (.cons .same (.cons .same .nil)))))), (sC rfl (sC rfl (sC rfl (sC rfl (sC rfl (sC rfl sub_nil))))))⟩⟩
      ·intro hc9; replace h := ocond_f hc9 h
       refine bw_skip ?_
       exact ⟨rfl, (a0.f_settle, a0.f_conflicts), h, ⟨(.cons .same (.cons .same (.cons .same (.cons .same (.cons .same (.cons .same .nil)))))), (sC rfl (sC rfl (sC rfl (sC rfl (sC rfl (sC rfl sub_nil))))))⟩⟩
     ·refine bw_region ?_
      refine sS rfl rfl rfl (op1_faR st_87 (i := 1) rfl rfl rfl) ?_
      refine sS rfl rfl rfl ((op1_ldR Try.underlying4 rfl rfl rfl rfl rfl)) ?_
      refine sM rfl rfl rfl rfl rfl ?_
      refine ao_cases (t := 32) rfl ?_ ?_
      ·intro hb14; replace h := ocond_t hb14 h
       refine ao_yes rfl rfl rfl rfl rfl rfl (op1_faR st_87 (i := 1) rfl rfl rfl) ?_
       refine ao_yes rfl rfl rfl rfl rfl rfl ((op1_ldR Try.underlying4 rfl rfl rfl rfl rfl)) ?_
       refine sS rfl rfl rfl (op1_pickT rfl rfl rfl) ?_
       refine sM rfl rfl rfl rfl rfl ?_
       refine ao_cases (t := 36) rfl ?_ ?_
       ·intro hb15; replace h := ocond_t hb15 h
        refine ao_yes rfl rfl rfl rfl rfl rfl (op1_faR st_87 (i := 1) rfl rfl rfl) ?_
        refine ao_yes rfl rfl rfl rfl rfl rfl ((op1_ldR Try.underlying4 rfl rfl rfl rfl rfl)) ?_
        refine sS rfl rfl rfl (op1_pickT rfl rfl rfl) (ao_nil ?_)
        exact ⟨rfl, a4.f_has, h, ⟨(.cons .same (.cons .same (.cons .same (.cons .same (.cons .same (.cons .same .nil)))))), (sC rfl (sC rfl (sC rfl (sC rfl (sC rfl (sC rfl (sC rfl sub_nil)))))))⟩⟩
       ·intro hb15; replace h := ocond_f hb15 h
        refine ao_no rfl rfl rfl rfl rfl rfl ?_
        refine ao_no rfl rfl rfl rfl rfl rfl ?_
        refine sS rfl rfl rfl (op1_pickF rfl rfl rfl) (ao_nil ?_)
        exact ⟨rfl, false, h, ⟨(.cons .same (.cons .same (.cons .same (.cons .same (.cons .same (.cons .same .nil)))))), (sC rfl (sC rfl (sC rfl (sC rfl (sC rfl (sC rfl (sC rfl sub_nil)))))))⟩⟩
      ·intro hb14; replace h := ocond_f hb14 h
       refine ao_no rfl rfl rfl rfl rfl rfl ?_
       refine ao_no rfl rfl rfl rfl rfl rfl ?_
       refine sS rfl rfl rfl (op1_pickF rfl rfl rfl) ?_
       refine sM rfl rfl rfl rfl rfl ?_
       refine ao_no rfl rfl rfl rfl rfl rfl ?_
       refine ao_no rfl rfl rfl rfl rfl rfl ?_
       refine sS rfl rfl rfl (op1_pickF rfl rfl rfl) (ao_nil ?_)
       exact ⟨rfl, false, h, ⟨(.cons .same (.cons .same (.cons .same (.cons .same (.cons .same (.cons .same .nil)))))), (sC rfl (sC rfl (sC rfl (sC rfl (sC rfl (sC rfl (sC rfl sub_nil)))))))⟩⟩
 ·refine bw_region ?_
  refine sS rfl rfl rfl ((op1_ldRA inf_87 Try.underlying87 rfl rfl rfl rfl rfl rfl)) ?_
  refine sS rfl rfl rfl ((op1_ldRA inf_87 Try.underlying87 rfl rfl rfl rfl rfl rfl)) ?_
  obtain ⟨x16, hx16, h⟩ := obind h
  refine sS rfl rfl rfl (op1_pcall rfl en_54 rfl (.cons (Wk.refl _) (.cons (Wk.refl _) .nil)) ⟨(ids_S_merge_side a3), ⟨(ids_S_merge_side a4), trivial⟩⟩ (s_merge_one a3 a4 x16 hx16) rfl) ?_
  refine sM rfl rfl rfl rfl rfl ?_
  refine ao_cases (t := 19) rfl ?_ ?_
  ·intro hb17; replace h := ocond_t hb17 h
   refine ao_no rfl rfl rfl rfl rfl rfl ?_
   refine ao_no rfl rfl rfl rfl rfl rfl ?_
   refine ao_no rfl rfl rfl rfl rfl rfl ?_
   refine sS rfl rfl rfl (op1_pickT rfl rfl rfl) ?_
   refine sA rfl rfl rfl rfl rfl (ao_nil ?_)
   exact ⟨rfl, true, h, ⟨(.cons .same (.cons .same (.cons .same (.cons .same (.cons .same (.cons .same .nil)))))), (sC rfl (sC rfl (sC rfl (sC rfl (sC rfl (sC rfl (sC rfl sub_nil)))))))⟩⟩
  ·intro hb17; replace h := ocond_f hb17 h
   refine ao_yes rfl rfl rfl rfl rfl rfl ((op1_ldRA inf_87 Try.underlying87 rfl rfl rfl rfl rfl rfl)) ?_
   refine ao_yes rfl rfl rfl rfl rfl rfl ((op1_ldRA inf_87 Try.underlying87 rfl rfl rfl rfl rfl rfl)) ?_
   obtain ⟨x18, hx18, h⟩ := obind h
   refine ao_yes rfl rfl rfl rfl rfl rfl (op1_pcall rfl en_54 rfl (.cons (Wk.refl _) (.cons (Wk.refl _) .nil)) ⟨(ids_S_merge_side a4), ⟨(ids_S_merge_side a2), trivial⟩⟩ (s_merge_one a4 a2 x18 hx18) rfl) ?_
   refine sS rfl rfl rfl (op1_pickF rfl rfl rfl) ?_
   refine sA rfl rfl rfl rfl rfl (ao_nil ?_)
   exact ⟨rfl, x18, h, ⟨(.cons .same (.cons .same (.cons .same (.cons .same (.cons .same (.cons .same .nil)))))), (sC rfl (sC rfl (sC rfl (sC rfl (sC rfl (sC rfl (sC rfl sub_nil)))))))⟩⟩
theorem C_merge_merger_list.sound : ∀ (i : C_merge_merger_list) (r : i.R), fixO C_merge_merger_list.F i = some r → C_merge_merger_list.Q i r := by
 refine fixO_ind (Φ := C_merge_merger_list.F) (Q := C_merge_merger_list.Q) ?_
 intro g hg i r h
 cases i with
 | k_merge_merger_list a0 a1 a2 a3 a4 => exact t_merge_merger_list (fun a0 a1 a2 a3 a4 => g (.k_merge_merger_list a0 a1 a2 a3 a4)) (fun a0 a1 a2 a3 a4 r hr => hg (.k_merge_merger_list a0 a1 a2 a3 a4) r hr) (fun a0 a1 a2 a3 a4 => g (.k_merge_merger_fields a0 a1 a2 a3 a4)) (fun a0 a1 a2 a3 a4 r hr => hg (.k_merge_merger_fields a0 a1 a2 a3 a4) r hr) (fun a0 a1 a2 a3 a4 => g (.k_merge_merger_put a0 a1 a2 a3 a4)) (fun a0 a1 a2 a3 a4 r hr => hg (.k_merge_merger_put a0 a1 a2 a3 a4) r hr) a0 a1 a2 a3 a4 r h
 | k_merge_merger_fields a0 a1 a2 a3 a4 => exact t_merge_merger_fields (fun a0 a1 a2 a3 a4 => g (.k_merge_merger_list a0 a1 a2 a3 a4)) (fun a0 a1 a2 a3 a4 r hr => hg (.k_merge_merger_list a0 a1 a2 a3 a4) r hr) (fun a0 a1 a2 a3 a4 => g (.k_merge_merger_fields a0 a1 a2 a3 a4)) (fun a0 a1 a2 a3 a4 r hr => hg (.k_merge_merger_fields a0 a1 a2 a3 a4) r hr) (fun a0 a1 a2 a3 a4 => g (.k_merge_merger_put a0 a1 a2 a3 a4)) (fun a0 a1 a2 a3 a4 r hr => hg (.k_merge_merger_put a0 a1 a2 a3 a4) r hr) a0 a1 a2 a3 a4 r h
 | k_merge_merger_put a0 a1 a2 a3 a4 => exact t_merge_merger_put (fun a0 a1 a2 a3 a4 => g (.k_merge_merger_list a0 a1 a2 a3 a4)) (fun a0 a1 a2 a3 a4 r hr => hg (.k_merge_merger_list a0 a1 a2 a3 a4) r hr) (fun a0 a1 a2 a3 a4 => g (.k_merge_merger_fields a0 a1 a2 a3 a4)) (fun a0 a1 a2 a3 a4 r hr => hg (.k_merge_merger_fields a0 a1 a2 a3 a4) r hr) (fun a0 a1 a2 a3 a4 => g (.k_merge_merger_put a0 a1 a2 a3 a4)) (fun a0 a1 a2 a3 a4 r hr => hg (.k_merge_merger_put a0 a1 a2 a3 a4) r hr) a0 a1 a2 a3 a4 r h
theorem s_merge_merger_put (a0 : S_merge_merger) (a1 : (List S_api_Step)) (a2 : S_merge_side) (a3 : S_merge_side) (a4 : S_merge_side) (r : (S_merge_side × S_merge_merger)) (h : p_merge_merger_put a0 a1 a2 a3 a4 = some r) : MCalls Try.prog 29 [(PV.rf 0 0), (PV.sl none 57 3 (List.map of_api_Step a1)), (of_merge_side a2), (of_merge_side a3), (of_merge_side a4)] [.box 83 [(PV.v .nilFunc), (PV.sl (some 1) 44 7 (List.map of_api_Conflict a0.f_conflicts))], .arr 44 (a0.f_conflicts).length] (of_merge_side r.1) [.box 83 [(PV.v .nilFunc), (PV.sl (some 1) 44 7 (List.map of_api_Conflict (r.2).f_conflicts))], .arr 44 ((r.2).f_conflicts).length] := C_merge_merger_list.sound (.k_merge_merger_put a0 a1 a2 a3 a4) r h
end Go.Proofs.Ytkmhecgagibgjaa
