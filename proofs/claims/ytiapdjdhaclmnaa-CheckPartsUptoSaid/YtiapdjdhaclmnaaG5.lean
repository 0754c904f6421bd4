/- Pure functions, and that calls answer as they say. Written by gen.py. -/
import Derived.Test.YtiapdjdhaclmnaaG4
namespace Go.Proofs.Ytiapdjdhaclmnaa
open Go Aw
set_option linter.unusedVariables false
set_option linter.unusedSimpArgs false
set_option maxRecDepth 20000
set_option maxHeartbeats 2000000
noncomputable def law07_CheckParts_j4 (g1 : (List V) → Bool → Nat → Option Bool) (s1 : (List V)) (s3 : Nat) (x7 : V) (s19 : Bool) : Option Bool :=
 Option.bind (appO 16 s1 ([x7] : (List V))) fun x20 =>
 g1 x20 s19 (s3 + 1)
theorem law07_CheckParts_j4_cm {ι : Type} {ρ : ι → Type} (g1 : (∀ i, Option (ρ i)) → (List V) → Bool → Nat → Option Bool) (h_g1 : ∀ y0 y1 y2, CM (fun G => g1 G y0 y1 y2)) (s1 : (List V)) (s3 : Nat) (x7 : V) (s19 : Bool) : CM (fun G : (∀ i, Option (ρ i)) => law07_CheckParts_j4 (g1 G) s1 s3 x7 s19) := by
 simp only [law07_CheckParts_j4]
 repeat (first | exact cm_const | exact h_g1 _ _ _ | refine cm_cond ?_ ?_ | refine cm_bind ?_ (fun _ => ?_))
noncomputable def law07_CheckParts_j3 (g1 : (List V) → Bool → Nat → Option Bool) (s1 : (List V)) (s2 : Bool) (s3 : Nat) (x7 : V) (x8 : (Bool × Int × Int)) (x13 : (Bool × Int × Int)) (s16 : Bool) : Option Bool :=
 bif s16 then (
  bif (x13.2.2 == 70) then (
   some true
  ) else (
   some (x13.2.2 == 2)
  )
 ) else (
  bif s2 then (
   bif (x8.2.2 == 0) then (
    law07_CheckParts_j4 g1 s1 s3 x7 x8.1
   ) else (
    law07_CheckParts_j4 g1 s1 s3 x7 false
   )
  ) else (
   law07_CheckParts_j4 g1 s1 s3 x7 false
  )
 )
theorem law07_CheckParts_j3_cm {ι : Type} {ρ : ι → Type} (g1 : (∀ i, Option (ρ i)) → (List V) → Bool → Nat → Option Bool) (h_g1 : ∀ y0 y1 y2, CM (fun G => g1 G y0 y1 y2)) (s1 : (List V)) (s2 : Bool) (s3 : Nat) (x7 : V) (x8 : (Bool × Int × Int)) (x13 : (Bool × Int × Int)) (s16 : Bool) : CM (fun G : (∀ i, Option (ρ i)) => law07_CheckParts_j3 (g1 G) s1 s2 s3 x7 x8 x13 s16) := by
 simp only [law07_CheckParts_j3]
 repeat (first | exact cm_const | exact h_g1 _ _ _ | apply law07_CheckParts_j4_cm | refine cm_cond ?_ ?_ | refine cm_bind ?_ (fun _ => ?_) | intro _ | assumption)
noncomputable def law07_CheckParts_j2 (g1 : (List V) → Bool → Nat → Option Bool) (s1 : (List V)) (s2 : Bool) (s3 : Nat) (x7 : V) (x8 : (Bool × Int × Int)) (x13 : (Bool × Int × Int)) (s14 : Bool) : Option Bool :=
 bif s14 then (
  some false
 ) else (
  bif (x8.2.2 == 0) then (
   law07_CheckParts_j3 g1 s1 s2 s3 x7 x8 x13 (x13.2.2 != 0)
  ) else (
   law07_CheckParts_j3 g1 s1 s2 s3 x7 x8 x13 false
  )
 )
theorem law07_CheckParts_j2_cm {ι : Type} {ρ : ι → Type} (g1 : (∀ i, Option (ρ i)) → (List V) → Bool → Nat → Option Bool) (h_g1 : ∀ y0 y1 y2, CM (fun G => g1 G y0 y1 y2)) (s1 : (List V)) (s2 : Bool) (s3 : Nat) (x7 : V) (x8 : (Bool × Int × Int)) (x13 : (Bool × Int × Int)) (s14 : Bool) : CM (fun G : (∀ i, Option (ρ i)) => law07_CheckParts_j2 (g1 G) s1 s2 s3 x7 x8 x13 s14) := by
 simp only [law07_CheckParts_j2]
 repeat (first | exact cm_const | exact h_g1 _ _ _ | apply law07_CheckParts_j3_cm | refine cm_cond ?_ ?_ | refine cm_bind ?_ (fun _ => ?_) | intro _ | assumption)
noncomputable def law07_CheckParts_j1 (g1 : (List V) → Bool → Nat → Option Bool) (a0 : S_arr2_Typ) (a2 : Bool) (s1 : (List V)) (s2 : Bool) (s3 : Nat) (x7 : V) (x8 : (Bool × Int × Int)) (x10 : (Bool × Int × Int)) (s11 : Bool) : Option Bool :=
 bif s11 then (
  some (x10.2.2 == 70)
 ) else (
  Option.bind (p_check_Is (V.dict ([(([97] : Str), x7), (([122] : Str), (V.bool true))] : (List (Str × V)))) (Typ.mk 6 0 (Term.mk 0 false 0 0 [] [] 0 [] [] [] 0) ([(a0.f_0)] : (List Typ)) ([([97] : Str)] : (List Str)) ([false] : (List Bool)) a2 [])) fun x13 =>
  bif (x8.2.2 == 0) then (
   bif (x13.2.2 == 0) then (
    bif x8.1 then (
     law07_CheckParts_j2 g1 s1 s2 s3 x7 x8 x13 (!(x13.1 == a2))
    ) else (
     law07_CheckParts_j2 g1 s1 s2 s3 x7 x8 x13 (!(x13.1 == false))
    )
   ) else (
    law07_CheckParts_j2 g1 s1 s2 s3 x7 x8 x13 false
   )
  ) else (
   law07_CheckParts_j2 g1 s1 s2 s3 x7 x8 x13 false
  )
 )
theorem law07_CheckParts_j1_cm {ι : Type} {ρ : ι → Type} (g1 : (∀ i, Option (ρ i)) → (List V) → Bool → Nat → Option Bool) (h_g1 : ∀ y0 y1 y2, CM (fun G => g1 G y0 y1 y2)) (a0 : S_arr2_Typ) (a2 : Bool) (s1 : (List V)) (s2 : Bool) (s3 : Nat) (x7 : V) (x8 : (Bool × Int × Int)) (x10 : (Bool × Int × Int)) (s11 : Bool) : CM (fun G : (∀ i, Option (ρ i)) => law07_CheckParts_j1 (g1 G) a0 a2 s1 s2 s3 x7 x8 x10 s11) := by
 simp only [law07_CheckParts_j1]
 repeat (first | exact cm_const | exact h_g1 _ _ _ | apply law07_CheckParts_j2_cm | refine cm_cond ?_ ?_ | refine cm_bind ?_ (fun _ => ?_) | intro _ | assumption)
noncomputable def law07_CheckParts_l1b (a0 : S_arr2_Typ) (a1 : (List Term)) (a2 : Bool) (g1 : (List V) → Bool → Nat → Option Bool) (s1 : (List V)) (s2 : Bool) (s3 : Nat) : Option Bool :=
 bif (decide (((s3 : Nat) : Int) < (((a1).length : Nat) : Int))) then (
  Option.bind ((a1)[s3]?) fun x6 =>
  Option.bind (p_mk_Built x6) fun x7 =>
  Option.bind (p_check_Is x7 (a0.f_0)) fun x8 =>
  Option.bind (p_check_Is x7 (a0.f_1)) fun x9 =>
  Option.bind (p_check_Is x7 (Typ.mk 7 0 (Term.mk 0 false 0 0 [] [] 0 [] [] [] 0) ([(a0.f_0), (a0.f_1)] : (List Typ)) [] [] false [])) fun x10 =>
  bif (x8.2.2 == 0) then (
   bif (x9.2.2 == 0) then (
    bif (x10.2.2 != 0) then (
     law07_CheckParts_j1 g1 a0 a2 s1 s2 s3 x7 x8 x10 true
    ) else (
     bif x8.1 then (
      law07_CheckParts_j1 g1 a0 a2 s1 s2 s3 x7 x8 x10 (!(x10.1 == true))
     ) else (
      law07_CheckParts_j1 g1 a0 a2 s1 s2 s3 x7 x8 x10 (!(x10.1 == x9.1))
     )
    )
   ) else (
    law07_CheckParts_j1 g1 a0 a2 s1 s2 s3 x7 x8 x10 false
   )
  ) else (
   law07_CheckParts_j1 g1 a0 a2 s1 s2 s3 x7 x8 x10 false
  )
 ) else (
  Option.bind (p_check_Is (V.list s1) (Typ.mk 5 0 (Term.mk 0 false 0 0 [] [] 0 [] [] [] 0) ([(a0.f_0)] : (List Typ)) [] [] false [])) fun x31 =>
  Option.bind (p_check_Is (V.list ([] : (List V))) (Typ.mk 5 0 (Term.mk 0 false 0 0 [] [] 0 [] [] [] 0) ([(Typ.mk 2 0 (Term.mk 0 false 0 0 [] [] 0 [] [] [] 0) [] [] [] false [])] : (List Typ)) [] [] false [])) fun x32 =>
  bif (x31.2.2 != 0) then (
   bif x32.1 then (
    some (x32.2.2 == 0)
   ) else (
    some false
   )
  ) else (
   bif (x31.1 == s2) then (
    bif x32.1 then (
     some (x32.2.2 == 0)
    ) else (
     some false
    )
   ) else (
    some false
   )
  )
 )
theorem law07_CheckParts_l1b_cm {ι : Type} {ρ : ι → Type} (g1 : (∀ i, Option (ρ i)) → (List V) → Bool → Nat → Option Bool) (h_g1 : ∀ y0 y1 y2, CM (fun G => g1 G y0 y1 y2)) (a0 : S_arr2_Typ) (a1 : (List Term)) (a2 : Bool) (s1 : (List V)) (s2 : Bool) (s3 : Nat) : CM (fun G : (∀ i, Option (ρ i)) => law07_CheckParts_l1b a0 a1 a2 (g1 G) s1 s2 s3) := by
 simp only [law07_CheckParts_l1b]
 repeat (first | exact cm_const | exact h_g1 _ _ _ | apply law07_CheckParts_j1_cm | refine cm_cond ?_ ?_ | refine cm_bind ?_ (fun _ => ?_) | intro _ | assumption)
noncomputable def law07_CheckParts_l1 (a0 : S_arr2_Typ) (a1 : (List Term)) (a2 : Bool) (s1 : (List V)) (s2 : Bool) (s3 : Nat) : Option Bool :=
 fixO (ι := ((List V) × Bool × Nat)) (ρ := fun _ => Bool) (fun g i => law07_CheckParts_l1b a0 a1 a2 (fun s1 s2 s3 => g (s1, s2, s3)) i.1 i.2.1 i.2.2) (s1, s2, s3)
theorem law07_CheckParts_l1_eq (a0 : S_arr2_Typ) (a1 : (List Term)) (a2 : Bool) (s1 : (List V)) (s2 : Bool) (s3 : Nat) : law07_CheckParts_l1 a0 a1 a2 s1 s2 s3 = law07_CheckParts_l1b a0 a1 a2 (law07_CheckParts_l1 a0 a1 a2) s1 s2 s3 :=
 fixO_eq (ι := ((List V) × Bool × Nat)) (ρ := fun _ => Bool) (Φ := fun g i => law07_CheckParts_l1b a0 a1 a2 (fun s1 s2 s3 => g (s1, s2, s3)) i.1 i.2.1 i.2.2) (fun i => law07_CheckParts_l1b_cm (ι := ((List V) × Bool × Nat)) (ρ := fun _ => Bool) (fun g => (fun s1 s2 s3 => g (s1, s2, s3))) (fun _ _ _ => cm_app) a0 a1 a2 i.1 i.2.1 i.2.2) (s1, s2, s3)
noncomputable def p_law07_CheckParts (a0 : S_arr2_Typ) (a1 : (List Term)) (a2 : Bool) : Option Bool :=
 law07_CheckParts_l1 a0 a1 a2 ([] : (List V)) true 0
theorem s_law07_CheckParts (a0 : S_arr2_Typ) (a1 : (List Term)) (a2 : Bool) (r : Bool) (h : p_law07_CheckParts a0 a1 a2 = some r) : PCalls Try.prog 3 [(of_arr2_Typ a0), (PV.sl none 11 (List.map ofTerm a1)), (BO a2)] (BO r) := by
 unfold p_law07_CheckParts at h
 refine acalls_of Try.func3 rfl Try.ntmps3 Try.results3 rfl (aw_of_bw ?_)
 change BW _ _ _ ⟨[(0, (of_arr2_Typ a0)), (1, (PV.sl none 11 (List.map ofTerm a1))), (2, (BO a2))], [], _⟩ _
 refine bR ?_
 refine sS rfl rfl rfl (op1_box rfl rfl rfl) ?_
 refine sA rfl rfl rfl rfl rfl (ao_nil ?_)
 change BW _ _ _ _ _
 refine bw_seq ?_
 refine bw_place 34 ?_
 refine bw_place 34 ?_
 refine bw_fills [(4, 1, .box 34 [(I64 0), (I64 0), (I64 0), (BO false), (I64 0), (PV.v (.float .f64 0)), (ofStr []), (PV.v (.slice none 0 0)), (PV.v (.int .u64 0)), (PV.v (.slice none 0 0)), (PV.v (.slice none 0 0)), (ofStr []), (I64 0), (PV.v (.slice none 0 0)), (PV.v (.slice none 0 0)), (PV.v (.slice none 0 0)), (BO false), (ofStr [])]), (5, 2, .box 34 [(I64 0), (I64 0), (I64 0), (BO false), (I64 0), (PV.v (.float .f64 0)), (ofStr []), (PV.v (.slice none 0 0)), (PV.v (.int .u64 0)), (PV.v (.slice none 0 0)), (PV.v (.slice none 0 0)), (ofStr []), (I64 0), (PV.v (.slice none 0 0)), (PV.v (.slice none 0 0)), (PV.v (.slice none 0 0)), (BO false), (ofStr [])])] [6, 7] [0] mo (by kernel_rfl) rfl ?_
 refine ad_go rfl rfl rfl rfl rfl (fun H hp => op1_iaR (i := 0) Try.underlying35 inf_34 rfl rfl rfl rfl) ?_
 refine ad_go rfl rfl rfl rfl rfl (fun H hp => (op1_ldRA inf_34 Try.underlying34 rfl rfl rfl (hp.at rfl rfl) rfl rfl)) ?_
 refine ad_go rfl rfl rfl rfl rfl (fun H hp => op1_iaR (i := 1) Try.underlying35 inf_34 rfl rfl rfl rfl) ?_
 refine ad_go rfl rfl rfl rfl rfl (fun H hp => (op1_ldRA inf_34 Try.underlying34 rfl rfl rfl (hp.at rfl rfl) rfl rfl)) ?_
 refine ad_fill (i := 1) rfl rfl rfl rfl rfl inf_34 rfl rfl ?_
 refine ad_fill (i := 2) rfl rfl rfl rfl rfl inf_34 rfl rfl ?_
 refine ad_lgo0 rfl rfl rfl rfl (op1_store inf_34 rfl rfl rfl rfl rfl rfl (Nat.le_of_ble_eq_true rfl) rfl) ⟨rfl, trivial⟩ ?_
 refine ad_lgo0 rfl rfl rfl rfl (op1_store inf_34 rfl rfl rfl rfl rfl rfl (Nat.le_of_ble_eq_true rfl) rfl) ⟨rfl, trivial⟩ ?_
 refine ad_nil ?_
 change BW _ _ _ _ _
 refine bR ?_
 refine sS rfl rfl rfl ((op1_bslice (xs := []) Try.underlying37 inf_20 rfl rfl rfl rfl rfl rfl ⟨Nat.le_of_ble_eq_true rfl, Nat.le_of_ble_eq_true rfl⟩ rfl).cast (y := (PV.sl (some 3) 1 (List.map ofV ([] : (List V))))) rfl rfl) ?_
 refine sA rfl rfl rfl rfl rfl ?_
 refine sA rfl rfl rfl rfl rfl (ao_nil ?_)
 change BW _ _ _ _ _
 refine bw_seq ?_
 refine bR ?_
 refine sA rfl rfl rfl rfl rfl (ao_nil ?_)
 change BW _ _ _ _ _
 refine bw_block ?_
 change BW _ _ _ _ _
 unfold law07_CheckParts_l1 at h
 refine bw_loop (σ := ((List V) × Bool × Nat)) (fun i => [(1, (PV.sl none 11 (List.map ofTerm a1))), (2, (BO a2)), (7, (PV.rf 1 0)), (8, (PV.rf 2 0)), (9, (PV.sl (some 3) 1 (List.map ofV i.1))), (10, (BO i.2.1)), (11, (I64 (((i.2.2 : Nat) : Int))))]) (fun i => [.dead, .box 34 [(I64 ((a0.f_0).kind)), (I64 ((a0.f_0).of)), (I64 (((a0.f_0).only).kind)), (BO (((a0.f_0).only).bool)), (I64 (((a0.f_0).only).int)), (PV.v (.float .f64 ((a0.f_0).only).float)), (ofStr ((a0.f_0).only).text), (PV.sl none 1 (List.map ofB ((a0.f_0).only).bytes)), (PV.v (.int .u64 ((a0.f_0).only).ref)), (PV.sl none 11 (List.map ofTerm ((a0.f_0).only).list)), (PV.sl none 12 (List.map ofEntry ((a0.f_0).only).fields)), (ofStr ((a0.f_0).only).cls), (I64 (((a0.f_0).only).ver)), (PV.sl none 18 (List.map ofTyp (a0.f_0).parts)), (PV.sl none 1 (List.map ofStr (a0.f_0).names)), (PV.sl none 1 (List.map ofBool (a0.f_0).lacks)), (BO ((a0.f_0).opn)), (ofStr (a0.f_0).cls)], .box 34 [(I64 ((a0.f_1).kind)), (I64 ((a0.f_1).of)), (I64 (((a0.f_1).only).kind)), (BO (((a0.f_1).only).bool)), (I64 (((a0.f_1).only).int)), (PV.v (.float .f64 ((a0.f_1).only).float)), (ofStr ((a0.f_1).only).text), (PV.sl none 1 (List.map ofB ((a0.f_1).only).bytes)), (PV.v (.int .u64 ((a0.f_1).only).ref)), (PV.sl none 11 (List.map ofTerm ((a0.f_1).only).list)), (PV.sl none 12 (List.map ofEntry ((a0.f_1).only).fields)), (ofStr ((a0.f_1).only).cls), (I64 (((a0.f_1).only).ver)), (PV.sl none 18 (List.map ofTyp (a0.f_1).parts)), (PV.sl none 1 (List.map ofStr (a0.f_1).names)), (PV.sl none 1 (List.map ofBool (a0.f_1).lacks)), (BO ((a0.f_1).opn)), (ofStr (a0.f_1).cls)], .arr 20 (i.1).length]) (([] : (List V)), true, 0) h ?_ ?_ ?_
 ·intro i; exact ⟨Nat.le_of_ble_eq_true rfl, ⟨(il_nil (ids_slM ids_Term _)), ⟨(il_nil rfl), ⟨(il_rf rfl), ⟨(il_rf rfl), ⟨(il_tok rfl (ids_map ids_V _)), ⟨(il_nil rfl), ⟨(il_nil rfl), trivial⟩⟩⟩⟩⟩⟩⟩, ⟨⟨(il_nil rfl), ⟨(il_nil rfl), ⟨(il_nil rfl), ⟨(il_nil rfl), ⟨(il_nil rfl), ⟨(il_nil rfl), ⟨(il_nil rfl), ⟨(il_nil (ids_slM (fun _ => rfl) _)), ⟨(il_nil rfl), ⟨(il_nil (ids_slM ids_Term _)), ⟨(il_nil (ids_slM ids_Entry _)), ⟨(il_nil rfl), ⟨(il_nil rfl), ⟨(il_nil (ids_slM ids_Typ _)), ⟨(il_nil (ids_slM (fun _ => rfl) _)), ⟨(il_nil (ids_slM (fun _ => rfl) _)), ⟨(il_nil rfl), ⟨(il_nil rfl), trivial⟩⟩⟩⟩⟩⟩⟩⟩⟩⟩⟩⟩⟩⟩⟩⟩⟩⟩, ⟨⟨(il_nil rfl), ⟨(il_nil rfl), ⟨(il_nil rfl), ⟨(il_nil rfl), ⟨(il_nil rfl), ⟨(il_nil rfl), ⟨(il_nil rfl), ⟨(il_nil (ids_slM (fun _ => rfl) _)), ⟨(il_nil rfl), ⟨(il_nil (ids_slM ids_Term _)), ⟨(il_nil (ids_slM ids_Entry _)), ⟨(il_nil rfl), ⟨(il_nil rfl), ⟨(il_nil (ids_slM ids_Typ _)), ⟨(il_nil (ids_slM (fun _ => rfl) _)), ⟨(il_nil (ids_slM (fun _ => rfl) _)), ⟨(il_nil rfl), ⟨(il_nil rfl), trivial⟩⟩⟩⟩⟩⟩⟩⟩⟩⟩⟩⟩⟩⟩⟩⟩⟩⟩, trivial⟩⟩⟩
 ·exact ⟨(.cons .dead (.cons .same (.cons .same (.cons .same .nil)))), (sC rfl (sC rfl (sC rfl (sC rfl (sC rfl (sC rfl (sC rfl sub_nil)))))))⟩
 ·rintro g1_f ⟨s1, s2, s3⟩ h; replace h : law07_CheckParts_l1b a0 a1 a2 (fun y0 y1 y2 => g1_f (y0, y1, y2)) s1 s2 s3 = some r := h; unfold law07_CheckParts_l1b at h
  change BW _ _ _ ⟨[(1, (PV.sl none 11 (List.map ofTerm a1))), (2, (BO a2)), (7, (PV.rf 1 0)), (8, (PV.rf 2 0)), (9, (PV.sl (some 3) 1 (List.map ofV s1))), (10, (BO s2)), (11, (I64 (((s3 : Nat) : Int))))], [.dead, .box 34 [(I64 ((a0.f_0).kind)), (I64 ((a0.f_0).of)), (I64 (((a0.f_0).only).kind)), (BO (((a0.f_0).only).bool)), (I64 (((a0.f_0).only).int)), (PV.v (.float .f64 ((a0.f_0).only).float)), (ofStr ((a0.f_0).only).text), (PV.sl none 1 (List.map ofB ((a0.f_0).only).bytes)), (PV.v (.int .u64 ((a0.f_0).only).ref)), (PV.sl none 11 (List.map ofTerm ((a0.f_0).only).list)), (PV.sl none 12 (List.map ofEntry ((a0.f_0).only).fields)), (ofStr ((a0.f_0).only).cls), (I64 (((a0.f_0).only).ver)), (PV.sl none 18 (List.map ofTyp (a0.f_0).parts)), (PV.sl none 1 (List.map ofStr (a0.f_0).names)), (PV.sl none 1 (List.map ofBool (a0.f_0).lacks)), (BO ((a0.f_0).opn)), (ofStr (a0.f_0).cls)], .box 34 [(I64 ((a0.f_1).kind)), (I64 ((a0.f_1).of)), (I64 (((a0.f_1).only).kind)), (BO (((a0.f_1).only).bool)), (I64 (((a0.f_1).only).int)), (PV.v (.float .f64 ((a0.f_1).only).float)), (ofStr ((a0.f_1).only).text), (PV.sl none 1 (List.map ofB ((a0.f_1).only).bytes)), (PV.v (.int .u64 ((a0.f_1).only).ref)), (PV.sl none 11 (List.map ofTerm ((a0.f_1).only).list)), (PV.sl none 12 (List.map ofEntry ((a0.f_1).only).fields)), (ofStr ((a0.f_1).only).cls), (I64 (((a0.f_1).only).ver)), (PV.sl none 18 (List.map ofTyp (a0.f_1).parts)), (PV.sl none 1 (List.map ofStr (a0.f_1).names)), (PV.sl none 1 (List.map ofBool (a0.f_1).lacks)), (BO ((a0.f_1).opn)), (ofStr (a0.f_1).cls)], .arr 20 (s1).length], _⟩ _
  refine bw_seq ?_
  refine bR ?_
  refine sM rfl rfl rfl rfl rfl ?_
  refine sM rfl rfl rfl rfl rfl ?_
  refine sS rfl rfl rfl (op1_lenM Try.underlying26 rfl rfl) ?_
  refine sS rfl rfl rfl ((op1_cmp rfl rfl rfl rfl).cast (y := (BO ((decide (((s3 : Nat) : Int) < (((a1).length : Nat) : Int)))))) rfl rfl) (ao_nil ?_)
  change BW _ _ _ _ _
  refine bw_len (t := 37) rfl fun hb5 => ?_
  try rw [List.length_map] at hb5
  refine bw_cond rfl ?_ ?_
  ·intro hc4; replace h := ocond_t hc4 h
   have hc4_ := of_decide_eq_true hc4
   refine bw_skip ?_
   change BW _ _ _ _ _
   refine bw_seq ?_
   refine bw_block ?_
   change BW _ _ _ _ _
   refine bR ?_
   refine sM rfl rfl rfl rfl rfl ?_
   refine sM rfl rfl rfl rfl rfl ?_
   obtain ⟨x6, hx6, h⟩ := obind h
   refine sS rfl rfl rfl (op1_idxN (i := s3) Try.underlying26 inf_29 rfl rfl rfl hx6 (ofTerm_eq _)) ?_
   refine sS rfl rfl rfl (op1_ldPW inf_29 Try.underlying29 rfl rfl rfl rfl rfl) ?_
   obtain ⟨x7, hx7, h⟩ := obind h
   refine sS rfl rfl rfl (op1_pcall rfl en_9 rfl (.cons (Wk.refl _) .nil) ⟨(ids_TermX x6), trivial⟩ (s_mk_Built x6 x7 hx7) (ids_V x7)) ?_
   refine sA rfl rfl rfl rfl rfl (ao_nil ?_)
   change BW _ _ _ _ _
   refine bR ?_
   refine sM rfl rfl rfl rfl rfl ?_
   refine sS rfl rfl rfl ((op1_ldRA inf_34 Try.underlying34 rfl rfl rfl rfl rfl rfl)) ?_
   obtain ⟨x8, hx8, h⟩ := obind h
   refine sS rfl rfl rfl (op1_pcall rfl en_10 rfl (.cons (Wk.refl _) (.cons (Wk.refl _) .nil)) ⟨(ids_V x7), ⟨(ids_TypX (a0.f_0)), trivial⟩⟩ (s_check_Is x7 (a0.f_0) x8 hx8) (ids_tup_cons rfl (ids_tup_cons rfl (ids_tup_cons rfl ids_tup_nil)))) ?_
   refine sM rfl rfl rfl rfl rfl ?_
   refine sS rfl rfl rfl (op1_ext rfl rfl rfl) ?_
   refine sS rfl rfl rfl (op1_ext rfl rfl rfl) ?_
   refine sS rfl rfl rfl (op1_ext rfl rfl rfl) ?_
   refine sA rfl rfl rfl rfl rfl ?_
   refine sA rfl rfl rfl rfl rfl ?_
   refine sA rfl rfl rfl rfl rfl (ao_nil ?_)
   change BW _ _ _ _ _
   refine bR ?_
   refine sM rfl rfl rfl rfl rfl ?_
   refine sS rfl rfl rfl ((op1_ldRA inf_34 Try.underlying34 rfl rfl rfl rfl rfl rfl)) ?_
   obtain ⟨x9, hx9, h⟩ := obind h
   refine sS rfl rfl rfl (op1_pcall rfl en_10 rfl (.cons (Wk.refl _) (.cons (Wk.refl _) .nil)) ⟨(ids_V x7), ⟨(ids_TypX (a0.f_1)), trivial⟩⟩ (s_check_Is x7 (a0.f_1) x9 hx9) (ids_tup_cons rfl (ids_tup_cons rfl (ids_tup_cons rfl ids_tup_nil)))) ?_
   refine sM rfl rfl rfl rfl rfl ?_
   refine sS rfl rfl rfl (op1_ext rfl rfl rfl) ?_
   refine sS rfl rfl rfl (op1_ext rfl rfl rfl) ?_
   refine sS rfl rfl rfl (op1_ext rfl rfl rfl) ?_
   refine sA rfl rfl rfl rfl rfl ?_
   refine sA rfl rfl rfl rfl rfl ?_
   refine sA rfl rfl rfl rfl rfl (ao_nil ?_)
   change BW _ _ _ _ _
   refine bR ?_
   refine sM rfl rfl rfl rfl rfl ?_
   refine sS rfl rfl rfl ((op1_ldRA inf_34 Try.underlying34 rfl rfl rfl rfl rfl rfl)) ?_
   refine sS rfl rfl rfl ((op1_ldRA inf_34 Try.underlying34 rfl rfl rfl rfl rfl rfl)) ?_
   refine sS rfl rfl rfl ((op1_bslice (xs := [(PV.agg [(I64 ((a0.f_0).kind)), (I64 ((a0.f_0).of)), (I64 (((a0.f_0).only).kind)), (BO (((a0.f_0).only).bool)), (I64 (((a0.f_0).only).int)), (PV.v (.float .f64 ((a0.f_0).only).float)), (ofStr ((a0.f_0).only).text), (PV.sl none 1 (List.map ofB ((a0.f_0).only).bytes)), (PV.v (.int .u64 ((a0.f_0).only).ref)), (PV.sl none 11 (List.map ofTerm ((a0.f_0).only).list)), (PV.sl none 12 (List.map ofEntry ((a0.f_0).only).fields)), (ofStr ((a0.f_0).only).cls), (I64 (((a0.f_0).only).ver)), (PV.sl none 18 (List.map ofTyp (a0.f_0).parts)), (PV.sl none 1 (List.map ofStr (a0.f_0).names)), (PV.sl none 1 (List.map ofBool (a0.f_0).lacks)), (BO ((a0.f_0).opn)), (ofStr (a0.f_0).cls)]), (PV.agg [(I64 ((a0.f_1).kind)), (I64 ((a0.f_1).of)), (I64 (((a0.f_1).only).kind)), (BO (((a0.f_1).only).bool)), (I64 (((a0.f_1).only).int)), (PV.v (.float .f64 ((a0.f_1).only).float)), (ofStr ((a0.f_1).only).text), (PV.sl none 1 (List.map ofB ((a0.f_1).only).bytes)), (PV.v (.int .u64 ((a0.f_1).only).ref)), (PV.sl none 11 (List.map ofTerm ((a0.f_1).only).list)), (PV.sl none 12 (List.map ofEntry ((a0.f_1).only).fields)), (ofStr ((a0.f_1).only).cls), (I64 (((a0.f_1).only).ver)), (PV.sl none 18 (List.map ofTyp (a0.f_1).parts)), (PV.sl none 1 (List.map ofStr (a0.f_1).names)), (PV.sl none 1 (List.map ofBool (a0.f_1).lacks)), (BO ((a0.f_1).opn)), (ofStr (a0.f_1).cls)])]) Try.underlying30 inf_34 rfl rfl rfl rfl rfl rfl ⟨Nat.le_of_ble_eq_true rfl, Nat.le_of_ble_eq_true rfl⟩ rfl).cast (y := (PV.sl (some 4) 18 (List.map ofTyp ([(a0.f_0), (a0.f_1)] : (List Typ))))) (by simp only [List.map_cons, List.map_nil, ofTyp_eq]; try rfl) rfl) ?_
   refine sS rfl rfl rfl (op1_build (cs := [(I64 7), (I64 0), (I64 0), (BO false), (I64 0), (PV.v (.float .f64 0)), (ofStr []), (PV.v (.slice none 0 0)), (PV.v (.int .u64 0)), (PV.v (.slice none 0 0)), (PV.v (.slice none 0 0)), (ofStr []), (I64 0), (PV.sl (some 4) 18 (List.map ofTyp ([(a0.f_0), (a0.f_1)] : (List Typ)))), (PV.v (.slice none 0 0)), (PV.v (.slice none 0 0)), (BO false), (ofStr [])]) st_34 inf_34 rfl rfl rfl rfl) ?_
   obtain ⟨x10, hx10, h⟩ := obind h
   refine sS rfl rfl rfl (op1_pcall rfl en_10 rfl (.cons (Wk.refl _) (.cons (Wk.agg (.cons (Wk.refl _) (.cons (Wk.refl _) (.cons (Wk.refl _) (.cons (Wk.refl _) (.cons (Wk.refl _) (.cons (Wk.refl _) (.cons (Wk.refl _) (.cons Wk.nil (.cons (Wk.refl _) (.cons Wk.nil (.cons Wk.nil (.cons (Wk.refl _) (.cons (Wk.refl _) (.cons Wk.tok (.cons Wk.nil (.cons Wk.nil (.cons (Wk.refl _) (.cons (Wk.refl _) .nil))))))))))))))))))) .nil)) ⟨(ids_V x7), ⟨(ids_TypX (Typ.mk 7 0 (Term.mk 0 false 0 0 [] [] 0 [] [] [] 0) ([(a0.f_0), (a0.f_1)] : (List Typ)) [] [] false [])), trivial⟩⟩ (s_check_Is x7 (Typ.mk 7 0 (Term.mk 0 false 0 0 [] [] 0 [] [] [] 0) ([(a0.f_0), (a0.f_1)] : (List Typ)) [] [] false []) x10 hx10) (ids_tup_cons rfl (ids_tup_cons rfl (ids_tup_cons rfl ids_tup_nil)))) ?_
   refine sM rfl rfl rfl rfl rfl ?_
   refine sS rfl rfl rfl (op1_ext rfl rfl rfl) ?_
   refine sS rfl rfl rfl (op1_ext rfl rfl rfl) ?_
   refine sS rfl rfl rfl (op1_ext rfl rfl rfl) ?_
   refine sA rfl rfl rfl rfl rfl ?_
   refine sA rfl rfl rfl rfl rfl ?_
   refine sA rfl rfl rfl rfl rfl (ao_nil ?_)
   change BW _ _ _ _ _
   refine bw_seq ?_
   refine bw_seqJ (ι := Bool) (fun i => law07_CheckParts_j1 (fun y0 y1 y2 => g1_f (y0, y1, y2)) a0 a2 s1 s2 s3 x7 x8 x10 i = some r) (fun i => [(1, (PV.sl none 11 (List.map ofTerm a1))), (2, (BO a2)), (7, (PV.rf 1 0)), (8, (PV.rf 2 0)), (9, (PV.sl (some 3) 1 (List.map ofV s1))), (10, (BO s2)), (11, (I64 (((s3 : Nat) : Int)))), (12, (ofV x7)), (13, (BO x8.1)), (15, (I64 x8.2.2)), (21, (I64 x10.2.2)), (88, (BO i))]) (fun i => [.dead, .box 34 [(I64 ((a0.f_0).kind)), (I64 ((a0.f_0).of)), (I64 (((a0.f_0).only).kind)), (BO (((a0.f_0).only).bool)), (I64 (((a0.f_0).only).int)), (PV.v (.float .f64 ((a0.f_0).only).float)), (ofStr ((a0.f_0).only).text), (PV.sl none 1 (List.map ofB ((a0.f_0).only).bytes)), (PV.v (.int .u64 ((a0.f_0).only).ref)), (PV.sl none 11 (List.map ofTerm ((a0.f_0).only).list)), (PV.sl none 12 (List.map ofEntry ((a0.f_0).only).fields)), (ofStr ((a0.f_0).only).cls), (I64 (((a0.f_0).only).ver)), (PV.sl none 18 (List.map ofTyp (a0.f_0).parts)), (PV.sl none 1 (List.map ofStr (a0.f_0).names)), (PV.sl none 1 (List.map ofBool (a0.f_0).lacks)), (BO ((a0.f_0).opn)), (ofStr (a0.f_0).cls)], .box 34 [(I64 ((a0.f_1).kind)), (I64 ((a0.f_1).of)), (I64 (((a0.f_1).only).kind)), (BO (((a0.f_1).only).bool)), (I64 (((a0.f_1).only).int)), (PV.v (.float .f64 ((a0.f_1).only).float)), (ofStr ((a0.f_1).only).text), (PV.sl none 1 (List.map ofB ((a0.f_1).only).bytes)), (PV.v (.int .u64 ((a0.f_1).only).ref)), (PV.sl none 11 (List.map ofTerm ((a0.f_1).only).list)), (PV.sl none 12 (List.map ofEntry ((a0.f_1).only).fields)), (ofStr ((a0.f_1).only).cls), (I64 (((a0.f_1).only).ver)), (PV.sl none 18 (List.map ofTyp (a0.f_1).parts)), (PV.sl none 1 (List.map ofStr (a0.f_1).names)), (PV.sl none 1 (List.map ofBool (a0.f_1).lacks)), (BO ((a0.f_1).opn)), (ofStr (a0.f_1).cls)], .arr 20 (s1).length]) ?_ ?_ ?_
   ·intro i; exact ⟨Nat.le_of_ble_eq_true rfl, ⟨(il_nil (ids_slM ids_Term _)), ⟨(il_nil rfl), ⟨(il_rf rfl), ⟨(il_rf rfl), ⟨(il_tok rfl (ids_map ids_V _)), ⟨(il_nil rfl), ⟨(il_nil rfl), ⟨(il_nil (ids_V _)), ⟨(il_nil rfl), ⟨(il_nil rfl), ⟨(il_nil rfl), ⟨(il_nil rfl), trivial⟩⟩⟩⟩⟩⟩⟩⟩⟩⟩⟩⟩, ⟨⟨(il_nil rfl), ⟨(il_nil rfl), ⟨(il_nil rfl), ⟨(il_nil rfl), ⟨(il_nil rfl), ⟨(il_nil rfl), ⟨(il_nil rfl), ⟨(il_nil (ids_slM (fun _ => rfl) _)), ⟨(il_nil rfl), ⟨(il_nil (ids_slM ids_Term _)), ⟨(il_nil (ids_slM ids_Entry _)), ⟨(il_nil rfl), ⟨(il_nil rfl), ⟨(il_nil (ids_slM ids_Typ _)), ⟨(il_nil (ids_slM (fun _ => rfl) _)), ⟨(il_nil (ids_slM (fun _ => rfl) _)), ⟨(il_nil rfl), ⟨(il_nil rfl), trivial⟩⟩⟩⟩⟩⟩⟩⟩⟩⟩⟩⟩⟩⟩⟩⟩⟩⟩, ⟨⟨(il_nil rfl), ⟨(il_nil rfl), ⟨(il_nil rfl), ⟨(il_nil rfl), ⟨(il_nil rfl), ⟨(il_nil rfl), ⟨(il_nil rfl), ⟨(il_nil (ids_slM (fun _ => rfl) _)), ⟨(il_nil rfl), ⟨(il_nil (ids_slM ids_Term _)), ⟨(il_nil (ids_slM ids_Entry _)), ⟨(il_nil rfl), ⟨(il_nil rfl), ⟨(il_nil (ids_slM ids_Typ _)), ⟨(il_nil (ids_slM (fun _ => rfl) _)), ⟨(il_nil (ids_slM (fun _ => rfl) _)), ⟨(il_nil rfl), ⟨(il_nil rfl), trivial⟩⟩⟩⟩⟩⟩⟩⟩⟩⟩⟩⟩⟩⟩⟩⟩⟩⟩, trivial⟩⟩⟩
   ·rintro s11 h; replace h : law07_CheckParts_j1 (fun y0 y1 y2 => g1_f (y0, y1, y2)) a0 a2 s1 s2 s3 x7 x8 x10 s11 = some r := h; unfold law07_CheckParts_j1 at h
    change BW _ _ _ ⟨[(1, (PV.sl none 11 (List.map ofTerm a1))), (2, (BO a2)), (7, (PV.rf 1 0)), (8, (PV.rf 2 0)), (9, (PV.sl (some 3) 1 (List.map ofV s1))), (10, (BO s2)), (11, (I64 (((s3 : Nat) : Int)))), (12, (ofV x7)), (13, (BO x8.1)), (15, (I64 x8.2.2)), (21, (I64 x10.2.2)), (88, (BO s11))], [.dead, .box 34 [(I64 ((a0.f_0).kind)), (I64 ((a0.f_0).of)), (I64 (((a0.f_0).only).kind)), (BO (((a0.f_0).only).bool)), (I64 (((a0.f_0).only).int)), (PV.v (.float .f64 ((a0.f_0).only).float)), (ofStr ((a0.f_0).only).text), (PV.sl none 1 (List.map ofB ((a0.f_0).only).bytes)), (PV.v (.int .u64 ((a0.f_0).only).ref)), (PV.sl none 11 (List.map ofTerm ((a0.f_0).only).list)), (PV.sl none 12 (List.map ofEntry ((a0.f_0).only).fields)), (ofStr ((a0.f_0).only).cls), (I64 (((a0.f_0).only).ver)), (PV.sl none 18 (List.map ofTyp (a0.f_0).parts)), (PV.sl none 1 (List.map ofStr (a0.f_0).names)), (PV.sl none 1 (List.map ofBool (a0.f_0).lacks)), (BO ((a0.f_0).opn)), (ofStr (a0.f_0).cls)], .box 34 [(I64 ((a0.f_1).kind)), (I64 ((a0.f_1).of)), (I64 (((a0.f_1).only).kind)), (BO (((a0.f_1).only).bool)), (I64 (((a0.f_1).only).int)), (PV.v (.float .f64 ((a0.f_1).only).float)), (ofStr ((a0.f_1).only).text), (PV.sl none 1 (List.map ofB ((a0.f_1).only).bytes)), (PV.v (.int .u64 ((a0.f_1).only).ref)), (PV.sl none 11 (List.map ofTerm ((a0.f_1).only).list)), (PV.sl none 12 (List.map ofEntry ((a0.f_1).only).fields)), (ofStr ((a0.f_1).only).cls), (I64 (((a0.f_1).only).ver)), (PV.sl none 18 (List.map ofTyp (a0.f_1).parts)), (PV.sl none 1 (List.map ofStr (a0.f_1).names)), (PV.sl none 1 (List.map ofBool (a0.f_1).lacks)), (BO ((a0.f_1).opn)), (ofStr (a0.f_1).cls)], .arr 20 (s1).length], _⟩ _
    refine bw_cond rfl ?_ ?_
    ·intro hc12; replace h := ocond_t hc12 h
     refine bR ?_
     refine sM rfl rfl rfl rfl rfl ?_
     refine sS rfl rfl rfl ((op1_cmp rfl rfl rfl rfl).cast (y := (BO ((x10.2.2 == 70)))) rfl rfl) ?_
     refine sA rfl rfl rfl rfl rfl (ao_nil ?_)
     change BW _ _ _ _ _
     refine bw_ret ?_
     change ∃ xs, _ = some xs ∧ EndOk _ _ _ _
     obtain rfl := Option.some.inj h
     exact ⟨_, rfl, endOk0 (y := (BO ((x10.2.2 == 70)))) (Wk.refl _) rfl ⟨rfl, rfl⟩⟩
    ·intro hc12; replace h := ocond_f hc12 h
     refine bw_skip ?_
     change BW _ _ _ _ _
     refine bR ?_
     refine sM rfl rfl rfl rfl rfl ?_
     refine sS rfl rfl rfl (op1_build (cs := [(ofStr ([97] : Str)), (ofV x7)]) st_43 inf_43 rfl rfl (by simp only [List.all_cons, List.all_nil, cok_V, cok_RecP, Bool.and_true, Bool.true_and]; try rfl) (by simp only [afill, List.getElem?_cons_zero, List.getElem?_cons_succ, cells_V, cells_RecP]; rfl)) ?_
     refine sS rfl rfl rfl ((op1_mkI Try.underlying4 rfl rfl rfl).wk ((Wk.iface (Wk.refl _)).trans (Wk.eq (mk_bool _).symm))) ?_
     refine sS rfl rfl rfl (op1_build (cs := [(ofStr ([122] : Str)), (ofV (V.bool true))]) st_43 inf_43 rfl rfl (by simp only [List.all_cons, List.all_nil, cok_V, cok_RecP, Bool.and_true, Bool.true_and]; try rfl) (by simp only [afill, List.getElem?_cons_zero, List.getElem?_cons_succ, cells_V, cells_RecP]; rfl)) ?_
     refine sS rfl rfl rfl ((op1_bslice (xs := [(PV.agg [(ofStr ([97] : Str)), (ofV x7)]), (PV.agg [(ofStr ([122] : Str)), (ofV (V.bool true))])]) Try.underlying45 inf_43 rfl rfl rfl (by simp only [List.all_cons, List.all_nil, cok_V, cok_RecP, Bool.and_true, Bool.true_and]; try rfl) (by simp only [List.all_cons, List.all_nil, csz_V, csz_RecP, cells_V, cells_RecP]; try rfl) rfl ⟨Nat.le_of_ble_eq_true rfl, Nat.le_of_ble_eq_true rfl⟩ (by simp only [zipN, afill, List.flatMap_cons, List.flatMap_nil, cells_V, cells_RecP]; try rfl)).cast (y := (PV.sl (some 4) 2 (List.map ofFld ([(([97] : Str), x7), (([122] : Str), (V.bool true))] : (List (Str × V)))))) rfl rfl) ?_
     refine sS rfl rfl rfl ((op1_mkI Try.underlying45 rfl rfl rfl).wk ((Wk.iface Wk.tok).trans (Wk.eq (mk_dict _).symm))) ?_
     refine sS rfl rfl rfl ((op1_bslice (xs := [(ofStr ([97] : Str))]) Try.underlying31 inf_9 rfl rfl rfl rfl rfl rfl ⟨Nat.le_of_ble_eq_true rfl, Nat.le_of_ble_eq_true rfl⟩ rfl).cast (y := (PV.sl (some 5) 1 (List.map ofStr ([([97] : Str)] : (List Str))))) rfl rfl) ?_
     refine sS rfl rfl rfl ((op1_bslice (xs := [(BO false)]) Try.underlying32 inf_4 rfl rfl rfl rfl rfl rfl ⟨Nat.le_of_ble_eq_true rfl, Nat.le_of_ble_eq_true rfl⟩ rfl).cast (y := (PV.sl (some 6) 1 (List.map ofBool ([false] : (List Bool))))) rfl rfl) ?_
     refine sS rfl rfl rfl ((op1_ldRA inf_34 Try.underlying34 rfl rfl rfl rfl rfl rfl)) ?_
     refine sS rfl rfl rfl ((op1_bslice (xs := [(PV.agg [(I64 ((a0.f_0).kind)), (I64 ((a0.f_0).of)), (I64 (((a0.f_0).only).kind)), (BO (((a0.f_0).only).bool)), (I64 (((a0.f_0).only).int)), (PV.v (.float .f64 ((a0.f_0).only).float)), (ofStr ((a0.f_0).only).text), (PV.sl none 1 (List.map ofB ((a0.f_0).only).bytes)), (PV.v (.int .u64 ((a0.f_0).only).ref)), (PV.sl none 11 (List.map ofTerm ((a0.f_0).only).list)), (PV.sl none 12 (List.map ofEntry ((a0.f_0).only).fields)), (ofStr ((a0.f_0).only).cls), (I64 (((a0.f_0).only).ver)), (PV.sl none 18 (List.map ofTyp (a0.f_0).parts)), (PV.sl none 1 (List.map ofStr (a0.f_0).names)), (PV.sl none 1 (List.map ofBool (a0.f_0).lacks)), (BO ((a0.f_0).opn)), (ofStr (a0.f_0).cls)])]) Try.underlying30 inf_34 rfl rfl rfl rfl rfl rfl ⟨Nat.le_of_ble_eq_true rfl, Nat.le_of_ble_eq_true rfl⟩ rfl).cast (y := (PV.sl (some 7) 18 (List.map ofTyp ([(a0.f_0)] : (List Typ))))) (by simp only [List.map_cons, List.map_nil, ofTyp_eq]; try rfl) rfl) ?_
     refine sM rfl rfl rfl rfl rfl ?_
     refine sS rfl rfl rfl (op1_build (cs := [(I64 6), (I64 0), (I64 0), (BO false), (I64 0), (PV.v (.float .f64 0)), (ofStr []), (PV.v (.slice none 0 0)), (PV.v (.int .u64 0)), (PV.v (.slice none 0 0)), (PV.v (.slice none 0 0)), (ofStr []), (I64 0), (PV.sl (some 7) 18 (List.map ofTyp ([(a0.f_0)] : (List Typ)))), (PV.sl (some 5) 1 (List.map ofStr ([([97] : Str)] : (List Str)))), (PV.sl (some 6) 1 (List.map ofBool ([false] : (List Bool)))), (BO a2), (ofStr [])]) st_34 inf_34 rfl rfl rfl rfl) ?_
     obtain ⟨x13, hx13, h⟩ := obind h
     refine sS rfl rfl rfl (op1_pcall rfl en_10 rfl (.cons (Wk.refl _) (.cons (Wk.agg (.cons (Wk.refl _) (.cons (Wk.refl _) (.cons (Wk.refl _) (.cons (Wk.refl _) (.cons (Wk.refl _) (.cons (Wk.refl _) (.cons (Wk.refl _) (.cons Wk.nil (.cons (Wk.refl _) (.cons Wk.nil (.cons Wk.nil (.cons (Wk.refl _) (.cons (Wk.refl _) (.cons Wk.tok (.cons Wk.tok (.cons Wk.tok (.cons (Wk.refl _) (.cons (Wk.refl _) .nil))))))))))))))))))) .nil)) ⟨(ids_V (V.dict ([(([97] : Str), x7), (([122] : Str), (V.bool true))] : (List (Str × V))))), ⟨(ids_TypX (Typ.mk 6 0 (Term.mk 0 false 0 0 [] [] 0 [] [] [] 0) ([(a0.f_0)] : (List Typ)) ([([97] : Str)] : (List Str)) ([false] : (List Bool)) a2 [])), trivial⟩⟩ (s_check_Is (V.dict ([(([97] : Str), x7), (([122] : Str), (V.bool true))] : (List (Str × V)))) (Typ.mk 6 0 (Term.mk 0 false 0 0 [] [] 0 [] [] [] 0) ([(a0.f_0)] : (List Typ)) ([([97] : Str)] : (List Str)) ([false] : (List Bool)) a2 []) x13 hx13) (ids_tup_cons rfl (ids_tup_cons rfl (ids_tup_cons rfl ids_tup_nil)))) ?_
     refine sM rfl rfl rfl rfl rfl ?_
     refine sS rfl rfl rfl (op1_ext rfl rfl rfl) ?_
     refine sS rfl rfl rfl (op1_ext rfl rfl rfl) ?_
     refine sS rfl rfl rfl (op1_ext rfl rfl rfl) ?_
     refine sA rfl rfl rfl rfl rfl ?_
     refine sA rfl rfl rfl rfl rfl ?_
     refine sA rfl rfl rfl rfl rfl (ao_nil ?_)
     change BW _ _ _ _ _
     refine bw_seq ?_
     refine bw_seqJ (ι := Bool) (fun i => law07_CheckParts_j2 (fun y0 y1 y2 => g1_f (y0, y1, y2)) s1 s2 s3 x7 x8 x13 i = some r) (fun i => [(1, (PV.sl none 11 (List.map ofTerm a1))), (2, (BO a2)), (7, (PV.rf 1 0)), (8, (PV.rf 2 0)), (9, (PV.sl (some 3) 1 (List.map ofV s1))), (10, (BO s2)), (11, (I64 (((s3 : Nat) : Int)))), (12, (ofV x7)), (13, (BO x8.1)), (15, (I64 x8.2.2)), (24, (I64 x13.2.2)), (121, (BO i))]) (fun i => [.dead, .box 34 [(I64 ((a0.f_0).kind)), (I64 ((a0.f_0).of)), (I64 (((a0.f_0).only).kind)), (BO (((a0.f_0).only).bool)), (I64 (((a0.f_0).only).int)), (PV.v (.float .f64 ((a0.f_0).only).float)), (ofStr ((a0.f_0).only).text), (PV.sl none 1 (List.map ofB ((a0.f_0).only).bytes)), (PV.v (.int .u64 ((a0.f_0).only).ref)), (PV.sl none 11 (List.map ofTerm ((a0.f_0).only).list)), (PV.sl none 12 (List.map ofEntry ((a0.f_0).only).fields)), (ofStr ((a0.f_0).only).cls), (I64 (((a0.f_0).only).ver)), (PV.sl none 18 (List.map ofTyp (a0.f_0).parts)), (PV.sl none 1 (List.map ofStr (a0.f_0).names)), (PV.sl none 1 (List.map ofBool (a0.f_0).lacks)), (BO ((a0.f_0).opn)), (ofStr (a0.f_0).cls)], .box 34 [(I64 ((a0.f_1).kind)), (I64 ((a0.f_1).of)), (I64 (((a0.f_1).only).kind)), (BO (((a0.f_1).only).bool)), (I64 (((a0.f_1).only).int)), (PV.v (.float .f64 ((a0.f_1).only).float)), (ofStr ((a0.f_1).only).text), (PV.sl none 1 (List.map ofB ((a0.f_1).only).bytes)), (PV.v (.int .u64 ((a0.f_1).only).ref)), (PV.sl none 11 (List.map ofTerm ((a0.f_1).only).list)), (PV.sl none 12 (List.map ofEntry ((a0.f_1).only).fields)), (ofStr ((a0.f_1).only).cls), (I64 (((a0.f_1).only).ver)), (PV.sl none 18 (List.map ofTyp (a0.f_1).parts)), (PV.sl none 1 (List.map ofStr (a0.f_1).names)), (PV.sl none 1 (List.map ofBool (a0.f_1).lacks)), (BO ((a0.f_1).opn)), (ofStr (a0.f_1).cls)], .arr 20 (s1).length]) ?_ ?_ ?_
     ·intro i; exact ⟨Nat.le_of_ble_eq_true rfl, ⟨(il_nil (ids_slM ids_Term _)), ⟨(il_nil rfl), ⟨(il_rf rfl), ⟨(il_rf rfl), ⟨(il_tok rfl (ids_map ids_V _)), ⟨(il_nil rfl), ⟨(il_nil rfl), ⟨(il_nil (ids_V _)), ⟨(il_nil rfl), ⟨(il_nil rfl), ⟨(il_nil rfl), ⟨(il_nil rfl), trivial⟩⟩⟩⟩⟩⟩⟩⟩⟩⟩⟩⟩, ⟨⟨(il_nil rfl), ⟨(il_nil rfl), ⟨(il_nil rfl), ⟨(il_nil rfl), ⟨(il_nil rfl), ⟨(il_nil rfl), ⟨(il_nil rfl), ⟨(il_nil (ids_slM (fun _ => rfl) _)), ⟨(il_nil rfl), ⟨(il_nil (ids_slM ids_Term _)), ⟨(il_nil (ids_slM ids_Entry _)), ⟨(il_nil rfl), ⟨(il_nil rfl), ⟨(il_nil (ids_slM ids_Typ _)), ⟨(il_nil (ids_slM (fun _ => rfl) _)), ⟨(il_nil (ids_slM (fun _ => rfl) _)), ⟨(il_nil rfl), ⟨(il_nil rfl), trivial⟩⟩⟩⟩⟩⟩⟩⟩⟩⟩⟩⟩⟩⟩⟩⟩⟩⟩, ⟨⟨(il_nil rfl), ⟨(il_nil rfl), ⟨(il_nil rfl), ⟨(il_nil rfl), ⟨(il_nil rfl), ⟨(il_nil rfl), ⟨(il_nil rfl), ⟨(il_nil (ids_slM (fun _ => rfl) _)), ⟨(il_nil rfl), ⟨(il_nil (ids_slM ids_Term _)), ⟨(il_nil (ids_slM ids_Entry _)), ⟨(il_nil rfl), ⟨(il_nil rfl), ⟨(il_nil (ids_slM ids_Typ _)), ⟨(il_nil (ids_slM (fun _ => rfl) _)), ⟨(il_nil (ids_slM (fun _ => rfl) _)), ⟨(il_nil rfl), ⟨(il_nil rfl), trivial⟩⟩⟩⟩⟩⟩⟩⟩⟩⟩⟩⟩⟩⟩⟩⟩⟩⟩, trivial⟩⟩⟩
     ·rintro s14 h; replace h : law07_CheckParts_j2 (fun y0 y1 y2 => g1_f (y0, y1, y2)) s1 s2 s3 x7 x8 x13 s14 = some r := h; unfold law07_CheckParts_j2 at h
      change BW _ _ _ ⟨[(1, (PV.sl none 11 (List.map ofTerm a1))), (2, (BO a2)), (7, (PV.rf 1 0)), (8, (PV.rf 2 0)), (9, (PV.sl (some 3) 1 (List.map ofV s1))), (10, (BO s2)), (11, (I64 (((s3 : Nat) : Int)))), (12, (ofV x7)), (13, (BO x8.1)), (15, (I64 x8.2.2)), (24, (I64 x13.2.2)), (121, (BO s14))], [.dead, .box 34 [(I64 ((a0.f_0).kind)), (I64 ((a0.f_0).of)), (I64 (((a0.f_0).only).kind)), (BO (((a0.f_0).only).bool)), (I64 (((a0.f_0).only).int)), (PV.v (.float .f64 ((a0.f_0).only).float)), (ofStr ((a0.f_0).only).text), (PV.sl none 1 (List.map ofB ((a0.f_0).only).bytes)), (PV.v (.int .u64 ((a0.f_0).only).ref)), (PV.sl none 11 (List.map ofTerm ((a0.f_0).only).list)), (PV.sl none 12 (List.map ofEntry ((a0.f_0).only).fields)), (ofStr ((a0.f_0).only).cls), (I64 (((a0.f_0).only).ver)), (PV.sl none 18 (List.map ofTyp (a0.f_0).parts)), (PV.sl none 1 (List.map ofStr (a0.f_0).names)), (PV.sl none 1 (List.map ofBool (a0.f_0).lacks)), (BO ((a0.f_0).opn)), (ofStr (a0.f_0).cls)], .box 34 [(I64 ((a0.f_1).kind)), (I64 ((a0.f_1).of)), (I64 (((a0.f_1).only).kind)), (BO (((a0.f_1).only).bool)), (I64 (((a0.f_1).only).int)), (PV.v (.float .f64 ((a0.f_1).only).float)), (ofStr ((a0.f_1).only).text), (PV.sl none 1 (List.map ofB ((a0.f_1).only).bytes)), (PV.v (.int .u64 ((a0.f_1).only).ref)), (PV.sl none 11 (List.map ofTerm ((a0.f_1).only).list)), (PV.sl none 12 (List.map ofEntry ((a0.f_1).only).fields)), (ofStr ((a0.f_1).only).cls), (I64 (((a0.f_1).only).ver)), (PV.sl none 18 (List.map ofTyp (a0.f_1).parts)), (PV.sl none 1 (List.map ofStr (a0.f_1).names)), (PV.sl none 1 (List.map ofBool (a0.f_1).lacks)), (BO ((a0.f_1).opn)), (ofStr (a0.f_1).cls)], .arr 20 (s1).length], _⟩ _
      refine bw_cond rfl ?_ ?_
      ·intro hc15; replace h := ocond_t hc15 h
       refine bR ?_
       refine sA rfl rfl rfl rfl rfl (ao_nil ?_)
       change BW _ _ _ _ _
       refine bw_ret ?_
       change ∃ xs, _ = some xs ∧ EndOk _ _ _ _
       obtain rfl := Option.some.inj h
       exact ⟨_, rfl, endOk0 (y := (BO false)) (Wk.refl _) rfl ⟨rfl, rfl⟩⟩
      ·intro hc15; replace h := ocond_f hc15 h
       refine bw_skip ?_
       change BW _ _ _ _ _
       refine bw_seq ?_
       refine bw_seqJ (ι := Bool) (fun i => law07_CheckParts_j3 (fun y0 y1 y2 => g1_f (y0, y1, y2)) s1 s2 s3 x7 x8 x13 i = some r) (fun i => [(1, (PV.sl none 11 (List.map ofTerm a1))), (2, (BO a2)), (7, (PV.rf 1 0)), (8, (PV.rf 2 0)), (9, (PV.sl (some 3) 1 (List.map ofV s1))), (10, (BO s2)), (11, (I64 (((s3 : Nat) : Int)))), (12, (ofV x7)), (13, (BO x8.1)), (15, (I64 x8.2.2)), (24, (I64 x13.2.2)), (127, (BO i))]) (fun i => [.dead, .box 34 [(I64 ((a0.f_0).kind)), (I64 ((a0.f_0).of)), (I64 (((a0.f_0).only).kind)), (BO (((a0.f_0).only).bool)), (I64 (((a0.f_0).only).int)), (PV.v (.float .f64 ((a0.f_0).only).float)), (ofStr ((a0.f_0).only).text), (PV.sl none 1 (List.map ofB ((a0.f_0).only).bytes)), (PV.v (.int .u64 ((a0.f_0).only).ref)), (PV.sl none 11 (List.map ofTerm ((a0.f_0).only).list)), (PV.sl none 12 (List.map ofEntry ((a0.f_0).only).fields)), (ofStr ((a0.f_0).only).cls), (I64 (((a0.f_0).only).ver)), (PV.sl none 18 (List.map ofTyp (a0.f_0).parts)), (PV.sl none 1 (List.map ofStr (a0.f_0).names)), (PV.sl none 1 (List.map ofBool (a0.f_0).lacks)), (BO ((a0.f_0).opn)), (ofStr (a0.f_0).cls)], .box 34 [(I64 ((a0.f_1).kind)), (I64 ((a0.f_1).of)), (I64 (((a0.f_1).only).kind)), (BO (((a0.f_1).only).bool)), (I64 (((a0.f_1).only).int)), (PV.v (.float .f64 ((a0.f_1).only).float)), (ofStr ((a0.f_1).only).text), (PV.sl none 1 (List.map ofB ((a0.f_1).only).bytes)), (PV.v (.int .u64 ((a0.f_1).only).ref)), (PV.sl none 11 (List.map ofTerm ((a0.f_1).only).list)), (PV.sl none 12 (List.map ofEntry ((a0.f_1).only).fields)), (ofStr ((a0.f_1).only).cls), (I64 (((a0.f_1).only).ver)), (PV.sl none 18 (List.map ofTyp (a0.f_1).parts)), (PV.sl none 1 (List.map ofStr (a0.f_1).names)), (PV.sl none 1 (List.map ofBool (a0.f_1).lacks)), (BO ((a0.f_1).opn)), (ofStr (a0.f_1).cls)], .arr 20 (s1).length]) ?_ ?_ ?_
       ·intro i; exact ⟨Nat.le_of_ble_eq_true rfl, ⟨(il_nil (ids_slM ids_Term _)), ⟨(il_nil rfl), ⟨(il_rf rfl), ⟨(il_rf rfl), ⟨(il_tok rfl (ids_map ids_V _)), ⟨(il_nil rfl), ⟨(il_nil rfl), ⟨(il_nil (ids_V _)), ⟨(il_nil rfl), ⟨(il_nil rfl), ⟨(il_nil rfl), ⟨(il_nil rfl), trivial⟩⟩⟩⟩⟩⟩⟩⟩⟩⟩⟩⟩, ⟨⟨(il_nil rfl), ⟨(il_nil rfl), ⟨(il_nil rfl), ⟨(il_nil rfl), ⟨(il_nil rfl), ⟨(il_nil rfl), ⟨(il_nil rfl), ⟨(il_nil (ids_slM (fun _ => rfl) _)), ⟨(il_nil rfl), ⟨(il_nil (ids_slM ids_Term _)), ⟨(il_nil (ids_slM ids_Entry _)), ⟨(il_nil rfl), ⟨(il_nil rfl), ⟨(il_nil (ids_slM ids_Typ _)), ⟨(il_nil (ids_slM (fun _ => rfl) _)), ⟨(il_nil (ids_slM (fun _ => rfl) _)), ⟨(il_nil rfl), ⟨(il_nil rfl), trivial⟩⟩⟩⟩⟩⟩⟩⟩⟩⟩⟩⟩⟩⟩⟩⟩⟩⟩, ⟨⟨(il_nil rfl), ⟨(il_nil rfl), ⟨(il_nil rfl), ⟨(il_nil rfl), ⟨(il_nil rfl), ⟨(il_nil rfl), ⟨(il_nil rfl), ⟨(il_nil (ids_slM (fun _ => rfl) _)), ⟨(il_nil rfl), ⟨(il_nil (ids_slM ids_Term _)), ⟨(il_nil (ids_slM ids_Entry _)), ⟨(il_nil rfl), ⟨(il_nil rfl), ⟨(il_nil (ids_slM ids_Typ _)), ⟨(il_nil (ids_slM (fun _ => rfl) _)), ⟨(il_nil (ids_slM (fun _ => rfl) _)), ⟨(il_nil rfl), ⟨(il_nil rfl), trivial⟩⟩⟩⟩⟩⟩⟩⟩⟩⟩⟩⟩⟩⟩⟩⟩⟩⟩, trivial⟩⟩⟩
       ·rintro s16 h; replace h : law07_CheckParts_j3 (fun y0 y1 y2 => g1_f (y0, y1, y2)) s1 s2 s3 x7 x8 x13 s16 = some r := h; unfold law07_CheckParts_j3 at h
        change BW _ _ _ ⟨[(1, (PV.sl none 11 (List.map ofTerm a1))), (2, (BO a2)), (7, (PV.rf 1 0)), (8, (PV.rf 2 0)), (9, (PV.sl (some 3) 1 (List.map ofV s1))), (10, (BO s2)), (11, (I64 (((s3 : Nat) : Int)))), (12, (ofV x7)), (13, (BO x8.1)), (15, (I64 x8.2.2)), (24, (I64 x13.2.2)), (127, (BO s16))], [.dead, .box 34 [(I64 ((a0.f_0).kind)), (I64 ((a0.f_0).of)), (I64 (((a0.f_0).only).kind)), (BO (((a0.f_0).only).bool)), (I64 (((a0.f_0).only).int)), (PV.v (.float .f64 ((a0.f_0).only).float)), (ofStr ((a0.f_0).only).text), (PV.sl none 1 (List.map ofB ((a0.f_0).only).bytes)), (PV.v (.int .u64 ((a0.f_0).only).ref)), (PV.sl none 11 (List.map ofTerm ((a0.f_0).only).list)), (PV.sl none 12 (List.map ofEntry ((a0.f_0).only).fields)), (ofStr ((a0.f_0).only).cls), (I64 (((a0.f_0).only).ver)), (PV.sl none 18 (List.map ofTyp (a0.f_0).parts)), (PV.sl none 1 (List.map ofStr (a0.f_0).names)), (PV.sl none 1 (List.map ofBool (a0.f_0).lacks)), (BO ((a0.f_0).opn)), (ofStr (a0.f_0).cls)], .box 34 [(I64 ((a0.f_1).kind)), (I64 ((a0.f_1).of)), (I64 (((a0.f_1).only).kind)), (BO (((a0.f_1).only).bool)), (I64 (((a0.f_1).only).int)), (PV.v (.float .f64 ((a0.f_1).only).float)), (ofStr ((a0.f_1).only).text), (PV.sl none 1 (List.map ofB ((a0.f_1).only).bytes)), (PV.v (.int .u64 ((a0.f_1).only).ref)), (PV.sl none 11 (List.map ofTerm ((a0.f_1).only).list)), (PV.sl none 12 (List.map ofEntry ((a0.f_1).only).fields)), (ofStr ((a0.f_1).only).cls), (I64 (((a0.f_1).only).ver)), (PV.sl none 18 (List.map ofTyp (a0.f_1).parts)), (PV.sl none 1 (List.map ofStr (a0.f_1).names)), (PV.sl none 1 (List.map ofBool (a0.f_1).lacks)), (BO ((a0.f_1).opn)), (ofStr (a0.f_1).cls)], .arr 20 (s1).length], _⟩ _
        refine bw_cond rfl ?_ ?_
        ·intro hc17; replace h := ocond_t hc17 h
         refine bR ?_
         refine sM rfl rfl rfl rfl rfl ?_
         refine sS rfl rfl rfl ((op1_cmp rfl rfl rfl rfl).cast (y := (BO ((x13.2.2 == 70)))) rfl rfl) ?_
         refine sM rfl rfl rfl rfl rfl ?_
         refine ao_cases (t := 130) rfl ?_ ?_
         ·intro hb18; replace h := ocond_t hb18 h
          refine ao_no rfl rfl rfl rfl rfl rfl ?_
          refine ao_no rfl rfl rfl rfl rfl rfl ?_
          refine sS rfl rfl rfl (op1_pickT rfl rfl rfl) ?_
          refine sA rfl rfl rfl rfl rfl (ao_nil ?_)
          change BW _ _ _ _ _
          refine bw_ret ?_
          change ∃ xs, _ = some xs ∧ EndOk _ _ _ _
          obtain rfl := Option.some.inj h
          exact ⟨_, rfl, endOk0 (y := (BO true)) (Wk.refl _) rfl ⟨rfl, rfl⟩⟩
         ·intro hb18; replace h := ocond_f hb18 h
          refine ao_yes rfl rfl rfl rfl rfl rfl (op1_move rfl rfl) ?_
          refine ao_yes rfl rfl rfl rfl rfl rfl ((op1_cmp rfl rfl rfl rfl).cast (y := (BO ((x13.2.2 == 2)))) rfl rfl) ?_
          refine sS rfl rfl rfl (op1_pickF rfl rfl rfl) ?_
          refine sA rfl rfl rfl rfl rfl (ao_nil ?_)
          change BW _ _ _ _ _
          refine bw_ret ?_
          change ∃ xs, _ = some xs ∧ EndOk _ _ _ _
          obtain rfl := Option.some.inj h
          exact ⟨_, rfl, endOk0 (y := (BO ((x13.2.2 == 2)))) (Wk.refl _) rfl ⟨rfl, rfl⟩⟩
        ·intro hc17; replace h := ocond_f hc17 h
         refine bw_skip ?_
         change BW _ _ _ _ _
         refine bw_seqJ (ι := Bool) (fun i => law07_CheckParts_j4 (fun y0 y1 y2 => g1_f (y0, y1, y2)) s1 s3 x7 i = some r) (fun i => [(1, (PV.sl none 11 (List.map ofTerm a1))), (2, (BO a2)), (7, (PV.rf 1 0)), (8, (PV.rf 2 0)), (9, (PV.sl (some 3) 1 (List.map ofV s1))), (10, (BO i)), (11, (I64 (((s3 : Nat) : Int)))), (12, (ofV x7))]) (fun i => [.dead, .box 34 [(I64 ((a0.f_0).kind)), (I64 ((a0.f_0).of)), (I64 (((a0.f_0).only).kind)), (BO (((a0.f_0).only).bool)), (I64 (((a0.f_0).only).int)), (PV.v (.float .f64 ((a0.f_0).only).float)), (ofStr ((a0.f_0).only).text), (PV.sl none 1 (List.map ofB ((a0.f_0).only).bytes)), (PV.v (.int .u64 ((a0.f_0).only).ref)), (PV.sl none 11 (List.map ofTerm ((a0.f_0).only).list)), (PV.sl none 12 (List.map ofEntry ((a0.f_0).only).fields)), (ofStr ((a0.f_0).only).cls), (I64 (((a0.f_0).only).ver)), (PV.sl none 18 (List.map ofTyp (a0.f_0).parts)), (PV.sl none 1 (List.map ofStr (a0.f_0).names)), (PV.sl none 1 (List.map ofBool (a0.f_0).lacks)), (BO ((a0.f_0).opn)), (ofStr (a0.f_0).cls)], .box 34 [(I64 ((a0.f_1).kind)), (I64 ((a0.f_1).of)), (I64 (((a0.f_1).only).kind)), (BO (((a0.f_1).only).bool)), (I64 (((a0.f_1).only).int)), (PV.v (.float .f64 ((a0.f_1).only).float)), (ofStr ((a0.f_1).only).text), (PV.sl none 1 (List.map ofB ((a0.f_1).only).bytes)), (PV.v (.int .u64 ((a0.f_1).only).ref)), (PV.sl none 11 (List.map ofTerm ((a0.f_1).only).list)), (PV.sl none 12 (List.map ofEntry ((a0.f_1).only).fields)), (ofStr ((a0.f_1).only).cls), (I64 (((a0.f_1).only).ver)), (PV.sl none 18 (List.map ofTyp (a0.f_1).parts)), (PV.sl none 1 (List.map ofStr (a0.f_1).names)), (PV.sl none 1 (List.map ofBool (a0.f_1).lacks)), (BO ((a0.f_1).opn)), (ofStr (a0.f_1).cls)], .arr 20 (s1).length]) ?_ ?_ ?_
         ·intro i; exact ⟨Nat.le_of_ble_eq_true rfl, ⟨(il_nil (ids_slM ids_Term _)), ⟨(il_nil rfl), ⟨(il_rf rfl), ⟨(il_rf rfl), ⟨(il_tok rfl (ids_map ids_V _)), ⟨(il_nil rfl), ⟨(il_nil rfl), ⟨(il_nil (ids_V _)), trivial⟩⟩⟩⟩⟩⟩⟩⟩, ⟨⟨(il_nil rfl), ⟨(il_nil rfl), ⟨(il_nil rfl), ⟨(il_nil rfl), ⟨(il_nil rfl), ⟨(il_nil rfl), ⟨(il_nil rfl), ⟨(il_nil (ids_slM (fun _ => rfl) _)), ⟨(il_nil rfl), ⟨(il_nil (ids_slM ids_Term _)), ⟨(il_nil (ids_slM ids_Entry _)), ⟨(il_nil rfl), ⟨(il_nil rfl), ⟨(il_nil (ids_slM ids_Typ _)), ⟨(il_nil (ids_slM (fun _ => rfl) _)), ⟨(il_nil (ids_slM (fun _ => rfl) _)), ⟨(il_nil rfl), ⟨(il_nil rfl), trivial⟩⟩⟩⟩⟩⟩⟩⟩⟩⟩⟩⟩⟩⟩⟩⟩⟩⟩, ⟨⟨(il_nil rfl), ⟨(il_nil rfl), ⟨(il_nil rfl), ⟨(il_nil rfl), ⟨(il_nil rfl), ⟨(il_nil rfl), ⟨(il_nil rfl), ⟨(il_nil (ids_slM (fun _ => rfl) _)), ⟨(il_nil rfl), ⟨(il_nil (ids_slM ids_Term _)), ⟨(il_nil (ids_slM ids_Entry _)), ⟨(il_nil rfl), ⟨(il_nil rfl), ⟨(il_nil (ids_slM ids_Typ _)), ⟨(il_nil (ids_slM (fun _ => rfl) _)), ⟨(il_nil (ids_slM (fun _ => rfl) _)), ⟨(il_nil rfl), ⟨(il_nil rfl), trivial⟩⟩⟩⟩⟩⟩⟩⟩⟩⟩⟩⟩⟩⟩⟩⟩⟩⟩, trivial⟩⟩⟩
         ·rintro s19 h; replace h : law07_CheckParts_j4 (fun y0 y1 y2 => g1_f (y0, y1, y2)) s1 s3 x7 s19 = some r := h; unfold law07_CheckParts_j4 at h
          change BW _ _ _ ⟨[(1, (PV.sl none 11 (List.map ofTerm a1))), (2, (BO a2)), (7, (PV.rf 1 0)), (8, (PV.rf 2 0)), (9, (PV.sl (some 3) 1 (List.map ofV s1))), (10, (BO s19)), (11, (I64 (((s3 : Nat) : Int)))), (12, (ofV x7))], [.dead, .box 34 [(I64 ((a0.f_0).kind)), (I64 ((a0.f_0).of)), (I64 (((a0.f_0).only).kind)), (BO (((a0.f_0).only).bool)), (I64 (((a0.f_0).only).int)), (PV.v (.float .f64 ((a0.f_0).only).float)), (ofStr ((a0.f_0).only).text), (PV.sl none 1 (List.map ofB ((a0.f_0).only).bytes)), (PV.v (.int .u64 ((a0.f_0).only).ref)), (PV.sl none 11 (List.map ofTerm ((a0.f_0).only).list)), (PV.sl none 12 (List.map ofEntry ((a0.f_0).only).fields)), (ofStr ((a0.f_0).only).cls), (I64 (((a0.f_0).only).ver)), (PV.sl none 18 (List.map ofTyp (a0.f_0).parts)), (PV.sl none 1 (List.map ofStr (a0.f_0).names)), (PV.sl none 1 (List.map ofBool (a0.f_0).lacks)), (BO ((a0.f_0).opn)), (ofStr (a0.f_0).cls)], .box 34 [(I64 ((a0.f_1).kind)), (I64 ((a0.f_1).of)), (I64 (((a0.f_1).only).kind)), (BO (((a0.f_1).only).bool)), (I64 (((a0.f_1).only).int)), (PV.v (.float .f64 ((a0.f_1).only).float)), (ofStr ((a0.f_1).only).text), (PV.sl none 1 (List.map ofB ((a0.f_1).only).bytes)), (PV.v (.int .u64 ((a0.f_1).only).ref)), (PV.sl none 11 (List.map ofTerm ((a0.f_1).only).list)), (PV.sl none 12 (List.map ofEntry ((a0.f_1).only).fields)), (ofStr ((a0.f_1).only).cls), (I64 (((a0.f_1).only).ver)), (PV.sl none 18 (List.map ofTyp (a0.f_1).parts)), (PV.sl none 1 (List.map ofStr (a0.f_1).names)), (PV.sl none 1 (List.map ofBool (a0.f_1).lacks)), (BO ((a0.f_1).opn)), (ofStr (a0.f_1).cls)], .arr 20 (s1).length], _⟩ _
          refine bw_region ?_
          refine sM rfl rfl rfl rfl rfl ?_
          refine sM rfl rfl rfl rfl rfl ?_
          refine sS rfl rfl rfl ((op1_bslice (xs := [(ofV x7)]) Try.underlying37 inf_20 rfl rfl rfl (by simp only [List.all_cons, List.all_nil, cok_V, cok_RecP, Bool.and_true, Bool.true_and]; try rfl) (by simp only [List.all_cons, List.all_nil, csz_V, csz_RecP, cells_V, cells_RecP]; try rfl) rfl ⟨Nat.le_of_ble_eq_true rfl, Nat.le_of_ble_eq_true rfl⟩ (by simp only [zipN, afill, List.flatMap_cons, List.flatMap_nil, cells_V, cells_RecP]; try rfl)).cast (y := (PV.sl (some 4) 1 (List.map ofV ([x7] : (List V))))) rfl rfl) ?_
          obtain ⟨x20, hx20, h⟩ := obind h
          refine sS rfl rfl rfl (op1_appM Try.underlying37 inf_20 rfl Try.underlying37 rfl rfl rfl rfl csz_V call1_V hx20 rfl) ?_
          refine sA rfl rfl rfl rfl rfl (ao_nil ?_)
          change BW _ _ _ _ _
          refine bw_region ?_
          refine sM rfl rfl rfl rfl rfl ?_
          refine sS rfl rfl rfl (op1_incN (k := s3) (c := 1) rfl rfl rfl (by omega)) ?_
          refine sA rfl rfl rfl rfl rfl (ao_nil ?_)
          exact ⟨rfl, (x20, s19, (s3 + 1)), h, ⟨(.cons .dead (.cons .same (.cons .same (.cons .same .nil)))), (sC rfl (sC rfl (sC rfl (sC rfl (sC rfl (sC rfl (sC rfl sub_nil)))))))⟩⟩
         ·refine bw_region ?_
          refine sM rfl rfl rfl rfl rfl ?_
          refine sM rfl rfl rfl rfl rfl ?_
          refine ao_cases (t := 135) rfl ?_ ?_
          ·intro hb21; replace h := ocond_t hb21 h
           refine ao_yes rfl rfl rfl rfl rfl rfl (op1_move rfl rfl) ?_
           refine ao_yes rfl rfl rfl rfl rfl rfl ((op1_cmp rfl rfl rfl rfl).cast (y := (BO ((x8.2.2 == 0)))) rfl rfl) ?_
           refine sS rfl rfl rfl (op1_pickT rfl rfl rfl) ?_
           refine sM rfl rfl rfl rfl rfl ?_
           refine ao_cases (t := 139) rfl ?_ ?_
           ·intro hb22; replace h := ocond_t hb22 h
            refine ao_yes rfl rfl rfl rfl rfl rfl (op1_move rfl rfl) ?_
            refine sS rfl rfl rfl (op1_pickT rfl rfl rfl) ?_
            refine sA rfl rfl rfl rfl rfl (ao_nil ?_)
            exact ⟨rfl, x8.1, h, ⟨(.cons .dead (.cons .same (.cons .same (.cons .same .nil)))), (sC rfl (sC rfl (sC rfl (sC rfl (sC rfl (sC rfl (sC rfl (sC rfl sub_nil))))))))⟩⟩
           ·intro hb22; replace h := ocond_f hb22 h
            refine ao_no rfl rfl rfl rfl rfl rfl ?_
            refine sS rfl rfl rfl (op1_pickF rfl rfl rfl) ?_
            refine sA rfl rfl rfl rfl rfl (ao_nil ?_)
            exact ⟨rfl, false, h, ⟨(.cons .dead (.cons .same (.cons .same (.cons .same .nil)))), (sC rfl (sC rfl (sC rfl (sC rfl (sC rfl (sC rfl (sC rfl (sC rfl sub_nil))))))))⟩⟩
          ·intro hb21; replace h := ocond_f hb21 h
           refine ao_no rfl rfl rfl rfl rfl rfl ?_
           refine ao_no rfl rfl rfl rfl rfl rfl ?_
           refine sS rfl rfl rfl (op1_pickF rfl rfl rfl) ?_
           refine sM rfl rfl rfl rfl rfl ?_
           refine ao_no rfl rfl rfl rfl rfl rfl ?_
           refine sS rfl rfl rfl (op1_pickF rfl rfl rfl) ?_
           refine sA rfl rfl rfl rfl rfl (ao_nil ?_)
           exact ⟨rfl, false, h, ⟨(.cons .dead (.cons .same (.cons .same (.cons .same .nil)))), (sC rfl (sC rfl (sC rfl (sC rfl (sC rfl (sC rfl (sC rfl (sC rfl sub_nil))))))))⟩⟩
       ·refine bw_region ?_
        refine sM rfl rfl rfl rfl rfl ?_
        refine sS rfl rfl rfl ((op1_cmp rfl rfl rfl rfl).cast (y := (BO ((x8.2.2 == 0)))) rfl rfl) ?_
        refine sM rfl rfl rfl rfl rfl ?_
        refine ao_cases (t := 124) rfl ?_ ?_
        ·intro hb23; replace h := ocond_t hb23 h
         refine ao_yes rfl rfl rfl rfl rfl rfl (op1_move rfl rfl) ?_
         refine ao_yes rfl rfl rfl rfl rfl rfl ((op1_cmp rfl rfl rfl rfl).cast (y := (BO ((x13.2.2 != 0)))) rfl rfl) ?_
         refine sS rfl rfl rfl (op1_pickT rfl rfl rfl) (ao_nil ?_)
         exact ⟨rfl, (x13.2.2 != 0), h, ⟨(.cons .dead (.cons .same (.cons .same (.cons .same .nil)))), (sC rfl (sC rfl (sC rfl (sC rfl (sC rfl (sC rfl (sC rfl (sC rfl (sC rfl (sC rfl (sC rfl (sC rfl sub_nil))))))))))))⟩⟩
        ·intro hb23; replace h := ocond_f hb23 h
         refine ao_no rfl rfl rfl rfl rfl rfl ?_
         refine ao_no rfl rfl rfl rfl rfl rfl ?_
         refine sS rfl rfl rfl (op1_pickF rfl rfl rfl) (ao_nil ?_)
         exact ⟨rfl, false, h, ⟨(.cons .dead (.cons .same (.cons .same (.cons .same .nil)))), (sC rfl (sC rfl (sC rfl (sC rfl (sC rfl (sC rfl (sC rfl (sC rfl (sC rfl (sC rfl (sC rfl (sC rfl sub_nil))))))))))))⟩⟩
     ·refine bw_region ?_
      refine sM rfl rfl rfl rfl rfl ?_
      refine sS rfl rfl rfl ((op1_cmp rfl rfl rfl rfl).cast (y := (BO ((x8.2.2 == 0)))) rfl rfl) ?_
      refine sM rfl rfl rfl rfl rfl ?_
      refine ao_cases (t := 110) rfl ?_ ?_
      ·intro hb24; replace h := ocond_t hb24 h
       refine ao_yes rfl rfl rfl rfl rfl rfl (op1_move rfl rfl) ?_
       refine ao_yes rfl rfl rfl rfl rfl rfl ((op1_cmp rfl rfl rfl rfl).cast (y := (BO ((x13.2.2 == 0)))) rfl rfl) ?_
       refine sS rfl rfl rfl (op1_pickT rfl rfl rfl) ?_
       refine sM rfl rfl rfl rfl rfl ?_
       refine ao_cases (t := 114) rfl ?_ ?_
       ·intro hb25; replace h := ocond_t hb25 h
        refine ao_yes rfl rfl rfl rfl rfl rfl (op1_move rfl rfl) ?_
        refine ao_yes rfl rfl rfl rfl rfl rfl (op1_move rfl rfl) ?_
        refine ao_yes rfl rfl rfl rfl rfl rfl (op1_move rfl rfl) ?_
        refine ao_cases (t := 117) rfl ?_ ?_
        ·intro hb26; replace h := ocond_t hb26 h
         refine ao_yes rfl rfl rfl rfl rfl rfl (op1_move rfl rfl) ?_
         refine ao_yes rfl rfl rfl rfl rfl rfl (op1_pickT rfl rfl rfl) ?_
         refine ao_yes rfl rfl rfl rfl rfl rfl (op1_neB Try.underlying4 rfl rfl rfl) ?_
         refine sS rfl rfl rfl (op1_pickT rfl rfl rfl) (ao_nil ?_)
         exact ⟨rfl, (!(x13.1 == a2)), h, ⟨(.cons .dead (.cons .same (.cons .same (.cons .same .nil)))), (sC rfl (sC rfl (sC rfl (sC rfl (sC rfl (sC rfl (sC rfl (sC rfl (sC rfl (sC rfl (sC rfl (sC rfl sub_nil))))))))))))⟩⟩
        ·intro hb26; replace h := ocond_f hb26 h
         refine ao_no rfl rfl rfl rfl rfl rfl ?_
         refine ao_yes rfl rfl rfl rfl rfl rfl (op1_pickF rfl rfl rfl) ?_
         refine ao_yes rfl rfl rfl rfl rfl rfl (op1_neB Try.underlying4 rfl rfl rfl) ?_
         refine sS rfl rfl rfl (op1_pickT rfl rfl rfl) (ao_nil ?_)
         exact ⟨rfl, (!(x13.1 == false)), h, ⟨(.cons .dead (.cons .same (.cons .same (.cons .same .nil)))), (sC rfl (sC rfl (sC rfl (sC rfl (sC rfl (sC rfl (sC rfl (sC rfl (sC rfl (sC rfl (sC rfl (sC rfl sub_nil))))))))))))⟩⟩
       ·intro hb25; replace h := ocond_f hb25 h
        refine ao_no rfl rfl rfl rfl rfl rfl ?_
        refine ao_no rfl rfl rfl rfl rfl rfl ?_
        refine ao_no rfl rfl rfl rfl rfl rfl ?_
        refine ao_no rfl rfl rfl rfl rfl rfl ?_
        refine ao_no rfl rfl rfl rfl rfl rfl ?_
        refine ao_no rfl rfl rfl rfl rfl rfl ?_
        refine sS rfl rfl rfl (op1_pickF rfl rfl rfl) (ao_nil ?_)
        exact ⟨rfl, false, h, ⟨(.cons .dead (.cons .same (.cons .same (.cons .same .nil)))), (sC rfl (sC rfl (sC rfl (sC rfl (sC rfl (sC rfl (sC rfl (sC rfl (sC rfl (sC rfl (sC rfl (sC rfl sub_nil))))))))))))⟩⟩
      ·intro hb24; replace h := ocond_f hb24 h
       refine ao_no rfl rfl rfl rfl rfl rfl ?_
       refine ao_no rfl rfl rfl rfl rfl rfl ?_
       refine sS rfl rfl rfl (op1_pickF rfl rfl rfl) ?_
       refine sM rfl rfl rfl rfl rfl ?_
       refine ao_no rfl rfl rfl rfl rfl rfl ?_
       refine ao_no rfl rfl rfl rfl rfl rfl ?_
       refine ao_no rfl rfl rfl rfl rfl rfl ?_
       refine ao_no rfl rfl rfl rfl rfl rfl ?_
       refine ao_no rfl rfl rfl rfl rfl rfl ?_
       refine ao_no rfl rfl rfl rfl rfl rfl ?_
       refine sS rfl rfl rfl (op1_pickF rfl rfl rfl) (ao_nil ?_)
       exact ⟨rfl, false, h, ⟨(.cons .dead (.cons .same (.cons .same (.cons .same .nil)))), (sC rfl (sC rfl (sC rfl (sC rfl (sC rfl (sC rfl (sC rfl (sC rfl (sC rfl (sC rfl (sC rfl (sC rfl sub_nil))))))))))))⟩⟩
   ·refine bw_region ?_
    refine sM rfl rfl rfl rfl rfl ?_
    refine sS rfl rfl rfl ((op1_cmp rfl rfl rfl rfl).cast (y := (BO ((x8.2.2 == 0)))) rfl rfl) ?_
    refine sM rfl rfl rfl rfl rfl ?_
    refine ao_cases (t := 73) rfl ?_ ?_
    ·intro hb27; replace h := ocond_t hb27 h
     refine ao_yes rfl rfl rfl rfl rfl rfl (op1_move rfl rfl) ?_
     refine ao_yes rfl rfl rfl rfl rfl rfl ((op1_cmp rfl rfl rfl rfl).cast (y := (BO ((x9.2.2 == 0)))) rfl rfl) ?_
     refine sS rfl rfl rfl (op1_pickT rfl rfl rfl) ?_
     refine sM rfl rfl rfl rfl rfl ?_
     refine ao_cases (t := 77) rfl ?_ ?_
     ·intro hb28; replace h := ocond_t hb28 h
      refine ao_yes rfl rfl rfl rfl rfl rfl (op1_move rfl rfl) ?_
      refine ao_yes rfl rfl rfl rfl rfl rfl ((op1_cmp rfl rfl rfl rfl).cast (y := (BO ((x10.2.2 != 0)))) rfl rfl) ?_
      refine ao_yes rfl rfl rfl rfl rfl rfl (op1_move rfl rfl) ?_
      refine ao_cases (t := 80) rfl ?_ ?_
      ·intro hb29; replace h := ocond_t hb29 h
       refine ao_no rfl rfl rfl rfl rfl rfl ?_
       refine ao_no rfl rfl rfl rfl rfl rfl ?_
       refine ao_no rfl rfl rfl rfl rfl rfl ?_
       refine ao_no rfl rfl rfl rfl rfl rfl ?_
       refine ao_no rfl rfl rfl rfl rfl rfl ?_
       refine ao_no rfl rfl rfl rfl rfl rfl ?_
       refine ao_yes rfl rfl rfl rfl rfl rfl (op1_pickT rfl rfl rfl) ?_
       refine sS rfl rfl rfl (op1_pickT rfl rfl rfl) (ao_nil ?_)
       exact ⟨rfl, true, h, ⟨(.cons .dead (.cons .same (.cons .same (.cons .same .nil)))), (sC rfl (sC rfl (sC rfl (sC rfl (sC rfl (sC rfl (sC rfl (sC rfl (sC rfl (sC rfl (sC rfl (sC rfl sub_nil))))))))))))⟩⟩
      ·intro hb29; replace h := ocond_f hb29 h
       refine ao_yes rfl rfl rfl rfl rfl rfl (op1_move rfl rfl) ?_
       refine ao_yes rfl rfl rfl rfl rfl rfl (op1_move rfl rfl) ?_
       refine ao_yes rfl rfl rfl rfl rfl rfl (op1_move rfl rfl) ?_
       refine ao_cases (t := 83) rfl ?_ ?_
       ·intro hb30; replace h := ocond_t hb30 h
        refine ao_no rfl rfl rfl rfl rfl rfl ?_
        refine ao_yes rfl rfl rfl rfl rfl rfl (op1_pickT rfl rfl rfl) ?_
        refine ao_yes rfl rfl rfl rfl rfl rfl (op1_neB Try.underlying4 rfl rfl rfl) ?_
        refine ao_yes rfl rfl rfl rfl rfl rfl (op1_pickF rfl rfl rfl) ?_
        refine sS rfl rfl rfl (op1_pickT rfl rfl rfl) (ao_nil ?_)
        exact ⟨rfl, (!(x10.1 == true)), h, ⟨(.cons .dead (.cons .same (.cons .same (.cons .same .nil)))), (sC rfl (sC rfl (sC rfl (sC rfl (sC rfl (sC rfl (sC rfl (sC rfl (sC rfl (sC rfl (sC rfl (sC rfl sub_nil))))))))))))⟩⟩
       ·intro hb30; replace h := ocond_f hb30 h
        refine ao_yes rfl rfl rfl rfl rfl rfl (op1_move rfl rfl) ?_
        refine ao_yes rfl rfl rfl rfl rfl rfl (op1_pickF rfl rfl rfl) ?_
        refine ao_yes rfl rfl rfl rfl rfl rfl (op1_neB Try.underlying4 rfl rfl rfl) ?_
        refine ao_yes rfl rfl rfl rfl rfl rfl (op1_pickF rfl rfl rfl) ?_
        refine sS rfl rfl rfl (op1_pickT rfl rfl rfl) (ao_nil ?_)
        exact ⟨rfl, (!(x10.1 == x9.1)), h, ⟨(.cons .dead (.cons .same (.cons .same (.cons .same .nil)))), (sC rfl (sC rfl (sC rfl (sC rfl (sC rfl (sC rfl (sC rfl (sC rfl (sC rfl (sC rfl (sC rfl (sC rfl sub_nil))))))))))))⟩⟩
     ·intro hb28; replace h := ocond_f hb28 h
      refine ao_no rfl rfl rfl rfl rfl rfl ?_
      refine ao_no rfl rfl rfl rfl rfl rfl ?_
      refine ao_no rfl rfl rfl rfl rfl rfl ?_
      refine ao_no rfl rfl rfl rfl rfl rfl ?_
      refine ao_no rfl rfl rfl rfl rfl rfl ?_
      refine ao_no rfl rfl rfl rfl rfl rfl ?_
      refine ao_no rfl rfl rfl rfl rfl rfl ?_
      refine ao_no rfl rfl rfl rfl rfl rfl ?_
      refine ao_no rfl rfl rfl rfl rfl rfl ?_
      refine ao_no rfl rfl rfl rfl rfl rfl ?_
      refine sS rfl rfl rfl (op1_pickF rfl rfl rfl) (ao_nil ?_)
      exact ⟨rfl, false, h, ⟨(.cons .dead (.cons .same (.cons .same (.cons .same .nil)))), (sC rfl (sC rfl (sC rfl (sC rfl (sC rfl (sC rfl (sC rfl (sC rfl (sC rfl (sC rfl (sC rfl (sC rfl sub_nil))))))))))))⟩⟩
    ·intro hb27; replace h := ocond_f hb27 h
     refine ao_no rfl rfl rfl rfl rfl rfl ?_
     refine ao_no rfl rfl rfl rfl rfl rfl ?_
     refine sS rfl rfl rfl (op1_pickF rfl rfl rfl) ?_
     refine sM rfl rfl rfl rfl rfl ?_
     refine ao_no rfl rfl rfl rfl rfl rfl ?_
     refine ao_no rfl rfl rfl rfl rfl rfl ?_
     refine ao_no rfl rfl rfl rfl rfl rfl ?_
     refine ao_no rfl rfl rfl rfl rfl rfl ?_
     refine ao_no rfl rfl rfl rfl rfl rfl ?_
     refine ao_no rfl rfl rfl rfl rfl rfl ?_
     refine ao_no rfl rfl rfl rfl rfl rfl ?_
     refine ao_no rfl rfl rfl rfl rfl rfl ?_
     refine ao_no rfl rfl rfl rfl rfl rfl ?_
     refine ao_no rfl rfl rfl rfl rfl rfl ?_
     refine sS rfl rfl rfl (op1_pickF rfl rfl rfl) (ao_nil ?_)
     exact ⟨rfl, false, h, ⟨(.cons .dead (.cons .same (.cons .same (.cons .same .nil)))), (sC rfl (sC rfl (sC rfl (sC rfl (sC rfl (sC rfl (sC rfl (sC rfl (sC rfl (sC rfl (sC rfl (sC rfl sub_nil))))))))))))⟩⟩
  ·intro hc4; replace h := ocond_f hc4 h
   refine bw_exit ?_
   change BW _ _ _ _ _
   refine bR ?_
   refine sM rfl rfl rfl rfl rfl ?_
   refine sS rfl rfl rfl ((op1_mkI Try.underlying37 rfl rfl rfl).wk ((Wk.iface Wk.tok).trans (Wk.eq (mk_list _).symm))) ?_
   refine sS rfl rfl rfl ((op1_ldRA inf_34 Try.underlying34 rfl rfl rfl rfl rfl rfl)) ?_
   refine sS rfl rfl rfl ((op1_bslice (xs := [(PV.agg [(I64 ((a0.f_0).kind)), (I64 ((a0.f_0).of)), (I64 (((a0.f_0).only).kind)), (BO (((a0.f_0).only).bool)), (I64 (((a0.f_0).only).int)), (PV.v (.float .f64 ((a0.f_0).only).float)), (ofStr ((a0.f_0).only).text), (PV.sl none 1 (List.map ofB ((a0.f_0).only).bytes)), (PV.v (.int .u64 ((a0.f_0).only).ref)), (PV.sl none 11 (List.map ofTerm ((a0.f_0).only).list)), (PV.sl none 12 (List.map ofEntry ((a0.f_0).only).fields)), (ofStr ((a0.f_0).only).cls), (I64 (((a0.f_0).only).ver)), (PV.sl none 18 (List.map ofTyp (a0.f_0).parts)), (PV.sl none 1 (List.map ofStr (a0.f_0).names)), (PV.sl none 1 (List.map ofBool (a0.f_0).lacks)), (BO ((a0.f_0).opn)), (ofStr (a0.f_0).cls)])]) Try.underlying30 inf_34 rfl rfl rfl rfl rfl rfl ⟨Nat.le_of_ble_eq_true rfl, Nat.le_of_ble_eq_true rfl⟩ rfl).cast (y := (PV.sl (some 4) 18 (List.map ofTyp ([(a0.f_0)] : (List Typ))))) (by simp only [List.map_cons, List.map_nil, ofTyp_eq]; try rfl) rfl) ?_
   refine sS rfl rfl rfl (op1_build (cs := [(I64 5), (I64 0), (I64 0), (BO false), (I64 0), (PV.v (.float .f64 0)), (ofStr []), (PV.v (.slice none 0 0)), (PV.v (.int .u64 0)), (PV.v (.slice none 0 0)), (PV.v (.slice none 0 0)), (ofStr []), (I64 0), (PV.sl (some 4) 18 (List.map ofTyp ([(a0.f_0)] : (List Typ)))), (PV.v (.slice none 0 0)), (PV.v (.slice none 0 0)), (BO false), (ofStr [])]) st_34 inf_34 rfl rfl rfl rfl) ?_
   obtain ⟨x31, hx31, h⟩ := obind h
   refine sS rfl rfl rfl (op1_pcall rfl en_10 rfl (.cons (Wk.refl _) (.cons (Wk.agg (.cons (Wk.refl _) (.cons (Wk.refl _) (.cons (Wk.refl _) (.cons (Wk.refl _) (.cons (Wk.refl _) (.cons (Wk.refl _) (.cons (Wk.refl _) (.cons Wk.nil (.cons (Wk.refl _) (.cons Wk.nil (.cons Wk.nil (.cons (Wk.refl _) (.cons (Wk.refl _) (.cons Wk.tok (.cons Wk.nil (.cons Wk.nil (.cons (Wk.refl _) (.cons (Wk.refl _) .nil))))))))))))))))))) .nil)) ⟨(ids_V (V.list s1)), ⟨(ids_TypX (Typ.mk 5 0 (Term.mk 0 false 0 0 [] [] 0 [] [] [] 0) ([(a0.f_0)] : (List Typ)) [] [] false [])), trivial⟩⟩ (s_check_Is (V.list s1) (Typ.mk 5 0 (Term.mk 0 false 0 0 [] [] 0 [] [] [] 0) ([(a0.f_0)] : (List Typ)) [] [] false []) x31 hx31) (ids_tup_cons rfl (ids_tup_cons rfl (ids_tup_cons rfl ids_tup_nil)))) ?_
   refine sM rfl rfl rfl rfl rfl ?_
   refine sS rfl rfl rfl (op1_ext rfl rfl rfl) ?_
   refine sS rfl rfl rfl (op1_ext rfl rfl rfl) ?_
   refine sS rfl rfl rfl (op1_ext rfl rfl rfl) ?_
   refine sA rfl rfl rfl rfl rfl ?_
   refine sA rfl rfl rfl rfl rfl ?_
   refine sA rfl rfl rfl rfl rfl (ao_nil ?_)
   change BW _ _ _ _ _
   refine bR ?_
   refine sS rfl rfl rfl ((op1_bslice (xs := []) Try.underlying37 inf_20 rfl rfl rfl rfl rfl rfl ⟨Nat.le_of_ble_eq_true rfl, Nat.le_of_ble_eq_true rfl⟩ rfl).cast (y := (PV.sl (some 5) 1 (List.map ofV ([] : (List V))))) rfl rfl) ?_
   refine sS rfl rfl rfl ((op1_mkI Try.underlying37 rfl rfl rfl).wk ((Wk.iface Wk.tok).trans (Wk.eq (mk_list _).symm))) ?_
   refine sS rfl rfl rfl (op1_build (cs := [(I64 2), (I64 0), (I64 0), (BO false), (I64 0), (PV.v (.float .f64 0)), (ofStr []), (PV.v (.slice none 0 0)), (PV.v (.int .u64 0)), (PV.v (.slice none 0 0)), (PV.v (.slice none 0 0)), (ofStr []), (I64 0), (PV.v (.slice none 0 0)), (PV.v (.slice none 0 0)), (PV.v (.slice none 0 0)), (BO false), (ofStr [])]) st_34 inf_34 rfl rfl rfl rfl) ?_
   refine sS rfl rfl rfl (((op1_bslice (xs := [(PV.agg [(I64 2), (I64 0), (I64 0), (BO false), (I64 0), (PV.v (.float .f64 0)), (ofStr []), (PV.v (.slice none 0 0)), (PV.v (.int .u64 0)), (PV.v (.slice none 0 0)), (PV.v (.slice none 0 0)), (ofStr []), (I64 0), (PV.v (.slice none 0 0)), (PV.v (.slice none 0 0)), (PV.v (.slice none 0 0)), (BO false), (ofStr [])])]) Try.underlying30 inf_34 rfl rfl rfl rfl rfl rfl ⟨Nat.le_of_ble_eq_true rfl, Nat.le_of_ble_eq_true rfl⟩ rfl).wk (Wk.sl (.cons (y := (ofTypX (Typ.mk 2 0 (Term.mk 0 false 0 0 [] [] 0 [] [] [] 0) [] [] [] false []))) (.cons (Wk.refl _) (.cons (Wk.refl _) (.cons (Wk.refl _) (.cons (Wk.refl _) (.cons (Wk.refl _) (.cons (Wk.refl _) (.cons (Wk.refl _) (.cons Wk.nil (.cons (Wk.refl _) (.cons Wk.nil (.cons Wk.nil (.cons (Wk.refl _) (.cons (Wk.refl _) (.cons Wk.nil (.cons Wk.nil (.cons Wk.nil (.cons (Wk.refl _) (.cons (Wk.refl _) .nil)))))))))))))))))) .nil))).cast (y := (PV.sl (some 6) 18 (List.map ofTyp ([(Typ.mk 2 0 (Term.mk 0 false 0 0 [] [] 0 [] [] [] 0) [] [] [] false [])] : (List Typ))))) (by simp only [List.map_cons, List.map_nil, ofTyp_eq]; try rfl) rfl) ?_
   refine sS rfl rfl rfl (op1_build (cs := [(I64 5), (I64 0), (I64 0), (BO false), (I64 0), (PV.v (.float .f64 0)), (ofStr []), (PV.v (.slice none 0 0)), (PV.v (.int .u64 0)), (PV.v (.slice none 0 0)), (PV.v (.slice none 0 0)), (ofStr []), (I64 0), (PV.sl (some 6) 18 (List.map ofTyp ([(Typ.mk 2 0 (Term.mk 0 false 0 0 [] [] 0 [] [] [] 0) [] [] [] false [])] : (List Typ)))), (PV.v (.slice none 0 0)), (PV.v (.slice none 0 0)), (BO false), (ofStr [])]) st_34 inf_34 rfl rfl rfl rfl) ?_
   obtain ⟨x32, hx32, h⟩ := obind h
   refine sS rfl rfl rfl (op1_pcall rfl en_10 rfl (.cons (Wk.refl _) (.cons (Wk.agg (.cons (Wk.refl _) (.cons (Wk.refl _) (.cons (Wk.refl _) (.cons (Wk.refl _) (.cons (Wk.refl _) (.cons (Wk.refl _) (.cons (Wk.refl _) (.cons Wk.nil (.cons (Wk.refl _) (.cons Wk.nil (.cons Wk.nil (.cons (Wk.refl _) (.cons (Wk.refl _) (.cons Wk.tok (.cons Wk.nil (.cons Wk.nil (.cons (Wk.refl _) (.cons (Wk.refl _) .nil))))))))))))))))))) .nil)) ⟨(ids_V (V.list ([] : (List V)))), ⟨(ids_TypX (Typ.mk 5 0 (Term.mk 0 false 0 0 [] [] 0 [] [] [] 0) ([(Typ.mk 2 0 (Term.mk 0 false 0 0 [] [] 0 [] [] [] 0) [] [] [] false [])] : (List Typ)) [] [] false [])), trivial⟩⟩ (s_check_Is (V.list ([] : (List V))) (Typ.mk 5 0 (Term.mk 0 false 0 0 [] [] 0 [] [] [] 0) ([(Typ.mk 2 0 (Term.mk 0 false 0 0 [] [] 0 [] [] [] 0) [] [] [] false [])] : (List Typ)) [] [] false []) x32 hx32) (ids_tup_cons rfl (ids_tup_cons rfl (ids_tup_cons rfl ids_tup_nil)))) ?_
   refine sM rfl rfl rfl rfl rfl ?_
   refine sS rfl rfl rfl (op1_ext rfl rfl rfl) ?_
   refine sS rfl rfl rfl (op1_ext rfl rfl rfl) ?_
   refine sS rfl rfl rfl (op1_ext rfl rfl rfl) ?_
   refine sA rfl rfl rfl rfl rfl ?_
   refine sA rfl rfl rfl rfl rfl ?_
   refine sA rfl rfl rfl rfl rfl (ao_nil ?_)
   change BW _ _ _ _ _
   refine bR ?_
   refine sM rfl rfl rfl rfl rfl ?_
   refine sS rfl rfl rfl ((op1_cmp rfl rfl rfl rfl).cast (y := (BO ((x31.2.2 != 0)))) rfl rfl) ?_
   refine sM rfl rfl rfl rfl rfl ?_
   refine ao_cases (t := 168) rfl ?_ ?_
   ·intro hb33; replace h := ocond_t hb33 h
    refine ao_no rfl rfl rfl rfl rfl rfl ?_
    refine ao_no rfl rfl rfl rfl rfl rfl ?_
    refine ao_no rfl rfl rfl rfl rfl rfl ?_
    refine sS rfl rfl rfl (op1_pickT rfl rfl rfl) ?_
    refine sM rfl rfl rfl rfl rfl ?_
    refine ao_yes rfl rfl rfl rfl rfl rfl (op1_move rfl rfl) ?_
    refine sS rfl rfl rfl (op1_pickT rfl rfl rfl) ?_
    refine sM rfl rfl rfl rfl rfl ?_
    refine ao_cases (t := 176) rfl ?_ ?_
    ·intro hb34; replace h := ocond_t hb34 h
     refine ao_yes rfl rfl rfl rfl rfl rfl (op1_move rfl rfl) ?_
     refine ao_yes rfl rfl rfl rfl rfl rfl ((op1_cmp rfl rfl rfl rfl).cast (y := (BO ((x32.2.2 == 0)))) rfl rfl) ?_
     refine sS rfl rfl rfl (op1_pickT rfl rfl rfl) ?_
     refine sA rfl rfl rfl rfl rfl (ao_nil ?_)
     change BW _ _ _ _ _
     refine bw_ret ?_
     change ∃ xs, _ = some xs ∧ EndOk _ _ _ _
     obtain rfl := Option.some.inj h
     exact ⟨_, rfl, endOk0 (y := (BO ((x32.2.2 == 0)))) (Wk.refl _) rfl ⟨rfl, rfl⟩⟩
    ·intro hb34; replace h := ocond_f hb34 h
     refine ao_no rfl rfl rfl rfl rfl rfl ?_
     refine ao_no rfl rfl rfl rfl rfl rfl ?_
     refine sS rfl rfl rfl (op1_pickF rfl rfl rfl) ?_
     refine sA rfl rfl rfl rfl rfl (ao_nil ?_)
     change BW _ _ _ _ _
     refine bw_ret ?_
     change ∃ xs, _ = some xs ∧ EndOk _ _ _ _
     obtain rfl := Option.some.inj h
     exact ⟨_, rfl, endOk0 (y := (BO false)) (Wk.refl _) rfl ⟨rfl, rfl⟩⟩
   ·intro hb33; replace h := ocond_f hb33 h
    refine ao_yes rfl rfl rfl rfl rfl rfl (op1_move rfl rfl) ?_
    refine ao_yes rfl rfl rfl rfl rfl rfl (op1_move rfl rfl) ?_
    refine ao_yes rfl rfl rfl rfl rfl rfl (op1_eqB Try.underlying4 rfl rfl rfl) ?_
    refine sS rfl rfl rfl (op1_pickF rfl rfl rfl) ?_
    refine sM rfl rfl rfl rfl rfl ?_
    refine ao_cases (t := 173) rfl ?_ ?_
    ·intro hb35; replace h := ocond_t hb35 h
     refine ao_yes rfl rfl rfl rfl rfl rfl (op1_move rfl rfl) ?_
     refine sS rfl rfl rfl (op1_pickT rfl rfl rfl) ?_
     refine sM rfl rfl rfl rfl rfl ?_
     refine ao_cases (t := 176) rfl ?_ ?_
     ·intro hb36; replace h := ocond_t hb36 h
      refine ao_yes rfl rfl rfl rfl rfl rfl (op1_move rfl rfl) ?_
      refine ao_yes rfl rfl rfl rfl rfl rfl ((op1_cmp rfl rfl rfl rfl).cast (y := (BO ((x32.2.2 == 0)))) rfl rfl) ?_
      refine sS rfl rfl rfl (op1_pickT rfl rfl rfl) ?_
      refine sA rfl rfl rfl rfl rfl (ao_nil ?_)
      change BW _ _ _ _ _
      refine bw_ret ?_
      change ∃ xs, _ = some xs ∧ EndOk _ _ _ _
      obtain rfl := Option.some.inj h
      exact ⟨_, rfl, endOk0 (y := (BO ((x32.2.2 == 0)))) (Wk.refl _) rfl ⟨rfl, rfl⟩⟩
     ·intro hb36; replace h := ocond_f hb36 h
      refine ao_no rfl rfl rfl rfl rfl rfl ?_
      refine ao_no rfl rfl rfl rfl rfl rfl ?_
      refine sS rfl rfl rfl (op1_pickF rfl rfl rfl) ?_
      refine sA rfl rfl rfl rfl rfl (ao_nil ?_)
      change BW _ _ _ _ _
      refine bw_ret ?_
      change ∃ xs, _ = some xs ∧ EndOk _ _ _ _
      obtain rfl := Option.some.inj h
      exact ⟨_, rfl, endOk0 (y := (BO false)) (Wk.refl _) rfl ⟨rfl, rfl⟩⟩
    ·intro hb35; replace h := ocond_f hb35 h
     refine ao_no rfl rfl rfl rfl rfl rfl ?_
     refine sS rfl rfl rfl (op1_pickF rfl rfl rfl) ?_
     refine sM rfl rfl rfl rfl rfl ?_
     refine ao_no rfl rfl rfl rfl rfl rfl ?_
     refine ao_no rfl rfl rfl rfl rfl rfl ?_
     refine sS rfl rfl rfl (op1_pickF rfl rfl rfl) ?_
     refine sA rfl rfl rfl rfl rfl (ao_nil ?_)
     change BW _ _ _ _ _
     refine bw_ret ?_
     change ∃ xs, _ = some xs ∧ EndOk _ _ _ _
     obtain rfl := Option.some.inj h
     exact ⟨_, rfl, endOk0 (y := (BO false)) (Wk.refl _) rfl ⟨rfl, rfl⟩⟩
end Go.Proofs.Ytiapdjdhaclmnaa
