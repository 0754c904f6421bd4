/- Pure functions, and that calls answer as they say. Written by gen.py. -/
import Derived.Test.YtkmhecgagibgjaaG2
namespace Go.Proofs.Ytkmhecgagibgjaa
open Go Aw
set_option linter.unusedVariables false
set_option linter.unusedSimpArgs false
set_option maxRecDepth 20000
set_option maxHeartbeats 2000000
noncomputable def value_copiedDict_l1b (r_value_copied : V → Option V) (a0 : (List (Str × V))) (g1 : (List (Str × V)) → Nat → Option (List (Str × V))) (s2 : (List (Str × V))) (s3 : Nat) : Option (List (Str × V)) :=
 bif (decide (((s3 : Nat) : Int) < (((a0).length : Nat) : Int))) then (
  Option.bind ((a0)[s3]?) fun x6 =>
  Option.bind (r_value_copied x6.2) fun x7 =>
  Option.bind (appO 32 s2 ([(x6.1, x7)] : (List (Str × V)))) fun x8 =>
  g1 x8 (s3 + 1)
 ) else (
  some s2
 )
theorem value_copiedDict_l1b_cm {ι : Type} {ρ : ι → Type} (r_value_copied : (∀ i, Option (ρ i)) → V → Option V) (h_r_value_copied : ∀ y0, CM (fun G => r_value_copied G y0)) (g1 : (∀ i, Option (ρ i)) → (List (Str × V)) → Nat → Option (List (Str × V))) (h_g1 : ∀ y0 y1, CM (fun G => g1 G y0 y1)) (a0 : (List (Str × V))) (s2 : (List (Str × V))) (s3 : Nat) : CM (fun G : (∀ i, Option (ρ i)) => value_copiedDict_l1b (r_value_copied G) a0 (g1 G) s2 s3) := by
 simp only [value_copiedDict_l1b]
 repeat (first | exact cm_const | exact h_r_value_copied _ | exact h_g1 _ _ | refine cm_cond ?_ ?_ | refine cm_bind ?_ (fun _ => ?_))
noncomputable def value_copiedDict_l1 (r_value_copied : V → Option V) (a0 : (List (Str × V))) (s2 : (List (Str × V))) (s3 : Nat) : Option (List (Str × V)) :=
 fixO (ι := ((List (Str × V)) × Nat)) (ρ := fun _ => (List (Str × V))) (fun g i => value_copiedDict_l1b r_value_copied a0 (fun s2 s3 => g (s2, s3)) i.1 i.2) (s2, s3)
theorem value_copiedDict_l1_eq (r_value_copied : V → Option V) (a0 : (List (Str × V))) (s2 : (List (Str × V))) (s3 : Nat) : value_copiedDict_l1 r_value_copied a0 s2 s3 = value_copiedDict_l1b r_value_copied a0 (value_copiedDict_l1 r_value_copied a0) s2 s3 :=
 fixO_eq (ι := ((List (Str × V)) × Nat)) (ρ := fun _ => (List (Str × V))) (Φ := fun g i => value_copiedDict_l1b r_value_copied a0 (fun s2 s3 => g (s2, s3)) i.1 i.2) (fun i => value_copiedDict_l1b_cm (ι := ((List (Str × V)) × Nat)) (ρ := fun _ => (List (Str × V))) (fun _ => r_value_copied) (fun _ => cm_const) (fun g => (fun s2 s3 => g (s2, s3))) (fun _ _ => cm_app) a0 i.1 i.2) (s2, s3)
theorem value_copiedDict_l1_cm {ι : Type} {ρ : ι → Type} (r_value_copied : (∀ i, Option (ρ i)) → V → Option V) (h_r_value_copied : ∀ y0, CM (fun G => r_value_copied G y0)) (a0 : (List (Str × V))) (s2 : (List (Str × V))) (s3 : Nat) : CM (fun G : (∀ i, Option (ρ i)) => value_copiedDict_l1 (r_value_copied G) a0 s2 s3) :=
 cm_fix (κ := ((List (Str × V)) × Nat)) (τ := fun _ => (List (Str × V))) (Φ := fun G g i => value_copiedDict_l1b (r_value_copied G) a0 (fun s2 s3 => g (s2, s3)) i.1 i.2) (fun g i => value_copiedDict_l1b_cm r_value_copied h_r_value_copied (fun _ => (fun s2 s3 => g (s2, s3))) (fun _ _ => cm_const) a0 i.1 i.2) (fun G i => value_copiedDict_l1b_cm (ι := ((List (Str × V)) × Nat)) (ρ := fun _ => (List (Str × V))) (fun _ => r_value_copied G) (fun _ => cm_const) (fun g => (fun s2 s3 => g (s2, s3))) (fun _ _ => cm_app) a0 i.1 i.2) (s2, s3)
noncomputable def b_value_copiedDict (r_value_copiedDict : (List (Str × V)) → Option (List (Str × V))) (r_value_copied : V → Option V) (a0 : (List (Str × V))) : Option (List (Str × V)) :=
 Option.bind (roomO ((a0).length) 32) fun x1 =>
 value_copiedDict_l1 r_value_copied a0 ([] : (List (Str × V))) 0
theorem b_value_copiedDict_cm {ι : Type} {ρ : ι → Type} (r_value_copiedDict : (∀ i, Option (ρ i)) → (List (Str × V)) → Option (List (Str × V))) (h_r_value_copiedDict : ∀ y0, CM (fun G => r_value_copiedDict G y0)) (r_value_copied : (∀ i, Option (ρ i)) → V → Option V) (h_r_value_copied : ∀ y0, CM (fun G => r_value_copied G y0)) (a0 : (List (Str × V))) : CM (fun G : (∀ i, Option (ρ i)) => b_value_copiedDict (r_value_copiedDict G) (r_value_copied G) a0) := by
 simp only [b_value_copiedDict]
 repeat (first | exact cm_const | exact h_r_value_copiedDict _ | exact h_r_value_copied _ | apply value_copiedDict_l1_cm | refine cm_cond ?_ ?_ | refine cm_bind ?_ (fun _ => ?_) | intro _ | assumption)
noncomputable def value_copied_l1b (r_value_copied : V → Option V) (a0 : V) (g1 : (List V) → Nat → Option V) (s5 : (List V)) (s6 : Nat) : Option V :=
 bif (decide (((s6 : Nat) : Int) < ((((a0).asList).length : Nat) : Int))) then (
  Option.bind (((a0).asList)[s6]?) fun x9 =>
  Option.bind (r_value_copied x9) fun x10 =>
  Option.bind (appO 16 s5 ([x10] : (List V))) fun x11 =>
  g1 x11 (s6 + 1)
 ) else (
  some (V.list s5)
 )
theorem value_copied_l1b_cm {ι : Type} {ρ : ι → Type} (r_value_copied : (∀ i, Option (ρ i)) → V → Option V) (h_r_value_copied : ∀ y0, CM (fun G => r_value_copied G y0)) (g1 : (∀ i, Option (ρ i)) → (List V) → Nat → Option V) (h_g1 : ∀ y0 y1, CM (fun G => g1 G y0 y1)) (a0 : V) (s5 : (List V)) (s6 : Nat) : CM (fun G : (∀ i, Option (ρ i)) => value_copied_l1b (r_value_copied G) a0 (g1 G) s5 s6) := by
 simp only [value_copied_l1b]
 repeat (first | exact cm_const | exact h_r_value_copied _ | exact h_g1 _ _ | refine cm_cond ?_ ?_ | refine cm_bind ?_ (fun _ => ?_))
noncomputable def value_copied_l1 (r_value_copied : V → Option V) (a0 : V) (s5 : (List V)) (s6 : Nat) : Option V :=
 fixO (ι := ((List V) × Nat)) (ρ := fun _ => V) (fun g i => value_copied_l1b r_value_copied a0 (fun s5 s6 => g (s5, s6)) i.1 i.2) (s5, s6)
theorem value_copied_l1_eq (r_value_copied : V → Option V) (a0 : V) (s5 : (List V)) (s6 : Nat) : value_copied_l1 r_value_copied a0 s5 s6 = value_copied_l1b r_value_copied a0 (value_copied_l1 r_value_copied a0) s5 s6 :=
 fixO_eq (ι := ((List V) × Nat)) (ρ := fun _ => V) (Φ := fun g i => value_copied_l1b r_value_copied a0 (fun s5 s6 => g (s5, s6)) i.1 i.2) (fun i => value_copied_l1b_cm (ι := ((List V) × Nat)) (ρ := fun _ => V) (fun _ => r_value_copied) (fun _ => cm_const) (fun g => (fun s5 s6 => g (s5, s6))) (fun _ _ => cm_app) a0 i.1 i.2) (s5, s6)
theorem value_copied_l1_cm {ι : Type} {ρ : ι → Type} (r_value_copied : (∀ i, Option (ρ i)) → V → Option V) (h_r_value_copied : ∀ y0, CM (fun G => r_value_copied G y0)) (a0 : V) (s5 : (List V)) (s6 : Nat) : CM (fun G : (∀ i, Option (ρ i)) => value_copied_l1 (r_value_copied G) a0 s5 s6) :=
 cm_fix (κ := ((List V) × Nat)) (τ := fun _ => V) (Φ := fun G g i => value_copied_l1b (r_value_copied G) a0 (fun s5 s6 => g (s5, s6)) i.1 i.2) (fun g i => value_copied_l1b_cm r_value_copied h_r_value_copied (fun _ => (fun s5 s6 => g (s5, s6))) (fun _ _ => cm_const) a0 i.1 i.2) (fun G i => value_copied_l1b_cm (ι := ((List V) × Nat)) (ρ := fun _ => V) (fun _ => r_value_copied G) (fun _ => cm_const) (fun g => (fun s5 s6 => g (s5, s6))) (fun _ _ => cm_app) a0 i.1 i.2) (s5, s6)
noncomputable def b_value_copied (r_value_copiedDict : (List (Str × V)) → Option (List (Str × V))) (r_value_copied : V → Option V) (a0 : V) : Option V :=
 bif (a0).isBytes then (
  Option.bind (appO 1 ([] : Str) ((a0).asBytes)) fun x2 =>
  some (V.bytes x2)
 ) else (
  bif (a0).isList then (
   Option.bind (roomO (((a0).asList).length) 16) fun x4 =>
   value_copied_l1 r_value_copied a0 ([] : (List V)) 0
  ) else (
   bif (a0).isDict then (
    Option.bind (r_value_copiedDict ((a0).asDict)) fun x13 =>
    some (V.dict x13)
   ) else (
    bif (a0).isRec then (
     Option.bind ((a0).asRec) fun x15 =>
     Option.bind (r_value_copiedDict x15.fields) fun x16 =>
     some (V.record x15.cls x15.ver x16)
    ) else (
     some a0
    )
   )
  )
 )
theorem b_value_copied_cm {ι : Type} {ρ : ι → Type} (r_value_copiedDict : (∀ i, Option (ρ i)) → (List (Str × V)) → Option (List (Str × V))) (h_r_value_copiedDict : ∀ y0, CM (fun G => r_value_copiedDict G y0)) (r_value_copied : (∀ i, Option (ρ i)) → V → Option V) (h_r_value_copied : ∀ y0, CM (fun G => r_value_copied G y0)) (a0 : V) : CM (fun G : (∀ i, Option (ρ i)) => b_value_copied (r_value_copiedDict G) (r_value_copied G) a0) := by
 simp only [b_value_copied]
 repeat (first | exact cm_const | exact h_r_value_copiedDict _ | exact h_r_value_copied _ | apply value_copied_l1_cm | refine cm_cond ?_ ?_ | refine cm_bind ?_ (fun _ => ?_) | intro _ | assumption)
inductive C_value_copiedDict where
 | k_value_copiedDict (a0 : (List (Str × V)))
 | k_value_copied (a0 : V)
def C_value_copiedDict.R : C_value_copiedDict → Type
 | .k_value_copiedDict _ => (List (Str × V))
 | .k_value_copied _ => V
noncomputable def C_value_copiedDict.F (g : ∀ i : C_value_copiedDict, Option i.R) : ∀ i : C_value_copiedDict, Option i.R
 | .k_value_copiedDict a0 => b_value_copiedDict (fun a0 => g (.k_value_copiedDict a0)) (fun a0 => g (.k_value_copied a0)) a0
 | .k_value_copied a0 => b_value_copied (fun a0 => g (.k_value_copiedDict a0)) (fun a0 => g (.k_value_copied a0)) a0
noncomputable def p_value_copiedDict (a0 : (List (Str × V))) : Option (List (Str × V)) := fixO C_value_copiedDict.F (.k_value_copiedDict a0)
noncomputable def p_value_copied (a0 : V) : Option V := fixO C_value_copiedDict.F (.k_value_copied a0)
theorem C_value_copiedDict.cm (i : C_value_copiedDict) : CM (fun g : (∀ i : C_value_copiedDict, Option i.R) => C_value_copiedDict.F g i) := by
 cases i with
 | k_value_copiedDict a0 => exact b_value_copiedDict_cm (fun (g : ∀ i : C_value_copiedDict, Option i.R) a0 => g (.k_value_copiedDict a0)) (fun a0 => cm_app (i := C_value_copiedDict.k_value_copiedDict a0)) (fun (g : ∀ i : C_value_copiedDict, Option i.R) a0 => g (.k_value_copied a0)) (fun a0 => cm_app (i := C_value_copiedDict.k_value_copied a0)) a0
 | k_value_copied a0 => exact b_value_copied_cm (fun (g : ∀ i : C_value_copiedDict, Option i.R) a0 => g (.k_value_copiedDict a0)) (fun a0 => cm_app (i := C_value_copiedDict.k_value_copiedDict a0)) (fun (g : ∀ i : C_value_copiedDict, Option i.R) a0 => g (.k_value_copied a0)) (fun a0 => cm_app (i := C_value_copiedDict.k_value_copied a0)) a0
theorem e_value_copiedDict (a0 : (List (Str × V))) : p_value_copiedDict a0 = b_value_copiedDict p_value_copiedDict p_value_copied a0 := fixO_eq C_value_copiedDict.cm (.k_value_copiedDict a0)
theorem e_value_copied (a0 : V) : p_value_copied a0 = b_value_copied p_value_copiedDict p_value_copied a0 := fixO_eq C_value_copiedDict.cm (.k_value_copied a0)
def C_value_copiedDict.Q : ∀ i : C_value_copiedDict, i.R → Prop
 | .k_value_copiedDict a0 => fun (r : (List (Str × V))) => PCalls Try.prog 66 [(PV.sl none 55 2 (List.map ofFld a0))] (PV.sl none 55 2 (List.map ofFld r))
 | .k_value_copied a0 => fun (r : V) => PCalls Try.prog 53 [(ofV a0)] (ofV r)
theorem t_value_copiedDict (r_value_copiedDict : (List (Str × V)) → Option (List (Str × V))) (c_value_copiedDict : ∀ (a0 : (List (Str × V))) r, r_value_copiedDict a0 = some r → PCalls Try.prog 66 [(PV.sl none 55 2 (List.map ofFld a0))] (PV.sl none 55 2 (List.map ofFld r))) (r_value_copied : V → Option V) (c_value_copied : ∀ (a0 : V) r, r_value_copied a0 = some r → PCalls Try.prog 53 [(ofV a0)] (ofV r)) (a0 : (List (Str × V))) (r : (List (Str × V))) (h : b_value_copiedDict r_value_copiedDict r_value_copied a0 = some r) : PCalls Try.prog 66 [(PV.sl none 55 2 (List.map ofFld a0))] (PV.sl none 55 2 (List.map ofFld r)) := by
 unfold b_value_copiedDict at h
 refine acalls_of Try.func66 rfl Try.ntmps66 Try.results66 rfl (aw_of_bw ?_)
 change BW _ _ _ ⟨[(0, (PV.sl none 55 2 (List.map ofFld a0)))], [], _⟩ _
 refine bR ?_
 refine sA rfl rfl rfl rfl rfl (ao_nil ?_)
 change BW _ _ _ _ _
 refine bR ?_
 refine sM rfl rfl rfl rfl rfl ?_
 refine sS rfl rfl rfl (op1_lenM Try.underlying49 rfl rfl) ?_
 obtain ⟨x1, hx1, h⟩ := obind h
 refine sS rfl rfl rfl ((op1_mkM (f := ofFld) (c := ((a0).length)) Try.underlying49 inf_55 rfl rfl rfl rfl hx1 (p := (PV.agg [(ofStr []), (PV.v .nilIface)])) rfl).cast (y := (PV.sl (some 0) 55 2 (List.map ofFld ([] : (List (Str × V)))))) rfl rfl) ?_
 refine sA rfl rfl rfl rfl rfl (ao_nil ?_)
 change BW _ _ _ _ _
 refine bw_seq ?_
 refine bR ?_
 refine sM rfl rfl rfl rfl rfl ?_
 refine sS rfl rfl rfl (op1_lenM Try.underlying49 rfl rfl) ?_
 refine sM rfl rfl rfl rfl rfl (ao_nil ?_)
 change BW _ _ _ _ _
 refine bw_block ?_
 change BW _ _ _ _ _
 unfold value_copiedDict_l1 at h
 refine bw_loop (σ := ((List (Str × V)) × Nat)) (fun i => [(3, (PV.sl (some 0) 55 2 (List.map ofFld i.1))), (9, (PV.sl none 55 2 (List.map ofFld a0))), (10, (I64 ((((a0).length : Nat) : Int)))), (11, (I64 (((i.2 : Nat) : Int))))]) (fun i => [.arr 55 (i.1).length]) (([] : (List (Str × V))), 0) h ?_ ?_ ?_
 ·intro i; exact ⟨Nat.le_of_ble_eq_true rfl, ⟨(il_tok rfl (ids_map ids_Fld _)), ⟨(il_nil (ids_slM ids_Fld _)), ⟨(il_nil rfl), ⟨(il_nil rfl), trivial⟩⟩⟩⟩, trivial⟩
 ·exact ⟨(.cons .same .nil), (sC rfl (sC rfl (sC rfl (sC rfl sub_nil))))⟩
 ·rintro g1_f ⟨s2, s3⟩ h; replace h : value_copiedDict_l1b r_value_copied a0 (fun y0 y1 => g1_f (y0, y1)) s2 s3 = some r := h; unfold value_copiedDict_l1b at h
  change BW _ _ _ ⟨[(3, (PV.sl (some 0) 55 2 (List.map ofFld s2))), (9, (PV.sl none 55 2 (List.map ofFld a0))), (10, (I64 ((((a0).length : Nat) : Int)))), (11, (I64 (((s3 : Nat) : Int))))], [.arr 55 (s2).length], _⟩ _
  refine bR ?_
  refine sS rfl rfl rfl ((op1_cmp rfl rfl rfl rfl).cast (y := (BO ((decide (((s3 : Nat) : Int) < (((a0).length : Nat) : Int)))))) rfl rfl) (ao_nil ?_)
  change BW _ _ _ _ _
  refine bw_seq ?_
  refine bw_len (t := 9) rfl fun hb5 => ?_
  try rw [List.length_map] at hb5
  refine bw_cond rfl ?_ ?_
  ·intro hc4; replace h := ocond_t hc4 h
   have hc4_ := of_decide_eq_true hc4
   refine bw_skip ?_
   change BW _ _ _ _ _
   refine bw_seq ?_
   refine bw_block ?_
   change BW _ _ _ _ _
   refine bR ?_
   obtain ⟨x6, hx6, h⟩ := obind h
   refine sS rfl rfl rfl (op1_idxN (i := s3) Try.underlying49 inf_55 rfl rfl rfl hx6 rfl) ?_
   refine sS rfl rfl rfl (op1_ldPW inf_55 Try.underlying55 rfl rfl rfl rfl rfl) ?_
   refine sS rfl rfl rfl ((op1_alloc inf_55 rfl).cast (H'' := [.arr 55 (s2).length, .box 55 [(ofStr []), (ofV V.nil)]]) rfl (by simp only [mk_nil]; rfl)) ?_
   refine ao_step0 rfl rfl (op1_store inf_55 rfl rfl rfl rfl rfl rfl (Nat.le_of_ble_eq_true rfl) (by show List.all [(ofStr x6.1), (ofV x6.2)] one1 = true; simp only [List.all_cons, List.all_nil, one_V, one_RecP, Bool.and_true, Bool.true_and]; try rfl)) ?_
   refine ao_nil ?_
   change BW _ _ _ _ _
   refine bw_tail 8 [7] [1] mo (by kernel_rfl) ?_
   refine ac_go rfl rfl rfl rfl (fun H hp => op1_move rfl rfl) ?_
   refine ac_go rfl rfl rfl rfl (fun H hp => op1_faR st_55 (i := 0) rfl rfl rfl) ?_
   refine ac_go rfl rfl rfl rfl (fun H hp => (op1_ldR Try.underlying9 rfl rfl rfl (hp.at rfl rfl) rfl)) ?_
   refine ac_go rfl rfl rfl rfl (fun H hp => op1_faR st_55 (i := 1) rfl rfl rfl) ?_
   refine ac_go rfl rfl rfl rfl (fun H hp => (op1_ldR Try.underlying20 rfl rfl rfl (hp.at rfl rfl) rfl)) ?_
   obtain ⟨x7, hx7, h⟩ := obind h
   refine ac_go rfl rfl rfl rfl (fun H hp => op1_pcall rfl en_53 rfl (.cons (Wk.refl _) .nil) ⟨(ids_V x6.2), trivial⟩ (c_value_copied x6.2 x7 hx7) (ids_V x7)) ?_
   refine ac_go rfl rfl rfl rfl (fun H hp => op1_build (cs := [(ofStr x6.1), (ofV x7)]) st_55 inf_55 rfl rfl (by simp only [List.all_cons, List.all_nil, cok_V, cok_RecP, Bool.and_true, Bool.true_and]; try rfl) (by simp only [afill, List.getElem?_cons_zero, List.getElem?_cons_succ, cells_V, cells_RecP]; rfl)) ?_
   refine ac_lgo rfl rfl rfl rfl ((op1_bslice (xs := [(PV.agg [(ofStr x6.1), (ofV x7)])]) Try.underlying49 inf_55 rfl rfl rfl (by simp only [List.all_cons, List.all_nil, cok_V, cok_RecP, Bool.and_true, Bool.true_and]; try rfl) (by simp only [List.all_cons, List.all_nil, csz_V, csz_RecP, cells_V, cells_RecP]; try rfl) rfl ⟨Nat.le_of_ble_eq_true rfl, Nat.le_of_ble_eq_true rfl⟩ (by simp only [zipN, afill, List.flatMap_cons, List.flatMap_nil, cells_V, cells_RecP]; try rfl)).cast (y := (PV.sl (some 2) 55 2 (List.map ofFld ([(x6.1, x7)] : (List (Str × V)))))) rfl rfl) ⟨rfl, trivial⟩ ?_
   refine ac_nil ?_
   change AO _ _ _ _ _
   obtain ⟨x8, hx8, h⟩ := obind h
   refine sS rfl rfl rfl (op1_appM Try.underlying49 inf_55 rfl Try.underlying49 rfl rfl rfl rfl csz_Fld call1_Fld hx8 rfl) ?_
   refine sA rfl rfl rfl rfl rfl (ao_nil ?_)
   change BW _ _ _ _ _
   refine bw_region ?_
   refine sS rfl rfl rfl (op1_incN (k := s3) (c := 1) rfl rfl rfl (by omega)) ?_
   refine sM rfl rfl rfl rfl rfl (ao_nil ?_)
   exact ⟨rfl, (x8, (s3 + 1)), h, ⟨(.cons .same .nil), (sC rfl (sC rfl (sC rfl (sC rfl sub_nil))))⟩⟩
  ·intro hc4; replace h := ocond_f hc4 h
   refine bw_exit ?_
   change BW _ _ _ _ _
   refine bR ?_
   refine sM rfl rfl rfl rfl rfl ?_
   refine sA rfl rfl rfl rfl rfl (ao_nil ?_)
   change BW _ _ _ _ _
   refine bw_ret ?_
   change ∃ xs, _ = some xs ∧ EndOk _ _ _ _
   obtain rfl := Option.some.inj h
   exact ⟨_, rfl, endOk0 (y := (PV.sl none 55 2 (List.map ofFld s2))) Wk.tok (ids_slM ids_Fld s2) ⟨rfl, rfl⟩⟩
theorem t_value_copied (r_value_copiedDict : (List (Str × V)) → Option (List (Str × V))) (c_value_copiedDict : ∀ (a0 : (List (Str × V))) r, r_value_copiedDict a0 = some r → PCalls Try.prog 66 [(PV.sl none 55 2 (List.map ofFld a0))] (PV.sl none 55 2 (List.map ofFld r))) (r_value_copied : V → Option V) (c_value_copied : ∀ (a0 : V) r, r_value_copied a0 = some r → PCalls Try.prog 53 [(ofV a0)] (ofV r)) (a0 : V) (r : V) (h : b_value_copied r_value_copiedDict r_value_copied a0 = some r) : PCalls Try.prog 53 [(ofV a0)] (ofV r) := by
 unfold b_value_copied at h
 refine acalls_of Try.func53 rfl Try.ntmps53 Try.results53 rfl (aw_of_bw ?_)
 change BW _ _ _ ⟨[(0, (ofV a0))], [], _⟩ _
 refine bR ?_
 refine sA rfl rfl rfl rfl rfl (ao_nil ?_)
 change BW _ _ _ _ _
 refine bw_seq ?_
 refine bR ?_
 refine sM rfl rfl rfl rfl rfl (ao_nil ?_)
 change BW _ _ _ _ _
 refine bw_block ?_
 change BW _ _ _ _ _
 refine bR ?_
 refine sS rfl rfl rfl (op1_taBytes rfl rfl) ?_
 refine sS rfl rfl rfl (op1_ext rfl rfl rfl) ?_
 refine sS rfl rfl rfl (op1_ext rfl rfl rfl) (ao_nil ?_)
 change BW _ _ _ _ _
 refine bw_cond rfl ?_ ?_
 ·intro hc1; replace h := ocond_t hc1 h
  refine bR ?_
  refine sA rfl rfl rfl rfl rfl (ao_nil ?_)
  change BW _ _ _ _ _
  refine bR ?_
  refine sS rfl rfl rfl ((op1_bslice (xs := []) Try.underlying23 inf_5 rfl rfl rfl rfl rfl rfl ⟨Nat.le_of_ble_eq_true rfl, Nat.le_of_ble_eq_true rfl⟩ rfl).cast (y := (PV.sl (some 0) 5 1 (List.map ofB ([] : Str)))) rfl rfl) ?_
  refine sM rfl rfl rfl rfl rfl ?_
  obtain ⟨x2, hx2, h⟩ := obind h
  refine sS rfl rfl rfl (op1_appM Try.underlying23 inf_5 rfl Try.underlying23 rfl rfl rfl rfl (fun _ => rfl) (fun _ => rfl) hx2 rfl) ?_
  refine sS rfl rfl rfl ((op1_mkI Try.underlying23 rfl rfl rfl).wk ((Wk.iface Wk.tok).trans (Wk.eq (mk_bytes _).symm))) ?_
  refine sA rfl rfl rfl rfl rfl (ao_nil ?_)
  change BW _ _ _ _ _
  refine bw_ret ?_
  change ∃ xs, _ = some xs ∧ EndOk _ _ _ _
  obtain rfl := Option.some.inj h
  exact ⟨_, rfl, endOk0 (y := (ofV (V.bytes x2))) (Wk.refl _) (ids_V (V.bytes x2)) ⟨rfl, rfl⟩⟩
 ·intro hc1; replace h := ocond_f hc1 h
  refine bR ?_
  refine sS rfl rfl rfl (op1_taList rfl rfl) ?_
  refine sS rfl rfl rfl (op1_ext rfl rfl rfl) ?_
  refine sS rfl rfl rfl (op1_ext rfl rfl rfl) (ao_nil ?_)
  change BW _ _ _ _ _
  refine bw_cond rfl ?_ ?_
  ·intro hc3; replace h := ocond_t hc3 h
   refine bR ?_
   refine sA rfl rfl rfl rfl rfl (ao_nil ?_)
   change BW _ _ _ _ _
   refine bR ?_
   refine sM rfl rfl rfl rfl rfl ?_
   refine sS rfl rfl rfl (op1_lenM Try.underlying47 rfl rfl) ?_
   obtain ⟨x4, hx4, h⟩ := obind h
   refine sS rfl rfl rfl ((op1_mkM (f := ofV) (c := (((a0).asList).length)) Try.underlying47 inf_20 rfl rfl rfl rfl hx4 (p := (PV.v .nilIface)) rfl).cast (y := (PV.sl (some 0) 20 1 (List.map ofV ([] : (List V))))) rfl rfl) ?_
   refine sA rfl rfl rfl rfl rfl (ao_nil ?_)
   change BW _ _ _ _ _
   refine bw_seq ?_
   refine bR ?_
   refine sM rfl rfl rfl rfl rfl ?_
   refine sS rfl rfl rfl (op1_lenM Try.underlying47 rfl rfl) ?_
   refine sM rfl rfl rfl rfl rfl (ao_nil ?_)
   change BW _ _ _ _ _
   refine bw_block ?_
   change BW _ _ _ _ _
   unfold value_copied_l1 at h
   refine bw_loop (σ := ((List V) × Nat)) (fun i => [(5, (PV.sl (some 0) 20 1 (List.map ofV i.1))), (24, (PV.sl none 20 1 (List.map ofV (a0).asList))), (25, (I64 (((((a0).asList).length : Nat) : Int)))), (26, (I64 (((i.2 : Nat) : Int))))]) (fun i => [.arr 20 (i.1).length]) (([] : (List V)), 0) h ?_ ?_ ?_
   ·intro i; exact ⟨Nat.le_of_ble_eq_true rfl, ⟨(il_tok rfl (ids_map ids_V _)), ⟨(il_nil (ids_slM ids_V _)), ⟨(il_nil rfl), ⟨(il_nil rfl), trivial⟩⟩⟩⟩, trivial⟩
   ·exact ⟨(.cons .same .nil), (sC rfl (sC rfl (sC rfl (sC rfl sub_nil))))⟩
   ·rintro g1_f ⟨s5, s6⟩ h; replace h : value_copied_l1b r_value_copied a0 (fun y0 y1 => g1_f (y0, y1)) s5 s6 = some r := h; unfold value_copied_l1b at h
    change BW _ _ _ ⟨[(5, (PV.sl (some 0) 20 1 (List.map ofV s5))), (24, (PV.sl none 20 1 (List.map ofV (a0).asList))), (25, (I64 (((((a0).asList).length : Nat) : Int)))), (26, (I64 (((s6 : Nat) : Int))))], [.arr 20 (s5).length], _⟩ _
    refine bR ?_
    refine sS rfl rfl rfl ((op1_cmp rfl rfl rfl rfl).cast (y := (BO ((decide (((s6 : Nat) : Int) < ((((a0).asList).length : Nat) : Int)))))) rfl rfl) (ao_nil ?_)
    change BW _ _ _ _ _
    refine bw_seq ?_
    refine bw_len (t := 24) rfl fun hb8 => ?_
    try rw [List.length_map] at hb8
    refine bw_cond rfl ?_ ?_
    ·intro hc7; replace h := ocond_t hc7 h
     have hc7_ := of_decide_eq_true hc7
     refine bw_skip ?_
     change BW _ _ _ _ _
     refine bw_seq ?_
     refine bw_block ?_
     change BW _ _ _ _ _
     refine bR ?_
     obtain ⟨x9, hx9, h⟩ := obind h
     refine sS rfl rfl rfl (op1_idxN (i := s6) Try.underlying47 inf_20 rfl rfl rfl hx9 rfl) ?_
     refine sS rfl rfl rfl (op1_ldP (y := (ofV x9)) Try.underlying20 rfl rfl rfl (by rw [cells_V]; rfl)) ?_
     refine sA rfl rfl rfl rfl rfl (ao_nil ?_)
     change BW _ _ _ _ _
     refine bw_region ?_
     refine sM rfl rfl rfl rfl rfl ?_
     refine sM rfl rfl rfl rfl rfl ?_
     obtain ⟨x10, hx10, h⟩ := obind h
     refine sS rfl rfl rfl (op1_pcall rfl en_53 rfl (.cons (Wk.refl _) .nil) ⟨(ids_V x9), trivial⟩ (c_value_copied x9 x10 hx10) (ids_V x10)) ?_
     refine sS rfl rfl rfl ((op1_bslice (xs := [(ofV x10)]) Try.underlying47 inf_20 rfl rfl rfl (by simp only [List.all_cons, List.all_nil, cok_V, cok_RecP, Bool.and_true, Bool.true_and]; try rfl) (by simp only [List.all_cons, List.all_nil, csz_V, csz_RecP, cells_V, cells_RecP]; try rfl) rfl ⟨Nat.le_of_ble_eq_true rfl, Nat.le_of_ble_eq_true rfl⟩ (by simp only [zipN, afill, List.flatMap_cons, List.flatMap_nil, cells_V, cells_RecP]; try rfl)).cast (y := (PV.sl (some 1) 20 1 (List.map ofV ([x10] : (List V))))) rfl rfl) ?_
     obtain ⟨x11, hx11, h⟩ := obind h
     refine sS rfl rfl rfl (op1_appM Try.underlying47 inf_20 rfl Try.underlying47 rfl rfl rfl rfl csz_V call1_V hx11 rfl) ?_
     refine sA rfl rfl rfl rfl rfl (ao_nil ?_)
     change BW _ _ _ _ _
     refine bw_region ?_
     refine sS rfl rfl rfl (op1_incN (k := s6) (c := 1) rfl rfl rfl (by omega)) ?_
     refine sM rfl rfl rfl rfl rfl (ao_nil ?_)
     exact ⟨rfl, (x11, (s6 + 1)), h, ⟨(.cons .same .nil), (sC rfl (sC rfl (sC rfl (sC rfl sub_nil))))⟩⟩
    ·intro hc7; replace h := ocond_f hc7 h
     refine bw_exit ?_
     change BW _ _ _ _ _
     refine bR ?_
     refine sM rfl rfl rfl rfl rfl ?_
     refine sS rfl rfl rfl ((op1_mkI Try.underlying47 rfl rfl rfl).wk ((Wk.iface Wk.tok).trans (Wk.eq (mk_list _).symm))) ?_
     refine sA rfl rfl rfl rfl rfl (ao_nil ?_)
     change BW _ _ _ _ _
     refine bw_ret ?_
     change ∃ xs, _ = some xs ∧ EndOk _ _ _ _
     obtain rfl := Option.some.inj h
     exact ⟨_, rfl, endOk0 (y := (ofV (V.list s5))) (Wk.refl _) (ids_V (V.list s5)) ⟨rfl, rfl⟩⟩
  ·intro hc3; replace h := ocond_f hc3 h
   refine bR ?_
   refine sS rfl rfl rfl (op1_taDict rfl rfl) ?_
   refine sS rfl rfl rfl (op1_ext rfl rfl rfl) ?_
   refine sS rfl rfl rfl (op1_ext rfl rfl rfl) (ao_nil ?_)
   change BW _ _ _ _ _
   refine bw_cond rfl ?_ ?_
   ·intro hc12; replace h := ocond_t hc12 h
    refine bR ?_
    refine sA rfl rfl rfl rfl rfl (ao_nil ?_)
    change BW _ _ _ _ _
    refine bR ?_
    refine sM rfl rfl rfl rfl rfl ?_
    obtain ⟨x13, hx13, h⟩ := obind h
    refine sS rfl rfl rfl (op1_pcall rfl en_66 rfl (.cons (Wk.refl _) .nil) ⟨(ids_slM ids_Fld ((a0).asDict)), trivial⟩ (c_value_copiedDict ((a0).asDict) x13 hx13) (ids_slM ids_Fld x13)) ?_
    refine sS rfl rfl rfl ((op1_mkI Try.underlying49 rfl rfl rfl).wk ((Wk.iface (Wk.refl _)).trans (Wk.eq (mk_dict _).symm))) ?_
    refine sA rfl rfl rfl rfl rfl (ao_nil ?_)
    change BW _ _ _ _ _
    refine bw_ret ?_
    change ∃ xs, _ = some xs ∧ EndOk _ _ _ _
    obtain rfl := Option.some.inj h
    exact ⟨_, rfl, endOk0 (y := (ofV (V.dict x13))) (Wk.refl _) (ids_V (V.dict x13)) ⟨rfl, rfl⟩⟩
   ·intro hc12; replace h := ocond_f hc12 h
    refine bR ?_
    refine sS rfl rfl rfl (op1_taRec rfl rfl) ?_
    refine sS rfl rfl rfl (op1_ext rfl rfl rfl) ?_
    refine sS rfl rfl rfl (op1_ext rfl rfl rfl) (ao_nil ?_)
    change BW _ _ _ _ _
    refine bw_cond rfl ?_ ?_
    ·intro hc14; replace h := ocond_t hc14 h
     refine bR ?_
     refine sA rfl rfl rfl rfl rfl (ao_nil ?_)
     change BW _ _ _ _ _
     refine bw_seq (bw_tail 13 [] [] mo (by kernel_rfl) ?_)
     refine ac_go rfl rfl rfl rfl (fun H hp => op1_move rfl rfl) ?_
     obtain ⟨x15, hx15, h⟩ := obind h
     refine ac_go rfl rfl rfl rfl (fun H hp => op1_pNil rfl rfl hx15) ?_
     refine ac_go rfl rfl rfl rfl (fun H hp => op1_faP st_60 (i := 0) rfl rfl rfl) ?_
     refine ac_go rfl rfl rfl rfl (fun H hp => op1_ldP (y := (ofStr x15.cls)) Try.underlying9 rfl rfl rfl rfl) ?_
     refine ac_go rfl rfl rfl rfl (fun H hp => op1_move rfl rfl) ?_
     refine ac_go rfl rfl rfl rfl (fun H hp => op1_pNil rfl rfl hx15) ?_
     refine ac_go rfl rfl rfl rfl (fun H hp => op1_faP st_60 (i := 1) rfl rfl rfl) ?_
     refine ac_go rfl rfl rfl rfl (fun H hp => op1_ldP (y := (I64 x15.ver)) Try.underlying3 rfl rfl rfl rfl) ?_
     refine ac_go rfl rfl rfl rfl (fun H hp => op1_move rfl rfl) ?_
     refine ac_go rfl rfl rfl rfl (fun H hp => op1_pNil rfl rfl hx15) ?_
     refine ac_go rfl rfl rfl rfl (fun H hp => op1_faP st_60 (i := 2) rfl rfl rfl) ?_
     refine ac_go rfl rfl rfl rfl (fun H hp => op1_ldP (y := (PV.sl none 55 2 (List.map ofFld x15.fields))) Try.underlying49 rfl rfl rfl rfl) ?_
     obtain ⟨x16, hx16, h⟩ := obind h
     refine ac_go rfl rfl rfl rfl (fun H hp => op1_pcall rfl en_66 rfl (.cons (Wk.refl _) .nil) ⟨(ids_slM ids_Fld x15.fields), trivial⟩ (c_value_copiedDict x15.fields x16 hx16) (ids_slM ids_Fld x16)) ?_
     refine ac_nil ?_
     change AO _ _ _ _ _
     refine sS rfl rfl rfl (op1_build (cs := [(ofStr x15.cls), (I64 x15.ver), (PV.sl none 55 2 (List.map ofFld x16))]) st_60 inf_60 rfl rfl rfl rfl) ?_
     refine sS rfl rfl rfl (op1_box rfl rfl rfl) ?_
     refine sS rfl rfl rfl (op1_mkI Try.underlying50 rfl rfl rfl) ?_
     refine sA rfl rfl rfl rfl rfl (ao_nil ?_)
     change BW _ _ _ _ _
     refine bw_thaw 0 2 (y := (ofV (V.record x15.cls x15.ver x16))) rfl rfl ((Wk.iface (Wk.pt (x := .agg [(ofStr x15.cls), (I64 x15.ver), (PV.sl none 55 2 (List.map ofFld x16))]) (y := ofRec (Rec.mk x15.cls x15.ver x16)) (.cons (Wk.refl _) (.cons (Wk.refl _) (.cons (Wk.refl _) .nil))))).trans (Wk.eq (mk_rec (some (Rec.mk x15.cls x15.ver x16))).symm)) ?_
     refine bw_ret ?_
     change ∃ xs, _ = some xs ∧ EndOk _ _ _ _
     obtain rfl := Option.some.inj h
     exact ⟨_, rfl, endOk0 (y := (ofV (V.record x15.cls x15.ver x16))) (Wk.refl _) (ids_V (V.record x15.cls x15.ver x16)) ⟨rfl, rfl⟩⟩
    ·intro hc14; replace h := ocond_f hc14 h
     refine bw_skip ?_
     change BW _ _ _ _ _
     refine bR ?_
     refine sM rfl rfl rfl rfl rfl ?_
     refine sA rfl rfl rfl rfl rfl (ao_nil ?_)
     change BW _ _ _ _ _
     refine bw_ret ?_
     change ∃ xs, _ = some xs ∧ EndOk _ _ _ _
     obtain rfl := Option.some.inj h
     exact ⟨_, rfl, endOk0 (y := (ofV a0)) (Wk.refl _) (ids_V a0) ⟨rfl, rfl⟩⟩
theorem C_value_copiedDict.sound : ∀ (i : C_value_copiedDict) (r : i.R), fixO C_value_copiedDict.F i = some r → C_value_copiedDict.Q i r := by
 refine fixO_ind (Φ := C_value_copiedDict.F) (Q := C_value_copiedDict.Q) ?_
 intro g hg i r h
 cases i with
 | k_value_copiedDict a0 => exact t_value_copiedDict (fun a0 => g (.k_value_copiedDict a0)) (fun a0 r hr => hg (.k_value_copiedDict a0) r hr) (fun a0 => g (.k_value_copied a0)) (fun a0 r hr => hg (.k_value_copied a0) r hr) a0 r h
 | k_value_copied a0 => exact t_value_copied (fun a0 => g (.k_value_copiedDict a0)) (fun a0 r hr => hg (.k_value_copiedDict a0) r hr) (fun a0 => g (.k_value_copied a0)) (fun a0 r hr => hg (.k_value_copied a0) r hr) a0 r h
theorem s_value_copied (a0 : V) (r : V) (h : p_value_copied a0 = some r) : PCalls Try.prog 53 [(ofV a0)] (ofV r) := C_value_copiedDict.sound (.k_value_copied a0) r h
noncomputable def p_value_Copy (a0 : V) : Option (V × Int) :=
 Option.bind (p_value_check a0) fun x1 =>
 bif (x1.2 != 0) then (
  some (V.nil, x1.2)
 ) else (
  Option.bind (p_value_copied a0) fun x3 =>
  some (x3, 0)
 )
theorem s_value_Copy (a0 : V) (r : (V × Int)) (h : p_value_Copy a0 = some r) : PCalls Try.prog 26 [(ofV a0)] (PV.tup [(ofV r.1), (I64 r.2)]) := by
 unfold p_value_Copy at h
 refine acalls_of Try.func26 rfl Try.ntmps26 Try.results26 rfl (aw_of_bw ?_)
 change BW _ _ _ ⟨[(0, (ofV a0))], [], _⟩ _
 refine bR ?_
 refine sA rfl rfl rfl rfl rfl ?_
 refine sA rfl rfl rfl rfl rfl (ao_nil ?_)
 change BW _ _ _ _ _
 refine bw_seq ?_
 refine bR ?_
 refine sM rfl rfl rfl rfl rfl ?_
 obtain ⟨x1, hx1, h⟩ := obind h
 refine sS rfl rfl rfl (op1_pcall rfl en_19 rfl (.cons (Wk.refl _) .nil) ⟨(ids_V a0), trivial⟩ (s_value_check a0 x1 hx1) (ids_tup_cons rfl (ids_tup_cons rfl ids_tup_nil))) ?_
 refine sM rfl rfl rfl rfl rfl ?_
 refine sS rfl rfl rfl (op1_ext rfl rfl rfl) ?_
 refine sS rfl rfl rfl (op1_ext rfl rfl rfl) ?_
 refine sA rfl rfl rfl rfl rfl ?_
 refine sA rfl rfl rfl rfl rfl (ao_nil ?_)
 change BW _ _ _ _ _
 refine bR ?_
 refine sM rfl rfl rfl rfl rfl ?_
 refine sS rfl rfl rfl ((op1_cmp rfl rfl rfl rfl).cast (y := (BO ((x1.2 != 0)))) rfl rfl) (ao_nil ?_)
 change BW _ _ _ _ _
 refine bw_cond rfl ?_ ?_
 ·intro hc2; replace h := ocond_t hc2 h
  refine bR ?_
  refine sM rfl rfl rfl rfl rfl ?_
  refine sA rfl rfl rfl rfl rfl ?_
  refine sA rfl rfl rfl rfl rfl (ao_nil ?_)
  change BW _ _ _ _ _
  refine bw_ret ?_
  change ∃ xs, _ = some xs ∧ EndOk _ _ _ _
  obtain rfl := Option.some.inj h
  exact ⟨_, rfl, endOk0 (y := (PV.tup [(ofV V.nil), (I64 x1.2)])) (Wk.tup (.cons (Wk.eq mk_nil.symm) (.cons (Wk.refl _) .nil))) (ids_tup_cons (ids_V V.nil) (ids_tup_cons rfl ids_tup_nil)) ⟨rfl, rfl⟩⟩
 ·intro hc2; replace h := ocond_f hc2 h
  refine bw_skip ?_
  change BW _ _ _ _ _
  refine bR ?_
  refine sM rfl rfl rfl rfl rfl ?_
  obtain ⟨x3, hx3, h⟩ := obind h
  refine sS rfl rfl rfl (op1_pcall rfl en_53 rfl (.cons (Wk.refl _) .nil) ⟨(ids_V a0), trivial⟩ (s_value_copied a0 x3 hx3) (ids_V x3)) ?_
  refine sA rfl rfl rfl rfl rfl ?_
  refine sA rfl rfl rfl rfl rfl (ao_nil ?_)
  change BW _ _ _ _ _
  refine bw_ret ?_
  change ∃ xs, _ = some xs ∧ EndOk _ _ _ _
  obtain rfl := Option.some.inj h
  exact ⟨_, rfl, endOk0 (y := (PV.tup [(ofV x3), (I64 0)])) (Wk.refl _) (ids_tup_cons (ids_V x3) (ids_tup_cons rfl ids_tup_nil)) ⟨rfl, rfl⟩⟩
noncomputable def p_merge_copied (a0 : V) : Option V :=
 Option.bind (p_value_Copy a0) fun x1 =>
 some x1.1
theorem s_merge_copied (a0 : V) (r : V) (h : p_merge_copied a0 = some r) : PCalls Try.prog 30 [(ofV a0)] (ofV r) := by
 unfold p_merge_copied at h
 refine acalls_of Try.func30 rfl Try.ntmps30 Try.results30 rfl (aw_of_bw ?_)
 change BW _ _ _ ⟨[(0, (ofV a0))], [], _⟩ _
 refine bR ?_
 refine sA rfl rfl rfl rfl rfl (ao_nil ?_)
 change BW _ _ _ _ _
 refine bR ?_
 refine sM rfl rfl rfl rfl rfl ?_
 obtain ⟨x1, hx1, h⟩ := obind h
 refine sS rfl rfl rfl (op1_pcall rfl en_26 rfl (.cons (Wk.refl _) .nil) ⟨(ids_V a0), trivial⟩ (s_value_Copy a0 x1 hx1) (ids_tup_cons (ids_V x1.1) (ids_tup_cons rfl ids_tup_nil))) ?_
 refine sM rfl rfl rfl rfl rfl ?_
 refine sS rfl rfl rfl (op1_ext rfl rfl rfl) ?_
 refine sS rfl rfl rfl (op1_ext rfl rfl rfl) ?_
 refine sA rfl rfl rfl rfl rfl ?_
 refine sA rfl rfl rfl rfl rfl (ao_nil ?_)
 change BW _ _ _ _ _
 refine bR ?_
 refine sM rfl rfl rfl rfl rfl ?_
 refine sA rfl rfl rfl rfl rfl (ao_nil ?_)
 change BW _ _ _ _ _
 refine bw_ret ?_
 change ∃ xs, _ = some xs ∧ EndOk _ _ _ _
 obtain rfl := Option.some.inj h
 exact ⟨_, rfl, endOk0 (y := (ofV x1.1)) (Wk.refl _) (ids_V x1.1) ⟨rfl, rfl⟩⟩
noncomputable def p_merge_merger_conflict_1 (a0 : (List S_api_Step)) (a1 : S_merge_side) (a2 : S_merge_side) (a3 : S_merge_side) : Option S_api_Conflict :=
 Option.bind (p_slices_Clone_api_Step_api_Step a0) fun x1 =>
 Option.bind (p_merge_copied a1.f_v) fun x2 =>
 Option.bind (p_merge_copied a2.f_v) fun x3 =>
 Option.bind (p_merge_copied a3.f_v) fun x4 =>
 some (S_api_Conflict.mk x1 x2 x3 x4 a1.f_has a2.f_has a3.f_has)
theorem s_merge_merger_conflict_1 (a0 : (List S_api_Step)) (a1 : S_merge_side) (a2 : S_merge_side) (a3 : S_merge_side) (r : S_api_Conflict) (h : p_merge_merger_conflict_1 a0 a1 a2 a3 = some r) : PCalls Try.prog 71 [(PV.pt 42 (PV.sl none 57 3 (List.map of_api_Step a0)) 0), (PV.pt 87 (of_merge_side a1) 0), (PV.pt 87 (of_merge_side a2) 0), (PV.pt 87 (of_merge_side a3) 0)] (of_api_Conflict r) := by
 unfold p_merge_merger_conflict_1 at h
 refine acalls_of Try.func71 rfl Try.ntmps71 Try.results71 rfl (aw_of_bw ?_)
 change BW _ _ _ ⟨[(0, (PV.pt 42 (PV.sl none 57 3 (List.map of_api_Step a0)) 0)), (1, (PV.pt 87 (of_merge_side a1) 0)), (2, (PV.pt 87 (of_merge_side a2) 0)), (3, (PV.pt 87 (of_merge_side a3) 0))], [], _⟩ _
 refine bR ?_
 refine sS rfl rfl rfl ((op1_alloc inf_44 rfl).cast (H'' := [.box 44 [(PV.v (.slice none 0 0)), (ofV V.nil), (ofV V.nil), (ofV V.nil), (BO false), (BO false), (BO false)]]) rfl (by simp only [mk_nil]; rfl)) (ao_nil ?_)
 change BW _ _ _ _ _
 refine bw_seq (bw_tail 17 [] [] mo (by kernel_rfl) ?_)
 refine ac_go rfl rfl rfl rfl (fun H hp => op1_ldP (y := (PV.sl none 57 3 (List.map of_api_Step a0))) Try.underlying42 rfl rfl rfl rfl) ?_
 obtain ⟨x1, hx1, h⟩ := obind h
 refine ac_go rfl rfl rfl rfl (fun H hp => op1_pcall rfl en_46 rfl (.cons (Wk.refl _) .nil) ⟨(ids_slM ids_S_api_Step a0), trivial⟩ (s_slices_Clone_api_Step_api_Step a0 x1 hx1) (ids_slM ids_S_api_Step x1)) ?_
 refine ac_go rfl rfl rfl rfl (fun H hp => op1_faP st_87 (i := 0) rfl rfl rfl) ?_
 refine ac_go rfl rfl rfl rfl (fun H hp => op1_ldP (y := (ofV a1.f_v)) Try.underlying20 rfl rfl rfl rfl) ?_
 obtain ⟨x2, hx2, h⟩ := obind h
 refine ac_go rfl rfl rfl rfl (fun H hp => op1_pcall rfl en_30 rfl (.cons (Wk.refl _) .nil) ⟨(ids_V a1.f_v), trivial⟩ (s_merge_copied a1.f_v x2 hx2) (ids_V x2)) ?_
 refine ac_go rfl rfl rfl rfl (fun H hp => op1_faP st_87 (i := 0) rfl rfl rfl) ?_
 refine ac_go rfl rfl rfl rfl (fun H hp => op1_ldP (y := (ofV a2.f_v)) Try.underlying20 rfl rfl rfl rfl) ?_
 obtain ⟨x3, hx3, h⟩ := obind h
 refine ac_go rfl rfl rfl rfl (fun H hp => op1_pcall rfl en_30 rfl (.cons (Wk.refl _) .nil) ⟨(ids_V a2.f_v), trivial⟩ (s_merge_copied a2.f_v x3 hx3) (ids_V x3)) ?_
 refine ac_go rfl rfl rfl rfl (fun H hp => op1_faP st_87 (i := 0) rfl rfl rfl) ?_
 refine ac_go rfl rfl rfl rfl (fun H hp => op1_ldP (y := (ofV a3.f_v)) Try.underlying20 rfl rfl rfl rfl) ?_
 obtain ⟨x4, hx4, h⟩ := obind h
 refine ac_go rfl rfl rfl rfl (fun H hp => op1_pcall rfl en_30 rfl (.cons (Wk.refl _) .nil) ⟨(ids_V a3.f_v), trivial⟩ (s_merge_copied a3.f_v x4 hx4) (ids_V x4)) ?_
 refine ac_go rfl rfl rfl rfl (fun H hp => op1_faP st_87 (i := 1) rfl rfl rfl) ?_
 refine ac_go rfl rfl rfl rfl (fun H hp => op1_ldP (y := (BO a1.f_has)) Try.underlying4 rfl rfl rfl rfl) ?_
 refine ac_go rfl rfl rfl rfl (fun H hp => op1_faP st_87 (i := 1) rfl rfl rfl) ?_
 refine ac_go rfl rfl rfl rfl (fun H hp => op1_ldP (y := (BO a2.f_has)) Try.underlying4 rfl rfl rfl rfl) ?_
 refine ac_go rfl rfl rfl rfl (fun H hp => op1_faP st_87 (i := 1) rfl rfl rfl) ?_
 refine ac_go rfl rfl rfl rfl (fun H hp => op1_ldP (y := (BO a3.f_has)) Try.underlying4 rfl rfl rfl rfl) ?_
 refine ac_nil ?_
 change AO _ _ _ _ _
 refine sS rfl rfl rfl (op1_build (cs := [(PV.sl none 57 3 (List.map of_api_Step x1)), (ofV x2), (ofV x3), (ofV x4), (BO a1.f_has), (BO a2.f_has), (BO a3.f_has)]) st_44 inf_44 rfl rfl (by simp only [List.all_cons, List.all_nil, cok_V, cok_RecP, Bool.and_true, Bool.true_and]; try rfl) (by simp only [afill, List.getElem?_cons_zero, List.getElem?_cons_succ, cells_V, cells_RecP]; rfl)) ?_
 refine ao_step0 rfl rfl (op1_store inf_44 rfl rfl rfl rfl rfl rfl (Nat.le_of_ble_eq_true rfl) (by show List.all [(PV.sl none 57 3 (List.map of_api_Step x1)), (ofV x2), (ofV x3), (ofV x4), (BO a1.f_has), (BO a2.f_has), (BO a3.f_has)] one1 = true; simp only [List.all_cons, List.all_nil, one_V, one_RecP, Bool.and_true, Bool.true_and]; try rfl)) ?_
 refine ao_nil ?_
 change BW _ _ _ _ _
 refine bw_ret ?_
 change ∃ xs, _ = some xs ∧ EndOk _ _ _ _
 obtain rfl := Option.some.inj h
 exact ⟨_, rfl, endOk0 (y := (of_api_Conflict (S_api_Conflict.mk x1 x2 x3 x4 a1.f_has a2.f_has a3.f_has))) (Wk.refl _) (ids_S_api_Conflict (S_api_Conflict.mk x1 x2 x3 x4 a1.f_has a2.f_has a3.f_has)) ⟨rfl, rfl⟩⟩
noncomputable def p_merge_merger_conflict (a0 : S_merge_merger) (a1 : (List S_api_Step)) (a2 : S_merge_side) (a3 : S_merge_side) (a4 : S_merge_side) : Option (S_merge_side × S_merge_merger) :=
 Option.bind (p_merge_merger_conflict_1 a1 a2 a3 a4) fun x1 =>
 Option.bind (appO 80 a0.f_conflicts ([x1] : (List S_api_Conflict))) fun x2 =>
 some (a3, (S_merge_merger.mk a0.f_settle x2))
theorem s_merge_merger_conflict (a0 : S_merge_merger) (a1 : (List S_api_Step)) (a2 : S_merge_side) (a3 : S_merge_side) (a4 : S_merge_side) (r : (S_merge_side × S_merge_merger)) (h : p_merge_merger_conflict a0 a1 a2 a3 a4 = some r) : MCalls Try.prog 57 [(PV.rf 0 0), (PV.sl none 57 3 (List.map of_api_Step a1)), (of_merge_side a2), (of_merge_side a3), (of_merge_side a4)] [.box 83 [(PV.v .nilFunc), (PV.sl (some 1) 44 7 (List.map of_api_Conflict a0.f_conflicts))], .arr 44 (a0.f_conflicts).length] (of_merge_side r.1) [.box 83 [(PV.v .nilFunc), (PV.sl (some 1) 44 7 (List.map of_api_Conflict (r.2).f_conflicts))], .arr 44 ((r.2).f_conflicts).length] := by
 unfold p_merge_merger_conflict at h
 refine acalls_of Try.func57 rfl Try.ntmps57 Try.results57 rfl (aw_of_bw ?_)
 change BW _ _ _ ⟨[(0, (PV.rf 0 0)), (1, (PV.sl none 57 3 (List.map of_api_Step a1))), (2, (of_merge_side a2)), (3, (of_merge_side a3)), (4, (of_merge_side a4))], [.box 83 [(PV.v .nilFunc), (PV.sl (some 1) 44 7 (List.map of_api_Conflict a0.f_conflicts))], .arr 44 (a0.f_conflicts).length], _⟩ _
 refine bR ?_
 refine sS rfl rfl rfl (op1_box rfl rfl rfl) ?_
 refine sS rfl rfl rfl (op1_box rfl rfl rfl) ?_
 refine sS rfl rfl rfl (op1_box rfl rfl rfl) ?_
 refine sS rfl rfl rfl (op1_box rfl rfl rfl) ?_
 refine sS rfl rfl rfl (op1_box rfl rfl rfl) ?_
 refine sS rfl rfl rfl ((op1_alloc inf_87 rfl).cast (H'' := [.box 83 [(PV.v .nilFunc), (PV.sl (some 1) 44 7 (List.map of_api_Conflict a0.f_conflicts))], .arr 44 (a0.f_conflicts).length, .box 81 [(PV.rf 0 0)], .box 42 [(PV.sl none 57 3 (List.map of_api_Step a1))], .box 87 [(ofV a2.f_v), (BO a2.f_has)], .box 87 [(ofV a3.f_v), (BO a3.f_has)], .box 87 [(ofV a4.f_v), (BO a4.f_has)], .box 87 [(ofV V.nil), (BO false)]]) rfl (by simp only [mk_nil]; rfl)) (ao_nil ?_)
 change BW _ _ _ _ _
 refine bw_seq ?_
 refine bw_thaw 3 6 (y := (PV.pt 42 (PV.sl none 57 3 (List.map of_api_Step a1)) 0)) rfl rfl (Wk.pt (x := .agg [(PV.sl none 57 3 (List.map of_api_Step a1))]) (y := (PV.sl none 57 3 (List.map of_api_Step a1))) (.cons (Wk.refl _) .nil)) ?_
 refine bw_thaw 4 7 (y := (PV.pt 87 (of_merge_side a2) 0)) rfl rfl (Wk.pt (x := .agg [(ofV a2.f_v), (BO a2.f_has)]) (y := (of_merge_side a2)) (.cons (Wk.refl _) (.cons (Wk.refl _) .nil))) ?_
 refine bw_thaw 5 8 (y := (PV.pt 87 (of_merge_side a3) 0)) rfl rfl (Wk.pt (x := .agg [(ofV a3.f_v), (BO a3.f_has)]) (y := (of_merge_side a3)) (.cons (Wk.refl _) (.cons (Wk.refl _) .nil))) ?_
 refine bw_thaw 6 9 (y := (PV.pt 87 (of_merge_side a4) 0)) rfl rfl (Wk.pt (x := .agg [(ofV a4.f_v), (BO a4.f_has)]) (y := (of_merge_side a4)) (.cons (Wk.refl _) (.cons (Wk.refl _) .nil))) ?_
 refine bw_region ?_
 refine sS rfl rfl rfl (op1_fn rfl rfl rfl) ?_
 refine sS rfl rfl rfl (op1_alloc inf_133 rfl) ?_
 refine ao_step0 rfl rfl (op1_store inf_133 rfl rfl rfl rfl rfl rfl (Nat.le_of_ble_eq_true rfl) rfl) ?_
 refine ao_nil ?_
 change BW _ _ _ _ _
 refine bw_seq (bw_tail 9 [7, 8] [0, 2, 8] mo (by kernel_rfl) ?_)
 refine ac_go rfl rfl rfl rfl (fun H hp => (op1_ldR Try.underlying81 rfl rfl rfl (hp.at rfl rfl) rfl)) ?_
 refine ac_go rfl rfl rfl rfl (fun H hp => (op1_ldR Try.underlying81 rfl rfl rfl (hp.at rfl rfl) rfl)) ?_
 refine ac_go rfl rfl rfl rfl (fun H hp => op1_nilR rfl rfl) ?_
 refine ac_go rfl rfl rfl rfl (fun H hp => op1_faR st_83 (i := 1) rfl rfl rfl) ?_
 refine ac_go rfl rfl rfl rfl (fun H hp => (op1_ldR Try.underlying32 rfl rfl rfl (hp.at rfl rfl) rfl)) ?_
 refine ac_go rfl rfl rfl rfl (fun H hp => (op1_ldR Try.underlying133 rfl rfl rfl (hp.at rfl rfl) rfl)) ?_
 obtain ⟨x1, hx1, h⟩ := obind h
 refine ac_go rfl rfl rfl rfl (fun H hp => op1_pcallC rfl rfl en_71 rfl (.cons (Wk.refl _) (.cons (Wk.refl _) (.cons (Wk.refl _) (.cons (Wk.refl _) .nil)))) ⟨(ids_ptC (ids_slM ids_S_api_Step a1)), ⟨(ids_S_merge_side a2), ⟨(ids_S_merge_side a3), ⟨(ids_S_merge_side a4), trivial⟩⟩⟩⟩ (s_merge_merger_conflict_1 a1 a2 a3 a4 x1 hx1) (ids_S_api_Conflict x1)) ?_
 refine ac_lgo rfl rfl rfl rfl ((op1_bslice (xs := [(of_api_Conflict x1)]) Try.underlying32 inf_44 rfl rfl rfl (by simp only [List.all_cons, List.all_nil, cok_V, cok_RecP, Bool.and_true, Bool.true_and]; try rfl) (by simp only [List.all_cons, List.all_nil, csz_V, csz_RecP, cells_V, cells_RecP]; try rfl) rfl ⟨Nat.le_of_ble_eq_true rfl, Nat.le_of_ble_eq_true rfl⟩ (by simp only [zipN, afill, List.flatMap_cons, List.flatMap_nil, cells_V, cells_RecP]; try rfl)).cast (y := (PV.sl (some 9) 44 7 (List.map of_api_Conflict ([x1] : (List S_api_Conflict))))) rfl rfl) ⟨rfl, ⟨rfl, ⟨rfl, trivial⟩⟩⟩ ?_
 obtain ⟨x2, hx2, h⟩ := obind h
 refine ac_lgo rfl rfl rfl rfl (op1_appM Try.underlying32 inf_44 rfl Try.underlying32 rfl rfl rfl rfl csz_S_api_Conflict call1_S_api_Conflict hx2 rfl) ⟨rfl, ⟨rfl, ⟨rfl, trivial⟩⟩⟩ ?_
 refine ac_nil ?_
 change AO _ _ _ _ _
 refine sS rfl rfl rfl (op1_nilR rfl rfl) ?_
 refine sS rfl rfl rfl (op1_faR st_83 (i := 1) rfl rfl rfl) ?_
 refine ao_step0 rfl rfl (op1_store inf_32 rfl rfl rfl rfl rfl rfl (Nat.le_of_ble_eq_true rfl) rfl) ?_
 refine ao_nil ?_
 change BW _ _ _ _ _
 refine bw_seq ?_
 refine bR ?_
 refine sS rfl rfl rfl ((op1_ldR Try.underlying81 rfl rfl rfl rfl rfl)) ?_
 refine sS rfl rfl rfl (op1_nilR rfl rfl) ?_
 refine sS rfl rfl rfl (op1_faR st_83 (i := 0) rfl rfl rfl) ?_
 refine sS rfl rfl rfl ((op1_ldR Try.underlying62 rfl rfl rfl rfl rfl)) ?_
 refine sS rfl rfl rfl (op1_cmpF Try.underlying62 ⟨_, _, _, rfl⟩ rfl rfl rfl (.inl ⟨rfl, rfl⟩)) (ao_nil ?_)
 change BW _ _ _ _ _
 refine bw_condT rfl ?_
 refine bR ?_
 refine sS rfl rfl rfl (op1_ldPW inf_87 Try.underlying87 rfl rfl rfl rfl rfl) ?_
 refine ao_step0 rfl rfl (op1_store inf_87 rfl rfl rfl rfl rfl rfl (Nat.le_of_ble_eq_true rfl) (by show List.all [(ofV a3.f_v), (BO a3.f_has)] one1 = true; simp only [List.all_cons, List.all_nil, one_V, one_RecP, Bool.and_true, Bool.true_and]; try rfl)) ?_
 refine ao_nil ?_
 change BW _ _ _ _ _
 refine bw_ret ?_
 change ∃ xs, _ = some xs ∧ EndOk _ _ _ _
 obtain rfl := Option.some.inj h
 exact ⟨_, rfl, endR (y := (of_merge_side a3)) 2 (Wk.refl _) rfl rfl (.same (ids_S_merge_side a3)) (.cons (.box (.cons (.same rfl) (.cons (.row rfl (ids_map ids_S_api_Conflict (((S_merge_merger.mk a0.f_settle x2)).f_conflicts))) .nil))) (.cons .arr .nil)) ⟨rfl, rfl⟩⟩
noncomputable def p_merge_fieldsOf (a0 : V) : Option ((List (Str × V)) × Str × Int × Bool) :=
 bif (a0).isDict then (
  some ((a0).asDict, ([] : Str), 0, true)
 ) else (
  bif (a0).isRec then (
   Option.bind ((a0).asRec) fun x3 =>
   some (x3.fields, x3.cls, x3.ver, true)
  ) else (
   some ([], ([] : Str), 0, false)
  )
 )
theorem s_merge_fieldsOf (a0 : V) (r : ((List (Str × V)) × Str × Int × Bool)) (h : p_merge_fieldsOf a0 = some r) : PCalls Try.prog 67 [(ofV a0)] (PV.tup [(PV.sl none 55 2 (List.map ofFld r.1)), (ofStr r.2.1), (I64 r.2.2.1), (BO r.2.2.2)]) := by
 unfold p_merge_fieldsOf at h
 refine acalls_of Try.func67 rfl Try.ntmps67 Try.results67 rfl (aw_of_bw ?_)
 change BW _ _ _ ⟨[(0, (ofV a0))], [], _⟩ _
 refine bR ?_
 refine sA rfl rfl rfl rfl rfl ?_
 refine sA rfl rfl rfl rfl rfl ?_
 refine sA rfl rfl rfl rfl rfl ?_
 refine sA rfl rfl rfl rfl rfl (ao_nil ?_)
 change BW _ _ _ _ _
 refine bw_seq ?_
 refine bR ?_
 refine sM rfl rfl rfl rfl rfl (ao_nil ?_)
 change BW _ _ _ _ _
 refine bw_block ?_
 change BW _ _ _ _ _
 refine bR ?_
 refine sS rfl rfl rfl (op1_taDict rfl rfl) ?_
 refine sS rfl rfl rfl (op1_ext rfl rfl rfl) ?_
 refine sS rfl rfl rfl (op1_ext rfl rfl rfl) (ao_nil ?_)
 change BW _ _ _ _ _
 refine bw_cond rfl ?_ ?_
 ·intro hc1; replace h := ocond_t hc1 h
  refine bR ?_
  refine sA rfl rfl rfl rfl rfl (ao_nil ?_)
  change BW _ _ _ _ _
  refine bR ?_
  refine sM rfl rfl rfl rfl rfl ?_
  refine sA rfl rfl rfl rfl rfl ?_
  refine sA rfl rfl rfl rfl rfl ?_
  refine sA rfl rfl rfl rfl rfl ?_
  refine sA rfl rfl rfl rfl rfl (ao_nil ?_)
  change BW _ _ _ _ _
  refine bw_ret ?_
  change ∃ xs, _ = some xs ∧ EndOk _ _ _ _
  obtain rfl := Option.some.inj h
  exact ⟨_, rfl, endOk0 (y := (PV.tup [(PV.sl none 55 2 (List.map ofFld (a0).asDict)), (ofStr ([] : Str)), (I64 0), (BO true)])) (Wk.refl _) (ids_tup_cons (ids_slM ids_Fld ((a0).asDict)) (ids_tup_cons rfl (ids_tup_cons rfl (ids_tup_cons rfl ids_tup_nil)))) ⟨rfl, rfl⟩⟩
 ·intro hc1; replace h := ocond_f hc1 h
  refine bR ?_
  refine sS rfl rfl rfl (op1_taRec rfl rfl) ?_
  refine sS rfl rfl rfl (op1_ext rfl rfl rfl) ?_
  refine sS rfl rfl rfl (op1_ext rfl rfl rfl) (ao_nil ?_)
  change BW _ _ _ _ _
  refine bw_cond rfl ?_ ?_
  ·intro hc2; replace h := ocond_t hc2 h
   refine bR ?_
   refine sA rfl rfl rfl rfl rfl (ao_nil ?_)
   change BW _ _ _ _ _
   refine bw_seq (bw_tail 14 [] [] mo (by kernel_rfl) ?_)
   refine ac_go rfl rfl rfl rfl (fun H hp => op1_move rfl rfl) ?_
   obtain ⟨x3, hx3, h⟩ := obind h
   refine ac_go rfl rfl rfl rfl (fun H hp => op1_pNil rfl rfl hx3) ?_
   refine ac_go rfl rfl rfl rfl (fun H hp => op1_faP st_60 (i := 2) rfl rfl rfl) ?_
   refine ac_go rfl rfl rfl rfl (fun H hp => op1_ldP (y := (PV.sl none 55 2 (List.map ofFld x3.fields))) Try.underlying49 rfl rfl rfl rfl) ?_
   refine ac_go rfl rfl rfl rfl (fun H hp => op1_move rfl rfl) ?_
   refine ac_go rfl rfl rfl rfl (fun H hp => op1_pNil rfl rfl hx3) ?_
   refine ac_go rfl rfl rfl rfl (fun H hp => op1_faP st_60 (i := 0) rfl rfl rfl) ?_
   refine ac_go rfl rfl rfl rfl (fun H hp => op1_ldP (y := (ofStr x3.cls)) Try.underlying9 rfl rfl rfl rfl) ?_
   refine ac_go rfl rfl rfl rfl (fun H hp => op1_move rfl rfl) ?_
   refine ac_go rfl rfl rfl rfl (fun H hp => op1_pNil rfl rfl hx3) ?_
   refine ac_go rfl rfl rfl rfl (fun H hp => op1_faP st_60 (i := 1) rfl rfl rfl) ?_
   refine ac_go rfl rfl rfl rfl (fun H hp => op1_ldP (y := (I64 x3.ver)) Try.underlying3 rfl rfl rfl rfl) ?_
   refine ac_go rfl rfl rfl rfl (fun H hp => op1_assign rfl rfl) ?_
   refine ac_go rfl rfl rfl rfl (fun H hp => op1_assign rfl rfl) ?_
   refine ac_nil ?_
   change AO _ _ _ _ _
   refine sA rfl rfl rfl rfl rfl ?_
   refine sA rfl rfl rfl rfl rfl (ao_nil ?_)
   change BW _ _ _ _ _
   refine bw_ret ?_
   change ∃ xs, _ = some xs ∧ EndOk _ _ _ _
   obtain rfl := Option.some.inj h
   exact ⟨_, rfl, endOk0 (y := (PV.tup [(PV.sl none 55 2 (List.map ofFld x3.fields)), (ofStr x3.cls), (I64 x3.ver), (BO true)])) (Wk.refl _) (ids_tup_cons (ids_slM ids_Fld x3.fields) (ids_tup_cons rfl (ids_tup_cons rfl (ids_tup_cons rfl ids_tup_nil)))) ⟨rfl, rfl⟩⟩
  ·intro hc2; replace h := ocond_f hc2 h
   refine bw_skip ?_
   change BW _ _ _ _ _
   refine bR ?_
   refine sA rfl rfl rfl rfl rfl ?_
   refine sA rfl rfl rfl rfl rfl ?_
   refine sA rfl rfl rfl rfl rfl ?_
   refine sA rfl rfl rfl rfl rfl (ao_nil ?_)
   change BW _ _ _ _ _
   refine bw_ret ?_
   change ∃ xs, _ = some xs ∧ EndOk _ _ _ _
   obtain rfl := Option.some.inj h
   exact ⟨_, rfl, endOk0 (y := (PV.tup [(PV.sl none 55 2 (List.map ofFld [])), (ofStr ([] : Str)), (I64 0), (BO false)])) (Wk.tup (.cons Wk.nil (.cons (Wk.refl _) (.cons (Wk.refl _) (.cons (Wk.refl _) .nil))))) (ids_tup_cons (ids_slM ids_Fld ([])) (ids_tup_cons rfl (ids_tup_cons rfl (ids_tup_cons rfl ids_tup_nil)))) ⟨rfl, rfl⟩⟩
noncomputable def p_slices_Clip_api_Step_api_Step (a0 : (List S_api_Step)) : Option (List S_api_Step) :=
 some a0
theorem s_slices_Clip_api_Step_api_Step (a0 : (List S_api_Step)) (r : (List S_api_Step)) (h : p_slices_Clip_api_Step_api_Step a0 = some r) : MCalls Try.prog 50 [(PV.sl none 57 3 (List.map of_api_Step a0))] [] (PV.sl (some 0) 57 3 (List.map of_api_Step r)) [.arr 57 (r).length] := by
 unfold p_slices_Clip_api_Step_api_Step at h
 refine acalls_of Try.func50 rfl Try.ntmps50 Try.results50 rfl (aw_of_bw ?_)
 change BW _ _ _ ⟨[(0, (PV.sl none 57 3 (List.map of_api_Step a0)))], [], _⟩ _
 refine bR ?_
 refine sA rfl rfl rfl rfl rfl (ao_nil ?_)
 change BW _ _ _ _ _
 refine bR ?_
 refine sM rfl rfl rfl rfl rfl ?_
 refine sM rfl rfl rfl rfl rfl ?_
 refine sS rfl rfl rfl (op1_lenM Try.underlying42 rfl rfl) ?_
 refine sM rfl rfl rfl rfl rfl ?_
 refine sS rfl rfl rfl (op1_lenM Try.underlying42 rfl rfl) ?_
 refine sS rfl rfl rfl (op1_clipM Try.underlying42 inf_57 rfl rfl rfl rfl) ?_
 refine sA rfl rfl rfl rfl rfl (ao_nil ?_)
 change BW _ _ _ _ _
 refine bw_ret ?_
 change ∃ xs, _ = some xs ∧ EndOk _ _ _ _
 obtain rfl := Option.some.inj h
 exact ⟨_, rfl, endOkO (y := (PV.sl (some 0) 57 3 (List.map of_api_Step a0))) 0 rfl (Wk.refl _) (ids_ownrow (ids_map ids_S_api_Step _)) (ren_ownrow (ids_map ids_S_api_Step _) rfl) ⟨rfl, rfl⟩⟩
noncomputable def p_merge_under_1 (a0 : (Str × V)) (a1 : Str) : Option Bool :=
 some (a0.1 == a1)
theorem s_merge_under_1 (a0 : (Str × V)) (a1 : Str) (r : Bool) (h : p_merge_under_1 a0 a1 = some r) : PCalls Try.prog 83 [(ofFld a0), (PV.pt 9 (ofStr a1) 0)] (BO r) := by
 unfold p_merge_under_1 at h
 refine acalls_of Try.func83 rfl Try.ntmps83 Try.results83 rfl (aw_of_bw ?_)
 change BW _ _ _ ⟨[(0, (ofFld a0)), (1, (PV.pt 9 (ofStr a1) 0))], [], _⟩ _
 refine bR ?_
 refine sS rfl rfl rfl (op1_box rfl rfl rfl) ?_
 refine sA rfl rfl rfl rfl rfl (ao_nil ?_)
 change BW _ _ _ _ _
 refine bR ?_
 refine sS rfl rfl rfl (op1_faR st_55 (i := 0) rfl rfl rfl) ?_
 refine sS rfl rfl rfl ((op1_ldR Try.underlying9 rfl rfl rfl rfl rfl)) ?_
 refine sS rfl rfl rfl (op1_ldP (y := (ofStr a1)) Try.underlying9 rfl rfl rfl rfl) ?_
 refine sS rfl rfl rfl ((op1_cmpT (a := a0.1) (b := a1) rfl rfl rfl rfl).cast (y := (BO ((a0.1 == a1)))) rfl rfl) ?_
 refine sA rfl rfl rfl rfl rfl (ao_nil ?_)
 change BW _ _ _ _ _
 refine bw_ret ?_
 change ∃ xs, _ = some xs ∧ EndOk _ _ _ _
 obtain rfl := Option.some.inj h
 exact ⟨_, rfl, endOk0 (y := (BO ((a0.1 == a1)))) (Wk.refl _) rfl ⟨rfl, rfl⟩⟩
noncomputable def slices_IndexFunc_api_Dict_api_Field_merge_under_1_l1b (a0 : (List (Str × V))) (a1c0 : Str) (g1 : Nat → Option Int) (s1 : Nat) : Option Int :=
 bif (decide (((s1 : Nat) : Int) < (((a0).length : Nat) : Int))) then (
  Option.bind ((a0)[s1]?) fun x4 =>
  Option.bind (p_merge_under_1 x4 a1c0) fun x5 =>
  bif x5 then (
   some ((s1 : Nat) : Int)
  ) else (
   g1 (s1 + 1)
  )
 ) else (
  some (-1)
 )
theorem slices_IndexFunc_api_Dict_api_Field_merge_under_1_l1b_cm {ι : Type} {ρ : ι → Type} (g1 : (∀ i, Option (ρ i)) → Nat → Option Int) (h_g1 : ∀ y0, CM (fun G => g1 G y0)) (a0 : (List (Str × V))) (a1c0 : Str) (s1 : Nat) : CM (fun G : (∀ i, Option (ρ i)) => slices_IndexFunc_api_Dict_api_Field_merge_under_1_l1b a0 a1c0 (g1 G) s1) := by
 simp only [slices_IndexFunc_api_Dict_api_Field_merge_under_1_l1b]
 repeat (first | exact cm_const | exact h_g1 _ | refine cm_cond ?_ ?_ | refine cm_bind ?_ (fun _ => ?_))
noncomputable def slices_IndexFunc_api_Dict_api_Field_merge_under_1_l1 (a0 : (List (Str × V))) (a1c0 : Str) (s1 : Nat) : Option Int :=
 fixO (ι := Nat) (ρ := fun _ => Int) (fun g i => slices_IndexFunc_api_Dict_api_Field_merge_under_1_l1b a0 a1c0 (fun s1 => g s1) i) s1
theorem slices_IndexFunc_api_Dict_api_Field_merge_under_1_l1_eq (a0 : (List (Str × V))) (a1c0 : Str) (s1 : Nat) : slices_IndexFunc_api_Dict_api_Field_merge_under_1_l1 a0 a1c0 s1 = slices_IndexFunc_api_Dict_api_Field_merge_under_1_l1b a0 a1c0 (slices_IndexFunc_api_Dict_api_Field_merge_under_1_l1 a0 a1c0) s1 :=
 fixO_eq (ι := Nat) (ρ := fun _ => Int) (Φ := fun g i => slices_IndexFunc_api_Dict_api_Field_merge_under_1_l1b a0 a1c0 (fun s1 => g s1) i) (fun i => slices_IndexFunc_api_Dict_api_Field_merge_under_1_l1b_cm (ι := Nat) (ρ := fun _ => Int) (fun g => (fun s1 => g s1)) (fun _ => cm_app) a0 a1c0 i) s1
noncomputable def p_slices_IndexFunc_api_Dict_api_Field_merge_under_1 (a0 : (List (Str × V))) (a1c0 : Str) : Option Int :=
 slices_IndexFunc_api_Dict_api_Field_merge_under_1_l1 a0 a1c0 0
theorem s_slices_IndexFunc_api_Dict_api_Field_merge_under_1 (a0 : (List (Str × V))) (a1c0 : Str) (r : Int) (h : p_slices_IndexFunc_api_Dict_api_Field_merge_under_1 a0 a1c0 = some r) : PCalls Try.prog 82 [(PV.sl none 55 2 (List.map ofFld a0)), (PV.fn (.func 83) [] [(PV.pt 9 (ofStr a1c0) 0)])] (I64 r) := by
 unfold p_slices_IndexFunc_api_Dict_api_Field_merge_under_1 at h
 refine acalls_of Try.func82 rfl Try.ntmps82 Try.results82 rfl (aw_of_bw ?_)
 change BW _ _ _ ⟨[(0, (PV.sl none 55 2 (List.map ofFld a0))), (1, (PV.fn (.func 83) [] [(PV.pt 9 (ofStr a1c0) 0)]))], [], _⟩ _
 refine bR ?_
 refine sA rfl rfl rfl rfl rfl (ao_nil ?_)
 change BW _ _ _ _ _
 refine bw_seq ?_
 refine bR ?_
 refine sM rfl rfl rfl rfl rfl ?_
 refine sS rfl rfl rfl (op1_lenM Try.underlying49 rfl rfl) ?_
 refine sM rfl rfl rfl rfl rfl (ao_nil ?_)
 change BW _ _ _ _ _
 refine bw_block ?_
 change BW _ _ _ _ _
 unfold slices_IndexFunc_api_Dict_api_Field_merge_under_1_l1 at h
 refine bw_loop (σ := Nat) (fun i => [(0, (PV.sl none 55 2 (List.map ofFld a0))), (1, (PV.fn (.func 83) [] [(PV.pt 9 (ofStr a1c0) 0)])), (7, (I64 ((((a0).length : Nat) : Int)))), (8, (I64 (((i : Nat) : Int))))]) (fun i => []) 0 h ?_ ?_ ?_
 ·intro i; exact ⟨Nat.le_of_ble_eq_true rfl, ⟨(il_nil (ids_slM ids_Fld _)), ⟨(il_nil (ids_fnc (ids_pt1 rfl rfl))), ⟨(il_nil rfl), ⟨(il_nil rfl), trivial⟩⟩⟩⟩, trivial⟩
 ·exact ⟨.nil, (sC rfl (sC rfl (sC rfl (sC rfl sub_nil))))⟩
 ·rintro g1_f s1 h; replace h : slices_IndexFunc_api_Dict_api_Field_merge_under_1_l1b a0 a1c0 (fun y0 => g1_f y0) s1 = some r := h; unfold slices_IndexFunc_api_Dict_api_Field_merge_under_1_l1b at h
  change BW _ _ _ ⟨[(0, (PV.sl none 55 2 (List.map ofFld a0))), (1, (PV.fn (.func 83) [] [(PV.pt 9 (ofStr a1c0) 0)])), (7, (I64 ((((a0).length : Nat) : Int)))), (8, (I64 (((s1 : Nat) : Int))))], [], _⟩ _
  refine bR ?_
  refine sS rfl rfl rfl ((op1_cmp rfl rfl rfl rfl).cast (y := (BO ((decide (((s1 : Nat) : Int) < (((a0).length : Nat) : Int)))))) rfl rfl) (ao_nil ?_)
  change BW _ _ _ _ _
  refine bw_seq ?_
  refine bw_len (t := 0) rfl fun hb3 => ?_
  try rw [List.length_map] at hb3
  refine bw_cond rfl ?_ ?_
  ·intro hc2; replace h := ocond_t hc2 h
   have hc2_ := of_decide_eq_true hc2
   refine bw_skip ?_
   change BW _ _ _ _ _
   refine bw_seq ?_
   refine bw_block ?_
   change BW _ _ _ _ _
   refine bR ?_
   refine sM rfl rfl rfl rfl rfl ?_
   refine sA rfl rfl rfl rfl rfl (ao_nil ?_)
   change BW _ _ _ _ _
   refine bR ?_
   refine sM rfl rfl rfl rfl rfl ?_
   refine sM rfl rfl rfl rfl rfl ?_
   refine sM rfl rfl rfl rfl rfl ?_
   obtain ⟨x4, hx4, h⟩ := obind h
   refine sS rfl rfl rfl (op1_idxN (i := s1) Try.underlying49 inf_55 rfl rfl rfl hx4 rfl) ?_
   refine sS rfl rfl rfl (op1_ldPW inf_55 Try.underlying55 rfl rfl rfl rfl rfl) ?_
   obtain ⟨x5, hx5, h⟩ := obind h
   refine sS rfl rfl rfl (op1_pcallC rfl rfl en_83 rfl (.cons (Wk.refl _) (.cons (Wk.refl _) .nil)) ⟨(ids_Fld x4), ⟨rfl, trivial⟩⟩ (s_merge_under_1 x4 a1c0 x5 hx5) rfl) (ao_nil ?_)
   change BW _ _ _ _ _
   refine bw_cond rfl ?_ ?_
   ·intro hc6; replace h := ocond_t hc6 h
    refine bR ?_
    refine sM rfl rfl rfl rfl rfl ?_
    refine sA rfl rfl rfl rfl rfl (ao_nil ?_)
    change BW _ _ _ _ _
    refine bw_ret ?_
    change ∃ xs, _ = some xs ∧ EndOk _ _ _ _
    obtain rfl := Option.some.inj h
    exact ⟨_, rfl, endOk0 (y := (I64 (((s1 : Nat) : Int)))) (Wk.refl _) rfl ⟨rfl, rfl⟩⟩
   ·intro hc6; replace h := ocond_f hc6 h
    refine bw_skip ?_
    change BW _ _ _ _ _
    refine bw_region ?_
    refine sS rfl rfl rfl (op1_incN (k := s1) (c := 1) rfl rfl rfl (by omega)) ?_
    refine sM rfl rfl rfl rfl rfl (ao_nil ?_)
    exact ⟨rfl, (s1 + 1), h, ⟨.nil, (sC rfl (sC rfl (sC rfl (sC rfl sub_nil))))⟩⟩
  ·intro hc2; replace h := ocond_f hc2 h
   refine bw_exit ?_
   change BW _ _ _ _ _
   refine bR ?_
   refine sA rfl rfl rfl rfl rfl (ao_nil ?_)
   change BW _ _ _ _ _
   refine bw_ret ?_
   change ∃ xs, _ = some xs ∧ EndOk _ _ _ _
   obtain rfl := Option.some.inj h
   exact ⟨_, rfl, endOk0 (y := (I64 ((-1)))) (Wk.refl _) rfl ⟨rfl, rfl⟩⟩
noncomputable def p_merge_under (a0 : (List (Str × V))) (a1 : Str) : Option S_merge_side :=
 Option.bind (p_slices_IndexFunc_api_Dict_api_Field_merge_under_1 a0 a1) fun x1 =>
 bif (decide (x1 < 0)) then (
  some (S_merge_side.mk V.nil false)
 ) else (
  Option.bind (idxI a0 x1) fun x3 =>
  some (S_merge_side.mk x3.2 true)
 )
theorem s_merge_under (a0 : (List (Str × V))) (a1 : Str) (r : S_merge_side) (h : p_merge_under a0 a1 = some r) : PCalls Try.prog 70 [(PV.sl none 55 2 (List.map ofFld a0)), (ofStr a1)] (of_merge_side r) := by
 unfold p_merge_under at h
 refine acalls_of Try.func70 rfl Try.ntmps70 Try.results70 rfl (aw_of_bw ?_)
 change BW _ _ _ ⟨[(0, (PV.sl none 55 2 (List.map ofFld a0))), (1, (ofStr a1))], [], _⟩ _
 refine bR ?_
 refine sS rfl rfl rfl (op1_box rfl rfl rfl) ?_
 refine sS rfl rfl rfl ((op1_alloc inf_87 rfl).cast (H'' := [.box 9 [(ofStr a1)], .box 87 [(ofV V.nil), (BO false)]]) rfl (by simp only [mk_nil]; rfl)) (ao_nil ?_)
 change BW _ _ _ _ _
 refine bw_seq ?_
 refine bw_thaw 0 3 (y := (PV.pt 9 (ofStr a1) 0)) rfl rfl (Wk.pt (x := .agg [(ofStr a1)]) (y := (ofStr a1)) (.cons (Wk.refl _) .nil)) ?_
 refine bw_region ?_
 refine sM rfl rfl rfl rfl rfl ?_
 refine sS rfl rfl rfl (op1_fn rfl rfl rfl) ?_
 obtain ⟨x1, hx1, h⟩ := obind h
 refine sS rfl rfl rfl (op1_pcall rfl en_82 rfl (.cons (Wk.refl _) (.cons (Wk.refl _) .nil)) ⟨(ids_slM ids_Fld a0), ⟨(ids_fnc (ids_pt1 rfl rfl)), trivial⟩⟩ (s_slices_IndexFunc_api_Dict_api_Field_merge_under_1 a0 a1 x1 hx1) rfl) ?_
 refine sA rfl rfl rfl rfl rfl (ao_nil ?_)
 change BW _ _ _ _ _
 refine bw_seq ?_
 refine bR ?_
 refine sM rfl rfl rfl rfl rfl ?_
 refine sS rfl rfl rfl ((op1_cmp rfl rfl rfl rfl).cast (y := (BO ((decide (x1 < 0))))) rfl rfl) (ao_nil ?_)
 change BW _ _ _ _ _
 refine bw_cond rfl ?_ ?_
 ·intro hc2; replace h := ocond_t hc2 h
  refine bR ?_
  refine sS rfl rfl rfl (op1_build (cs := [(PV.v .nilIface), (BO false)]) st_87 inf_87 rfl rfl rfl rfl) ?_
  refine ao_step0 rfl rfl (op1_store inf_87 rfl rfl rfl rfl rfl rfl (Nat.le_of_ble_eq_true rfl) (by show List.all [(PV.v .nilIface), (BO false)] one1 = true; simp only [List.all_cons, List.all_nil, one_V, one_RecP, Bool.and_true, Bool.true_and]; try rfl)) ?_
  refine ao_nil ?_
  change BW _ _ _ _ _
  refine bw_ret ?_
  change ∃ xs, _ = some xs ∧ EndOk _ _ _ _
  obtain rfl := Option.some.inj h
  exact ⟨_, rfl, endOk0 (y := (of_merge_side (S_merge_side.mk V.nil false))) (Wk.agg (.cons (Wk.eq mk_nil.symm) (.cons (Wk.refl _) .nil))) (ids_S_merge_side (S_merge_side.mk V.nil false)) ⟨rfl, rfl⟩⟩
 ·intro hc2; replace h := ocond_f hc2 h
  refine bw_skip ?_
  change BW _ _ _ _ _
  refine bR ?_
  refine sM rfl rfl rfl rfl rfl ?_
  refine sM rfl rfl rfl rfl rfl ?_
  obtain ⟨x3, hx3, h⟩ := obind h
  refine sS rfl rfl rfl (op1_idxM Try.underlying49 inf_55 rfl rfl rfl hx3 rfl) ?_
  refine sS rfl rfl rfl (op1_faP st_55 (i := 1) rfl rfl rfl) ?_
  refine sS rfl rfl rfl (op1_ldP (y := (ofV x3.2)) Try.underlying20 rfl rfl rfl rfl) ?_
  refine sS rfl rfl rfl (op1_build (cs := [(ofV x3.2), (BO true)]) st_87 inf_87 rfl rfl (by simp only [List.all_cons, List.all_nil, cok_V, cok_RecP, Bool.and_true, Bool.true_and]; try rfl) (by simp only [afill, List.getElem?_cons_zero, List.getElem?_cons_succ, cells_V, cells_RecP]; rfl)) ?_
  refine ao_step0 rfl rfl (op1_store inf_87 rfl rfl rfl rfl rfl rfl (Nat.le_of_ble_eq_true rfl) (by show List.all [(ofV x3.2), (BO true)] one1 = true; simp only [List.all_cons, List.all_nil, one_V, one_RecP, Bool.and_true, Bool.true_and]; try rfl)) ?_
  refine ao_nil ?_
  change BW _ _ _ _ _
  refine bw_ret ?_
  change ∃ xs, _ = some xs ∧ EndOk _ _ _ _
  obtain rfl := Option.some.inj h
  exact ⟨_, rfl, endOk0 (y := (of_merge_side (S_merge_side.mk x3.2 true))) (Wk.refl _) (ids_S_merge_side (S_merge_side.mk x3.2 true)) ⟨rfl, rfl⟩⟩
end Go.Proofs.Ytkmhecgagibgjaa
