/- Pure functions, and that calls answer as they say. Written by gen.py. -/
import Derived.Test.YthfdpaboekoncaaG0
namespace Go.Proofs.Ythfdpaboekoncaa
open Go Aw
set_option linter.unusedVariables false
set_option linter.unusedSimpArgs false
set_option maxRecDepth 20000
set_option maxHeartbeats 2000000
noncomputable def p_value_Kind (a0 : V) : Option Int :=
 Option.bind (p_value_kind a0) fun x1 =>
 some x1
theorem s_value_Kind (a0 : V) (r : Int) (h : p_value_Kind a0 = some r) : PCalls Try.prog 16 [(ofV a0)] (I64 r) := by
 unfold p_value_Kind at h
 refine acalls_of Try.func16 rfl Try.ntmps16 Try.results16 rfl (aw_of_bw ?_)
 change BW _ _ _ ⟨[(0, (ofV a0))], [], _⟩ _
 refine bR ?_
 refine sA rfl rfl rfl rfl rfl (ao_nil ?_)
 change BW _ _ _ _ _
 refine bR ?_
 refine sM rfl rfl rfl rfl rfl ?_
 obtain ⟨x1, hx1, h⟩ := obind h
 refine sS rfl rfl rfl (op1_pcall rfl en_37 rfl (.cons (Wk.refl _) .nil) ⟨(ids_V a0), trivial⟩ (s_value_kind a0 x1 hx1) rfl) ?_
 refine sA rfl rfl rfl rfl rfl (ao_nil ?_)
 change BW _ _ _ _ _
 refine bw_ret ?_
 change ∃ xs, _ = some xs ∧ EndOk _ _ _ _
 obtain rfl := Option.some.inj h
 exact ⟨_, rfl, endOk0 (y := (I64 x1)) (Wk.refl _) rfl ⟨rfl, rfl⟩⟩
noncomputable def value_dict_l1b (r_value_loose : Term → Option V) (a0 : (List (Str × Term))) (g1 : (List (Str × V)) → Nat → Option (List (Str × V))) (s2 : (List (Str × V))) (s3 : Nat) : Option (List (Str × V)) :=
 bif (decide (((s3 : Nat) : Int) < (((a0).length : Nat) : Int))) then (
  Option.bind ((a0)[s3]?) fun x6 =>
  Option.bind (r_value_loose (x6.2)) fun x7 =>
  Option.bind (appO 32 s2 ([(x6.1, x7)] : (List (Str × V)))) fun x8 =>
  g1 x8 (s3 + 1)
 ) else (
  some s2
 )
theorem value_dict_l1b_cm {ι : Type} {ρ : ι → Type} (r_value_loose : (∀ i, Option (ρ i)) → Term → Option V) (h_r_value_loose : ∀ y0, CM (fun G => r_value_loose G y0)) (g1 : (∀ i, Option (ρ i)) → (List (Str × V)) → Nat → Option (List (Str × V))) (h_g1 : ∀ y0 y1, CM (fun G => g1 G y0 y1)) (a0 : (List (Str × Term))) (s2 : (List (Str × V))) (s3 : Nat) : CM (fun G : (∀ i, Option (ρ i)) => value_dict_l1b (r_value_loose G) a0 (g1 G) s2 s3) := by
 simp only [value_dict_l1b]
 repeat (first | exact cm_const | exact h_r_value_loose _ | exact h_g1 _ _ | refine cm_cond ?_ ?_ | refine cm_bind ?_ (fun _ => ?_))
noncomputable def value_dict_l1 (r_value_loose : Term → Option V) (a0 : (List (Str × Term))) (s2 : (List (Str × V))) (s3 : Nat) : Option (List (Str × V)) :=
 fixO (ι := ((List (Str × V)) × Nat)) (ρ := fun _ => (List (Str × V))) (fun g i => value_dict_l1b r_value_loose a0 (fun s2 s3 => g (s2, s3)) i.1 i.2) (s2, s3)
theorem value_dict_l1_eq (r_value_loose : Term → Option V) (a0 : (List (Str × Term))) (s2 : (List (Str × V))) (s3 : Nat) : value_dict_l1 r_value_loose a0 s2 s3 = value_dict_l1b r_value_loose a0 (value_dict_l1 r_value_loose a0) s2 s3 :=
 fixO_eq (ι := ((List (Str × V)) × Nat)) (ρ := fun _ => (List (Str × V))) (Φ := fun g i => value_dict_l1b r_value_loose a0 (fun s2 s3 => g (s2, s3)) i.1 i.2) (fun i => value_dict_l1b_cm (ι := ((List (Str × V)) × Nat)) (ρ := fun _ => (List (Str × V))) (fun _ => r_value_loose) (fun _ => cm_const) (fun g => (fun s2 s3 => g (s2, s3))) (fun _ _ => cm_app) a0 i.1 i.2) (s2, s3)
theorem value_dict_l1_cm {ι : Type} {ρ : ι → Type} (r_value_loose : (∀ i, Option (ρ i)) → Term → Option V) (h_r_value_loose : ∀ y0, CM (fun G => r_value_loose G y0)) (a0 : (List (Str × Term))) (s2 : (List (Str × V))) (s3 : Nat) : CM (fun G : (∀ i, Option (ρ i)) => value_dict_l1 (r_value_loose G) a0 s2 s3) :=
 cm_fix (κ := ((List (Str × V)) × Nat)) (τ := fun _ => (List (Str × V))) (Φ := fun G g i => value_dict_l1b (r_value_loose G) a0 (fun s2 s3 => g (s2, s3)) i.1 i.2) (fun g i => value_dict_l1b_cm r_value_loose h_r_value_loose (fun _ => (fun s2 s3 => g (s2, s3))) (fun _ _ => cm_const) a0 i.1 i.2) (fun G i => value_dict_l1b_cm (ι := ((List (Str × V)) × Nat)) (ρ := fun _ => (List (Str × V))) (fun _ => r_value_loose G) (fun _ => cm_const) (fun g => (fun s2 s3 => g (s2, s3))) (fun _ _ => cm_app) a0 i.1 i.2) (s2, s3)
noncomputable def b_value_dict (r_value_dict : (List (Str × Term)) → Option (List (Str × V))) (r_value_loose : Term → Option V) (a0 : (List (Str × Term))) : Option (List (Str × V)) :=
 Option.bind (roomO ((a0).length) 32) fun x1 =>
 value_dict_l1 r_value_loose a0 ([] : (List (Str × V))) 0
theorem b_value_dict_cm {ι : Type} {ρ : ι → Type} (r_value_dict : (∀ i, Option (ρ i)) → (List (Str × Term)) → Option (List (Str × V))) (h_r_value_dict : ∀ y0, CM (fun G => r_value_dict G y0)) (r_value_loose : (∀ i, Option (ρ i)) → Term → Option V) (h_r_value_loose : ∀ y0, CM (fun G => r_value_loose G y0)) (a0 : (List (Str × Term))) : CM (fun G : (∀ i, Option (ρ i)) => b_value_dict (r_value_dict G) (r_value_loose G) a0) := by
 simp only [b_value_dict]
 repeat (first | exact cm_const | exact h_r_value_dict _ | exact h_r_value_loose _ | apply value_dict_l1_cm | refine cm_cond ?_ ?_ | refine cm_bind ?_ (fun _ => ?_) | intro _ | assumption)
noncomputable def value_loose_l1b (r_value_loose : Term → Option V) (a0 : Term) (g1 : (List V) → Nat → Option V) (s11 : (List V)) (s12 : Nat) : Option V :=
 bif (decide (((s12 : Nat) : Int) < (((a0.list).length : Nat) : Int))) then (
  Option.bind ((a0.list)[s12]?) fun x15 =>
  Option.bind (r_value_loose x15) fun x16 =>
  Option.bind (appO 16 s11 ([x16] : (List V))) fun x17 =>
  g1 x17 (s12 + 1)
 ) else (
  some (V.list s11)
 )
theorem value_loose_l1b_cm {ι : Type} {ρ : ι → Type} (r_value_loose : (∀ i, Option (ρ i)) → Term → Option V) (h_r_value_loose : ∀ y0, CM (fun G => r_value_loose G y0)) (g1 : (∀ i, Option (ρ i)) → (List V) → Nat → Option V) (h_g1 : ∀ y0 y1, CM (fun G => g1 G y0 y1)) (a0 : Term) (s11 : (List V)) (s12 : Nat) : CM (fun G : (∀ i, Option (ρ i)) => value_loose_l1b (r_value_loose G) a0 (g1 G) s11 s12) := by
 simp only [value_loose_l1b]
 repeat (first | exact cm_const | exact h_r_value_loose _ | exact h_g1 _ _ | refine cm_cond ?_ ?_ | refine cm_bind ?_ (fun _ => ?_))
noncomputable def value_loose_l1 (r_value_loose : Term → Option V) (a0 : Term) (s11 : (List V)) (s12 : Nat) : Option V :=
 fixO (ι := ((List V) × Nat)) (ρ := fun _ => V) (fun g i => value_loose_l1b r_value_loose a0 (fun s11 s12 => g (s11, s12)) i.1 i.2) (s11, s12)
theorem value_loose_l1_eq (r_value_loose : Term → Option V) (a0 : Term) (s11 : (List V)) (s12 : Nat) : value_loose_l1 r_value_loose a0 s11 s12 = value_loose_l1b r_value_loose a0 (value_loose_l1 r_value_loose a0) s11 s12 :=
 fixO_eq (ι := ((List V) × Nat)) (ρ := fun _ => V) (Φ := fun g i => value_loose_l1b r_value_loose a0 (fun s11 s12 => g (s11, s12)) i.1 i.2) (fun i => value_loose_l1b_cm (ι := ((List V) × Nat)) (ρ := fun _ => V) (fun _ => r_value_loose) (fun _ => cm_const) (fun g => (fun s11 s12 => g (s11, s12))) (fun _ _ => cm_app) a0 i.1 i.2) (s11, s12)
theorem value_loose_l1_cm {ι : Type} {ρ : ι → Type} (r_value_loose : (∀ i, Option (ρ i)) → Term → Option V) (h_r_value_loose : ∀ y0, CM (fun G => r_value_loose G y0)) (a0 : Term) (s11 : (List V)) (s12 : Nat) : CM (fun G : (∀ i, Option (ρ i)) => value_loose_l1 (r_value_loose G) a0 s11 s12) :=
 cm_fix (κ := ((List V) × Nat)) (τ := fun _ => V) (Φ := fun G g i => value_loose_l1b (r_value_loose G) a0 (fun s11 s12 => g (s11, s12)) i.1 i.2) (fun g i => value_loose_l1b_cm r_value_loose h_r_value_loose (fun _ => (fun s11 s12 => g (s11, s12))) (fun _ _ => cm_const) a0 i.1 i.2) (fun G i => value_loose_l1b_cm (ι := ((List V) × Nat)) (ρ := fun _ => V) (fun _ => r_value_loose G) (fun _ => cm_const) (fun g => (fun s11 s12 => g (s11, s12))) (fun _ _ => cm_app) a0 i.1 i.2) (s11, s12)
noncomputable def b_value_loose (r_value_dict : (List (Str × Term)) → Option (List (Str × V))) (r_value_loose : Term → Option V) (a0 : Term) : Option V :=
 bif (a0.kind == 1) then (
  some V.nil
 ) else (
  bif (a0.kind == 2) then (
   some (V.bool a0.bool)
  ) else (
   bif (a0.kind == 3) then (
    some (V.int a0.int)
   ) else (
    bif (a0.kind == 4) then (
     some (V.float a0.float)
    ) else (
     bif (a0.kind == 5) then (
      some (V.text a0.text)
     ) else (
      bif (a0.kind == 6) then (
       Option.bind (appO 1 ([] : Str) a0.bytes) fun x7 =>
       some (V.bytes x7)
      ) else (
       bif (a0.kind == 7) then (
        some (V.ref a0.ref)
       ) else (
        bif (a0.kind == 8) then (
         Option.bind (roomO ((a0.list).length) 16) fun x10 =>
         value_loose_l1 r_value_loose a0 ([] : (List V)) 0
        ) else (
         bif (a0.kind == 9) then (
          Option.bind (r_value_dict a0.fields) fun x19 =>
          some (V.dict x19)
         ) else (
          bif (a0.kind == 10) then (
           Option.bind (r_value_dict a0.fields) fun x21 =>
           some (V.record a0.cls a0.ver x21)
          ) else (
           bif (a0.kind == 11) then (
            some V.nothing
           ) else (
            some (V.alien ⟨102, rfl⟩)
           )
          )
         )
        )
       )
      )
     )
    )
   )
  )
 )
theorem b_value_loose_cm {ι : Type} {ρ : ι → Type} (r_value_dict : (∀ i, Option (ρ i)) → (List (Str × Term)) → Option (List (Str × V))) (h_r_value_dict : ∀ y0, CM (fun G => r_value_dict G y0)) (r_value_loose : (∀ i, Option (ρ i)) → Term → Option V) (h_r_value_loose : ∀ y0, CM (fun G => r_value_loose G y0)) (a0 : Term) : CM (fun G : (∀ i, Option (ρ i)) => b_value_loose (r_value_dict G) (r_value_loose G) a0) := by
 simp only [b_value_loose]
 repeat (first | exact cm_const | exact h_r_value_dict _ | exact h_r_value_loose _ | apply value_loose_l1_cm | refine cm_cond ?_ ?_ | refine cm_bind ?_ (fun _ => ?_) | intro _ | assumption)
inductive C_value_dict where
 | k_value_dict (a0 : (List (Str × Term)))
 | k_value_loose (a0 : Term)
def C_value_dict.R : C_value_dict → Type
 | .k_value_dict _ => (List (Str × V))
 | .k_value_loose _ => V
noncomputable def C_value_dict.F (g : ∀ i : C_value_dict, Option i.R) : ∀ i : C_value_dict, Option i.R
 | .k_value_dict a0 => b_value_dict (fun a0 => g (.k_value_dict a0)) (fun a0 => g (.k_value_loose a0)) a0
 | .k_value_loose a0 => b_value_loose (fun a0 => g (.k_value_dict a0)) (fun a0 => g (.k_value_loose a0)) a0
noncomputable def p_value_dict (a0 : (List (Str × Term))) : Option (List (Str × V)) := fixO C_value_dict.F (.k_value_dict a0)
noncomputable def p_value_loose (a0 : Term) : Option V := fixO C_value_dict.F (.k_value_loose a0)
theorem C_value_dict.cm (i : C_value_dict) : CM (fun g : (∀ i : C_value_dict, Option i.R) => C_value_dict.F g i) := by
 cases i with
 | k_value_dict a0 => exact b_value_dict_cm (fun (g : ∀ i : C_value_dict, Option i.R) a0 => g (.k_value_dict a0)) (fun a0 => cm_app (i := C_value_dict.k_value_dict a0)) (fun (g : ∀ i : C_value_dict, Option i.R) a0 => g (.k_value_loose a0)) (fun a0 => cm_app (i := C_value_dict.k_value_loose a0)) a0
 | k_value_loose a0 => exact b_value_loose_cm (fun (g : ∀ i : C_value_dict, Option i.R) a0 => g (.k_value_dict a0)) (fun a0 => cm_app (i := C_value_dict.k_value_dict a0)) (fun (g : ∀ i : C_value_dict, Option i.R) a0 => g (.k_value_loose a0)) (fun a0 => cm_app (i := C_value_dict.k_value_loose a0)) a0
theorem e_value_dict (a0 : (List (Str × Term))) : p_value_dict a0 = b_value_dict p_value_dict p_value_loose a0 := fixO_eq C_value_dict.cm (.k_value_dict a0)
theorem e_value_loose (a0 : Term) : p_value_loose a0 = b_value_loose p_value_dict p_value_loose a0 := fixO_eq C_value_dict.cm (.k_value_loose a0)
def C_value_dict.Q : ∀ i : C_value_dict, i.R → Prop
 | .k_value_dict a0 => fun (r : (List (Str × V))) => PCalls Try.prog 56 [(PV.old (PV.sl none 66 12 (List.map ofEntry a0)))] (PV.sl none 56 2 (List.map ofFld r))
 | .k_value_loose a0 => fun (r : V) => PCalls Try.prog 41 [(PV.old (ofTermX a0))] (ofV r)
theorem t_value_dict (r_value_dict : (List (Str × Term)) → Option (List (Str × V))) (c_value_dict : ∀ (a0 : (List (Str × Term))) r, r_value_dict a0 = some r → PCalls Try.prog 56 [(PV.old (PV.sl none 66 12 (List.map ofEntry a0)))] (PV.sl none 56 2 (List.map ofFld r))) (r_value_loose : Term → Option V) (c_value_loose : ∀ (a0 : Term) r, r_value_loose a0 = some r → PCalls Try.prog 41 [(PV.old (ofTermX a0))] (ofV r)) (a0 : (List (Str × Term))) (r : (List (Str × V))) (h : b_value_dict r_value_dict r_value_loose a0 = some r) : PCalls Try.prog 56 [(PV.old (PV.sl none 66 12 (List.map ofEntry a0)))] (PV.sl none 56 2 (List.map ofFld r)) := by
 unfold b_value_dict at h
 refine acalls_of Try.func56 rfl Try.ntmps56 Try.results56 rfl (aw_of_bw ?_)
 change BW _ _ _ ⟨[(0, (PV.old (PV.sl none 66 12 (List.map ofEntry a0))))], [], _⟩ _
 refine bR ?_
 refine sA rfl rfl rfl rfl rfl (ao_nil ?_)
 change BW _ _ _ _ _
 refine bR ?_
 refine sM rfl rfl rfl rfl rfl ?_
 refine sS rfl rfl rfl (op1_oldS (op1_lenM Try.underlying27 rfl rfl) Sc.v) ?_
 obtain ⟨x1, hx1, h⟩ := obind h
 refine sS rfl rfl rfl ((op1_mkM (f := ofFld) (c := ((a0).length)) Try.underlying58 inf_56 rfl rfl rfl rfl hx1 (p := (PV.agg [(ofStr []), (PV.v .nilIface)])) rfl).cast (y := (PV.sl (some 0) 56 2 (List.map ofFld ([] : (List (Str × V)))))) rfl rfl) ?_
 refine sA rfl rfl rfl rfl rfl (ao_nil ?_)
 change BW _ _ _ _ _
 refine bw_seq ?_
 refine bR ?_
 refine sM rfl rfl rfl rfl rfl ?_
 refine sS rfl rfl rfl (op1_oldS (op1_lenM Try.underlying27 rfl rfl) Sc.v) ?_
 refine sM rfl rfl rfl rfl rfl (ao_nil ?_)
 change BW _ _ _ _ _
 refine bw_block ?_
 change BW _ _ _ _ _
 unfold value_dict_l1 at h
 refine bw_loop (σ := ((List (Str × V)) × Nat)) (fun i => [(3, (PV.sl (some 0) 56 2 (List.map ofFld i.1))), (9, (PV.old (PV.sl none 66 12 (List.map ofEntry a0)))), (10, (I64 ((((a0).length : Nat) : Int)))), (11, (I64 (((i.2 : Nat) : Int))))]) (fun i => [.arr 56 (i.1).length]) (([] : (List (Str × V))), 0) h ?_ ?_ ?_
 ·intro i; exact ⟨Nat.le_of_ble_eq_true rfl, ⟨(il_tok rfl (ids_map ids_Fld _)), ⟨(il_nil (ids_old (ids_slM ids_Entry _))), ⟨(il_nil rfl), ⟨(il_nil rfl), trivial⟩⟩⟩⟩, trivial⟩
 ·exact ⟨(.cons .same .nil), (sC rfl (sC rfl (sC rfl (sC rfl sub_nil))))⟩
 ·rintro g1_f ⟨s2, s3⟩ h; replace h : value_dict_l1b r_value_loose a0 (fun y0 y1 => g1_f (y0, y1)) s2 s3 = some r := h; unfold value_dict_l1b at h
  change BW _ _ _ ⟨[(3, (PV.sl (some 0) 56 2 (List.map ofFld s2))), (9, (PV.old (PV.sl none 66 12 (List.map ofEntry a0)))), (10, (I64 ((((a0).length : Nat) : Int)))), (11, (I64 (((s3 : Nat) : Int))))], [.arr 56 (s2).length], _⟩ _
  refine bR ?_
  refine sS rfl rfl rfl ((op1_cmp rfl rfl rfl rfl).cast (y := (BO ((decide (((s3 : Nat) : Int) < (((a0).length : Nat) : Int)))))) rfl rfl) (ao_nil ?_)
  change BW _ _ _ _ _
  refine bw_seq ?_
  refine bw_lenO (t := 9) rfl fun hb5 => ?_
  try rw [List.length_map] at hb5
  refine bw_cond rfl ?_ ?_
  ·intro hc4; replace h := ocond_t hc4 h
   have hc4_ := of_decide_eq_true hc4
   refine bw_skip ?_
   change BW _ _ _ _ _
   refine bw_seq ?_
   refine bw_block ?_
   change BW _ _ _ _ _
   refine bR ?_
   obtain ⟨x6, hx6, h⟩ := obind h
   refine sS rfl rfl rfl (op1_old (op1_idxN (i := s3) Try.underlying27 inf_66 rfl rfl rfl hx6 (ofEntry_eq _))) ?_
   refine sS rfl rfl rfl (Op1.wk (x := (PV.old (ofEntryX x6))) (op1_old (op1_ldPW inf_66 Try.underlying66 rfl rfl rfl rfl rfl)) (Wk.opened (cs := [(ofStr x6.1), (I64 ((x6.2).kind)), (BO ((x6.2).bool)), (I64 ((x6.2).int)), (PV.v (.float .f64 (x6.2).float)), (ofStr (x6.2).text), (PV.sl none 5 1 (List.map ofB (x6.2).bytes)), (PV.v (.int .u64 (x6.2).ref)), (PV.sl none 29 11 (List.map ofTerm (x6.2).list)), (PV.sl none 66 12 (List.map ofEntry (x6.2).fields)), (ofStr (x6.2).cls), (I64 ((x6.2).ver))]) (.cons (Wk.oldSc Sc.v) (.cons (Wk.oldSc Sc.v) (.cons (Wk.oldSc Sc.v) (.cons (Wk.oldSc Sc.v) (.cons (Wk.oldSc Sc.v) (.cons (Wk.oldSc Sc.v) (.cons (Wk.refl _) (.cons (Wk.oldSc Sc.v) (.cons (Wk.refl _) (.cons (Wk.refl _) (.cons (Wk.oldSc Sc.v) (.cons (Wk.oldSc Sc.v) .nil)))))))))))))) ?_
   refine sS rfl rfl rfl (op1_alloc inf_66 rfl) ?_
   refine ao_step0 rfl rfl (op1_store inf_66 rfl rfl rfl rfl rfl rfl (Nat.le_of_ble_eq_true rfl) rfl) ?_
   refine ao_nil ?_
   change BW _ _ _ _ _
   refine bw_tail 8 [7] [1] mo (by kernel_rfl) ?_
   refine ac_go rfl rfl rfl rfl (fun H hp => op1_move rfl rfl) ?_
   refine ac_go rfl rfl rfl rfl (fun H hp => op1_faR st_66 (i := 0) rfl rfl rfl) ?_
   refine ac_go rfl rfl rfl rfl (fun H hp => (op1_ldR Try.underlying9 rfl rfl rfl (hp.at rfl rfl) rfl)) ?_
   refine ac_go rfl rfl rfl rfl (fun H hp => op1_faR st_66 (i := 1) rfl rfl rfl) ?_
   refine ac_go rfl rfl rfl rfl (fun H hp => (op1_ldRA inf_29 Try.underlying29 rfl rfl rfl (hp.at rfl rfl) rfl rfl)) ?_
   obtain ⟨x7, hx7, h⟩ := obind h
   refine ac_go rfl rfl rfl rfl (fun H hp => op1_pcall rfl en_41 rfl (.cons (Wk.aggOld (ys := [(I64 ((x6.2).kind)), (BO ((x6.2).bool)), (I64 ((x6.2).int)), (PV.v (.float .f64 (x6.2).float)), (ofStr (x6.2).text), (PV.sl none 5 1 (List.map ofB (x6.2).bytes)), (PV.v (.int .u64 (x6.2).ref)), (PV.sl none 29 11 (List.map ofTerm (x6.2).list)), (PV.sl none 66 12 (List.map ofEntry (x6.2).fields)), (ofStr (x6.2).cls), (I64 ((x6.2).ver))]) (.cons (Wk.toOld Pl.v) (.cons (Wk.toOld Pl.v) (.cons (Wk.toOld Pl.v) (.cons (Wk.toOld Pl.v) (.cons (Wk.toOld Pl.v) (.cons (Wk.refl _) (.cons (Wk.toOld Pl.v) (.cons (Wk.refl _) (.cons (Wk.refl _) (.cons (Wk.toOld Pl.v) (.cons (Wk.toOld Pl.v) .nil)))))))))))) .nil) ⟨(ids_old (ids_TermX (x6.2))), trivial⟩ (c_value_loose (x6.2) x7 hx7) (ids_V x7)) ?_
   refine ac_go rfl rfl rfl rfl (fun H hp => op1_build (cs := [(ofStr x6.1), (ofV x7)]) st_56 inf_56 rfl rfl (by simp only [List.all_cons, List.all_nil, cok_V, cok_RecP, Bool.and_true, Bool.true_and]; try rfl) (by simp only [afill, List.getElem?_cons_zero, List.getElem?_cons_succ, cells_V, cells_RecP]; rfl)) ?_
   refine ac_lgo rfl rfl rfl rfl ((op1_bslice (xs := [(PV.agg [(ofStr x6.1), (ofV x7)])]) Try.underlying58 inf_56 rfl rfl rfl (by simp only [List.all_cons, List.all_nil, cok_V, cok_RecP, Bool.and_true, Bool.true_and]; try rfl) (by simp only [List.all_cons, List.all_nil, csz_V, csz_RecP, cells_V, cells_RecP]; try rfl) rfl ⟨Nat.le_of_ble_eq_true rfl, Nat.le_of_ble_eq_true rfl⟩ (by simp only [zipN, afill, List.flatMap_cons, List.flatMap_nil, cells_V, cells_RecP]; try rfl)).cast (y := (PV.sl (some 2) 56 2 (List.map ofFld ([(x6.1, x7)] : (List (Str × V)))))) rfl rfl) ⟨rfl, trivial⟩ ?_
   refine ac_nil ?_
   change AO _ _ _ _ _
   obtain ⟨x8, hx8, h⟩ := obind h
   refine sS rfl rfl rfl (op1_appM Try.underlying58 inf_56 rfl Try.underlying58 rfl rfl rfl rfl csz_Fld call1_Fld hx8 rfl) ?_
   refine sA rfl rfl rfl rfl rfl (ao_nil ?_)
   change BW _ _ _ _ _
   refine bw_region ?_
   refine sS rfl rfl rfl (op1_incN (k := s3) (c := 1) rfl rfl rfl (by omega)) ?_
   refine sM rfl rfl rfl rfl rfl (ao_nil ?_)
   exact ⟨rfl, (x8, (s3 + 1)), h, ⟨(.cons .same .nil), (sC rfl (sC rfl (sC rfl (sC rfl sub_nil))))⟩⟩
  ·intro hc4; replace h := ocond_f hc4 h
   refine bw_exit ?_
   change BW _ _ _ _ _
   refine bR ?_
   refine sM rfl rfl rfl rfl rfl ?_
   refine sA rfl rfl rfl rfl rfl (ao_nil ?_)
   change BW _ _ _ _ _
   refine bw_ret ?_
   change ∃ xs, _ = some xs ∧ EndOk _ _ _ _
   obtain rfl := Option.some.inj h
   exact ⟨_, rfl, endOk0 (y := (PV.sl none 56 2 (List.map ofFld s2))) Wk.tok (ids_slM ids_Fld s2) ⟨rfl, rfl⟩⟩
theorem t_value_loose (r_value_dict : (List (Str × Term)) → Option (List (Str × V))) (c_value_dict : ∀ (a0 : (List (Str × Term))) r, r_value_dict a0 = some r → PCalls Try.prog 56 [(PV.old (PV.sl none 66 12 (List.map ofEntry a0)))] (PV.sl none 56 2 (List.map ofFld r))) (r_value_loose : Term → Option V) (c_value_loose : ∀ (a0 : Term) r, r_value_loose a0 = some r → PCalls Try.prog 41 [(PV.old (ofTermX a0))] (ofV r)) (a0 : Term) (r : V) (h : b_value_loose r_value_dict r_value_loose a0 = some r) : PCalls Try.prog 41 [(PV.old (ofTermX a0))] (ofV r) := by
 unfold b_value_loose at h
 refine acalls_of Try.func41 rfl Try.ntmps41 Try.results41 rfl (aw_of_bw ?_)
 change BW _ _ _ ⟨[(0, (PV.old (ofTermX a0)))], [], _⟩ _
 refine bw_wk 0 rfl (Wk.opened (cs := [(I64 a0.kind), (BO a0.bool), (I64 a0.int), (PV.v (.float .f64 a0.float)), (ofStr a0.text), (PV.sl none 5 1 (List.map ofB a0.bytes)), (PV.v (.int .u64 a0.ref)), (PV.sl none 29 11 (List.map ofTerm a0.list)), (PV.sl none 66 12 (List.map ofEntry a0.fields)), (ofStr a0.cls), (I64 a0.ver)]) (.cons (Wk.oldSc Sc.v) (.cons (Wk.oldSc Sc.v) (.cons (Wk.oldSc Sc.v) (.cons (Wk.oldSc Sc.v) (.cons (Wk.oldSc Sc.v) (.cons (Wk.refl _) (.cons (Wk.oldSc Sc.v) (.cons (Wk.refl _) (.cons (Wk.refl _) (.cons (Wk.oldSc Sc.v) (.cons (Wk.oldSc Sc.v) .nil)))))))))))) ?_
 refine bR ?_
 refine sS rfl rfl rfl (op1_box rfl rfl rfl) ?_
 refine sA rfl rfl rfl rfl rfl (ao_nil ?_)
 change BW _ _ _ _ _
 refine bw_seq ?_
 refine bR ?_
 refine sS rfl rfl rfl (op1_faR st_29 (i := 0) rfl rfl rfl) ?_
 refine sS rfl rfl rfl ((op1_ldR Try.underlying3 rfl rfl rfl rfl rfl)) (ao_nil ?_)
 change BW _ _ _ _ _
 refine bw_block ?_
 change BW _ _ _ _ _
 refine bR ?_
 refine sS rfl rfl rfl ((op1_cmp rfl rfl rfl rfl).cast (y := (BO ((a0.kind == 1)))) rfl rfl) ?_
 refine sA rfl rfl rfl rfl rfl (ao_nil ?_)
 change BW _ _ _ _ _
 refine bw_cond rfl ?_ ?_
 ·intro hc1; replace h := ocond_t hc1 h
  refine bR ?_
  refine sA rfl rfl rfl rfl rfl (ao_nil ?_)
  change BW _ _ _ _ _
  refine bw_ret ?_
  change ∃ xs, _ = some xs ∧ EndOk _ _ _ _
  obtain rfl := Option.some.inj h
  exact ⟨_, rfl, endOk0 (y := (ofV V.nil)) (Wk.eq mk_nil.symm) (ids_V V.nil) ⟨rfl, rfl⟩⟩
 ·intro hc1; replace h := ocond_f hc1 h
  refine bR ?_
  refine sS rfl rfl rfl ((op1_cmp rfl rfl rfl rfl).cast (y := (BO ((a0.kind == 2)))) rfl rfl) ?_
  refine sA rfl rfl rfl rfl rfl (ao_nil ?_)
  change BW _ _ _ _ _
  refine bw_cond rfl ?_ ?_
  ·intro hc2; replace h := ocond_t hc2 h
   refine bR ?_
   refine sS rfl rfl rfl (op1_faR st_29 (i := 1) rfl rfl rfl) ?_
   refine sS rfl rfl rfl ((op1_ldR Try.underlying4 rfl rfl rfl rfl rfl)) ?_
   refine sS rfl rfl rfl ((op1_mkI Try.underlying4 rfl rfl rfl).wk ((Wk.iface (Wk.refl _)).trans (Wk.eq (mk_bool _).symm))) ?_
   refine sA rfl rfl rfl rfl rfl (ao_nil ?_)
   change BW _ _ _ _ _
   refine bw_ret ?_
   change ∃ xs, _ = some xs ∧ EndOk _ _ _ _
   obtain rfl := Option.some.inj h
   exact ⟨_, rfl, endOk0 (y := (ofV (V.bool a0.bool))) (Wk.refl _) (ids_V (V.bool a0.bool)) ⟨rfl, rfl⟩⟩
  ·intro hc2; replace h := ocond_f hc2 h
   refine bR ?_
   refine sS rfl rfl rfl ((op1_cmp rfl rfl rfl rfl).cast (y := (BO ((a0.kind == 3)))) rfl rfl) ?_
   refine sA rfl rfl rfl rfl rfl (ao_nil ?_)
   change BW _ _ _ _ _
   refine bw_cond rfl ?_ ?_
   ·intro hc3; replace h := ocond_t hc3 h
    refine bR ?_
    refine sS rfl rfl rfl (op1_faR st_29 (i := 2) rfl rfl rfl) ?_
    refine sS rfl rfl rfl ((op1_ldR Try.underlying2 rfl rfl rfl rfl rfl)) ?_
    refine sS rfl rfl rfl ((op1_mkI Try.underlying2 rfl rfl rfl).wk ((Wk.iface (Wk.refl _)).trans (Wk.eq (mk_int _).symm))) ?_
    refine sA rfl rfl rfl rfl rfl (ao_nil ?_)
    change BW _ _ _ _ _
    refine bw_ret ?_
    change ∃ xs, _ = some xs ∧ EndOk _ _ _ _
    obtain rfl := Option.some.inj h
    exact ⟨_, rfl, endOk0 (y := (ofV (V.int a0.int))) (Wk.refl _) (ids_V (V.int a0.int)) ⟨rfl, rfl⟩⟩
   ·intro hc3; replace h := ocond_f hc3 h
    refine bR ?_
    refine sS rfl rfl rfl ((op1_cmp rfl rfl rfl rfl).cast (y := (BO ((a0.kind == 4)))) rfl rfl) ?_
    refine sA rfl rfl rfl rfl rfl (ao_nil ?_)
    change BW _ _ _ _ _
    refine bw_cond rfl ?_ ?_
    ·intro hc4; replace h := ocond_t hc4 h
     refine bR ?_
     refine sS rfl rfl rfl (op1_faR st_29 (i := 3) rfl rfl rfl) ?_
     refine sS rfl rfl rfl ((op1_ldR Try.underlying22 rfl rfl rfl rfl rfl)) ?_
     refine sS rfl rfl rfl ((op1_mkI Try.underlying22 rfl rfl rfl).wk ((Wk.iface (Wk.refl _)).trans (Wk.eq (mk_float _).symm))) ?_
     refine sA rfl rfl rfl rfl rfl (ao_nil ?_)
     change BW _ _ _ _ _
     refine bw_ret ?_
     change ∃ xs, _ = some xs ∧ EndOk _ _ _ _
     obtain rfl := Option.some.inj h
     exact ⟨_, rfl, endOk0 (y := (ofV (V.float a0.float))) (Wk.refl _) (ids_V (V.float a0.float)) ⟨rfl, rfl⟩⟩
    ·intro hc4; replace h := ocond_f hc4 h
     refine bR ?_
     refine sS rfl rfl rfl ((op1_cmp rfl rfl rfl rfl).cast (y := (BO ((a0.kind == 5)))) rfl rfl) ?_
     refine sA rfl rfl rfl rfl rfl (ao_nil ?_)
     change BW _ _ _ _ _
     refine bw_cond rfl ?_ ?_
     ·intro hc5; replace h := ocond_t hc5 h
      refine bR ?_
      refine sS rfl rfl rfl (op1_faR st_29 (i := 4) rfl rfl rfl) ?_
      refine sS rfl rfl rfl ((op1_ldR Try.underlying9 rfl rfl rfl rfl rfl)) ?_
      refine sS rfl rfl rfl ((op1_mkI Try.underlying9 rfl rfl rfl).wk ((Wk.iface (Wk.refl _)).trans (Wk.eq (mk_text _).symm))) ?_
      refine sA rfl rfl rfl rfl rfl (ao_nil ?_)
      change BW _ _ _ _ _
      refine bw_ret ?_
      change ∃ xs, _ = some xs ∧ EndOk _ _ _ _
      obtain rfl := Option.some.inj h
      exact ⟨_, rfl, endOk0 (y := (ofV (V.text a0.text))) (Wk.refl _) (ids_V (V.text a0.text)) ⟨rfl, rfl⟩⟩
     ·intro hc5; replace h := ocond_f hc5 h
      refine bR ?_
      refine sS rfl rfl rfl ((op1_cmp rfl rfl rfl rfl).cast (y := (BO ((a0.kind == 6)))) rfl rfl) ?_
      refine sA rfl rfl rfl rfl rfl (ao_nil ?_)
      change BW _ _ _ _ _
      refine bw_cond rfl ?_ ?_
      ·intro hc6; replace h := ocond_t hc6 h
       refine bR ?_
       refine sS rfl rfl rfl ((op1_bslice (xs := []) Try.underlying23 inf_5 rfl rfl rfl rfl rfl rfl ⟨Nat.le_of_ble_eq_true rfl, Nat.le_of_ble_eq_true rfl⟩ rfl).cast (y := (PV.sl (some 1) 5 1 (List.map ofB ([] : Str)))) rfl rfl) ?_
       refine sS rfl rfl rfl (op1_faR st_29 (i := 5) rfl rfl rfl) ?_
       refine sS rfl rfl rfl ((op1_ldR Try.underlying23 rfl rfl rfl rfl rfl)) ?_
       obtain ⟨x7, hx7, h⟩ := obind h
       refine sS rfl rfl rfl (op1_appMO Try.underlying23 inf_5 rfl Try.underlying23 rfl rfl rfl rfl (fun _ => rfl) (fun _ => rfl) hx7 rfl (fun _ => (sc_cons Sc.v sc_nil))) ?_
       refine sS rfl rfl rfl ((op1_mkI Try.underlying23 rfl rfl rfl).wk ((Wk.iface Wk.tok).trans (Wk.eq (mk_bytes _).symm))) ?_
       refine sA rfl rfl rfl rfl rfl (ao_nil ?_)
       change BW _ _ _ _ _
       refine bw_ret ?_
       change ∃ xs, _ = some xs ∧ EndOk _ _ _ _
       obtain rfl := Option.some.inj h
       exact ⟨_, rfl, endOk0 (y := (ofV (V.bytes x7))) (Wk.refl _) (ids_V (V.bytes x7)) ⟨rfl, rfl⟩⟩
      ·intro hc6; replace h := ocond_f hc6 h
       refine bR ?_
       refine sS rfl rfl rfl ((op1_cmp rfl rfl rfl rfl).cast (y := (BO ((a0.kind == 7)))) rfl rfl) ?_
       refine sA rfl rfl rfl rfl rfl (ao_nil ?_)
       change BW _ _ _ _ _
       refine bw_cond rfl ?_ ?_
       ·intro hc8; replace h := ocond_t hc8 h
        refine bR ?_
        refine sS rfl rfl rfl (op1_faR st_29 (i := 6) rfl rfl rfl) ?_
        refine sS rfl rfl rfl ((op1_ldR Try.underlying25 rfl rfl rfl rfl rfl)) ?_
        refine sS rfl rfl rfl ((op1_mkI Try.underlying25 rfl rfl rfl).wk ((Wk.iface (Wk.refl _)).trans (Wk.eq (mk_ref _).symm))) ?_
        refine sA rfl rfl rfl rfl rfl (ao_nil ?_)
        change BW _ _ _ _ _
        refine bw_ret ?_
        change ∃ xs, _ = some xs ∧ EndOk _ _ _ _
        obtain rfl := Option.some.inj h
        exact ⟨_, rfl, endOk0 (y := (ofV (V.ref a0.ref))) (Wk.refl _) (ids_V (V.ref a0.ref)) ⟨rfl, rfl⟩⟩
       ·intro hc8; replace h := ocond_f hc8 h
        refine bR ?_
        refine sS rfl rfl rfl ((op1_cmp rfl rfl rfl rfl).cast (y := (BO ((a0.kind == 8)))) rfl rfl) ?_
        refine sA rfl rfl rfl rfl rfl (ao_nil ?_)
        change BW _ _ _ _ _
        refine bw_cond rfl ?_ ?_
        ·intro hc9; replace h := ocond_t hc9 h
         refine bR ?_
         refine sS rfl rfl rfl (op1_faR st_29 (i := 7) rfl rfl rfl) ?_
         refine sS rfl rfl rfl ((op1_ldR Try.underlying26 rfl rfl rfl rfl rfl)) ?_
         refine sS rfl rfl rfl (op1_oldS (op1_lenM Try.underlying26 rfl rfl) Sc.v) ?_
         obtain ⟨x10, hx10, h⟩ := obind h
         refine sS rfl rfl rfl ((op1_mkM (f := ofV) (c := ((a0.list).length)) Try.underlying60 inf_20 rfl rfl rfl rfl hx10 (p := (PV.v .nilIface)) rfl).cast (y := (PV.sl (some 1) 20 1 (List.map ofV ([] : (List V))))) rfl rfl) ?_
         refine sA rfl rfl rfl rfl rfl (ao_nil ?_)
         change BW _ _ _ _ _
         refine bw_seq ?_
         refine bR ?_
         refine sS rfl rfl rfl (op1_faR st_29 (i := 7) rfl rfl rfl) ?_
         refine sS rfl rfl rfl ((op1_ldR Try.underlying26 rfl rfl rfl rfl rfl)) ?_
         refine sS rfl rfl rfl (op1_oldS (op1_lenM Try.underlying26 rfl rfl) Sc.v) ?_
         refine sM rfl rfl rfl rfl rfl (ao_nil ?_)
         change BW _ _ _ _ _
         refine bw_block ?_
         change BW _ _ _ _ _
         unfold value_loose_l1 at h
         refine bw_loop (σ := ((List V) × Nat)) (fun i => [(3, (PV.sl (some 1) 20 1 (List.map ofV i.1))), (49, (PV.old (PV.sl none 29 11 (List.map ofTerm a0.list)))), (50, (I64 ((((a0.list).length : Nat) : Int)))), (51, (I64 (((i.2 : Nat) : Int))))]) (fun i => [.dead, .arr 20 (i.1).length]) (([] : (List V)), 0) h ?_ ?_ ?_
         ·intro i; exact ⟨Nat.le_of_ble_eq_true rfl, ⟨(il_tok rfl (ids_map ids_V _)), ⟨(il_nil (ids_old (ids_slM ids_Term _))), ⟨(il_nil rfl), ⟨(il_nil rfl), trivial⟩⟩⟩⟩, trivial⟩
         ·exact ⟨(.cons .dead (.cons .same .nil)), (sC rfl (sC rfl (sC rfl (sC rfl sub_nil))))⟩
         ·rintro g1_f ⟨s11, s12⟩ h; replace h : value_loose_l1b r_value_loose a0 (fun y0 y1 => g1_f (y0, y1)) s11 s12 = some r := h; unfold value_loose_l1b at h
          change BW _ _ _ ⟨[(3, (PV.sl (some 1) 20 1 (List.map ofV s11))), (49, (PV.old (PV.sl none 29 11 (List.map ofTerm a0.list)))), (50, (I64 ((((a0.list).length : Nat) : Int)))), (51, (I64 (((s12 : Nat) : Int))))], [.dead, .arr 20 (s11).length], _⟩ _
          refine bR ?_
          refine sS rfl rfl rfl ((op1_cmp rfl rfl rfl rfl).cast (y := (BO ((decide (((s12 : Nat) : Int) < (((a0.list).length : Nat) : Int)))))) rfl rfl) (ao_nil ?_)
          change BW _ _ _ _ _
          refine bw_seq ?_
          refine bw_lenO (t := 49) rfl fun hb14 => ?_
          try rw [List.length_map] at hb14
          refine bw_cond rfl ?_ ?_
          ·intro hc13; replace h := ocond_t hc13 h
           have hc13_ := of_decide_eq_true hc13
           refine bw_skip ?_
           change BW _ _ _ _ _
           refine bw_seq ?_
           refine bw_block ?_
           change BW _ _ _ _ _
           refine bR ?_
           obtain ⟨x15, hx15, h⟩ := obind h
           refine sS rfl rfl rfl (op1_old (op1_idxN (i := s12) Try.underlying26 inf_29 rfl rfl rfl hx15 (ofTerm_eq _))) ?_
           refine sS rfl rfl rfl (Op1.wk (x := (PV.old (ofTermX x15))) (op1_old (op1_ldPW inf_29 Try.underlying29 rfl rfl rfl rfl rfl)) (Wk.opened (cs := [(I64 x15.kind), (BO x15.bool), (I64 x15.int), (PV.v (.float .f64 x15.float)), (ofStr x15.text), (PV.sl none 5 1 (List.map ofB x15.bytes)), (PV.v (.int .u64 x15.ref)), (PV.sl none 29 11 (List.map ofTerm x15.list)), (PV.sl none 66 12 (List.map ofEntry x15.fields)), (ofStr x15.cls), (I64 x15.ver)]) (.cons (Wk.oldSc Sc.v) (.cons (Wk.oldSc Sc.v) (.cons (Wk.oldSc Sc.v) (.cons (Wk.oldSc Sc.v) (.cons (Wk.oldSc Sc.v) (.cons (Wk.refl _) (.cons (Wk.oldSc Sc.v) (.cons (Wk.refl _) (.cons (Wk.refl _) (.cons (Wk.oldSc Sc.v) (.cons (Wk.oldSc Sc.v) .nil))))))))))))) ?_
           refine sS rfl rfl rfl (op1_alloc inf_29 rfl) ?_
           refine ao_step0 rfl rfl (op1_store inf_29 rfl rfl rfl rfl rfl rfl (Nat.le_of_ble_eq_true rfl) rfl) ?_
           refine ao_nil ?_
           change BW _ _ _ _ _
           refine bw_region ?_
           refine sM rfl rfl rfl rfl rfl ?_
           refine sS rfl rfl rfl ((op1_ldRA inf_29 Try.underlying29 rfl rfl rfl rfl rfl rfl)) ?_
           obtain ⟨x16, hx16, h⟩ := obind h
           refine sS rfl rfl rfl (op1_pcall rfl en_41 rfl (.cons (Wk.aggOld (ys := [(I64 x15.kind), (BO x15.bool), (I64 x15.int), (PV.v (.float .f64 x15.float)), (ofStr x15.text), (PV.sl none 5 1 (List.map ofB x15.bytes)), (PV.v (.int .u64 x15.ref)), (PV.sl none 29 11 (List.map ofTerm x15.list)), (PV.sl none 66 12 (List.map ofEntry x15.fields)), (ofStr x15.cls), (I64 x15.ver)]) (.cons (Wk.toOld Pl.v) (.cons (Wk.toOld Pl.v) (.cons (Wk.toOld Pl.v) (.cons (Wk.toOld Pl.v) (.cons (Wk.toOld Pl.v) (.cons (Wk.refl _) (.cons (Wk.toOld Pl.v) (.cons (Wk.refl _) (.cons (Wk.refl _) (.cons (Wk.toOld Pl.v) (.cons (Wk.toOld Pl.v) .nil)))))))))))) .nil) ⟨(ids_old (ids_TermX x15)), trivial⟩ (c_value_loose x15 x16 hx16) (ids_V x16)) ?_
           refine sS rfl rfl rfl ((op1_bslice (xs := [(ofV x16)]) Try.underlying60 inf_20 rfl rfl rfl (by simp only [List.all_cons, List.all_nil, cok_V, cok_RecP, Bool.and_true, Bool.true_and]; try rfl) (by simp only [List.all_cons, List.all_nil, csz_V, csz_RecP, cells_V, cells_RecP]; try rfl) rfl ⟨Nat.le_of_ble_eq_true rfl, Nat.le_of_ble_eq_true rfl⟩ (by simp only [zipN, afill, List.flatMap_cons, List.flatMap_nil, cells_V, cells_RecP]; try rfl)).cast (y := (PV.sl (some 3) 20 1 (List.map ofV ([x16] : (List V))))) rfl rfl) ?_
           obtain ⟨x17, hx17, h⟩ := obind h
           refine sS rfl rfl rfl (op1_appM Try.underlying60 inf_20 rfl Try.underlying60 rfl rfl rfl rfl csz_V call1_V hx17 rfl) ?_
           refine sA rfl rfl rfl rfl rfl (ao_nil ?_)
           change BW _ _ _ _ _
           refine bw_region ?_
           refine sS rfl rfl rfl (op1_incN (k := s12) (c := 1) rfl rfl rfl (by omega)) ?_
           refine sM rfl rfl rfl rfl rfl (ao_nil ?_)
           exact ⟨rfl, (x17, (s12 + 1)), h, ⟨(.cons .dead (.cons .same .nil)), (sC rfl (sC rfl (sC rfl (sC rfl sub_nil))))⟩⟩
          ·intro hc13; replace h := ocond_f hc13 h
           refine bw_exit ?_
           change BW _ _ _ _ _
           refine bR ?_
           refine sM rfl rfl rfl rfl rfl ?_
           refine sS rfl rfl rfl ((op1_mkI Try.underlying60 rfl rfl rfl).wk ((Wk.iface Wk.tok).trans (Wk.eq (mk_list _).symm))) ?_
           refine sA rfl rfl rfl rfl rfl (ao_nil ?_)
           change BW _ _ _ _ _
           refine bw_ret ?_
           change ∃ xs, _ = some xs ∧ EndOk _ _ _ _
           obtain rfl := Option.some.inj h
           exact ⟨_, rfl, endOk0 (y := (ofV (V.list s11))) (Wk.refl _) (ids_V (V.list s11)) ⟨rfl, rfl⟩⟩
        ·intro hc9; replace h := ocond_f hc9 h
         refine bR ?_
         refine sS rfl rfl rfl ((op1_cmp rfl rfl rfl rfl).cast (y := (BO ((a0.kind == 9)))) rfl rfl) ?_
         refine sA rfl rfl rfl rfl rfl (ao_nil ?_)
         change BW _ _ _ _ _
         refine bw_cond rfl ?_ ?_
         ·intro hc18; replace h := ocond_t hc18 h
          refine bR ?_
          refine sS rfl rfl rfl (op1_faR st_29 (i := 8) rfl rfl rfl) ?_
          refine sS rfl rfl rfl ((op1_ldR Try.underlying27 rfl rfl rfl rfl rfl)) ?_
          obtain ⟨x19, hx19, h⟩ := obind h
          refine sS rfl rfl rfl (op1_pcall rfl en_56 rfl (.cons (Wk.refl _) .nil) ⟨(ids_old (ids_slM ids_Entry a0.fields)), trivial⟩ (c_value_dict a0.fields x19 hx19) (ids_slM ids_Fld x19)) ?_
          refine sS rfl rfl rfl ((op1_mkI Try.underlying58 rfl rfl rfl).wk ((Wk.iface (Wk.refl _)).trans (Wk.eq (mk_dict _).symm))) ?_
          refine sA rfl rfl rfl rfl rfl (ao_nil ?_)
          change BW _ _ _ _ _
          refine bw_ret ?_
          change ∃ xs, _ = some xs ∧ EndOk _ _ _ _
          obtain rfl := Option.some.inj h
          exact ⟨_, rfl, endOk0 (y := (ofV (V.dict x19))) (Wk.refl _) (ids_V (V.dict x19)) ⟨rfl, rfl⟩⟩
         ·intro hc18; replace h := ocond_f hc18 h
          refine bR ?_
          refine sS rfl rfl rfl ((op1_cmp rfl rfl rfl rfl).cast (y := (BO ((a0.kind == 10)))) rfl rfl) ?_
          refine sA rfl rfl rfl rfl rfl (ao_nil ?_)
          change BW _ _ _ _ _
          refine bw_cond rfl ?_ ?_
          ·intro hc20; replace h := ocond_t hc20 h
           refine bw_seq (bw_tail 7 [] [0] mo (by kernel_rfl) ?_)
           refine ac_go rfl rfl rfl rfl (fun H hp => op1_faR st_29 (i := 9) rfl rfl rfl) ?_
           refine ac_go rfl rfl rfl rfl (fun H hp => (op1_ldR Try.underlying9 rfl rfl rfl (hp.at rfl rfl) rfl)) ?_
           refine ac_go rfl rfl rfl rfl (fun H hp => op1_faR st_29 (i := 10) rfl rfl rfl) ?_
           refine ac_go rfl rfl rfl rfl (fun H hp => (op1_ldR Try.underlying3 rfl rfl rfl (hp.at rfl rfl) rfl)) ?_
           refine ac_go rfl rfl rfl rfl (fun H hp => op1_faR st_29 (i := 8) rfl rfl rfl) ?_
           refine ac_go rfl rfl rfl rfl (fun H hp => (op1_ldR Try.underlying27 rfl rfl rfl (hp.at rfl rfl) rfl)) ?_
           obtain ⟨x21, hx21, h⟩ := obind h
           refine ac_go rfl rfl rfl rfl (fun H hp => op1_pcall rfl en_56 rfl (.cons (Wk.refl _) .nil) ⟨(ids_old (ids_slM ids_Entry a0.fields)), trivial⟩ (c_value_dict a0.fields x21 hx21) (ids_slM ids_Fld x21)) ?_
           refine ac_nil ?_
           change AO _ _ _ _ _
           refine sS rfl rfl rfl (op1_build (cs := [(ofStr a0.cls), (I64 a0.ver), (PV.sl none 56 2 (List.map ofFld x21))]) st_70 inf_70 rfl rfl rfl rfl) ?_
           refine sS rfl rfl rfl (op1_box rfl rfl rfl) ?_
           refine sS rfl rfl rfl (op1_mkI Try.underlying62 rfl rfl rfl) ?_
           refine sA rfl rfl rfl rfl rfl (ao_nil ?_)
           change BW _ _ _ _ _
           refine bw_thaw 1 2 (y := (ofV (V.record a0.cls a0.ver x21))) rfl rfl ((Wk.iface (Wk.pt (x := .agg [(ofStr a0.cls), (I64 a0.ver), (PV.sl none 56 2 (List.map ofFld x21))]) (y := ofRec (Rec.mk a0.cls a0.ver x21)) (.cons (Wk.refl _) (.cons (Wk.refl _) (.cons (Wk.refl _) .nil))))).trans (Wk.eq (mk_rec (some (Rec.mk a0.cls a0.ver x21))).symm)) ?_
           refine bw_ret ?_
           change ∃ xs, _ = some xs ∧ EndOk _ _ _ _
           obtain rfl := Option.some.inj h
           exact ⟨_, rfl, endOk0 (y := (ofV (V.record a0.cls a0.ver x21))) (Wk.refl _) (ids_V (V.record a0.cls a0.ver x21)) ⟨rfl, rfl⟩⟩
          ·intro hc20; replace h := ocond_f hc20 h
           refine bR ?_
           refine sS rfl rfl rfl ((op1_cmp rfl rfl rfl rfl).cast (y := (BO ((a0.kind == 11)))) rfl rfl) ?_
           refine sA rfl rfl rfl rfl rfl (ao_nil ?_)
           change BW _ _ _ _ _
           refine bw_cond rfl ?_ ?_
           ·intro hc22; replace h := ocond_t hc22 h
            refine bR ?_
            refine sS rfl rfl rfl ((op1_mkI Try.underlying62 rfl rfl rfl).wk (Wk.eq (mk_rec none).symm)) ?_
            refine sA rfl rfl rfl rfl rfl (ao_nil ?_)
            change BW _ _ _ _ _
            refine bw_ret ?_
            change ∃ xs, _ = some xs ∧ EndOk _ _ _ _
            obtain rfl := Option.some.inj h
            exact ⟨_, rfl, endOk0 (y := (ofV V.nothing)) (Wk.refl _) (ids_V V.nothing) ⟨rfl, rfl⟩⟩
           ·intro hc22; replace h := ocond_f hc22 h
            refine bw_skip ?_
            change BW _ _ _ _ _
            refine bR ?_
            refine sS rfl rfl rfl (op1_build (cs := []) st_102 inf_102 rfl rfl rfl rfl) ?_
            refine sS rfl rfl rfl ((op1_mkI Try.underlying102 rfl rfl rfl).wk ((Wk.iface Wk.junk).trans (Wk.eq (mk_alien ⟨102, rfl⟩).symm))) ?_
            refine sA rfl rfl rfl rfl rfl (ao_nil ?_)
            change BW _ _ _ _ _
            refine bw_ret ?_
            change ∃ xs, _ = some xs ∧ EndOk _ _ _ _
            obtain rfl := Option.some.inj h
            exact ⟨_, rfl, endOk0 (y := (ofV (V.alien ⟨102, rfl⟩))) (Wk.refl _) (ids_V (V.alien ⟨102, rfl⟩)) ⟨rfl, rfl⟩⟩
theorem C_value_dict.sound : ∀ (i : C_value_dict) (r : i.R), fixO C_value_dict.F i = some r → C_value_dict.Q i r := by
 refine fixO_ind (Φ := C_value_dict.F) (Q := C_value_dict.Q) ?_
 intro g hg i r h
 cases i with
 | k_value_dict a0 => exact t_value_dict (fun a0 => g (.k_value_dict a0)) (fun a0 r hr => hg (.k_value_dict a0) r hr) (fun a0 => g (.k_value_loose a0)) (fun a0 r hr => hg (.k_value_loose a0) r hr) a0 r h
 | k_value_loose a0 => exact t_value_loose (fun a0 => g (.k_value_dict a0)) (fun a0 r hr => hg (.k_value_dict a0) r hr) (fun a0 => g (.k_value_loose a0)) (fun a0 r hr => hg (.k_value_loose a0) r hr) a0 r h
theorem s_value_dict (a0 : (List (Str × Term))) (r : (List (Str × V))) (h : p_value_dict a0 = some r) : PCalls Try.prog 56 [(PV.old (PV.sl none 66 12 (List.map ofEntry a0)))] (PV.sl none 56 2 (List.map ofFld r)) := C_value_dict.sound (.k_value_dict a0) r h
theorem s_value_loose (a0 : Term) (r : V) (h : p_value_loose a0 = some r) : PCalls Try.prog 41 [(PV.old (ofTermX a0))] (ofV r) := C_value_dict.sound (.k_value_loose a0) r h
noncomputable def p_value_Of (a0 : Term) : Option (V × Int) :=
 Option.bind (p_value_loose a0) fun x1 =>
 Option.bind (p_value_check x1) fun x2 =>
 bif (x2.2 != 0) then (
  some (V.nil, x2.2)
 ) else (
  some (x1, 0)
 )
theorem s_value_Of (a0 : Term) (r : (V × Int)) (h : p_value_Of a0 = some r) : PCalls Try.prog 21 [(PV.old (ofTermX a0))] (PV.tup [(ofV r.1), (I64 r.2)]) := by
 unfold p_value_Of at h
 refine acalls_of Try.func21 rfl Try.ntmps21 Try.results21 rfl (aw_of_bw ?_)
 change BW _ _ _ ⟨[(0, (PV.old (ofTermX a0)))], [], _⟩ _
 refine bw_wk 0 rfl (Wk.opened (cs := [(I64 a0.kind), (BO a0.bool), (I64 a0.int), (PV.v (.float .f64 a0.float)), (ofStr a0.text), (PV.sl none 5 1 (List.map ofB a0.bytes)), (PV.v (.int .u64 a0.ref)), (PV.sl none 29 11 (List.map ofTerm a0.list)), (PV.sl none 66 12 (List.map ofEntry a0.fields)), (ofStr a0.cls), (I64 a0.ver)]) (.cons (Wk.oldSc Sc.v) (.cons (Wk.oldSc Sc.v) (.cons (Wk.oldSc Sc.v) (.cons (Wk.oldSc Sc.v) (.cons (Wk.oldSc Sc.v) (.cons (Wk.refl _) (.cons (Wk.oldSc Sc.v) (.cons (Wk.refl _) (.cons (Wk.refl _) (.cons (Wk.oldSc Sc.v) (.cons (Wk.oldSc Sc.v) .nil)))))))))))) ?_
 refine bR ?_
 refine sS rfl rfl rfl (op1_box rfl rfl rfl) ?_
 refine sA rfl rfl rfl rfl rfl ?_
 refine sA rfl rfl rfl rfl rfl (ao_nil ?_)
 change BW _ _ _ _ _
 refine bR ?_
 refine sS rfl rfl rfl ((op1_ldRA inf_29 Try.underlying29 rfl rfl rfl rfl rfl rfl)) ?_
 obtain ⟨x1, hx1, h⟩ := obind h
 refine sS rfl rfl rfl (op1_pcall rfl en_41 rfl (.cons (Wk.aggOld (ys := [(I64 a0.kind), (BO a0.bool), (I64 a0.int), (PV.v (.float .f64 a0.float)), (ofStr a0.text), (PV.sl none 5 1 (List.map ofB a0.bytes)), (PV.v (.int .u64 a0.ref)), (PV.sl none 29 11 (List.map ofTerm a0.list)), (PV.sl none 66 12 (List.map ofEntry a0.fields)), (ofStr a0.cls), (I64 a0.ver)]) (.cons (Wk.toOld Pl.v) (.cons (Wk.toOld Pl.v) (.cons (Wk.toOld Pl.v) (.cons (Wk.toOld Pl.v) (.cons (Wk.toOld Pl.v) (.cons (Wk.refl _) (.cons (Wk.toOld Pl.v) (.cons (Wk.refl _) (.cons (Wk.refl _) (.cons (Wk.toOld Pl.v) (.cons (Wk.toOld Pl.v) .nil)))))))))))) .nil) ⟨(ids_old (ids_TermX a0)), trivial⟩ (s_value_loose a0 x1 hx1) (ids_V x1)) ?_
 refine sA rfl rfl rfl rfl rfl (ao_nil ?_)
 change BW _ _ _ _ _
 refine bw_seq ?_
 refine bR ?_
 refine sM rfl rfl rfl rfl rfl ?_
 obtain ⟨x2, hx2, h⟩ := obind h
 refine sS rfl rfl rfl (op1_pcall rfl en_34 rfl (.cons (Wk.refl _) .nil) ⟨(ids_V x1), trivial⟩ (s_value_check x1 x2 hx2) (ids_tup_cons rfl (ids_tup_cons rfl ids_tup_nil))) ?_
 refine sM rfl rfl rfl rfl rfl ?_
 refine sS rfl rfl rfl (op1_ext rfl rfl rfl) ?_
 refine sS rfl rfl rfl (op1_ext rfl rfl rfl) ?_
 refine sA rfl rfl rfl rfl rfl ?_
 refine sA rfl rfl rfl rfl rfl (ao_nil ?_)
 change BW _ _ _ _ _
 refine bR ?_
 refine sM rfl rfl rfl rfl rfl ?_
 refine sS rfl rfl rfl ((op1_cmp rfl rfl rfl rfl).cast (y := (BO ((x2.2 != 0)))) rfl rfl) (ao_nil ?_)
 change BW _ _ _ _ _
 refine bw_cond rfl ?_ ?_
 ·intro hc3; replace h := ocond_t hc3 h
  refine bR ?_
  refine sM rfl rfl rfl rfl rfl ?_
  refine sA rfl rfl rfl rfl rfl ?_
  refine sA rfl rfl rfl rfl rfl (ao_nil ?_)
  change BW _ _ _ _ _
  refine bw_ret ?_
  change ∃ xs, _ = some xs ∧ EndOk _ _ _ _
  obtain rfl := Option.some.inj h
  exact ⟨_, rfl, endOk0 (y := (PV.tup [(ofV V.nil), (I64 x2.2)])) (Wk.tup (.cons (Wk.eq mk_nil.symm) (.cons (Wk.refl _) .nil))) (ids_tup_cons (ids_V V.nil) (ids_tup_cons rfl ids_tup_nil)) ⟨rfl, rfl⟩⟩
 ·intro hc3; replace h := ocond_f hc3 h
  refine bw_skip ?_
  change BW _ _ _ _ _
  refine bR ?_
  refine sM rfl rfl rfl rfl rfl ?_
  refine sA rfl rfl rfl rfl rfl ?_
  refine sA rfl rfl rfl rfl rfl (ao_nil ?_)
  change BW _ _ _ _ _
  refine bw_ret ?_
  change ∃ xs, _ = some xs ∧ EndOk _ _ _ _
  obtain rfl := Option.some.inj h
  exact ⟨_, rfl, endOk0 (y := (PV.tup [(ofV x1), (I64 0)])) (Wk.refl _) (ids_tup_cons (ids_V x1) (ids_tup_cons rfl ids_tup_nil)) ⟨rfl, rfl⟩⟩
noncomputable def p_mk_Alien (a0 : Int) : Option V :=
 bif ((Int.tmod a0 14) == 0) then (
  some (V.alien ⟨3, rfl⟩)
 ) else (
  bif ((Int.tmod a0 14) == 1) then (
   some (V.alien ⟨5, rfl⟩)
  ) else (
   bif ((Int.tmod a0 14) == 2) then (
    some (V.alien ⟨83, rfl⟩)
   ) else (
    bif ((Int.tmod a0 14) == 3) then (
     some (V.alien ⟨1, rfl⟩)
    ) else (
     bif ((Int.tmod a0 14) == 4) then (
      some (V.alien ⟨86, rfl⟩)
     ) else (
      bif ((Int.tmod a0 14) == 5) then (
       some (V.alien ⟨59, rfl⟩)
      ) else (
       bif ((Int.tmod a0 14) == 6) then (
        some (V.alien ⟨87, rfl⟩)
       ) else (
        bif ((Int.tmod a0 14) == 7) then (
         some (V.alien ⟨88, rfl⟩)
        ) else (
         bif ((Int.tmod a0 14) == 8) then (
          some (V.alien ⟨70, rfl⟩)
         ) else (
          bif ((Int.tmod a0 14) == 9) then (
           some (V.alien ⟨57, rfl⟩)
          ) else (
           bif ((Int.tmod a0 14) == 10) then (
            some (V.alien ⟨89, rfl⟩)
           ) else (
            bif ((Int.tmod a0 14) == 11) then (
             some (V.alien ⟨31, rfl⟩)
            ) else (
             bif ((Int.tmod a0 14) == 12) then (
              some (V.alien ⟨90, rfl⟩)
             ) else (
              some (V.alien ⟨91, rfl⟩)
             )
            )
           )
          )
         )
        )
       )
      )
     )
    )
   )
  )
 )
theorem s_mk_Alien (a0 : Int) (r : V) (h : p_mk_Alien a0 = some r) : PCalls Try.prog 30 [(I64 a0)] (ofV r) := by
 unfold p_mk_Alien at h
 refine acalls_of Try.func30 rfl Try.ntmps30 Try.results30 rfl (aw_of_bw ?_)
 change BW _ _ _ ⟨[(0, (I64 a0))], [], _⟩ _
 refine bR ?_
 refine sA rfl rfl rfl rfl rfl (ao_nil ?_)
 change BW _ _ _ _ _
 refine bw_seq ?_
 refine bR ?_
 refine sM rfl rfl rfl rfl rfl ?_
 refine sS rfl rfl rfl (op1_rem rfl rfl rfl (by decide)) (ao_nil ?_)
 change BW _ _ _ _ _
 refine bw_block ?_
 change BW _ _ _ _ _
 refine bR ?_
 refine sS rfl rfl rfl ((op1_cmp rfl rfl rfl rfl).cast (y := (BO (((Int.tmod a0 14) == 0)))) rfl rfl) ?_
 refine sA rfl rfl rfl rfl rfl (ao_nil ?_)
 change BW _ _ _ _ _
 refine bw_cond rfl ?_ ?_
 ·intro hc1; replace h := ocond_t hc1 h
  refine bR ?_
  refine sS rfl rfl rfl ((op1_mkI Try.underlying3 rfl rfl rfl).wk ((Wk.iface Wk.junk).trans (Wk.eq (mk_alien ⟨3, rfl⟩).symm))) ?_
  refine sA rfl rfl rfl rfl rfl (ao_nil ?_)
  change BW _ _ _ _ _
  refine bw_ret ?_
  change ∃ xs, _ = some xs ∧ EndOk _ _ _ _
  obtain rfl := Option.some.inj h
  exact ⟨_, rfl, endOk0 (y := (ofV (V.alien ⟨3, rfl⟩))) (Wk.refl _) (ids_V (V.alien ⟨3, rfl⟩)) ⟨rfl, rfl⟩⟩
 ·intro hc1; replace h := ocond_f hc1 h
  refine bR ?_
  refine sS rfl rfl rfl ((op1_cmp rfl rfl rfl rfl).cast (y := (BO (((Int.tmod a0 14) == 1)))) rfl rfl) ?_
  refine sA rfl rfl rfl rfl rfl (ao_nil ?_)
  change BW _ _ _ _ _
  refine bw_cond rfl ?_ ?_
  ·intro hc2; replace h := ocond_t hc2 h
   refine bR ?_
   refine sS rfl rfl rfl ((op1_mkI Try.underlying5 rfl rfl rfl).wk ((Wk.iface Wk.junk).trans (Wk.eq (mk_alien ⟨5, rfl⟩).symm))) ?_
   refine sA rfl rfl rfl rfl rfl (ao_nil ?_)
   change BW _ _ _ _ _
   refine bw_ret ?_
   change ∃ xs, _ = some xs ∧ EndOk _ _ _ _
   obtain rfl := Option.some.inj h
   exact ⟨_, rfl, endOk0 (y := (ofV (V.alien ⟨5, rfl⟩))) (Wk.refl _) (ids_V (V.alien ⟨5, rfl⟩)) ⟨rfl, rfl⟩⟩
  ·intro hc2; replace h := ocond_f hc2 h
   refine bR ?_
   refine sS rfl rfl rfl ((op1_cmp rfl rfl rfl rfl).cast (y := (BO (((Int.tmod a0 14) == 2)))) rfl rfl) ?_
   refine sA rfl rfl rfl rfl rfl (ao_nil ?_)
   change BW _ _ _ _ _
   refine bw_cond rfl ?_ ?_
   ·intro hc3; replace h := ocond_t hc3 h
    refine bR ?_
    refine ao_maplit rfl rfl rfl rfl rfl rfl rfl Try.underlying83 Try.underlying9 ?_
    refine sM rfl rfl rfl rfl rfl ?_
    refine sS rfl rfl rfl ((op1_mkI Try.underlying83 rfl rfl rfl).wk ((Wk.iface Wk.junk).trans (Wk.eq (mk_alien ⟨83, rfl⟩).symm))) ?_
    refine sA rfl rfl rfl rfl rfl (ao_nil ?_)
    change BW _ _ _ _ _
    refine bw_ret ?_
    change ∃ xs, _ = some xs ∧ EndOk _ _ _ _
    obtain rfl := Option.some.inj h
    exact ⟨_, rfl, endOk0 (y := (ofV (V.alien ⟨83, rfl⟩))) (Wk.refl _) (ids_V (V.alien ⟨83, rfl⟩)) ⟨rfl, rfl⟩⟩
   ·intro hc3; replace h := ocond_f hc3 h
    refine bR ?_
    refine sS rfl rfl rfl ((op1_cmp rfl rfl rfl rfl).cast (y := (BO (((Int.tmod a0 14) == 3)))) rfl rfl) ?_
    refine sA rfl rfl rfl rfl rfl (ao_nil ?_)
    change BW _ _ _ _ _
    refine bw_cond rfl ?_ ?_
    ·intro hc4; replace h := ocond_t hc4 h
     refine bR ?_
     refine sS rfl rfl rfl ((op1_mkI Try.underlying1 rfl rfl rfl).wk ((Wk.iface Wk.junk).trans (Wk.eq (mk_alien ⟨1, rfl⟩).symm))) ?_
     refine sA rfl rfl rfl rfl rfl (ao_nil ?_)
     change BW _ _ _ _ _
     refine bw_ret ?_
     change ∃ xs, _ = some xs ∧ EndOk _ _ _ _
     obtain rfl := Option.some.inj h
     exact ⟨_, rfl, endOk0 (y := (ofV (V.alien ⟨1, rfl⟩))) (Wk.refl _) (ids_V (V.alien ⟨1, rfl⟩)) ⟨rfl, rfl⟩⟩
    ·intro hc4; replace h := ocond_f hc4 h
     refine bR ?_
     refine sS rfl rfl rfl ((op1_cmp rfl rfl rfl rfl).cast (y := (BO (((Int.tmod a0 14) == 4)))) rfl rfl) ?_
     refine sA rfl rfl rfl rfl rfl (ao_nil ?_)
     change BW _ _ _ _ _
     refine bw_cond rfl ?_ ?_
     ·intro hc5; replace h := ocond_t hc5 h
      refine bR ?_
      refine sS rfl rfl rfl ((op1_bslice (xs := [(I64 1)]) Try.underlying84 inf_3 rfl rfl rfl rfl rfl rfl ⟨Nat.le_of_ble_eq_true rfl, Nat.le_of_ble_eq_true rfl⟩ rfl).cast (y := (PV.sl (some 0) 3 1 (List.map (ofI .i64) ([1] : (List Int))))) rfl rfl) ?_
      refine sS rfl rfl rfl (op1_build (cs := [(PV.sl (some 0) 3 1 (List.map (ofI .i64) ([1] : (List Int))))]) st_86 inf_86 rfl rfl rfl rfl) ?_
      refine sS rfl rfl rfl ((op1_mkI Try.underlying86 rfl rfl rfl).wk ((Wk.iface Wk.junk).trans (Wk.eq (mk_alien ⟨86, rfl⟩).symm))) ?_
      refine sA rfl rfl rfl rfl rfl (ao_nil ?_)
      change BW _ _ _ _ _
      refine bw_ret ?_
      change ∃ xs, _ = some xs ∧ EndOk _ _ _ _
      obtain rfl := Option.some.inj h
      exact ⟨_, rfl, endOk0 (y := (ofV (V.alien ⟨86, rfl⟩))) (Wk.refl _) (ids_V (V.alien ⟨86, rfl⟩)) ⟨rfl, rfl⟩⟩
     ·intro hc5; replace h := ocond_f hc5 h
      refine bR ?_
      refine sS rfl rfl rfl ((op1_cmp rfl rfl rfl rfl).cast (y := (BO (((Int.tmod a0 14) == 5)))) rfl rfl) ?_
      refine sA rfl rfl rfl rfl rfl (ao_nil ?_)
      change BW _ _ _ _ _
      refine bw_cond rfl ?_ ?_
      ·intro hc6; replace h := ocond_t hc6 h
       refine bR ?_
       refine sS rfl rfl rfl ((op1_mkI Try.underlying4 rfl rfl rfl).wk ((Wk.iface (Wk.refl _)).trans (Wk.eq (mk_bool _).symm))) ?_
       refine sS rfl rfl rfl ((op1_bslice (xs := [(ofV (V.bool true))]) Try.underlying59 inf_20 rfl rfl rfl (by simp only [List.all_cons, List.all_nil, cok_V, cok_RecP, Bool.and_true, Bool.true_and]; try rfl) (by simp only [List.all_cons, List.all_nil, csz_V, csz_RecP, cells_V, cells_RecP]; try rfl) rfl ⟨Nat.le_of_ble_eq_true rfl, Nat.le_of_ble_eq_true rfl⟩ (by simp only [zipN, afill, List.flatMap_cons, List.flatMap_nil, cells_V, cells_RecP]; try rfl)).cast (y := (PV.sl (some 0) 20 1 (List.map ofV ([(V.bool true)] : (List V))))) rfl rfl) ?_
       refine sS rfl rfl rfl ((op1_mkI Try.underlying59 rfl rfl rfl).wk ((Wk.iface Wk.junk).trans (Wk.eq (mk_alien ⟨59, rfl⟩).symm))) ?_
       refine sA rfl rfl rfl rfl rfl (ao_nil ?_)
       change BW _ _ _ _ _
       refine bw_ret ?_
       change ∃ xs, _ = some xs ∧ EndOk _ _ _ _
       obtain rfl := Option.some.inj h
       exact ⟨_, rfl, endOk0 (y := (ofV (V.alien ⟨59, rfl⟩))) (Wk.refl _) (ids_V (V.alien ⟨59, rfl⟩)) ⟨rfl, rfl⟩⟩
      ·intro hc6; replace h := ocond_f hc6 h
       refine bR ?_
       refine sS rfl rfl rfl ((op1_cmp rfl rfl rfl rfl).cast (y := (BO (((Int.tmod a0 14) == 6)))) rfl rfl) ?_
       refine sA rfl rfl rfl rfl rfl (ao_nil ?_)
       change BW _ _ _ _ _
       refine bw_cond rfl ?_ ?_
       ·intro hc7; replace h := ocond_t hc7 h
        refine bR ?_
        refine sS rfl rfl rfl ((op1_mkI Try.underlying87 rfl rfl rfl).wk ((Wk.iface Wk.junk).trans (Wk.eq (mk_alien ⟨87, rfl⟩).symm))) ?_
        refine sA rfl rfl rfl rfl rfl (ao_nil ?_)
        change BW _ _ _ _ _
        refine bw_ret ?_
        change ∃ xs, _ = some xs ∧ EndOk _ _ _ _
        obtain rfl := Option.some.inj h
        exact ⟨_, rfl, endOk0 (y := (ofV (V.alien ⟨87, rfl⟩))) (Wk.refl _) (ids_V (V.alien ⟨87, rfl⟩)) ⟨rfl, rfl⟩⟩
       ·intro hc7; replace h := ocond_f hc7 h
        refine bR ?_
        refine sS rfl rfl rfl ((op1_cmp rfl rfl rfl rfl).cast (y := (BO (((Int.tmod a0 14) == 7)))) rfl rfl) ?_
        refine sA rfl rfl rfl rfl rfl (ao_nil ?_)
        change BW _ _ _ _ _
        refine bw_cond rfl ?_ ?_
        ·intro hc8; replace h := ocond_t hc8 h
         refine bR ?_
         refine sS rfl rfl rfl ((op1_mkI Try.underlying88 rfl rfl rfl).wk ((Wk.iface Wk.junk).trans (Wk.eq (mk_alien ⟨88, rfl⟩).symm))) ?_
         refine sA rfl rfl rfl rfl rfl (ao_nil ?_)
         change BW _ _ _ _ _
         refine bw_ret ?_
         change ∃ xs, _ = some xs ∧ EndOk _ _ _ _
         obtain rfl := Option.some.inj h
         exact ⟨_, rfl, endOk0 (y := (ofV (V.alien ⟨88, rfl⟩))) (Wk.refl _) (ids_V (V.alien ⟨88, rfl⟩)) ⟨rfl, rfl⟩⟩
        ·intro hc8; replace h := ocond_f hc8 h
         refine bR ?_
         refine sS rfl rfl rfl ((op1_cmp rfl rfl rfl rfl).cast (y := (BO (((Int.tmod a0 14) == 8)))) rfl rfl) ?_
         refine sA rfl rfl rfl rfl rfl (ao_nil ?_)
         change BW _ _ _ _ _
         refine bw_cond rfl ?_ ?_
         ·intro hc9; replace h := ocond_t hc9 h
          refine bR ?_
          refine sS rfl rfl rfl (op1_build (cs := [(ofStr ([97] : Str)), (I64 1), (PV.v (.slice none 0 0))]) st_70 inf_70 rfl rfl rfl rfl) ?_
          refine sS rfl rfl rfl ((op1_mkI Try.underlying70 rfl rfl rfl).wk ((Wk.iface Wk.junk).trans (Wk.eq (mk_alien ⟨70, rfl⟩).symm))) ?_
          refine sA rfl rfl rfl rfl rfl (ao_nil ?_)
          change BW _ _ _ _ _
          refine bw_ret ?_
          change ∃ xs, _ = some xs ∧ EndOk _ _ _ _
          obtain rfl := Option.some.inj h
          exact ⟨_, rfl, endOk0 (y := (ofV (V.alien ⟨70, rfl⟩))) (Wk.refl _) (ids_V (V.alien ⟨70, rfl⟩)) ⟨rfl, rfl⟩⟩
         ·intro hc9; replace h := ocond_f hc9 h
          refine bR ?_
          refine sS rfl rfl rfl ((op1_cmp rfl rfl rfl rfl).cast (y := (BO (((Int.tmod a0 14) == 9)))) rfl rfl) ?_
          refine sA rfl rfl rfl rfl rfl (ao_nil ?_)
          change BW _ _ _ _ _
          refine bw_cond rfl ?_ ?_
          ·intro hc10; replace h := ocond_t hc10 h
           refine bR ?_
           refine sS rfl rfl rfl ((op1_bslice (xs := []) Try.underlying57 inf_56 rfl rfl rfl rfl rfl rfl ⟨Nat.le_of_ble_eq_true rfl, Nat.le_of_ble_eq_true rfl⟩ rfl).cast (y := (PV.sl (some 0) 56 2 (List.map ofFld ([] : (List (Str × V)))))) rfl rfl) ?_
           refine sS rfl rfl rfl ((op1_mkI Try.underlying57 rfl rfl rfl).wk ((Wk.iface Wk.junk).trans (Wk.eq (mk_alien ⟨57, rfl⟩).symm))) ?_
           refine sA rfl rfl rfl rfl rfl (ao_nil ?_)
           change BW _ _ _ _ _
           refine bw_ret ?_
           change ∃ xs, _ = some xs ∧ EndOk _ _ _ _
           obtain rfl := Option.some.inj h
           exact ⟨_, rfl, endOk0 (y := (ofV (V.alien ⟨57, rfl⟩))) (Wk.refl _) (ids_V (V.alien ⟨57, rfl⟩)) ⟨rfl, rfl⟩⟩
          ·intro hc10; replace h := ocond_f hc10 h
           refine bR ?_
           refine sS rfl rfl rfl ((op1_cmp rfl rfl rfl rfl).cast (y := (BO (((Int.tmod a0 14) == 10)))) rfl rfl) ?_
           refine sA rfl rfl rfl rfl rfl (ao_nil ?_)
           change BW _ _ _ _ _
           refine bw_cond rfl ?_ ?_
           ·intro hc11; replace h := ocond_t hc11 h
            refine bR ?_
            refine sA rfl rfl rfl rfl rfl (ao_nil ?_)
            change BW _ _ _ _ _
            refine bR ?_
            refine sM rfl rfl rfl rfl rfl ?_
            refine sS rfl rfl rfl ((op1_mkI Try.underlying89 rfl rfl rfl).wk ((Wk.iface Wk.junk).trans (Wk.eq (mk_alien ⟨89, rfl⟩).symm))) ?_
            refine sA rfl rfl rfl rfl rfl (ao_nil ?_)
            change BW _ _ _ _ _
            refine bw_ret ?_
            change ∃ xs, _ = some xs ∧ EndOk _ _ _ _
            obtain rfl := Option.some.inj h
            exact ⟨_, rfl, endOk0 (y := (ofV (V.alien ⟨89, rfl⟩))) (Wk.refl _) (ids_V (V.alien ⟨89, rfl⟩)) ⟨rfl, rfl⟩⟩
           ·intro hc11; replace h := ocond_f hc11 h
            refine bR ?_
            refine sS rfl rfl rfl ((op1_cmp rfl rfl rfl rfl).cast (y := (BO (((Int.tmod a0 14) == 11)))) rfl rfl) ?_
            refine sA rfl rfl rfl rfl rfl (ao_nil ?_)
            change BW _ _ _ _ _
            refine bw_cond rfl ?_ ?_
            ·intro hc12; replace h := ocond_t hc12 h
             refine bR ?_
             refine sS rfl rfl rfl ((op1_mkI Try.underlying31 rfl rfl rfl).wk ((Wk.iface Wk.junk).trans (Wk.eq (mk_alien ⟨31, rfl⟩).symm))) ?_
             refine sA rfl rfl rfl rfl rfl (ao_nil ?_)
             change BW _ _ _ _ _
             refine bw_ret ?_
             change ∃ xs, _ = some xs ∧ EndOk _ _ _ _
             obtain rfl := Option.some.inj h
             exact ⟨_, rfl, endOk0 (y := (ofV (V.alien ⟨31, rfl⟩))) (Wk.refl _) (ids_V (V.alien ⟨31, rfl⟩)) ⟨rfl, rfl⟩⟩
            ·intro hc12; replace h := ocond_f hc12 h
             refine bR ?_
             refine sS rfl rfl rfl ((op1_cmp rfl rfl rfl rfl).cast (y := (BO (((Int.tmod a0 14) == 12)))) rfl rfl) ?_
             refine sA rfl rfl rfl rfl rfl (ao_nil ?_)
             change BW _ _ _ _ _
             refine bw_cond rfl ?_ ?_
             ·intro hc13; replace h := ocond_t hc13 h
              refine bR ?_
              refine sA rfl rfl rfl rfl rfl (ao_nil ?_)
              change BW _ _ _ _ _
              refine bR ?_
              refine sM rfl rfl rfl rfl rfl ?_
              refine sS rfl rfl rfl ((op1_mkI Try.underlying90 rfl rfl rfl).wk ((Wk.iface Wk.junk).trans (Wk.eq (mk_alien ⟨90, rfl⟩).symm))) ?_
              refine sA rfl rfl rfl rfl rfl (ao_nil ?_)
              change BW _ _ _ _ _
              refine bw_ret ?_
              change ∃ xs, _ = some xs ∧ EndOk _ _ _ _
              obtain rfl := Option.some.inj h
              exact ⟨_, rfl, endOk0 (y := (ofV (V.alien ⟨90, rfl⟩))) (Wk.refl _) (ids_V (V.alien ⟨90, rfl⟩)) ⟨rfl, rfl⟩⟩
             ·intro hc13; replace h := ocond_f hc13 h
              refine bw_skip ?_
              change BW _ _ _ _ _
              refine bR ?_
              refine sS rfl rfl rfl (Op1.junk (op1_buildArr (cs := [(I64 1), (I64 2)]) Try.underlying91 inf_91 inf_3 rfl rfl rfl rfl)) ?_
              refine sS rfl rfl rfl ((op1_mkI Try.underlying91 rfl rfl rfl).wk ((Wk.iface Wk.junk).trans (Wk.eq (mk_alien ⟨91, rfl⟩).symm))) ?_
              refine sA rfl rfl rfl rfl rfl (ao_nil ?_)
              change BW _ _ _ _ _
              refine bw_ret ?_
              change ∃ xs, _ = some xs ∧ EndOk _ _ _ _
              obtain rfl := Option.some.inj h
              exact ⟨_, rfl, endOk0 (y := (ofV (V.alien ⟨91, rfl⟩))) (Wk.refl _) (ids_V (V.alien ⟨91, rfl⟩)) ⟨rfl, rfl⟩⟩
noncomputable def mk_Dict_l1b (r_mk_Built : Term → Option V) (a0 : (List (Str × Term))) (g1 : (List (Str × V)) → Nat → Option (List (Str × V))) (s1 : (List (Str × V))) (s2 : Nat) : Option (List (Str × V)) :=
 bif (decide (((s2 : Nat) : Int) < (((a0).length : Nat) : Int))) then (
  Option.bind ((a0)[s2]?) fun x5 =>
  Option.bind ((a0)[s2]?) fun x6 =>
  Option.bind (r_mk_Built (x6.2)) fun x7 =>
  Option.bind (appO 32 s1 ([(x5.1, x7)] : (List (Str × V)))) fun x8 =>
  g1 x8 (s2 + 1)
 ) else (
  some s1
 )
theorem mk_Dict_l1b_cm {ι : Type} {ρ : ι → Type} (r_mk_Built : (∀ i, Option (ρ i)) → Term → Option V) (h_r_mk_Built : ∀ y0, CM (fun G => r_mk_Built G y0)) (g1 : (∀ i, Option (ρ i)) → (List (Str × V)) → Nat → Option (List (Str × V))) (h_g1 : ∀ y0 y1, CM (fun G => g1 G y0 y1)) (a0 : (List (Str × Term))) (s1 : (List (Str × V))) (s2 : Nat) : CM (fun G : (∀ i, Option (ρ i)) => mk_Dict_l1b (r_mk_Built G) a0 (g1 G) s1 s2) := by
 simp only [mk_Dict_l1b]
 repeat (first | exact cm_const | exact h_r_mk_Built _ | exact h_g1 _ _ | refine cm_cond ?_ ?_ | refine cm_bind ?_ (fun _ => ?_))
noncomputable def mk_Dict_l1 (r_mk_Built : Term → Option V) (a0 : (List (Str × Term))) (s1 : (List (Str × V))) (s2 : Nat) : Option (List (Str × V)) :=
 fixO (ι := ((List (Str × V)) × Nat)) (ρ := fun _ => (List (Str × V))) (fun g i => mk_Dict_l1b r_mk_Built a0 (fun s1 s2 => g (s1, s2)) i.1 i.2) (s1, s2)
theorem mk_Dict_l1_eq (r_mk_Built : Term → Option V) (a0 : (List (Str × Term))) (s1 : (List (Str × V))) (s2 : Nat) : mk_Dict_l1 r_mk_Built a0 s1 s2 = mk_Dict_l1b r_mk_Built a0 (mk_Dict_l1 r_mk_Built a0) s1 s2 :=
 fixO_eq (ι := ((List (Str × V)) × Nat)) (ρ := fun _ => (List (Str × V))) (Φ := fun g i => mk_Dict_l1b r_mk_Built a0 (fun s1 s2 => g (s1, s2)) i.1 i.2) (fun i => mk_Dict_l1b_cm (ι := ((List (Str × V)) × Nat)) (ρ := fun _ => (List (Str × V))) (fun _ => r_mk_Built) (fun _ => cm_const) (fun g => (fun s1 s2 => g (s1, s2))) (fun _ _ => cm_app) a0 i.1 i.2) (s1, s2)
theorem mk_Dict_l1_cm {ι : Type} {ρ : ι → Type} (r_mk_Built : (∀ i, Option (ρ i)) → Term → Option V) (h_r_mk_Built : ∀ y0, CM (fun G => r_mk_Built G y0)) (a0 : (List (Str × Term))) (s1 : (List (Str × V))) (s2 : Nat) : CM (fun G : (∀ i, Option (ρ i)) => mk_Dict_l1 (r_mk_Built G) a0 s1 s2) :=
 cm_fix (κ := ((List (Str × V)) × Nat)) (τ := fun _ => (List (Str × V))) (Φ := fun G g i => mk_Dict_l1b (r_mk_Built G) a0 (fun s1 s2 => g (s1, s2)) i.1 i.2) (fun g i => mk_Dict_l1b_cm r_mk_Built h_r_mk_Built (fun _ => (fun s1 s2 => g (s1, s2))) (fun _ _ => cm_const) a0 i.1 i.2) (fun G i => mk_Dict_l1b_cm (ι := ((List (Str × V)) × Nat)) (ρ := fun _ => (List (Str × V))) (fun _ => r_mk_Built G) (fun _ => cm_const) (fun g => (fun s1 s2 => g (s1, s2))) (fun _ _ => cm_app) a0 i.1 i.2) (s1, s2)
noncomputable def b_mk_Dict (r_mk_Dict : (List (Str × Term)) → Option (List (Str × V))) (r_mk_Built : Term → Option V) (a0 : (List (Str × Term))) : Option (List (Str × V)) :=
 mk_Dict_l1 r_mk_Built a0 ([] : (List (Str × V))) 0
theorem b_mk_Dict_cm {ι : Type} {ρ : ι → Type} (r_mk_Dict : (∀ i, Option (ρ i)) → (List (Str × Term)) → Option (List (Str × V))) (h_r_mk_Dict : ∀ y0, CM (fun G => r_mk_Dict G y0)) (r_mk_Built : (∀ i, Option (ρ i)) → Term → Option V) (h_r_mk_Built : ∀ y0, CM (fun G => r_mk_Built G y0)) (a0 : (List (Str × Term))) : CM (fun G : (∀ i, Option (ρ i)) => b_mk_Dict (r_mk_Dict G) (r_mk_Built G) a0) := by
 simp only [b_mk_Dict]
 repeat (first | exact cm_const | exact h_r_mk_Dict _ | exact h_r_mk_Built _ | apply mk_Dict_l1_cm | refine cm_cond ?_ ?_ | refine cm_bind ?_ (fun _ => ?_) | intro _ | assumption)
noncomputable def mk_Built_l1b (r_mk_Built : Term → Option V) (a0 : Term) (g1 : (List V) → Nat → Option V) (s10 : (List V)) (s11 : Nat) : Option V :=
 bif (decide (((s11 : Nat) : Int) < (((a0.list).length : Nat) : Int))) then (
  Option.bind ((a0.list)[s11]?) fun x14 =>
  Option.bind (r_mk_Built x14) fun x15 =>
  Option.bind (appO 16 s10 ([x15] : (List V))) fun x16 =>
  g1 x16 (s11 + 1)
 ) else (
  some (V.list s10)
 )
theorem mk_Built_l1b_cm {ι : Type} {ρ : ι → Type} (r_mk_Built : (∀ i, Option (ρ i)) → Term → Option V) (h_r_mk_Built : ∀ y0, CM (fun G => r_mk_Built G y0)) (g1 : (∀ i, Option (ρ i)) → (List V) → Nat → Option V) (h_g1 : ∀ y0 y1, CM (fun G => g1 G y0 y1)) (a0 : Term) (s10 : (List V)) (s11 : Nat) : CM (fun G : (∀ i, Option (ρ i)) => mk_Built_l1b (r_mk_Built G) a0 (g1 G) s10 s11) := by
 simp only [mk_Built_l1b]
 repeat (first | exact cm_const | exact h_r_mk_Built _ | exact h_g1 _ _ | refine cm_cond ?_ ?_ | refine cm_bind ?_ (fun _ => ?_))
noncomputable def mk_Built_l1 (r_mk_Built : Term → Option V) (a0 : Term) (s10 : (List V)) (s11 : Nat) : Option V :=
 fixO (ι := ((List V) × Nat)) (ρ := fun _ => V) (fun g i => mk_Built_l1b r_mk_Built a0 (fun s10 s11 => g (s10, s11)) i.1 i.2) (s10, s11)
theorem mk_Built_l1_eq (r_mk_Built : Term → Option V) (a0 : Term) (s10 : (List V)) (s11 : Nat) : mk_Built_l1 r_mk_Built a0 s10 s11 = mk_Built_l1b r_mk_Built a0 (mk_Built_l1 r_mk_Built a0) s10 s11 :=
 fixO_eq (ι := ((List V) × Nat)) (ρ := fun _ => V) (Φ := fun g i => mk_Built_l1b r_mk_Built a0 (fun s10 s11 => g (s10, s11)) i.1 i.2) (fun i => mk_Built_l1b_cm (ι := ((List V) × Nat)) (ρ := fun _ => V) (fun _ => r_mk_Built) (fun _ => cm_const) (fun g => (fun s10 s11 => g (s10, s11))) (fun _ _ => cm_app) a0 i.1 i.2) (s10, s11)
theorem mk_Built_l1_cm {ι : Type} {ρ : ι → Type} (r_mk_Built : (∀ i, Option (ρ i)) → Term → Option V) (h_r_mk_Built : ∀ y0, CM (fun G => r_mk_Built G y0)) (a0 : Term) (s10 : (List V)) (s11 : Nat) : CM (fun G : (∀ i, Option (ρ i)) => mk_Built_l1 (r_mk_Built G) a0 s10 s11) :=
 cm_fix (κ := ((List V) × Nat)) (τ := fun _ => V) (Φ := fun G g i => mk_Built_l1b (r_mk_Built G) a0 (fun s10 s11 => g (s10, s11)) i.1 i.2) (fun g i => mk_Built_l1b_cm r_mk_Built h_r_mk_Built (fun _ => (fun s10 s11 => g (s10, s11))) (fun _ _ => cm_const) a0 i.1 i.2) (fun G i => mk_Built_l1b_cm (ι := ((List V) × Nat)) (ρ := fun _ => V) (fun _ => r_mk_Built G) (fun _ => cm_const) (fun g => (fun s10 s11 => g (s10, s11))) (fun _ _ => cm_app) a0 i.1 i.2) (s10, s11)
noncomputable def b_mk_Built (r_mk_Dict : (List (Str × Term)) → Option (List (Str × V))) (r_mk_Built : Term → Option V) (a0 : Term) : Option V :=
 bif (a0.kind == 1) then (
  some V.nil
 ) else (
  bif (a0.kind == 2) then (
   some (V.bool a0.bool)
  ) else (
   bif (a0.kind == 3) then (
    some (V.int a0.int)
   ) else (
    bif (a0.kind == 4) then (
     some (V.float a0.float)
    ) else (
     bif (a0.kind == 5) then (
      some (V.text a0.text)
     ) else (
      bif (a0.kind == 6) then (
       Option.bind (appO 1 ([] : Str) a0.bytes) fun x7 =>
       some (V.bytes x7)
      ) else (
       bif (a0.kind == 7) then (
        some (V.ref a0.ref)
       ) else (
        bif (a0.kind == 8) then (
         mk_Built_l1 r_mk_Built a0 ([] : (List V)) 0
        ) else (
         bif (a0.kind == 9) then (
          Option.bind (r_mk_Dict a0.fields) fun x18 =>
          some (V.dict x18)
         ) else (
          bif (a0.kind == 10) then (
           Option.bind (r_mk_Dict a0.fields) fun x20 =>
           some (V.record a0.cls a0.ver x20)
          ) else (
           bif (a0.kind == 11) then (
            some V.nothing
           ) else (
            Option.bind (p_mk_Alien a0.int) fun x22 =>
            some x22
           )
          )
         )
        )
       )
      )
     )
    )
   )
  )
 )
theorem b_mk_Built_cm {ι : Type} {ρ : ι → Type} (r_mk_Dict : (∀ i, Option (ρ i)) → (List (Str × Term)) → Option (List (Str × V))) (h_r_mk_Dict : ∀ y0, CM (fun G => r_mk_Dict G y0)) (r_mk_Built : (∀ i, Option (ρ i)) → Term → Option V) (h_r_mk_Built : ∀ y0, CM (fun G => r_mk_Built G y0)) (a0 : Term) : CM (fun G : (∀ i, Option (ρ i)) => b_mk_Built (r_mk_Dict G) (r_mk_Built G) a0) := by
 simp only [b_mk_Built]
 repeat (first | exact cm_const | exact h_r_mk_Dict _ | exact h_r_mk_Built _ | apply mk_Built_l1_cm | refine cm_cond ?_ ?_ | refine cm_bind ?_ (fun _ => ?_) | intro _ | assumption)
inductive C_mk_Dict where
 | k_mk_Dict (a0 : (List (Str × Term)))
 | k_mk_Built (a0 : Term)
def C_mk_Dict.R : C_mk_Dict → Type
 | .k_mk_Dict _ => (List (Str × V))
 | .k_mk_Built _ => V
noncomputable def C_mk_Dict.F (g : ∀ i : C_mk_Dict, Option i.R) : ∀ i : C_mk_Dict, Option i.R
 | .k_mk_Dict a0 => b_mk_Dict (fun a0 => g (.k_mk_Dict a0)) (fun a0 => g (.k_mk_Built a0)) a0
 | .k_mk_Built a0 => b_mk_Built (fun a0 => g (.k_mk_Dict a0)) (fun a0 => g (.k_mk_Built a0)) a0
noncomputable def p_mk_Dict (a0 : (List (Str × Term))) : Option (List (Str × V)) := fixO C_mk_Dict.F (.k_mk_Dict a0)
noncomputable def p_mk_Built (a0 : Term) : Option V := fixO C_mk_Dict.F (.k_mk_Built a0)
theorem C_mk_Dict.cm (i : C_mk_Dict) : CM (fun g : (∀ i : C_mk_Dict, Option i.R) => C_mk_Dict.F g i) := by
 cases i with
 | k_mk_Dict a0 => exact b_mk_Dict_cm (fun (g : ∀ i : C_mk_Dict, Option i.R) a0 => g (.k_mk_Dict a0)) (fun a0 => cm_app (i := C_mk_Dict.k_mk_Dict a0)) (fun (g : ∀ i : C_mk_Dict, Option i.R) a0 => g (.k_mk_Built a0)) (fun a0 => cm_app (i := C_mk_Dict.k_mk_Built a0)) a0
 | k_mk_Built a0 => exact b_mk_Built_cm (fun (g : ∀ i : C_mk_Dict, Option i.R) a0 => g (.k_mk_Dict a0)) (fun a0 => cm_app (i := C_mk_Dict.k_mk_Dict a0)) (fun (g : ∀ i : C_mk_Dict, Option i.R) a0 => g (.k_mk_Built a0)) (fun a0 => cm_app (i := C_mk_Dict.k_mk_Built a0)) a0
theorem e_mk_Dict (a0 : (List (Str × Term))) : p_mk_Dict a0 = b_mk_Dict p_mk_Dict p_mk_Built a0 := fixO_eq C_mk_Dict.cm (.k_mk_Dict a0)
theorem e_mk_Built (a0 : Term) : p_mk_Built a0 = b_mk_Built p_mk_Dict p_mk_Built a0 := fixO_eq C_mk_Dict.cm (.k_mk_Built a0)
def C_mk_Dict.Q : ∀ i : C_mk_Dict, i.R → Prop
 | .k_mk_Dict a0 => fun (r : (List (Str × V))) => PCalls Try.prog 33 [(PV.sl none 66 12 (List.map ofEntry a0))] (PV.sl none 56 2 (List.map ofFld r))
 | .k_mk_Built a0 => fun (r : V) => PCalls Try.prog 11 [(ofTermX a0)] (ofV r)
theorem t_mk_Dict (r_mk_Dict : (List (Str × Term)) → Option (List (Str × V))) (c_mk_Dict : ∀ (a0 : (List (Str × Term))) r, r_mk_Dict a0 = some r → PCalls Try.prog 33 [(PV.sl none 66 12 (List.map ofEntry a0))] (PV.sl none 56 2 (List.map ofFld r))) (r_mk_Built : Term → Option V) (c_mk_Built : ∀ (a0 : Term) r, r_mk_Built a0 = some r → PCalls Try.prog 11 [(ofTermX a0)] (ofV r)) (a0 : (List (Str × Term))) (r : (List (Str × V))) (h : b_mk_Dict r_mk_Dict r_mk_Built a0 = some r) : PCalls Try.prog 33 [(PV.sl none 66 12 (List.map ofEntry a0))] (PV.sl none 56 2 (List.map ofFld r)) := by
 unfold b_mk_Dict at h
 refine acalls_of Try.func33 rfl Try.ntmps33 Try.results33 rfl (aw_of_bw ?_)
 change BW _ _ _ ⟨[(0, (PV.sl none 66 12 (List.map ofEntry a0)))], [], _⟩ _
 refine bR ?_
 refine sA rfl rfl rfl rfl rfl (ao_nil ?_)
 change BW _ _ _ _ _
 refine bR ?_
 refine sS rfl rfl rfl ((op1_bslice (xs := []) Try.underlying58 inf_56 rfl rfl rfl rfl rfl rfl ⟨Nat.le_of_ble_eq_true rfl, Nat.le_of_ble_eq_true rfl⟩ rfl).cast (y := (PV.sl (some 0) 56 2 (List.map ofFld ([] : (List (Str × V)))))) rfl rfl) ?_
 refine sA rfl rfl rfl rfl rfl (ao_nil ?_)
 change BW _ _ _ _ _
 refine bw_seq ?_
 refine bR ?_
 refine sA rfl rfl rfl rfl rfl (ao_nil ?_)
 change BW _ _ _ _ _
 refine bw_block ?_
 change BW _ _ _ _ _
 unfold mk_Dict_l1 at h
 refine bw_loop (σ := ((List (Str × V)) × Nat)) (fun i => [(0, (PV.sl none 66 12 (List.map ofEntry a0))), (3, (PV.sl (some 0) 56 2 (List.map ofFld i.1))), (4, (I64 (((i.2 : Nat) : Int))))]) (fun i => [.arr 56 (i.1).length]) (([] : (List (Str × V))), 0) h ?_ ?_ ?_
 ·intro i; exact ⟨Nat.le_of_ble_eq_true rfl, ⟨(il_nil (ids_slM ids_Entry _)), ⟨(il_tok rfl (ids_map ids_Fld _)), ⟨(il_nil rfl), trivial⟩⟩⟩, trivial⟩
 ·exact ⟨(.cons .same .nil), (sC rfl (sC rfl (sC rfl sub_nil)))⟩
 ·rintro g1_f ⟨s1, s2⟩ h; replace h : mk_Dict_l1b r_mk_Built a0 (fun y0 y1 => g1_f (y0, y1)) s1 s2 = some r := h; unfold mk_Dict_l1b at h
  change BW _ _ _ ⟨[(0, (PV.sl none 66 12 (List.map ofEntry a0))), (3, (PV.sl (some 0) 56 2 (List.map ofFld s1))), (4, (I64 (((s2 : Nat) : Int))))], [.arr 56 (s1).length], _⟩ _
  refine bw_seq ?_
  refine bR ?_
  refine sM rfl rfl rfl rfl rfl ?_
  refine sM rfl rfl rfl rfl rfl ?_
  refine sS rfl rfl rfl (op1_lenM Try.underlying27 rfl rfl) ?_
  refine sS rfl rfl rfl ((op1_cmp rfl rfl rfl rfl).cast (y := (BO ((decide (((s2 : Nat) : Int) < (((a0).length : Nat) : Int)))))) rfl rfl) (ao_nil ?_)
  change BW _ _ _ _ _
  refine bw_len (t := 7) rfl fun hb4 => ?_
  try rw [List.length_map] at hb4
  refine bw_cond rfl ?_ ?_
  ·intro hc3; replace h := ocond_t hc3 h
   have hc3_ := of_decide_eq_true hc3
   refine bw_skip ?_
   change BW _ _ _ _ _
   refine bw_seq ?_
   refine bw_block ?_
   change BW _ _ _ _ _
   refine bw_tail 14 [13] [] mo (by kernel_rfl) ?_
   refine ac_go rfl rfl rfl rfl (fun H hp => op1_move rfl rfl) ?_
   refine ac_go rfl rfl rfl rfl (fun H hp => op1_move rfl rfl) ?_
   refine ac_go rfl rfl rfl rfl (fun H hp => op1_move rfl rfl) ?_
   obtain ⟨x5, hx5, h⟩ := obind h
   refine ac_go rfl rfl rfl rfl (fun H hp => op1_idxN (i := s2) Try.underlying27 inf_66 rfl rfl rfl hx5 (ofEntry_eq _)) ?_
   refine ac_go rfl rfl rfl rfl (fun H hp => op1_faP st_66 (i := 0) rfl rfl rfl) ?_
   refine ac_go rfl rfl rfl rfl (fun H hp => op1_ldP (y := (ofStr x5.1)) Try.underlying9 rfl rfl rfl rfl) ?_
   refine ac_go rfl rfl rfl rfl (fun H hp => op1_move rfl rfl) ?_
   refine ac_go rfl rfl rfl rfl (fun H hp => op1_move rfl rfl) ?_
   obtain ⟨x6, hx6, h⟩ := obind h
   refine ac_go rfl rfl rfl rfl (fun H hp => op1_idxN (i := s2) Try.underlying27 inf_66 rfl rfl rfl hx6 (ofEntry_eq _)) ?_
   refine ac_go rfl rfl rfl rfl (fun H hp => op1_faP st_66 (i := 1) rfl rfl rfl) ?_
   refine ac_go rfl rfl rfl rfl (fun H hp => (op1_ldPA inf_29 Try.underlying29 rfl rfl rfl rfl rfl)) ?_
   obtain ⟨x7, hx7, h⟩ := obind h
   refine ac_go rfl rfl rfl rfl (fun H hp => op1_pcall rfl en_11 rfl (.cons (Wk.refl _) .nil) ⟨(ids_TermX (x6.2)), trivial⟩ (c_mk_Built (x6.2) x7 hx7) (ids_V x7)) ?_
   refine ac_go rfl rfl rfl rfl (fun H hp => op1_build (cs := [(ofStr x5.1), (ofV x7)]) st_56 inf_56 rfl rfl (by simp only [List.all_cons, List.all_nil, cok_V, cok_RecP, Bool.and_true, Bool.true_and]; try rfl) (by simp only [afill, List.getElem?_cons_zero, List.getElem?_cons_succ, cells_V, cells_RecP]; rfl)) ?_
   refine ac_lgo rfl rfl rfl rfl ((op1_bslice (xs := [(PV.agg [(ofStr x5.1), (ofV x7)])]) Try.underlying58 inf_56 rfl rfl rfl (by simp only [List.all_cons, List.all_nil, cok_V, cok_RecP, Bool.and_true, Bool.true_and]; try rfl) (by simp only [List.all_cons, List.all_nil, csz_V, csz_RecP, cells_V, cells_RecP]; try rfl) rfl ⟨Nat.le_of_ble_eq_true rfl, Nat.le_of_ble_eq_true rfl⟩ (by simp only [zipN, afill, List.flatMap_cons, List.flatMap_nil, cells_V, cells_RecP]; try rfl)).cast (y := (PV.sl (some 1) 56 2 (List.map ofFld ([(x5.1, x7)] : (List (Str × V)))))) rfl rfl) trivial ?_
   refine ac_nil ?_
   change AO _ _ _ _ _
   obtain ⟨x8, hx8, h⟩ := obind h
   refine sS rfl rfl rfl (op1_appM Try.underlying58 inf_56 rfl Try.underlying58 rfl rfl rfl rfl csz_Fld call1_Fld hx8 rfl) ?_
   refine sA rfl rfl rfl rfl rfl (ao_nil ?_)
   change BW _ _ _ _ _
   refine bw_region ?_
   refine sM rfl rfl rfl rfl rfl ?_
   refine sS rfl rfl rfl (op1_incN (k := s2) (c := 1) rfl rfl rfl (by omega)) ?_
   refine sA rfl rfl rfl rfl rfl (ao_nil ?_)
   exact ⟨rfl, (x8, (s2 + 1)), h, ⟨(.cons .same .nil), (sC rfl (sC rfl (sC rfl sub_nil)))⟩⟩
  ·intro hc3; replace h := ocond_f hc3 h
   refine bw_exit ?_
   change BW _ _ _ _ _
   refine bR ?_
   refine sM rfl rfl rfl rfl rfl ?_
   refine sA rfl rfl rfl rfl rfl (ao_nil ?_)
   change BW _ _ _ _ _
   refine bw_ret ?_
   change ∃ xs, _ = some xs ∧ EndOk _ _ _ _
   obtain rfl := Option.some.inj h
   exact ⟨_, rfl, endOk0 (y := (PV.sl none 56 2 (List.map ofFld s1))) Wk.tok (ids_slM ids_Fld s1) ⟨rfl, rfl⟩⟩
theorem t_mk_Built (r_mk_Dict : (List (Str × Term)) → Option (List (Str × V))) (c_mk_Dict : ∀ (a0 : (List (Str × Term))) r, r_mk_Dict a0 = some r → PCalls Try.prog 33 [(PV.sl none 66 12 (List.map ofEntry a0))] (PV.sl none 56 2 (List.map ofFld r))) (r_mk_Built : Term → Option V) (c_mk_Built : ∀ (a0 : Term) r, r_mk_Built a0 = some r → PCalls Try.prog 11 [(ofTermX a0)] (ofV r)) (a0 : Term) (r : V) (h : b_mk_Built r_mk_Dict r_mk_Built a0 = some r) : PCalls Try.prog 11 [(ofTermX a0)] (ofV r) := by
 unfold b_mk_Built at h
 refine acalls_of Try.func11 rfl Try.ntmps11 Try.results11 rfl (aw_of_bw ?_)
 change BW _ _ _ ⟨[(0, (ofTermX a0))], [], _⟩ _
 refine bR ?_
 refine sS rfl rfl rfl (op1_box rfl rfl rfl) ?_
 refine sA rfl rfl rfl rfl rfl (ao_nil ?_)
 change BW _ _ _ _ _
 refine bw_seq ?_
 refine bR ?_
 refine sS rfl rfl rfl (op1_faR st_29 (i := 0) rfl rfl rfl) ?_
 refine sS rfl rfl rfl ((op1_ldR Try.underlying3 rfl rfl rfl rfl rfl)) (ao_nil ?_)
 change BW _ _ _ _ _
 refine bw_block ?_
 change BW _ _ _ _ _
 refine bR ?_
 refine sS rfl rfl rfl ((op1_cmp rfl rfl rfl rfl).cast (y := (BO ((a0.kind == 1)))) rfl rfl) ?_
 refine sA rfl rfl rfl rfl rfl (ao_nil ?_)
 change BW _ _ _ _ _
 refine bw_cond rfl ?_ ?_
 ·intro hc1; replace h := ocond_t hc1 h
  refine bR ?_
  refine sA rfl rfl rfl rfl rfl (ao_nil ?_)
  change BW _ _ _ _ _
  refine bw_ret ?_
  change ∃ xs, _ = some xs ∧ EndOk _ _ _ _
  obtain rfl := Option.some.inj h
  exact ⟨_, rfl, endOk0 (y := (ofV V.nil)) (Wk.eq mk_nil.symm) (ids_V V.nil) ⟨rfl, rfl⟩⟩
 ·intro hc1; replace h := ocond_f hc1 h
  refine bR ?_
  refine sS rfl rfl rfl ((op1_cmp rfl rfl rfl rfl).cast (y := (BO ((a0.kind == 2)))) rfl rfl) ?_
  refine sA rfl rfl rfl rfl rfl (ao_nil ?_)
  change BW _ _ _ _ _
  refine bw_cond rfl ?_ ?_
  ·intro hc2; replace h := ocond_t hc2 h
   refine bR ?_
   refine sS rfl rfl rfl (op1_faR st_29 (i := 1) rfl rfl rfl) ?_
   refine sS rfl rfl rfl ((op1_ldR Try.underlying4 rfl rfl rfl rfl rfl)) ?_
   refine sS rfl rfl rfl ((op1_mkI Try.underlying4 rfl rfl rfl).wk ((Wk.iface (Wk.refl _)).trans (Wk.eq (mk_bool _).symm))) ?_
   refine sA rfl rfl rfl rfl rfl (ao_nil ?_)
   change BW _ _ _ _ _
   refine bw_ret ?_
   change ∃ xs, _ = some xs ∧ EndOk _ _ _ _
   obtain rfl := Option.some.inj h
   exact ⟨_, rfl, endOk0 (y := (ofV (V.bool a0.bool))) (Wk.refl _) (ids_V (V.bool a0.bool)) ⟨rfl, rfl⟩⟩
  ·intro hc2; replace h := ocond_f hc2 h
   refine bR ?_
   refine sS rfl rfl rfl ((op1_cmp rfl rfl rfl rfl).cast (y := (BO ((a0.kind == 3)))) rfl rfl) ?_
   refine sA rfl rfl rfl rfl rfl (ao_nil ?_)
   change BW _ _ _ _ _
   refine bw_cond rfl ?_ ?_
   ·intro hc3; replace h := ocond_t hc3 h
    refine bR ?_
    refine sS rfl rfl rfl (op1_faR st_29 (i := 2) rfl rfl rfl) ?_
    refine sS rfl rfl rfl ((op1_ldR Try.underlying2 rfl rfl rfl rfl rfl)) ?_
    refine sS rfl rfl rfl ((op1_mkI Try.underlying2 rfl rfl rfl).wk ((Wk.iface (Wk.refl _)).trans (Wk.eq (mk_int _).symm))) ?_
    refine sA rfl rfl rfl rfl rfl (ao_nil ?_)
    change BW _ _ _ _ _
    refine bw_ret ?_
    change ∃ xs, _ = some xs ∧ EndOk _ _ _ _
    obtain rfl := Option.some.inj h
    exact ⟨_, rfl, endOk0 (y := (ofV (V.int a0.int))) (Wk.refl _) (ids_V (V.int a0.int)) ⟨rfl, rfl⟩⟩
   ·intro hc3; replace h := ocond_f hc3 h
    refine bR ?_
    refine sS rfl rfl rfl ((op1_cmp rfl rfl rfl rfl).cast (y := (BO ((a0.kind == 4)))) rfl rfl) ?_
    refine sA rfl rfl rfl rfl rfl (ao_nil ?_)
    change BW _ _ _ _ _
    refine bw_cond rfl ?_ ?_
    ·intro hc4; replace h := ocond_t hc4 h
     refine bR ?_
     refine sS rfl rfl rfl (op1_faR st_29 (i := 3) rfl rfl rfl) ?_
     refine sS rfl rfl rfl ((op1_ldR Try.underlying22 rfl rfl rfl rfl rfl)) ?_
     refine sS rfl rfl rfl ((op1_mkI Try.underlying22 rfl rfl rfl).wk ((Wk.iface (Wk.refl _)).trans (Wk.eq (mk_float _).symm))) ?_
     refine sA rfl rfl rfl rfl rfl (ao_nil ?_)
     change BW _ _ _ _ _
     refine bw_ret ?_
     change ∃ xs, _ = some xs ∧ EndOk _ _ _ _
     obtain rfl := Option.some.inj h
     exact ⟨_, rfl, endOk0 (y := (ofV (V.float a0.float))) (Wk.refl _) (ids_V (V.float a0.float)) ⟨rfl, rfl⟩⟩
    ·intro hc4; replace h := ocond_f hc4 h
     refine bR ?_
     refine sS rfl rfl rfl ((op1_cmp rfl rfl rfl rfl).cast (y := (BO ((a0.kind == 5)))) rfl rfl) ?_
     refine sA rfl rfl rfl rfl rfl (ao_nil ?_)
     change BW _ _ _ _ _
     refine bw_cond rfl ?_ ?_
     ·intro hc5; replace h := ocond_t hc5 h
      refine bR ?_
      refine sS rfl rfl rfl (op1_faR st_29 (i := 4) rfl rfl rfl) ?_
      refine sS rfl rfl rfl ((op1_ldR Try.underlying9 rfl rfl rfl rfl rfl)) ?_
      refine sS rfl rfl rfl ((op1_mkI Try.underlying9 rfl rfl rfl).wk ((Wk.iface (Wk.refl _)).trans (Wk.eq (mk_text _).symm))) ?_
      refine sA rfl rfl rfl rfl rfl (ao_nil ?_)
      change BW _ _ _ _ _
      refine bw_ret ?_
      change ∃ xs, _ = some xs ∧ EndOk _ _ _ _
      obtain rfl := Option.some.inj h
      exact ⟨_, rfl, endOk0 (y := (ofV (V.text a0.text))) (Wk.refl _) (ids_V (V.text a0.text)) ⟨rfl, rfl⟩⟩
     ·intro hc5; replace h := ocond_f hc5 h
      refine bR ?_
      refine sS rfl rfl rfl ((op1_cmp rfl rfl rfl rfl).cast (y := (BO ((a0.kind == 6)))) rfl rfl) ?_
      refine sA rfl rfl rfl rfl rfl (ao_nil ?_)
      change BW _ _ _ _ _
      refine bw_cond rfl ?_ ?_
      ·intro hc6; replace h := ocond_t hc6 h
       refine bR ?_
       refine sS rfl rfl rfl ((op1_bslice (xs := []) Try.underlying23 inf_5 rfl rfl rfl rfl rfl rfl ⟨Nat.le_of_ble_eq_true rfl, Nat.le_of_ble_eq_true rfl⟩ rfl).cast (y := (PV.sl (some 1) 5 1 (List.map ofB ([] : Str)))) rfl rfl) ?_
       refine sS rfl rfl rfl (op1_faR st_29 (i := 5) rfl rfl rfl) ?_
       refine sS rfl rfl rfl ((op1_ldR Try.underlying23 rfl rfl rfl rfl rfl)) ?_
       obtain ⟨x7, hx7, h⟩ := obind h
       refine sS rfl rfl rfl (op1_appM Try.underlying23 inf_5 rfl Try.underlying23 rfl rfl rfl rfl (fun _ => rfl) (fun _ => rfl) hx7 rfl) ?_
       refine sS rfl rfl rfl ((op1_mkI Try.underlying23 rfl rfl rfl).wk ((Wk.iface Wk.tok).trans (Wk.eq (mk_bytes _).symm))) ?_
       refine sA rfl rfl rfl rfl rfl (ao_nil ?_)
       change BW _ _ _ _ _
       refine bw_ret ?_
       change ∃ xs, _ = some xs ∧ EndOk _ _ _ _
       obtain rfl := Option.some.inj h
       exact ⟨_, rfl, endOk0 (y := (ofV (V.bytes x7))) (Wk.refl _) (ids_V (V.bytes x7)) ⟨rfl, rfl⟩⟩
      ·intro hc6; replace h := ocond_f hc6 h
       refine bR ?_
       refine sS rfl rfl rfl ((op1_cmp rfl rfl rfl rfl).cast (y := (BO ((a0.kind == 7)))) rfl rfl) ?_
       refine sA rfl rfl rfl rfl rfl (ao_nil ?_)
       change BW _ _ _ _ _
       refine bw_cond rfl ?_ ?_
       ·intro hc8; replace h := ocond_t hc8 h
        refine bR ?_
        refine sS rfl rfl rfl (op1_faR st_29 (i := 6) rfl rfl rfl) ?_
        refine sS rfl rfl rfl ((op1_ldR Try.underlying25 rfl rfl rfl rfl rfl)) ?_
        refine sS rfl rfl rfl ((op1_mkI Try.underlying25 rfl rfl rfl).wk ((Wk.iface (Wk.refl _)).trans (Wk.eq (mk_ref _).symm))) ?_
        refine sA rfl rfl rfl rfl rfl (ao_nil ?_)
        change BW _ _ _ _ _
        refine bw_ret ?_
        change ∃ xs, _ = some xs ∧ EndOk _ _ _ _
        obtain rfl := Option.some.inj h
        exact ⟨_, rfl, endOk0 (y := (ofV (V.ref a0.ref))) (Wk.refl _) (ids_V (V.ref a0.ref)) ⟨rfl, rfl⟩⟩
       ·intro hc8; replace h := ocond_f hc8 h
        refine bR ?_
        refine sS rfl rfl rfl ((op1_cmp rfl rfl rfl rfl).cast (y := (BO ((a0.kind == 8)))) rfl rfl) ?_
        refine sA rfl rfl rfl rfl rfl (ao_nil ?_)
        change BW _ _ _ _ _
        refine bw_cond rfl ?_ ?_
        ·intro hc9; replace h := ocond_t hc9 h
         refine bR ?_
         refine sS rfl rfl rfl ((op1_bslice (xs := []) Try.underlying60 inf_20 rfl rfl rfl rfl rfl rfl ⟨Nat.le_of_ble_eq_true rfl, Nat.le_of_ble_eq_true rfl⟩ rfl).cast (y := (PV.sl (some 1) 20 1 (List.map ofV ([] : (List V))))) rfl rfl) ?_
         refine sA rfl rfl rfl rfl rfl (ao_nil ?_)
         change BW _ _ _ _ _
         refine bw_seq ?_
         refine bR ?_
         refine sA rfl rfl rfl rfl rfl (ao_nil ?_)
         change BW _ _ _ _ _
         refine bw_block ?_
         change BW _ _ _ _ _
         unfold mk_Built_l1 at h
         refine bw_loop (σ := ((List V) × Nat)) (fun i => [(1, (PV.rf 0 0)), (3, (PV.sl (some 1) 20 1 (List.map ofV i.1))), (4, (I64 (((i.2 : Nat) : Int))))]) (fun i => [.box 29 [(I64 a0.kind), (BO a0.bool), (I64 a0.int), (PV.v (.float .f64 a0.float)), (ofStr a0.text), (PV.sl none 5 1 (List.map ofB a0.bytes)), (PV.v (.int .u64 a0.ref)), (PV.sl none 29 11 (List.map ofTerm a0.list)), (PV.sl none 66 12 (List.map ofEntry a0.fields)), (ofStr a0.cls), (I64 a0.ver)], .arr 20 (i.1).length]) (([] : (List V)), 0) h ?_ ?_ ?_
         ·intro i; exact ⟨Nat.le_of_ble_eq_true rfl, ⟨(il_rf rfl), ⟨(il_tok rfl (ids_map ids_V _)), ⟨(il_nil rfl), trivial⟩⟩⟩, ⟨⟨(il_nil rfl), ⟨(il_nil rfl), ⟨(il_nil rfl), ⟨(il_nil rfl), ⟨(il_nil rfl), ⟨(il_nil (ids_slM (fun _ => rfl) _)), ⟨(il_nil rfl), ⟨(il_nil (ids_slM ids_Term _)), ⟨(il_nil (ids_slM ids_Entry _)), ⟨(il_nil rfl), ⟨(il_nil rfl), trivial⟩⟩⟩⟩⟩⟩⟩⟩⟩⟩⟩, trivial⟩⟩
         ·exact ⟨(.cons .same (.cons .same .nil)), (sC rfl (sC rfl (sC rfl sub_nil)))⟩
         ·rintro g1_f ⟨s10, s11⟩ h; replace h : mk_Built_l1b r_mk_Built a0 (fun y0 y1 => g1_f (y0, y1)) s10 s11 = some r := h; unfold mk_Built_l1b at h
          change BW _ _ _ ⟨[(1, (PV.rf 0 0)), (3, (PV.sl (some 1) 20 1 (List.map ofV s10))), (4, (I64 (((s11 : Nat) : Int))))], [.box 29 [(I64 a0.kind), (BO a0.bool), (I64 a0.int), (PV.v (.float .f64 a0.float)), (ofStr a0.text), (PV.sl none 5 1 (List.map ofB a0.bytes)), (PV.v (.int .u64 a0.ref)), (PV.sl none 29 11 (List.map ofTerm a0.list)), (PV.sl none 66 12 (List.map ofEntry a0.fields)), (ofStr a0.cls), (I64 a0.ver)], .arr 20 (s10).length], _⟩ _
          refine bw_seq ?_
          refine bR ?_
          refine sM rfl rfl rfl rfl rfl ?_
          refine sS rfl rfl rfl (op1_faR st_29 (i := 7) rfl rfl rfl) ?_
          refine sS rfl rfl rfl ((op1_ldR Try.underlying26 rfl rfl rfl rfl rfl)) ?_
          refine sS rfl rfl rfl (op1_lenM Try.underlying26 rfl rfl) ?_
          refine sS rfl rfl rfl ((op1_cmp rfl rfl rfl rfl).cast (y := (BO ((decide (((s11 : Nat) : Int) < (((a0.list).length : Nat) : Int)))))) rfl rfl) (ao_nil ?_)
          change BW _ _ _ _ _
          refine bw_len (t := 47) rfl fun hb13 => ?_
          try rw [List.length_map] at hb13
          refine bw_cond rfl ?_ ?_
          ·intro hc12; replace h := ocond_t hc12 h
           have hc12_ := of_decide_eq_true hc12
           refine bw_skip ?_
           change BW _ _ _ _ _
           refine bw_seq ?_
           refine bw_block ?_
           change BW _ _ _ _ _
           refine bw_region ?_
           refine sM rfl rfl rfl rfl rfl ?_
           refine sS rfl rfl rfl (op1_faR st_29 (i := 7) rfl rfl rfl) ?_
           refine sS rfl rfl rfl ((op1_ldR Try.underlying26 rfl rfl rfl rfl rfl)) ?_
           refine sM rfl rfl rfl rfl rfl ?_
           obtain ⟨x14, hx14, h⟩ := obind h
           refine sS rfl rfl rfl (op1_idxN (i := s11) Try.underlying26 inf_29 rfl rfl rfl hx14 (ofTerm_eq _)) ?_
           refine sS rfl rfl rfl (op1_ldPW inf_29 Try.underlying29 rfl rfl rfl rfl rfl) ?_
           obtain ⟨x15, hx15, h⟩ := obind h
           refine sS rfl rfl rfl (op1_pcall rfl en_11 rfl (.cons (Wk.refl _) .nil) ⟨(ids_TermX x14), trivial⟩ (c_mk_Built x14 x15 hx15) (ids_V x15)) ?_
           refine sS rfl rfl rfl ((op1_bslice (xs := [(ofV x15)]) Try.underlying60 inf_20 rfl rfl rfl (by simp only [List.all_cons, List.all_nil, cok_V, cok_RecP, Bool.and_true, Bool.true_and]; try rfl) (by simp only [List.all_cons, List.all_nil, csz_V, csz_RecP, cells_V, cells_RecP]; try rfl) rfl ⟨Nat.le_of_ble_eq_true rfl, Nat.le_of_ble_eq_true rfl⟩ (by simp only [zipN, afill, List.flatMap_cons, List.flatMap_nil, cells_V, cells_RecP]; try rfl)).cast (y := (PV.sl (some 2) 20 1 (List.map ofV ([x15] : (List V))))) rfl rfl) ?_
           obtain ⟨x16, hx16, h⟩ := obind h
           refine sS rfl rfl rfl (op1_appM Try.underlying60 inf_20 rfl Try.underlying60 rfl rfl rfl rfl csz_V call1_V hx16 rfl) ?_
           refine sA rfl rfl rfl rfl rfl (ao_nil ?_)
           change BW _ _ _ _ _
           refine bw_region ?_
           refine sM rfl rfl rfl rfl rfl ?_
           refine sS rfl rfl rfl (op1_incN (k := s11) (c := 1) rfl rfl rfl (by omega)) ?_
           refine sA rfl rfl rfl rfl rfl (ao_nil ?_)
           exact ⟨rfl, (x16, (s11 + 1)), h, ⟨(.cons .same (.cons .same .nil)), (sC rfl (sC rfl (sC rfl sub_nil)))⟩⟩
          ·intro hc12; replace h := ocond_f hc12 h
           refine bw_exit ?_
           change BW _ _ _ _ _
           refine bR ?_
           refine sM rfl rfl rfl rfl rfl ?_
           refine sS rfl rfl rfl ((op1_mkI Try.underlying60 rfl rfl rfl).wk ((Wk.iface Wk.tok).trans (Wk.eq (mk_list _).symm))) ?_
           refine sA rfl rfl rfl rfl rfl (ao_nil ?_)
           change BW _ _ _ _ _
           refine bw_ret ?_
           change ∃ xs, _ = some xs ∧ EndOk _ _ _ _
           obtain rfl := Option.some.inj h
           exact ⟨_, rfl, endOk0 (y := (ofV (V.list s10))) (Wk.refl _) (ids_V (V.list s10)) ⟨rfl, rfl⟩⟩
        ·intro hc9; replace h := ocond_f hc9 h
         refine bR ?_
         refine sS rfl rfl rfl ((op1_cmp rfl rfl rfl rfl).cast (y := (BO ((a0.kind == 9)))) rfl rfl) ?_
         refine sA rfl rfl rfl rfl rfl (ao_nil ?_)
         change BW _ _ _ _ _
         refine bw_cond rfl ?_ ?_
         ·intro hc17; replace h := ocond_t hc17 h
          refine bR ?_
          refine sS rfl rfl rfl (op1_faR st_29 (i := 8) rfl rfl rfl) ?_
          refine sS rfl rfl rfl ((op1_ldR Try.underlying27 rfl rfl rfl rfl rfl)) ?_
          obtain ⟨x18, hx18, h⟩ := obind h
          refine sS rfl rfl rfl (op1_pcall rfl en_33 rfl (.cons (Wk.refl _) .nil) ⟨(ids_slM ids_Entry a0.fields), trivial⟩ (c_mk_Dict a0.fields x18 hx18) (ids_slM ids_Fld x18)) ?_
          refine sS rfl rfl rfl ((op1_mkI Try.underlying58 rfl rfl rfl).wk ((Wk.iface (Wk.refl _)).trans (Wk.eq (mk_dict _).symm))) ?_
          refine sA rfl rfl rfl rfl rfl (ao_nil ?_)
          change BW _ _ _ _ _
          refine bw_ret ?_
          change ∃ xs, _ = some xs ∧ EndOk _ _ _ _
          obtain rfl := Option.some.inj h
          exact ⟨_, rfl, endOk0 (y := (ofV (V.dict x18))) (Wk.refl _) (ids_V (V.dict x18)) ⟨rfl, rfl⟩⟩
         ·intro hc17; replace h := ocond_f hc17 h
          refine bR ?_
          refine sS rfl rfl rfl ((op1_cmp rfl rfl rfl rfl).cast (y := (BO ((a0.kind == 10)))) rfl rfl) ?_
          refine sA rfl rfl rfl rfl rfl (ao_nil ?_)
          change BW _ _ _ _ _
          refine bw_cond rfl ?_ ?_
          ·intro hc19; replace h := ocond_t hc19 h
           refine bw_seq (bw_tail 7 [] [0] mo (by kernel_rfl) ?_)
           refine ac_go rfl rfl rfl rfl (fun H hp => op1_faR st_29 (i := 9) rfl rfl rfl) ?_
           refine ac_go rfl rfl rfl rfl (fun H hp => (op1_ldR Try.underlying9 rfl rfl rfl (hp.at rfl rfl) rfl)) ?_
           refine ac_go rfl rfl rfl rfl (fun H hp => op1_faR st_29 (i := 10) rfl rfl rfl) ?_
           refine ac_go rfl rfl rfl rfl (fun H hp => (op1_ldR Try.underlying3 rfl rfl rfl (hp.at rfl rfl) rfl)) ?_
           refine ac_go rfl rfl rfl rfl (fun H hp => op1_faR st_29 (i := 8) rfl rfl rfl) ?_
           refine ac_go rfl rfl rfl rfl (fun H hp => (op1_ldR Try.underlying27 rfl rfl rfl (hp.at rfl rfl) rfl)) ?_
           obtain ⟨x20, hx20, h⟩ := obind h
           refine ac_go rfl rfl rfl rfl (fun H hp => op1_pcall rfl en_33 rfl (.cons (Wk.refl _) .nil) ⟨(ids_slM ids_Entry a0.fields), trivial⟩ (c_mk_Dict a0.fields x20 hx20) (ids_slM ids_Fld x20)) ?_
           refine ac_nil ?_
           change AO _ _ _ _ _
           refine sS rfl rfl rfl (op1_build (cs := [(ofStr a0.cls), (I64 a0.ver), (PV.sl none 56 2 (List.map ofFld x20))]) st_70 inf_70 rfl rfl rfl rfl) ?_
           refine sS rfl rfl rfl (op1_box rfl rfl rfl) ?_
           refine sS rfl rfl rfl (op1_mkI Try.underlying62 rfl rfl rfl) ?_
           refine sA rfl rfl rfl rfl rfl (ao_nil ?_)
           change BW _ _ _ _ _
           refine bw_thaw 1 2 (y := (ofV (V.record a0.cls a0.ver x20))) rfl rfl ((Wk.iface (Wk.pt (x := .agg [(ofStr a0.cls), (I64 a0.ver), (PV.sl none 56 2 (List.map ofFld x20))]) (y := ofRec (Rec.mk a0.cls a0.ver x20)) (.cons (Wk.refl _) (.cons (Wk.refl _) (.cons (Wk.refl _) .nil))))).trans (Wk.eq (mk_rec (some (Rec.mk a0.cls a0.ver x20))).symm)) ?_
           refine bw_ret ?_
           change ∃ xs, _ = some xs ∧ EndOk _ _ _ _
           obtain rfl := Option.some.inj h
           exact ⟨_, rfl, endOk0 (y := (ofV (V.record a0.cls a0.ver x20))) (Wk.refl _) (ids_V (V.record a0.cls a0.ver x20)) ⟨rfl, rfl⟩⟩
          ·intro hc19; replace h := ocond_f hc19 h
           refine bR ?_
           refine sS rfl rfl rfl ((op1_cmp rfl rfl rfl rfl).cast (y := (BO ((a0.kind == 11)))) rfl rfl) ?_
           refine sA rfl rfl rfl rfl rfl (ao_nil ?_)
           change BW _ _ _ _ _
           refine bw_cond rfl ?_ ?_
           ·intro hc21; replace h := ocond_t hc21 h
            refine bR ?_
            refine sA rfl rfl rfl rfl rfl (ao_nil ?_)
            change BW _ _ _ _ _
            refine bR ?_
            refine sM rfl rfl rfl rfl rfl ?_
            refine sS rfl rfl rfl ((op1_mkI Try.underlying62 rfl rfl rfl).wk (Wk.eq (mk_rec none).symm)) ?_
            refine sA rfl rfl rfl rfl rfl (ao_nil ?_)
            change BW _ _ _ _ _
            refine bw_ret ?_
            change ∃ xs, _ = some xs ∧ EndOk _ _ _ _
            obtain rfl := Option.some.inj h
            exact ⟨_, rfl, endOk0 (y := (ofV V.nothing)) (Wk.refl _) (ids_V V.nothing) ⟨rfl, rfl⟩⟩
           ·intro hc21; replace h := ocond_f hc21 h
            refine bw_skip ?_
            change BW _ _ _ _ _
            refine bR ?_
            refine sS rfl rfl rfl (op1_faR st_29 (i := 2) rfl rfl rfl) ?_
            refine sS rfl rfl rfl ((op1_ldR Try.underlying2 rfl rfl rfl rfl rfl)) ?_
            obtain ⟨x22, hx22, h⟩ := obind h
            refine sS rfl rfl rfl (op1_pcall rfl en_30 rfl (.cons (Wk.refl _) .nil) ⟨rfl, trivial⟩ (s_mk_Alien a0.int x22 hx22) (ids_V x22)) ?_
            refine sA rfl rfl rfl rfl rfl (ao_nil ?_)
            change BW _ _ _ _ _
            refine bw_ret ?_
            change ∃ xs, _ = some xs ∧ EndOk _ _ _ _
            obtain rfl := Option.some.inj h
            exact ⟨_, rfl, endOk0 (y := (ofV x22)) (Wk.refl _) (ids_V x22) ⟨rfl, rfl⟩⟩
theorem C_mk_Dict.sound : ∀ (i : C_mk_Dict) (r : i.R), fixO C_mk_Dict.F i = some r → C_mk_Dict.Q i r := by
 refine fixO_ind (Φ := C_mk_Dict.F) (Q := C_mk_Dict.Q) ?_
 intro g hg i r h
 cases i with
 | k_mk_Dict a0 => exact t_mk_Dict (fun a0 => g (.k_mk_Dict a0)) (fun a0 r hr => hg (.k_mk_Dict a0) r hr) (fun a0 => g (.k_mk_Built a0)) (fun a0 r hr => hg (.k_mk_Built a0) r hr) a0 r h
 | k_mk_Built a0 => exact t_mk_Built (fun a0 => g (.k_mk_Dict a0)) (fun a0 r hr => hg (.k_mk_Dict a0) r hr) (fun a0 => g (.k_mk_Built a0)) (fun a0 r hr => hg (.k_mk_Built a0) r hr) a0 r h
theorem s_mk_Dict (a0 : (List (Str × Term))) (r : (List (Str × V))) (h : p_mk_Dict a0 = some r) : PCalls Try.prog 33 [(PV.sl none 66 12 (List.map ofEntry a0))] (PV.sl none 56 2 (List.map ofFld r)) := C_mk_Dict.sound (.k_mk_Dict a0) r h
theorem s_mk_Built (a0 : Term) (r : V) (h : p_mk_Built a0 = some r) : PCalls Try.prog 11 [(ofTermX a0)] (ofV r) := C_mk_Dict.sound (.k_mk_Built a0) r h
end Go.Proofs.Ythfdpaboekoncaa
