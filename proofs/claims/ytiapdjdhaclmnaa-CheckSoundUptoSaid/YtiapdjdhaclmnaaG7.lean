/- Pure functions, and that calls answer as they say. Written by gen.py. -/
import Derived.Test.YtiapdjdhaclmnaaG6
namespace Go.Proofs.Ytiapdjdhaclmnaa
open Go Aw
set_option linter.unusedVariables false
set_option linter.unusedSimpArgs false
set_option maxRecDepth 20000
set_option maxHeartbeats 2000000
noncomputable def mk_Dict_l1b (r_mk_Built : Term → Option V) (a0 : (List (Str × Term))) (g1 : (List (Str × V)) → Nat → Option (List (Str × V))) (s1 : (List (Str × V))) (s2 : Nat) : Option (List (Str × V)) :=
 bif (decide (((s2 : Nat) : Int) < (((a0).length : Nat) : Int))) then (
  Option.bind ((a0)[s2]?) fun x5 =>
  Option.bind ((a0)[s2]?) fun x6 =>
  Option.bind (r_mk_Built (x6.2)) fun x7 =>
  Option.bind (appO 32 s1 ([(x5.1, x7)] : (List (Str × V)))) fun x8 =>
  g1 x8 (s2 + 1)
 ) else (
  some s1
 )
theorem mk_Dict_l1b_cm {ι : Type} {ρ : ι → Type} (r_mk_Built : (∀ i, Option (ρ i)) → Term → Option V) (h_r_mk_Built : ∀ y0, CM (fun G => r_mk_Built G y0)) (g1 : (∀ i, Option (ρ i)) → (List (Str × V)) → Nat → Option (List (Str × V))) (h_g1 : ∀ y0 y1, CM (fun G => g1 G y0 y1)) (a0 : (List (Str × Term))) (s1 : (List (Str × V))) (s2 : Nat) : CM (fun G : (∀ i, Option (ρ i)) => mk_Dict_l1b (r_mk_Built G) a0 (g1 G) s1 s2) := by
 simp only [mk_Dict_l1b]
 repeat (first | exact cm_const | exact h_r_mk_Built _ | exact h_g1 _ _ | refine cm_cond ?_ ?_ | refine cm_bind ?_ (fun _ => ?_))
noncomputable def mk_Dict_l1 (r_mk_Built : Term → Option V) (a0 : (List (Str × Term))) (s1 : (List (Str × V))) (s2 : Nat) : Option (List (Str × V)) :=
 fixO (ι := ((List (Str × V)) × Nat)) (ρ := fun _ => (List (Str × V))) (fun g i => mk_Dict_l1b r_mk_Built a0 (fun s1 s2 => g (s1, s2)) i.1 i.2) (s1, s2)
theorem mk_Dict_l1_eq (r_mk_Built : Term → Option V) (a0 : (List (Str × Term))) (s1 : (List (Str × V))) (s2 : Nat) : mk_Dict_l1 r_mk_Built a0 s1 s2 = mk_Dict_l1b r_mk_Built a0 (mk_Dict_l1 r_mk_Built a0) s1 s2 :=
 fixO_eq (ι := ((List (Str × V)) × Nat)) (ρ := fun _ => (List (Str × V))) (Φ := fun g i => mk_Dict_l1b r_mk_Built a0 (fun s1 s2 => g (s1, s2)) i.1 i.2) (fun i => mk_Dict_l1b_cm (ι := ((List (Str × V)) × Nat)) (ρ := fun _ => (List (Str × V))) (fun _ => r_mk_Built) (fun _ => cm_const) (fun g => (fun s1 s2 => g (s1, s2))) (fun _ _ => cm_app) a0 i.1 i.2) (s1, s2)
theorem mk_Dict_l1_cm {ι : Type} {ρ : ι → Type} (r_mk_Built : (∀ i, Option (ρ i)) → Term → Option V) (h_r_mk_Built : ∀ y0, CM (fun G => r_mk_Built G y0)) (a0 : (List (Str × Term))) (s1 : (List (Str × V))) (s2 : Nat) : CM (fun G : (∀ i, Option (ρ i)) => mk_Dict_l1 (r_mk_Built G) a0 s1 s2) :=
 cm_fix (κ := ((List (Str × V)) × Nat)) (τ := fun _ => (List (Str × V))) (Φ := fun G g i => mk_Dict_l1b (r_mk_Built G) a0 (fun s1 s2 => g (s1, s2)) i.1 i.2) (fun g i => mk_Dict_l1b_cm r_mk_Built h_r_mk_Built (fun _ => (fun s1 s2 => g (s1, s2))) (fun _ _ => cm_const) a0 i.1 i.2) (fun G i => mk_Dict_l1b_cm (ι := ((List (Str × V)) × Nat)) (ρ := fun _ => (List (Str × V))) (fun _ => r_mk_Built G) (fun _ => cm_const) (fun g => (fun s1 s2 => g (s1, s2))) (fun _ _ => cm_app) a0 i.1 i.2) (s1, s2)
noncomputable def b_mk_Dict (r_mk_Dict : (List (Str × Term)) → Option (List (Str × V))) (r_mk_Built : Term → Option V) (a0 : (List (Str × Term))) : Option (List (Str × V)) :=
 mk_Dict_l1 r_mk_Built a0 ([] : (List (Str × V))) 0
theorem b_mk_Dict_cm {ι : Type} {ρ : ι → Type} (r_mk_Dict : (∀ i, Option (ρ i)) → (List (Str × Term)) → Option (List (Str × V))) (h_r_mk_Dict : ∀ y0, CM (fun G => r_mk_Dict G y0)) (r_mk_Built : (∀ i, Option (ρ i)) → Term → Option V) (h_r_mk_Built : ∀ y0, CM (fun G => r_mk_Built G y0)) (a0 : (List (Str × Term))) : CM (fun G : (∀ i, Option (ρ i)) => b_mk_Dict (r_mk_Dict G) (r_mk_Built G) a0) := by
 simp only [b_mk_Dict]
 repeat (first | exact cm_const | exact h_r_mk_Dict _ | exact h_r_mk_Built _ | apply mk_Dict_l1_cm | refine cm_cond ?_ ?_ | refine cm_bind ?_ (fun _ => ?_) | intro _ | assumption)
noncomputable def mk_Built_l1b (r_mk_Built : Term → Option V) (a0 : Term) (g1 : (List V) → Nat → Option V) (s10 : (List V)) (s11 : Nat) : Option V :=
 bif (decide (((s11 : Nat) : Int) < (((a0.list).length : Nat) : Int))) then (
  Option.bind ((a0.list)[s11]?) fun x14 =>
  Option.bind (r_mk_Built x14) fun x15 =>
  Option.bind (appO 16 s10 ([x15] : (List V))) fun x16 =>
  g1 x16 (s11 + 1)
 ) else (
  some (V.list s10)
 )
theorem mk_Built_l1b_cm {ι : Type} {ρ : ι → Type} (r_mk_Built : (∀ i, Option (ρ i)) → Term → Option V) (h_r_mk_Built : ∀ y0, CM (fun G => r_mk_Built G y0)) (g1 : (∀ i, Option (ρ i)) → (List V) → Nat → Option V) (h_g1 : ∀ y0 y1, CM (fun G => g1 G y0 y1)) (a0 : Term) (s10 : (List V)) (s11 : Nat) : CM (fun G : (∀ i, Option (ρ i)) => mk_Built_l1b (r_mk_Built G) a0 (g1 G) s10 s11) := by
 simp only [mk_Built_l1b]
 repeat (first | exact cm_const | exact h_r_mk_Built _ | exact h_g1 _ _ | refine cm_cond ?_ ?_ | refine cm_bind ?_ (fun _ => ?_))
noncomputable def mk_Built_l1 (r_mk_Built : Term → Option V) (a0 : Term) (s10 : (List V)) (s11 : Nat) : Option V :=
 fixO (ι := ((List V) × Nat)) (ρ := fun _ => V) (fun g i => mk_Built_l1b r_mk_Built a0 (fun s10 s11 => g (s10, s11)) i.1 i.2) (s10, s11)
theorem mk_Built_l1_eq (r_mk_Built : Term → Option V) (a0 : Term) (s10 : (List V)) (s11 : Nat) : mk_Built_l1 r_mk_Built a0 s10 s11 = mk_Built_l1b r_mk_Built a0 (mk_Built_l1 r_mk_Built a0) s10 s11 :=
 fixO_eq (ι := ((List V) × Nat)) (ρ := fun _ => V) (Φ := fun g i => mk_Built_l1b r_mk_Built a0 (fun s10 s11 => g (s10, s11)) i.1 i.2) (fun i => mk_Built_l1b_cm (ι := ((List V) × Nat)) (ρ := fun _ => V) (fun _ => r_mk_Built) (fun _ => cm_const) (fun g => (fun s10 s11 => g (s10, s11))) (fun _ _ => cm_app) a0 i.1 i.2) (s10, s11)
theorem mk_Built_l1_cm {ι : Type} {ρ : ι → Type} (r_mk_Built : (∀ i, Option (ρ i)) → Term → Option V) (h_r_mk_Built : ∀ y0, CM (fun G => r_mk_Built G y0)) (a0 : Term) (s10 : (List V)) (s11 : Nat) : CM (fun G : (∀ i, Option (ρ i)) => mk_Built_l1 (r_mk_Built G) a0 s10 s11) :=
 cm_fix (κ := ((List V) × Nat)) (τ := fun _ => V) (Φ := fun G g i => mk_Built_l1b (r_mk_Built G) a0 (fun s10 s11 => g (s10, s11)) i.1 i.2) (fun g i => mk_Built_l1b_cm r_mk_Built h_r_mk_Built (fun _ => (fun s10 s11 => g (s10, s11))) (fun _ _ => cm_const) a0 i.1 i.2) (fun G i => mk_Built_l1b_cm (ι := ((List V) × Nat)) (ρ := fun _ => V) (fun _ => r_mk_Built G) (fun _ => cm_const) (fun g => (fun s10 s11 => g (s10, s11))) (fun _ _ => cm_app) a0 i.1 i.2) (s10, s11)
noncomputable def b_mk_Built (r_mk_Dict : (List (Str × Term)) → Option (List (Str × V))) (r_mk_Built : Term → Option V) (a0 : Term) : Option V :=
 bif (a0.kind == 1) then (
  some V.nil
 ) else (
  bif (a0.kind == 2) then (
   some (V.bool a0.bool)
  ) else (
   bif (a0.kind == 3) then (
    some (V.int a0.int)
   ) else (
    bif (a0.kind == 4) then (
     some (V.float a0.float)
    ) else (
     bif (a0.kind == 5) then (
      some (V.text a0.text)
     ) else (
      bif (a0.kind == 6) then (
       Option.bind (appO 1 ([] : Str) a0.bytes) fun x7 =>
       some (V.bytes x7)
      ) else (
       bif (a0.kind == 7) then (
        some (V.ref a0.ref)
       ) else (
        bif (a0.kind == 8) then (
         mk_Built_l1 r_mk_Built a0 ([] : (List V)) 0
        ) else (
         bif (a0.kind == 9) then (
          Option.bind (r_mk_Dict a0.fields) fun x18 =>
          some (V.dict x18)
         ) else (
          bif (a0.kind == 10) then (
           Option.bind (r_mk_Dict a0.fields) fun x20 =>
           some (V.record a0.cls a0.ver x20)
          ) else (
           bif (a0.kind == 11) then (
            some V.nothing
           ) else (
            Option.bind (p_mk_Alien a0.int) fun x22 =>
            some x22
           )
          )
         )
        )
       )
      )
     )
    )
   )
  )
 )
theorem b_mk_Built_cm {ι : Type} {ρ : ι → Type} (r_mk_Dict : (∀ i, Option (ρ i)) → (List (Str × Term)) → Option (List (Str × V))) (h_r_mk_Dict : ∀ y0, CM (fun G => r_mk_Dict G y0)) (r_mk_Built : (∀ i, Option (ρ i)) → Term → Option V) (h_r_mk_Built : ∀ y0, CM (fun G => r_mk_Built G y0)) (a0 : Term) : CM (fun G : (∀ i, Option (ρ i)) => b_mk_Built (r_mk_Dict G) (r_mk_Built G) a0) := by
 simp only [b_mk_Built]
 repeat (first | exact cm_const | exact h_r_mk_Dict _ | exact h_r_mk_Built _ | apply mk_Built_l1_cm | refine cm_cond ?_ ?_ | refine cm_bind ?_ (fun _ => ?_) | intro _ | assumption)
inductive C_mk_Dict where
 | k_mk_Dict (a0 : (List (Str × Term)))
 | k_mk_Built (a0 : Term)
def C_mk_Dict.R : C_mk_Dict → Type
 | .k_mk_Dict _ => (List (Str × V))
 | .k_mk_Built _ => V
noncomputable def C_mk_Dict.F (g : ∀ i : C_mk_Dict, Option i.R) : ∀ i : C_mk_Dict, Option i.R
 | .k_mk_Dict a0 => b_mk_Dict (fun a0 => g (.k_mk_Dict a0)) (fun a0 => g (.k_mk_Built a0)) a0
 | .k_mk_Built a0 => b_mk_Built (fun a0 => g (.k_mk_Dict a0)) (fun a0 => g (.k_mk_Built a0)) a0
noncomputable def p_mk_Dict (a0 : (List (Str × Term))) : Option (List (Str × V)) := fixO C_mk_Dict.F (.k_mk_Dict a0)
noncomputable def p_mk_Built (a0 : Term) : Option V := fixO C_mk_Dict.F (.k_mk_Built a0)
theorem C_mk_Dict.cm (i : C_mk_Dict) : CM (fun g : (∀ i : C_mk_Dict, Option i.R) => C_mk_Dict.F g i) := by
 cases i with
 | k_mk_Dict a0 => exact b_mk_Dict_cm (fun (g : ∀ i : C_mk_Dict, Option i.R) a0 => g (.k_mk_Dict a0)) (fun a0 => cm_app (i := C_mk_Dict.k_mk_Dict a0)) (fun (g : ∀ i : C_mk_Dict, Option i.R) a0 => g (.k_mk_Built a0)) (fun a0 => cm_app (i := C_mk_Dict.k_mk_Built a0)) a0
 | k_mk_Built a0 => exact b_mk_Built_cm (fun (g : ∀ i : C_mk_Dict, Option i.R) a0 => g (.k_mk_Dict a0)) (fun a0 => cm_app (i := C_mk_Dict.k_mk_Dict a0)) (fun (g : ∀ i : C_mk_Dict, Option i.R) a0 => g (.k_mk_Built a0)) (fun a0 => cm_app (i := C_mk_Dict.k_mk_Built a0)) a0
theorem e_mk_Dict (a0 : (List (Str × Term))) : p_mk_Dict a0 = b_mk_Dict p_mk_Dict p_mk_Built a0 := fixO_eq C_mk_Dict.cm (.k_mk_Dict a0)
theorem e_mk_Built (a0 : Term) : p_mk_Built a0 = b_mk_Built p_mk_Dict p_mk_Built a0 := fixO_eq C_mk_Dict.cm (.k_mk_Built a0)
def C_mk_Dict.Q : ∀ i : C_mk_Dict, i.R → Prop
 | .k_mk_Dict a0 => fun (r : (List (Str × V))) => PCalls Try.prog 28 [(PV.sl none 12 (List.map ofEntry a0))] (PV.sl none 2 (List.map ofFld r))
 | .k_mk_Built a0 => fun (r : V) => PCalls Try.prog 9 [(ofTermX a0)] (ofV r)
theorem t_mk_Dict (r_mk_Dict : (List (Str × Term)) → Option (List (Str × V))) (c_mk_Dict : ∀ (a0 : (List (Str × Term))) r, r_mk_Dict a0 = some r → PCalls Try.prog 28 [(PV.sl none 12 (List.map ofEntry a0))] (PV.sl none 2 (List.map ofFld r))) (r_mk_Built : Term → Option V) (c_mk_Built : ∀ (a0 : Term) r, r_mk_Built a0 = some r → PCalls Try.prog 9 [(ofTermX a0)] (ofV r)) (a0 : (List (Str × Term))) (r : (List (Str × V))) (h : b_mk_Dict r_mk_Dict r_mk_Built a0 = some r) : PCalls Try.prog 28 [(PV.sl none 12 (List.map ofEntry a0))] (PV.sl none 2 (List.map ofFld r)) := by
 unfold b_mk_Dict at h
 refine acalls_of Try.func28 rfl Try.ntmps28 Try.results28 rfl (aw_of_bw ?_)
 change BW _ _ _ ⟨[(0, (PV.sl none 12 (List.map ofEntry a0)))], [], _⟩ _
 refine bR ?_
 refine sA rfl rfl rfl rfl rfl (ao_nil ?_)
 change BW _ _ _ _ _
 refine bR ?_
 refine sS rfl rfl rfl ((op1_bslice (xs := []) Try.underlying45 inf_43 rfl rfl rfl rfl rfl rfl ⟨Nat.le_of_ble_eq_true rfl, Nat.le_of_ble_eq_true rfl⟩ rfl).cast (y := (PV.sl (some 0) 2 (List.map ofFld ([] : (List (Str × V)))))) rfl rfl) ?_
 refine sA rfl rfl rfl rfl rfl (ao_nil ?_)
 change BW _ _ _ _ _
 refine bw_seq ?_
 refine bR ?_
 refine sA rfl rfl rfl rfl rfl (ao_nil ?_)
 change BW _ _ _ _ _
 refine bw_block ?_
 change BW _ _ _ _ _
 unfold mk_Dict_l1 at h
 refine bw_loop (σ := ((List (Str × V)) × Nat)) (fun i => [(0, (PV.sl none 12 (List.map ofEntry a0))), (3, (PV.sl (some 0) 2 (List.map ofFld i.1))), (4, (I64 (((i.2 : Nat) : Int))))]) (fun i => [.arr 43 (i.1).length]) (([] : (List (Str × V))), 0) h ?_ ?_ ?_
 ·intro i; exact ⟨Nat.le_of_ble_eq_true rfl, ⟨(il_nil (ids_slM ids_Entry _)), ⟨(il_tok rfl (ids_map ids_Fld _)), ⟨(il_nil rfl), trivial⟩⟩⟩, trivial⟩
 ·exact ⟨(.cons .same .nil), (sC rfl (sC rfl (sC rfl sub_nil)))⟩
 ·rintro g1_f ⟨s1, s2⟩ h; replace h : mk_Dict_l1b r_mk_Built a0 (fun y0 y1 => g1_f (y0, y1)) s1 s2 = some r := h; unfold mk_Dict_l1b at h
  change BW _ _ _ ⟨[(0, (PV.sl none 12 (List.map ofEntry a0))), (3, (PV.sl (some 0) 2 (List.map ofFld s1))), (4, (I64 (((s2 : Nat) : Int))))], [.arr 43 (s1).length], _⟩ _
  refine bw_seq ?_
  refine bR ?_
  refine sM rfl rfl rfl rfl rfl ?_
  refine sM rfl rfl rfl rfl rfl ?_
  refine sS rfl rfl rfl (op1_lenM Try.underlying27 rfl rfl) ?_
  refine sS rfl rfl rfl ((op1_cmp rfl rfl rfl rfl).cast (y := (BO ((decide (((s2 : Nat) : Int) < (((a0).length : Nat) : Int)))))) rfl rfl) (ao_nil ?_)
  change BW _ _ _ _ _
  refine bw_len (t := 7) rfl fun hb4 => ?_
  try rw [List.length_map] at hb4
  refine bw_cond rfl ?_ ?_
  ·intro hc3; replace h := ocond_t hc3 h
   have hc3_ := of_decide_eq_true hc3
   refine bw_skip ?_
   change BW _ _ _ _ _
   refine bw_seq ?_
   refine bw_block ?_
   change BW _ _ _ _ _
   refine bw_tail 14 [13] [] mo (by kernel_rfl) ?_
   refine ac_go rfl rfl rfl rfl (fun H hp => op1_move rfl rfl) ?_
   refine ac_go rfl rfl rfl rfl (fun H hp => op1_move rfl rfl) ?_
   refine ac_go rfl rfl rfl rfl (fun H hp => op1_move rfl rfl) ?_
   obtain ⟨x5, hx5, h⟩ := obind h
   refine ac_go rfl rfl rfl rfl (fun H hp => op1_idxN (i := s2) Try.underlying27 inf_101 rfl rfl rfl hx5 (ofEntry_eq _)) ?_
   refine ac_go rfl rfl rfl rfl (fun H hp => op1_faP st_101 (i := 0) rfl rfl rfl) ?_
   refine ac_go rfl rfl rfl rfl (fun H hp => op1_ldP (y := (ofStr x5.1)) Try.underlying9 rfl rfl rfl rfl) ?_
   refine ac_go rfl rfl rfl rfl (fun H hp => op1_move rfl rfl) ?_
   refine ac_go rfl rfl rfl rfl (fun H hp => op1_move rfl rfl) ?_
   obtain ⟨x6, hx6, h⟩ := obind h
   refine ac_go rfl rfl rfl rfl (fun H hp => op1_idxN (i := s2) Try.underlying27 inf_101 rfl rfl rfl hx6 (ofEntry_eq _)) ?_
   refine ac_go rfl rfl rfl rfl (fun H hp => op1_faP st_101 (i := 1) rfl rfl rfl) ?_
   refine ac_go rfl rfl rfl rfl (fun H hp => (op1_ldPA inf_29 Try.underlying29 rfl rfl rfl rfl rfl)) ?_
   obtain ⟨x7, hx7, h⟩ := obind h
   refine ac_go rfl rfl rfl rfl (fun H hp => op1_pcall rfl en_9 rfl (.cons (Wk.refl _) .nil) ⟨(ids_TermX (x6.2)), trivial⟩ (c_mk_Built (x6.2) x7 hx7) (ids_V x7)) ?_
   refine ac_go rfl rfl rfl rfl (fun H hp => op1_build (cs := [(ofStr x5.1), (ofV x7)]) st_43 inf_43 rfl rfl (by simp only [List.all_cons, List.all_nil, cok_V, cok_RecP, Bool.and_true, Bool.true_and]; try rfl) (by simp only [afill, List.getElem?_cons_zero, List.getElem?_cons_succ, cells_V, cells_RecP]; rfl)) ?_
   refine ac_lgo rfl rfl rfl rfl ((op1_bslice (xs := [(PV.agg [(ofStr x5.1), (ofV x7)])]) Try.underlying45 inf_43 rfl rfl rfl (by simp only [List.all_cons, List.all_nil, cok_V, cok_RecP, Bool.and_true, Bool.true_and]; try rfl) (by simp only [List.all_cons, List.all_nil, csz_V, csz_RecP, cells_V, cells_RecP]; try rfl) rfl ⟨Nat.le_of_ble_eq_true rfl, Nat.le_of_ble_eq_true rfl⟩ (by simp only [zipN, afill, List.flatMap_cons, List.flatMap_nil, cells_V, cells_RecP]; try rfl)).cast (y := (PV.sl (some 1) 2 (List.map ofFld ([(x5.1, x7)] : (List (Str × V)))))) rfl rfl) trivial ?_
   refine ac_nil ?_
   change AO _ _ _ _ _
   obtain ⟨x8, hx8, h⟩ := obind h
   refine sS rfl rfl rfl (op1_appM Try.underlying45 inf_43 rfl Try.underlying45 rfl rfl rfl rfl csz_Fld call1_Fld hx8 rfl) ?_
   refine sA rfl rfl rfl rfl rfl (ao_nil ?_)
   change BW _ _ _ _ _
   refine bw_region ?_
   refine sM rfl rfl rfl rfl rfl ?_
   refine sS rfl rfl rfl (op1_incN (k := s2) (c := 1) rfl rfl rfl (by omega)) ?_
   refine sA rfl rfl rfl rfl rfl (ao_nil ?_)
   exact ⟨rfl, (x8, (s2 + 1)), h, ⟨(.cons .same .nil), (sC rfl (sC rfl (sC rfl sub_nil)))⟩⟩
  ·intro hc3; replace h := ocond_f hc3 h
   refine bw_exit ?_
   change BW _ _ _ _ _
   refine bR ?_
   refine sM rfl rfl rfl rfl rfl ?_
   refine sA rfl rfl rfl rfl rfl (ao_nil ?_)
   change BW _ _ _ _ _
   refine bw_ret ?_
   change ∃ xs, _ = some xs ∧ EndOk _ _ _ _
   obtain rfl := Option.some.inj h
   exact ⟨_, rfl, endOk0 (y := (PV.sl none 2 (List.map ofFld s1))) Wk.tok (ids_slM ids_Fld s1) ⟨rfl, rfl⟩⟩
theorem t_mk_Built (r_mk_Dict : (List (Str × Term)) → Option (List (Str × V))) (c_mk_Dict : ∀ (a0 : (List (Str × Term))) r, r_mk_Dict a0 = some r → PCalls Try.prog 28 [(PV.sl none 12 (List.map ofEntry a0))] (PV.sl none 2 (List.map ofFld r))) (r_mk_Built : Term → Option V) (c_mk_Built : ∀ (a0 : Term) r, r_mk_Built a0 = some r → PCalls Try.prog 9 [(ofTermX a0)] (ofV r)) (a0 : Term) (r : V) (h : b_mk_Built r_mk_Dict r_mk_Built a0 = some r) : PCalls Try.prog 9 [(ofTermX a0)] (ofV r) := by
 unfold b_mk_Built at h
 refine acalls_of Try.func9 rfl Try.ntmps9 Try.results9 rfl (aw_of_bw ?_)
 change BW _ _ _ ⟨[(0, (ofTermX a0))], [], _⟩ _
 refine bR ?_
 refine sS rfl rfl rfl (op1_box rfl rfl rfl) ?_
 refine sA rfl rfl rfl rfl rfl (ao_nil ?_)
 change BW _ _ _ _ _
 refine bw_seq ?_
 refine bR ?_
 refine sS rfl rfl rfl (op1_faR st_29 (i := 0) rfl rfl rfl) ?_
 refine sS rfl rfl rfl ((op1_ldR Try.underlying3 rfl rfl rfl rfl rfl)) (ao_nil ?_)
 change BW _ _ _ _ _
 refine bw_block ?_
 change BW _ _ _ _ _
 refine bR ?_
 refine sS rfl rfl rfl ((op1_cmp rfl rfl rfl rfl).cast (y := (BO ((a0.kind == 1)))) rfl rfl) ?_
 refine sA rfl rfl rfl rfl rfl (ao_nil ?_)
 change BW _ _ _ _ _
 refine bw_cond rfl ?_ ?_
 ·intro hc1; replace h := ocond_t hc1 h
  refine bR ?_
  refine sA rfl rfl rfl rfl rfl (ao_nil ?_)
  change BW _ _ _ _ _
  refine bw_ret ?_
  change ∃ xs, _ = some xs ∧ EndOk _ _ _ _
  obtain rfl := Option.some.inj h
  exact ⟨_, rfl, endOk0 (y := (ofV V.nil)) (Wk.eq mk_nil.symm) (ids_V V.nil) ⟨rfl, rfl⟩⟩
 ·intro hc1; replace h := ocond_f hc1 h
  refine bR ?_
  refine sS rfl rfl rfl ((op1_cmp rfl rfl rfl rfl).cast (y := (BO ((a0.kind == 2)))) rfl rfl) ?_
  refine sA rfl rfl rfl rfl rfl (ao_nil ?_)
  change BW _ _ _ _ _
  refine bw_cond rfl ?_ ?_
  ·intro hc2; replace h := ocond_t hc2 h
   refine bR ?_
   refine sS rfl rfl rfl (op1_faR st_29 (i := 1) rfl rfl rfl) ?_
   refine sS rfl rfl rfl ((op1_ldR Try.underlying4 rfl rfl rfl rfl rfl)) ?_
   refine sS rfl rfl rfl ((op1_mkI Try.underlying4 rfl rfl rfl).wk ((Wk.iface (Wk.refl _)).trans (Wk.eq (mk_bool _).symm))) ?_
   refine sA rfl rfl rfl rfl rfl (ao_nil ?_)
   change BW _ _ _ _ _
   refine bw_ret ?_
   change ∃ xs, _ = some xs ∧ EndOk _ _ _ _
   obtain rfl := Option.some.inj h
   exact ⟨_, rfl, endOk0 (y := (ofV (V.bool a0.bool))) (Wk.refl _) (ids_V (V.bool a0.bool)) ⟨rfl, rfl⟩⟩
  ·intro hc2; replace h := ocond_f hc2 h
   refine bR ?_
   refine sS rfl rfl rfl ((op1_cmp rfl rfl rfl rfl).cast (y := (BO ((a0.kind == 3)))) rfl rfl) ?_
   refine sA rfl rfl rfl rfl rfl (ao_nil ?_)
   change BW _ _ _ _ _
   refine bw_cond rfl ?_ ?_
   ·intro hc3; replace h := ocond_t hc3 h
    refine bR ?_
    refine sS rfl rfl rfl (op1_faR st_29 (i := 2) rfl rfl rfl) ?_
    refine sS rfl rfl rfl ((op1_ldR Try.underlying2 rfl rfl rfl rfl rfl)) ?_
    refine sS rfl rfl rfl ((op1_mkI Try.underlying2 rfl rfl rfl).wk ((Wk.iface (Wk.refl _)).trans (Wk.eq (mk_int _).symm))) ?_
    refine sA rfl rfl rfl rfl rfl (ao_nil ?_)
    change BW _ _ _ _ _
    refine bw_ret ?_
    change ∃ xs, _ = some xs ∧ EndOk _ _ _ _
    obtain rfl := Option.some.inj h
    exact ⟨_, rfl, endOk0 (y := (ofV (V.int a0.int))) (Wk.refl _) (ids_V (V.int a0.int)) ⟨rfl, rfl⟩⟩
   ·intro hc3; replace h := ocond_f hc3 h
    refine bR ?_
    refine sS rfl rfl rfl ((op1_cmp rfl rfl rfl rfl).cast (y := (BO ((a0.kind == 4)))) rfl rfl) ?_
    refine sA rfl rfl rfl rfl rfl (ao_nil ?_)
    change BW _ _ _ _ _
    refine bw_cond rfl ?_ ?_
    ·intro hc4; replace h := ocond_t hc4 h
     refine bR ?_
     refine sS rfl rfl rfl (op1_faR st_29 (i := 3) rfl rfl rfl) ?_
     refine sS rfl rfl rfl ((op1_ldR Try.underlying22 rfl rfl rfl rfl rfl)) ?_
     refine sS rfl rfl rfl ((op1_mkI Try.underlying22 rfl rfl rfl).wk ((Wk.iface (Wk.refl _)).trans (Wk.eq (mk_float _).symm))) ?_
     refine sA rfl rfl rfl rfl rfl (ao_nil ?_)
     change BW _ _ _ _ _
     refine bw_ret ?_
     change ∃ xs, _ = some xs ∧ EndOk _ _ _ _
     obtain rfl := Option.some.inj h
     exact ⟨_, rfl, endOk0 (y := (ofV (V.float a0.float))) (Wk.refl _) (ids_V (V.float a0.float)) ⟨rfl, rfl⟩⟩
    ·intro hc4; replace h := ocond_f hc4 h
     refine bR ?_
     refine sS rfl rfl rfl ((op1_cmp rfl rfl rfl rfl).cast (y := (BO ((a0.kind == 5)))) rfl rfl) ?_
     refine sA rfl rfl rfl rfl rfl (ao_nil ?_)
     change BW _ _ _ _ _
     refine bw_cond rfl ?_ ?_
     ·intro hc5; replace h := ocond_t hc5 h
      refine bR ?_
      refine sS rfl rfl rfl (op1_faR st_29 (i := 4) rfl rfl rfl) ?_
      refine sS rfl rfl rfl ((op1_ldR Try.underlying9 rfl rfl rfl rfl rfl)) ?_
      refine sS rfl rfl rfl ((op1_mkI Try.underlying9 rfl rfl rfl).wk ((Wk.iface (Wk.refl _)).trans (Wk.eq (mk_text _).symm))) ?_
      refine sA rfl rfl rfl rfl rfl (ao_nil ?_)
      change BW _ _ _ _ _
      refine bw_ret ?_
      change ∃ xs, _ = some xs ∧ EndOk _ _ _ _
      obtain rfl := Option.some.inj h
      exact ⟨_, rfl, endOk0 (y := (ofV (V.text a0.text))) (Wk.refl _) (ids_V (V.text a0.text)) ⟨rfl, rfl⟩⟩
     ·intro hc5; replace h := ocond_f hc5 h
      refine bR ?_
      refine sS rfl rfl rfl ((op1_cmp rfl rfl rfl rfl).cast (y := (BO ((a0.kind == 6)))) rfl rfl) ?_
      refine sA rfl rfl rfl rfl rfl (ao_nil ?_)
      change BW _ _ _ _ _
      refine bw_cond rfl ?_ ?_
      ·intro hc6; replace h := ocond_t hc6 h
       refine bR ?_
       refine sS rfl rfl rfl ((op1_bslice (xs := []) Try.underlying23 inf_5 rfl rfl rfl rfl rfl rfl ⟨Nat.le_of_ble_eq_true rfl, Nat.le_of_ble_eq_true rfl⟩ rfl).cast (y := (PV.sl (some 1) 1 (List.map ofB ([] : Str)))) rfl rfl) ?_
       refine sS rfl rfl rfl (op1_faR st_29 (i := 5) rfl rfl rfl) ?_
       refine sS rfl rfl rfl ((op1_ldR Try.underlying23 rfl rfl rfl rfl rfl)) ?_
       obtain ⟨x7, hx7, h⟩ := obind h
       refine sS rfl rfl rfl (op1_appM Try.underlying23 inf_5 rfl Try.underlying23 rfl rfl rfl rfl (fun _ => rfl) (fun _ => rfl) hx7 rfl) ?_
       refine sS rfl rfl rfl ((op1_mkI Try.underlying23 rfl rfl rfl).wk ((Wk.iface Wk.tok).trans (Wk.eq (mk_bytes _).symm))) ?_
       refine sA rfl rfl rfl rfl rfl (ao_nil ?_)
       change BW _ _ _ _ _
       refine bw_ret ?_
       change ∃ xs, _ = some xs ∧ EndOk _ _ _ _
       obtain rfl := Option.some.inj h
       exact ⟨_, rfl, endOk0 (y := (ofV (V.bytes x7))) (Wk.refl _) (ids_V (V.bytes x7)) ⟨rfl, rfl⟩⟩
      ·intro hc6; replace h := ocond_f hc6 h
       refine bR ?_
       refine sS rfl rfl rfl ((op1_cmp rfl rfl rfl rfl).cast (y := (BO ((a0.kind == 7)))) rfl rfl) ?_
       refine sA rfl rfl rfl rfl rfl (ao_nil ?_)
       change BW _ _ _ _ _
       refine bw_cond rfl ?_ ?_
       ·intro hc8; replace h := ocond_t hc8 h
        refine bR ?_
        refine sS rfl rfl rfl (op1_faR st_29 (i := 6) rfl rfl rfl) ?_
        refine sS rfl rfl rfl ((op1_ldR Try.underlying25 rfl rfl rfl rfl rfl)) ?_
        refine sS rfl rfl rfl ((op1_mkI Try.underlying25 rfl rfl rfl).wk ((Wk.iface (Wk.refl _)).trans (Wk.eq (mk_ref _).symm))) ?_
        refine sA rfl rfl rfl rfl rfl (ao_nil ?_)
        change BW _ _ _ _ _
        refine bw_ret ?_
        change ∃ xs, _ = some xs ∧ EndOk _ _ _ _
        obtain rfl := Option.some.inj h
        exact ⟨_, rfl, endOk0 (y := (ofV (V.ref a0.ref))) (Wk.refl _) (ids_V (V.ref a0.ref)) ⟨rfl, rfl⟩⟩
       ·intro hc8; replace h := ocond_f hc8 h
        refine bR ?_
        refine sS rfl rfl rfl ((op1_cmp rfl rfl rfl rfl).cast (y := (BO ((a0.kind == 8)))) rfl rfl) ?_
        refine sA rfl rfl rfl rfl rfl (ao_nil ?_)
        change BW _ _ _ _ _
        refine bw_cond rfl ?_ ?_
        ·intro hc9; replace h := ocond_t hc9 h
         refine bR ?_
         refine sS rfl rfl rfl ((op1_bslice (xs := []) Try.underlying37 inf_20 rfl rfl rfl rfl rfl rfl ⟨Nat.le_of_ble_eq_true rfl, Nat.le_of_ble_eq_true rfl⟩ rfl).cast (y := (PV.sl (some 1) 1 (List.map ofV ([] : (List V))))) rfl rfl) ?_
         refine sA rfl rfl rfl rfl rfl (ao_nil ?_)
         change BW _ _ _ _ _
         refine bw_seq ?_
         refine bR ?_
         refine sA rfl rfl rfl rfl rfl (ao_nil ?_)
         change BW _ _ _ _ _
         refine bw_block ?_
         change BW _ _ _ _ _
         unfold mk_Built_l1 at h
         refine bw_loop (σ := ((List V) × Nat)) (fun i => [(1, (PV.rf 0 0)), (3, (PV.sl (some 1) 1 (List.map ofV i.1))), (4, (I64 (((i.2 : Nat) : Int))))]) (fun i => [.box 29 [(I64 a0.kind), (BO a0.bool), (I64 a0.int), (PV.v (.float .f64 a0.float)), (ofStr a0.text), (PV.sl none 1 (List.map ofB a0.bytes)), (PV.v (.int .u64 a0.ref)), (PV.sl none 11 (List.map ofTerm a0.list)), (PV.sl none 12 (List.map ofEntry a0.fields)), (ofStr a0.cls), (I64 a0.ver)], .arr 20 (i.1).length]) (([] : (List V)), 0) h ?_ ?_ ?_
         ·intro i; exact ⟨Nat.le_of_ble_eq_true rfl, ⟨(il_rf rfl), ⟨(il_tok rfl (ids_map ids_V _)), ⟨(il_nil rfl), trivial⟩⟩⟩, ⟨⟨(il_nil rfl), ⟨(il_nil rfl), ⟨(il_nil rfl), ⟨(il_nil rfl), ⟨(il_nil rfl), ⟨(il_nil (ids_slM (fun _ => rfl) _)), ⟨(il_nil rfl), ⟨(il_nil (ids_slM ids_Term _)), ⟨(il_nil (ids_slM ids_Entry _)), ⟨(il_nil rfl), ⟨(il_nil rfl), trivial⟩⟩⟩⟩⟩⟩⟩⟩⟩⟩⟩, trivial⟩⟩
         ·exact ⟨(.cons .same (.cons .same .nil)), (sC rfl (sC rfl (sC rfl sub_nil)))⟩
         ·rintro g1_f ⟨s10, s11⟩ h; replace h : mk_Built_l1b r_mk_Built a0 (fun y0 y1 => g1_f (y0, y1)) s10 s11 = some r := h; unfold mk_Built_l1b at h
          change BW _ _ _ ⟨[(1, (PV.rf 0 0)), (3, (PV.sl (some 1) 1 (List.map ofV s10))), (4, (I64 (((s11 : Nat) : Int))))], [.box 29 [(I64 a0.kind), (BO a0.bool), (I64 a0.int), (PV.v (.float .f64 a0.float)), (ofStr a0.text), (PV.sl none 1 (List.map ofB a0.bytes)), (PV.v (.int .u64 a0.ref)), (PV.sl none 11 (List.map ofTerm a0.list)), (PV.sl none 12 (List.map ofEntry a0.fields)), (ofStr a0.cls), (I64 a0.ver)], .arr 20 (s10).length], _⟩ _
          refine bw_seq ?_
          refine bR ?_
          refine sM rfl rfl rfl rfl rfl ?_
          refine sS rfl rfl rfl (op1_faR st_29 (i := 7) rfl rfl rfl) ?_
          refine sS rfl rfl rfl ((op1_ldR Try.underlying26 rfl rfl rfl rfl rfl)) ?_
          refine sS rfl rfl rfl (op1_lenM Try.underlying26 rfl rfl) ?_
          refine sS rfl rfl rfl ((op1_cmp rfl rfl rfl rfl).cast (y := (BO ((decide (((s11 : Nat) : Int) < (((a0.list).length : Nat) : Int)))))) rfl rfl) (ao_nil ?_)
          change BW _ _ _ _ _
          refine bw_len (t := 47) rfl fun hb13 => ?_
          try rw [List.length_map] at hb13
          refine bw_cond rfl ?_ ?_
          ·intro hc12; replace h := ocond_t hc12 h
           have hc12_ := of_decide_eq_true hc12
           refine bw_skip ?_
           change BW _ _ _ _ _
           refine bw_seq ?_
           refine bw_block ?_
           change BW _ _ _ _ _
           refine bw_region ?_
           refine sM rfl rfl rfl rfl rfl ?_
           refine sS rfl rfl rfl (op1_faR st_29 (i := 7) rfl rfl rfl) ?_
           refine sS rfl rfl rfl ((op1_ldR Try.underlying26 rfl rfl rfl rfl rfl)) ?_
           refine sM rfl rfl rfl rfl rfl ?_
           obtain ⟨x14, hx14, h⟩ := obind h
           refine sS rfl rfl rfl (op1_idxN (i := s11) Try.underlying26 inf_29 rfl rfl rfl hx14 (ofTerm_eq _)) ?_
           refine sS rfl rfl rfl (op1_ldPW inf_29 Try.underlying29 rfl rfl rfl rfl rfl) ?_
           obtain ⟨x15, hx15, h⟩ := obind h
           refine sS rfl rfl rfl (op1_pcall rfl en_9 rfl (.cons (Wk.refl _) .nil) ⟨(ids_TermX x14), trivial⟩ (c_mk_Built x14 x15 hx15) (ids_V x15)) ?_
           refine sS rfl rfl rfl ((op1_bslice (xs := [(ofV x15)]) Try.underlying37 inf_20 rfl rfl rfl (by simp only [List.all_cons, List.all_nil, cok_V, cok_RecP, Bool.and_true, Bool.true_and]; try rfl) (by simp only [List.all_cons, List.all_nil, csz_V, csz_RecP, cells_V, cells_RecP]; try rfl) rfl ⟨Nat.le_of_ble_eq_true rfl, Nat.le_of_ble_eq_true rfl⟩ (by simp only [zipN, afill, List.flatMap_cons, List.flatMap_nil, cells_V, cells_RecP]; try rfl)).cast (y := (PV.sl (some 2) 1 (List.map ofV ([x15] : (List V))))) rfl rfl) ?_
           obtain ⟨x16, hx16, h⟩ := obind h
           refine sS rfl rfl rfl (op1_appM Try.underlying37 inf_20 rfl Try.underlying37 rfl rfl rfl rfl csz_V call1_V hx16 rfl) ?_
           refine sA rfl rfl rfl rfl rfl (ao_nil ?_)
           change BW _ _ _ _ _
           refine bw_region ?_
           refine sM rfl rfl rfl rfl rfl ?_
           refine sS rfl rfl rfl (op1_incN (k := s11) (c := 1) rfl rfl rfl (by omega)) ?_
           refine sA rfl rfl rfl rfl rfl (ao_nil ?_)
           exact ⟨rfl, (x16, (s11 + 1)), h, ⟨(.cons .same (.cons .same .nil)), (sC rfl (sC rfl (sC rfl sub_nil)))⟩⟩
          ·intro hc12; replace h := ocond_f hc12 h
           refine bw_exit ?_
           change BW _ _ _ _ _
           refine bR ?_
           refine sM rfl rfl rfl rfl rfl ?_
           refine sS rfl rfl rfl ((op1_mkI Try.underlying37 rfl rfl rfl).wk ((Wk.iface Wk.tok).trans (Wk.eq (mk_list _).symm))) ?_
           refine sA rfl rfl rfl rfl rfl (ao_nil ?_)
           change BW _ _ _ _ _
           refine bw_ret ?_
           change ∃ xs, _ = some xs ∧ EndOk _ _ _ _
           obtain rfl := Option.some.inj h
           exact ⟨_, rfl, endOk0 (y := (ofV (V.list s10))) (Wk.refl _) (ids_V (V.list s10)) ⟨rfl, rfl⟩⟩
        ·intro hc9; replace h := ocond_f hc9 h
         refine bR ?_
         refine sS rfl rfl rfl ((op1_cmp rfl rfl rfl rfl).cast (y := (BO ((a0.kind == 9)))) rfl rfl) ?_
         refine sA rfl rfl rfl rfl rfl (ao_nil ?_)
         change BW _ _ _ _ _
         refine bw_cond rfl ?_ ?_
         ·intro hc17; replace h := ocond_t hc17 h
          refine bR ?_
          refine sS rfl rfl rfl (op1_faR st_29 (i := 8) rfl rfl rfl) ?_
          refine sS rfl rfl rfl ((op1_ldR Try.underlying27 rfl rfl rfl rfl rfl)) ?_
          obtain ⟨x18, hx18, h⟩ := obind h
          refine sS rfl rfl rfl (op1_pcall rfl en_28 rfl (.cons (Wk.refl _) .nil) ⟨(ids_slM ids_Entry a0.fields), trivial⟩ (c_mk_Dict a0.fields x18 hx18) (ids_slM ids_Fld x18)) ?_
          refine sS rfl rfl rfl ((op1_mkI Try.underlying45 rfl rfl rfl).wk ((Wk.iface (Wk.refl _)).trans (Wk.eq (mk_dict _).symm))) ?_
          refine sA rfl rfl rfl rfl rfl (ao_nil ?_)
          change BW _ _ _ _ _
          refine bw_ret ?_
          change ∃ xs, _ = some xs ∧ EndOk _ _ _ _
          obtain rfl := Option.some.inj h
          exact ⟨_, rfl, endOk0 (y := (ofV (V.dict x18))) (Wk.refl _) (ids_V (V.dict x18)) ⟨rfl, rfl⟩⟩
         ·intro hc17; replace h := ocond_f hc17 h
          refine bR ?_
          refine sS rfl rfl rfl ((op1_cmp rfl rfl rfl rfl).cast (y := (BO ((a0.kind == 10)))) rfl rfl) ?_
          refine sA rfl rfl rfl rfl rfl (ao_nil ?_)
          change BW _ _ _ _ _
          refine bw_cond rfl ?_ ?_
          ·intro hc19; replace h := ocond_t hc19 h
           refine bw_seq (bw_tail 7 [] [0] mo (by kernel_rfl) ?_)
           refine ac_go rfl rfl rfl rfl (fun H hp => op1_faR st_29 (i := 9) rfl rfl rfl) ?_
           refine ac_go rfl rfl rfl rfl (fun H hp => (op1_ldR Try.underlying9 rfl rfl rfl (hp.at rfl rfl) rfl)) ?_
           refine ac_go rfl rfl rfl rfl (fun H hp => op1_faR st_29 (i := 10) rfl rfl rfl) ?_
           refine ac_go rfl rfl rfl rfl (fun H hp => (op1_ldR Try.underlying3 rfl rfl rfl (hp.at rfl rfl) rfl)) ?_
           refine ac_go rfl rfl rfl rfl (fun H hp => op1_faR st_29 (i := 8) rfl rfl rfl) ?_
           refine ac_go rfl rfl rfl rfl (fun H hp => (op1_ldR Try.underlying27 rfl rfl rfl (hp.at rfl rfl) rfl)) ?_
           obtain ⟨x20, hx20, h⟩ := obind h
           refine ac_go rfl rfl rfl rfl (fun H hp => op1_pcall rfl en_28 rfl (.cons (Wk.refl _) .nil) ⟨(ids_slM ids_Entry a0.fields), trivial⟩ (c_mk_Dict a0.fields x20 hx20) (ids_slM ids_Fld x20)) ?_
           refine ac_nil ?_
           change AO _ _ _ _ _
           refine sS rfl rfl rfl (op1_build (cs := [(ofStr a0.cls), (I64 a0.ver), (PV.sl none 2 (List.map ofFld x20))]) st_72 inf_72 rfl rfl rfl rfl) ?_
           refine sS rfl rfl rfl (op1_box rfl rfl rfl) ?_
           refine sS rfl rfl rfl (op1_mkI Try.underlying70 rfl rfl rfl) ?_
           refine sA rfl rfl rfl rfl rfl (ao_nil ?_)
           change BW _ _ _ _ _
           refine bw_thaw 1 2 (y := (ofV (V.record a0.cls a0.ver x20))) rfl rfl ((Wk.iface (Wk.pt (x := .agg [(ofStr a0.cls), (I64 a0.ver), (PV.sl none 2 (List.map ofFld x20))]) (y := ofRec (Rec.mk a0.cls a0.ver x20)) (.cons (Wk.refl _) (.cons (Wk.refl _) (.cons (Wk.refl _) .nil))))).trans (Wk.eq (mk_rec (some (Rec.mk a0.cls a0.ver x20))).symm)) ?_
           refine bw_ret ?_
           change ∃ xs, _ = some xs ∧ EndOk _ _ _ _
           obtain rfl := Option.some.inj h
           exact ⟨_, rfl, endOk0 (y := (ofV (V.record a0.cls a0.ver x20))) (Wk.refl _) (ids_V (V.record a0.cls a0.ver x20)) ⟨rfl, rfl⟩⟩
          ·intro hc19; replace h := ocond_f hc19 h
           refine bR ?_
           refine sS rfl rfl rfl ((op1_cmp rfl rfl rfl rfl).cast (y := (BO ((a0.kind == 11)))) rfl rfl) ?_
           refine sA rfl rfl rfl rfl rfl (ao_nil ?_)
           change BW _ _ _ _ _
           refine bw_cond rfl ?_ ?_
           ·intro hc21; replace h := ocond_t hc21 h
            refine bR ?_
            refine sA rfl rfl rfl rfl rfl (ao_nil ?_)
            change BW _ _ _ _ _
            refine bR ?_
            refine sM rfl rfl rfl rfl rfl ?_
            refine sS rfl rfl rfl ((op1_mkI Try.underlying70 rfl rfl rfl).wk (Wk.eq (mk_rec none).symm)) ?_
            refine sA rfl rfl rfl rfl rfl (ao_nil ?_)
            change BW _ _ _ _ _
            refine bw_ret ?_
            change ∃ xs, _ = some xs ∧ EndOk _ _ _ _
            obtain rfl := Option.some.inj h
            exact ⟨_, rfl, endOk0 (y := (ofV V.nothing)) (Wk.refl _) (ids_V V.nothing) ⟨rfl, rfl⟩⟩
           ·intro hc21; replace h := ocond_f hc21 h
            refine bw_skip ?_
            change BW _ _ _ _ _
            refine bR ?_
            refine sS rfl rfl rfl (op1_faR st_29 (i := 2) rfl rfl rfl) ?_
            refine sS rfl rfl rfl ((op1_ldR Try.underlying2 rfl rfl rfl rfl rfl)) ?_
            obtain ⟨x22, hx22, h⟩ := obind h
            refine sS rfl rfl rfl (op1_pcall rfl en_29 rfl (.cons (Wk.refl _) .nil) ⟨rfl, trivial⟩ (s_mk_Alien a0.int x22 hx22) (ids_V x22)) ?_
            refine sA rfl rfl rfl rfl rfl (ao_nil ?_)
            change BW _ _ _ _ _
            refine bw_ret ?_
            change ∃ xs, _ = some xs ∧ EndOk _ _ _ _
            obtain rfl := Option.some.inj h
            exact ⟨_, rfl, endOk0 (y := (ofV x22)) (Wk.refl _) (ids_V x22) ⟨rfl, rfl⟩⟩
theorem C_mk_Dict.sound : ∀ (i : C_mk_Dict) (r : i.R), fixO C_mk_Dict.F i = some r → C_mk_Dict.Q i r := by
 refine fixO_ind (Φ := C_mk_Dict.F) (Q := C_mk_Dict.Q) ?_
 intro g hg i r h
 cases i with
 | k_mk_Dict a0 => exact t_mk_Dict (fun a0 => g (.k_mk_Dict a0)) (fun a0 r hr => hg (.k_mk_Dict a0) r hr) (fun a0 => g (.k_mk_Built a0)) (fun a0 r hr => hg (.k_mk_Built a0) r hr) a0 r h
 | k_mk_Built a0 => exact t_mk_Built (fun a0 => g (.k_mk_Dict a0)) (fun a0 r hr => hg (.k_mk_Dict a0) r hr) (fun a0 => g (.k_mk_Built a0)) (fun a0 r hr => hg (.k_mk_Built a0) r hr) a0 r h
theorem s_mk_Dict (a0 : (List (Str × Term))) (r : (List (Str × V))) (h : p_mk_Dict a0 = some r) : PCalls Try.prog 28 [(PV.sl none 12 (List.map ofEntry a0))] (PV.sl none 2 (List.map ofFld r)) := C_mk_Dict.sound (.k_mk_Dict a0) r h
theorem s_mk_Built (a0 : Term) (r : V) (h : p_mk_Built a0 = some r) : PCalls Try.prog 9 [(ofTermX a0)] (ofV r) := C_mk_Dict.sound (.k_mk_Built a0) r h
noncomputable def p_check_can (a0 : V) (a1 : Typ) : Option Int :=
 Option.bind (p_value_Check a0) fun x1 =>
 bif (x1.2 != 0) then (
  some x1.2
 ) else (
  Option.bind (p_check_valid a1) fun x3 =>
  bif (!x3) then (
   some 70
  ) else (
   some 0
  )
 )
theorem s_check_can (a0 : V) (a1 : Typ) (r : Int) (h : p_check_can a0 a1 = some r) : PCalls Try.prog 30 [(ofV a0), (ofTypX a1)] (I64 r) := by
 unfold p_check_can at h
 refine acalls_of Try.func30 rfl Try.ntmps30 Try.results30 rfl (aw_of_bw ?_)
 change BW _ _ _ ⟨[(0, (ofV a0)), (1, (ofTypX a1))], [], _⟩ _
 refine bR ?_
 refine sS rfl rfl rfl (op1_box rfl rfl rfl) ?_
 refine sA rfl rfl rfl rfl rfl (ao_nil ?_)
 change BW _ _ _ _ _
 refine bw_seq ?_
 refine bR ?_
 refine sM rfl rfl rfl rfl rfl ?_
 obtain ⟨x1, hx1, h⟩ := obind h
 refine sS rfl rfl rfl (op1_pcall rfl en_48 rfl (.cons (Wk.refl _) .nil) ⟨(ids_V a0), trivial⟩ (s_value_Check a0 x1 hx1) (ids_tup_cons rfl (ids_tup_cons rfl ids_tup_nil))) ?_
 refine sM rfl rfl rfl rfl rfl ?_
 refine sS rfl rfl rfl (op1_ext rfl rfl rfl) ?_
 refine sS rfl rfl rfl (op1_ext rfl rfl rfl) ?_
 refine sA rfl rfl rfl rfl rfl ?_
 refine sA rfl rfl rfl rfl rfl (ao_nil ?_)
 change BW _ _ _ _ _
 refine bR ?_
 refine sM rfl rfl rfl rfl rfl ?_
 refine sS rfl rfl rfl ((op1_cmp rfl rfl rfl rfl).cast (y := (BO ((x1.2 != 0)))) rfl rfl) (ao_nil ?_)
 change BW _ _ _ _ _
 refine bw_cond rfl ?_ ?_
 ·intro hc2; replace h := ocond_t hc2 h
  refine bR ?_
  refine sM rfl rfl rfl rfl rfl ?_
  refine sA rfl rfl rfl rfl rfl (ao_nil ?_)
  change BW _ _ _ _ _
  refine bw_ret ?_
  change ∃ xs, _ = some xs ∧ EndOk _ _ _ _
  obtain rfl := Option.some.inj h
  exact ⟨_, rfl, endOk0 (y := (I64 x1.2)) (Wk.refl _) rfl ⟨rfl, rfl⟩⟩
 ·intro hc2; replace h := ocond_f hc2 h
  refine bw_skip ?_
  change BW _ _ _ _ _
  refine bw_seq ?_
  refine bR ?_
  refine sS rfl rfl rfl ((op1_ldRA inf_34 Try.underlying34 rfl rfl rfl rfl rfl rfl)) ?_
  obtain ⟨x3, hx3, h⟩ := obind h
  refine sS rfl rfl rfl (op1_pcall rfl en_33 rfl (.cons (Wk.refl _) .nil) ⟨(ids_TypX a1), trivial⟩ (s_check_valid a1 x3 hx3) rfl) ?_
  refine sS rfl rfl rfl (op1_not rfl rfl) (ao_nil ?_)
  change BW _ _ _ _ _
  refine bw_cond rfl ?_ ?_
  ·intro hc4; replace h := ocond_t hc4 h
   refine bR ?_
   refine sA rfl rfl rfl rfl rfl (ao_nil ?_)
   change BW _ _ _ _ _
   refine bw_ret ?_
   change ∃ xs, _ = some xs ∧ EndOk _ _ _ _
   obtain rfl := Option.some.inj h
   exact ⟨_, rfl, endOk0 (y := (I64 70)) (Wk.refl _) rfl ⟨rfl, rfl⟩⟩
  ·intro hc4; replace h := ocond_f hc4 h
   refine bw_skip ?_
   change BW _ _ _ _ _
   refine bR ?_
   refine sA rfl rfl rfl rfl rfl (ao_nil ?_)
   change BW _ _ _ _ _
   refine bw_ret ?_
   change ∃ xs, _ = some xs ∧ EndOk _ _ _ _
   obtain rfl := Option.some.inj h
   exact ⟨_, rfl, endOk0 (y := (I64 0)) (Wk.refl _) rfl ⟨rfl, rfl⟩⟩
noncomputable def p_check_Is (a0 : V) (a1 : Typ) : Option (Bool × Int × Int) :=
 Option.bind (p_check_can a0 a1) fun x1 =>
 bif (x1 != 0) then (
  some (false, 0, x1)
 ) else (
  Option.bind (p_check_is a0 a1 0) fun x3 =>
  some (x3.1, x3.2, 0)
 )
theorem s_check_Is (a0 : V) (a1 : Typ) (r : (Bool × Int × Int)) (h : p_check_Is a0 a1 = some r) : PCalls Try.prog 10 [(ofV a0), (ofTypX a1)] (PV.tup [(BO r.1), (I64 r.2.1), (I64 r.2.2)]) := by
 unfold p_check_Is at h
 refine acalls_of Try.func10 rfl Try.ntmps10 Try.results10 rfl (aw_of_bw ?_)
 change BW _ _ _ ⟨[(0, (ofV a0)), (1, (ofTypX a1))], [], _⟩ _
 refine bR ?_
 refine sS rfl rfl rfl (op1_box rfl rfl rfl) ?_
 refine sA rfl rfl rfl rfl rfl ?_
 refine sA rfl rfl rfl rfl rfl ?_
 refine sA rfl rfl rfl rfl rfl (ao_nil ?_)
 change BW _ _ _ _ _
 refine bw_seq ?_
 refine bR ?_
 refine sM rfl rfl rfl rfl rfl ?_
 refine sS rfl rfl rfl ((op1_ldRA inf_34 Try.underlying34 rfl rfl rfl rfl rfl rfl)) ?_
 obtain ⟨x1, hx1, h⟩ := obind h
 refine sS rfl rfl rfl (op1_pcall rfl en_30 rfl (.cons (Wk.refl _) (.cons (Wk.refl _) .nil)) ⟨(ids_V a0), ⟨(ids_TypX a1), trivial⟩⟩ (s_check_can a0 a1 x1 hx1) rfl) ?_
 refine sA rfl rfl rfl rfl rfl (ao_nil ?_)
 change BW _ _ _ _ _
 refine bR ?_
 refine sM rfl rfl rfl rfl rfl ?_
 refine sS rfl rfl rfl ((op1_cmp rfl rfl rfl rfl).cast (y := (BO ((x1 != 0)))) rfl rfl) (ao_nil ?_)
 change BW _ _ _ _ _
 refine bw_cond rfl ?_ ?_
 ·intro hc2; replace h := ocond_t hc2 h
  refine bR ?_
  refine sM rfl rfl rfl rfl rfl ?_
  refine sA rfl rfl rfl rfl rfl ?_
  refine sA rfl rfl rfl rfl rfl ?_
  refine sA rfl rfl rfl rfl rfl (ao_nil ?_)
  change BW _ _ _ _ _
  refine bw_ret ?_
  change ∃ xs, _ = some xs ∧ EndOk _ _ _ _
  obtain rfl := Option.some.inj h
  exact ⟨_, rfl, endOk0 (y := (PV.tup [(BO false), (I64 0), (I64 x1)])) (Wk.refl _) (ids_tup_cons rfl (ids_tup_cons rfl (ids_tup_cons rfl ids_tup_nil))) ⟨rfl, rfl⟩⟩
 ·intro hc2; replace h := ocond_f hc2 h
  refine bw_skip ?_
  change BW _ _ _ _ _
  refine bR ?_
  refine sM rfl rfl rfl rfl rfl ?_
  refine sS rfl rfl rfl ((op1_ldRA inf_34 Try.underlying34 rfl rfl rfl rfl rfl rfl)) ?_
  obtain ⟨x3, hx3, h⟩ := obind h
  refine sS rfl rfl rfl (op1_pcall rfl en_31 rfl (.cons (Wk.refl _) (.cons (Wk.refl _) (.cons (Wk.refl _) .nil))) ⟨(ids_V a0), ⟨(ids_TypX a1), ⟨rfl, trivial⟩⟩⟩ (s_check_is a0 a1 0 x3 hx3) (ids_tup_cons rfl (ids_tup_cons rfl ids_tup_nil))) ?_
  refine sM rfl rfl rfl rfl rfl ?_
  refine sS rfl rfl rfl (op1_ext rfl rfl rfl) ?_
  refine sS rfl rfl rfl (op1_ext rfl rfl rfl) ?_
  refine sA rfl rfl rfl rfl rfl ?_
  refine sA rfl rfl rfl rfl rfl (ao_nil ?_)
  change BW _ _ _ _ _
  refine bR ?_
  refine sM rfl rfl rfl rfl rfl ?_
  refine sM rfl rfl rfl rfl rfl ?_
  refine sA rfl rfl rfl rfl rfl ?_
  refine sA rfl rfl rfl rfl rfl ?_
  refine sA rfl rfl rfl rfl rfl (ao_nil ?_)
  change BW _ _ _ _ _
  refine bw_ret ?_
  change ∃ xs, _ = some xs ∧ EndOk _ _ _ _
  obtain rfl := Option.some.inj h
  exact ⟨_, rfl, endOk0 (y := (PV.tup [(BO x3.1), (I64 x3.2), (I64 0)])) (Wk.refl _) (ids_tup_cons rfl (ids_tup_cons rfl (ids_tup_cons rfl ids_tup_nil))) ⟨rfl, rfl⟩⟩
noncomputable def law07_CheckSound_j1 (g1 : Nat → Option Bool) (s2 : Nat) (s9 : Bool) : Option Bool :=
 bif s9 then (
  some false
 ) else (
  g1 (s2 + 1)
 )
theorem law07_CheckSound_j1_cm {ι : Type} {ρ : ι → Type} (g1 : (∀ i, Option (ρ i)) → Nat → Option Bool) (h_g1 : ∀ y0, CM (fun G => g1 G y0)) (s2 : Nat) (s9 : Bool) : CM (fun G : (∀ i, Option (ρ i)) => law07_CheckSound_j1 (g1 G) s2 s9) := by
 simp only [law07_CheckSound_j1]
 repeat (first | exact cm_const | exact h_g1 _ | refine cm_cond ?_ ?_ | refine cm_bind ?_ (fun _ => ?_))
noncomputable def law07_CheckSound_j2 : Option Bool :=
 Option.bind (p_check_Sub (Typ.mk 4 0 (Term.mk 1 false 0 0 [] [] 0 [] [] [] 0) [] [] [] false []) (Typ.mk 3 1 (Term.mk 0 false 0 0 [] [] 0 [] [] [] 0) [] [] [] false [])) fun x16 =>
 bif x16.1 then (
  some (x16.2 == 0)
 ) else (
  some false
 )
noncomputable def law07_CheckSound_j3 (g2 : Int → Option Bool) (s19 : Int) (s23 : Bool) : Option Bool :=
 bif s23 then (
  some false
 ) else (
  g2 (IntKind.i64.wrap (s19 + 1))
 )
theorem law07_CheckSound_j3_cm {ι : Type} {ρ : ι → Type} (g2 : (∀ i, Option (ρ i)) → Int → Option Bool) (h_g2 : ∀ y0, CM (fun G => g2 G y0)) (s19 : Int) (s23 : Bool) : CM (fun G : (∀ i, Option (ρ i)) => law07_CheckSound_j3 (g2 G) s19 s23) := by
 simp only [law07_CheckSound_j3]
 repeat (first | exact cm_const | exact h_g2 _ | refine cm_cond ?_ ?_ | refine cm_bind ?_ (fun _ => ?_))
noncomputable def law07_CheckSound_l2b (a0 : Typ) (a1 : Typ) (g2 : Int → Option Bool) (s19 : Int) : Option Bool :=
 bif (decide (s19 < 2)) then (
  Option.bind (idxI ([a0, a1] : (List Typ)) s19) fun x21 =>
  Option.bind (p_check_Sub x21 x21) fun x22 =>
  bif (!x22.1) then (
   law07_CheckSound_j3 g2 s19 true
  ) else (
   law07_CheckSound_j3 g2 s19 (x22.2 != 0)
  )
 ) else (
  law07_CheckSound_j2
 )
theorem law07_CheckSound_l2b_cm {ι : Type} {ρ : ι → Type} (g2 : (∀ i, Option (ρ i)) → Int → Option Bool) (h_g2 : ∀ y0, CM (fun G => g2 G y0)) (a0 : Typ) (a1 : Typ) (s19 : Int) : CM (fun G : (∀ i, Option (ρ i)) => law07_CheckSound_l2b a0 a1 (g2 G) s19) := by
 simp only [law07_CheckSound_l2b]
 repeat (first | exact cm_const | exact h_g2 _ | apply law07_CheckSound_j2_cm | apply law07_CheckSound_j3_cm | refine cm_cond ?_ ?_ | refine cm_bind ?_ (fun _ => ?_) | intro _ | assumption)
noncomputable def law07_CheckSound_l2 (a0 : Typ) (a1 : Typ) (s19 : Int) : Option Bool :=
 fixO (ι := Int) (ρ := fun _ => Bool) (fun g i => law07_CheckSound_l2b a0 a1 (fun s19 => g s19) i) s19
theorem law07_CheckSound_l2_eq (a0 : Typ) (a1 : Typ) (s19 : Int) : law07_CheckSound_l2 a0 a1 s19 = law07_CheckSound_l2b a0 a1 (law07_CheckSound_l2 a0 a1) s19 :=
 fixO_eq (ι := Int) (ρ := fun _ => Bool) (Φ := fun g i => law07_CheckSound_l2b a0 a1 (fun s19 => g s19) i) (fun i => law07_CheckSound_l2b_cm (ι := Int) (ρ := fun _ => Bool) (fun g => (fun s19 => g s19)) (fun _ => cm_app) a0 a1 i) s19
noncomputable def law07_CheckSound_l1b (a0 : Typ) (a1 : Typ) (a2 : (List Term)) (x1 : (Bool × Int)) (g1 : Nat → Option Bool) (s2 : Nat) : Option Bool :=
 bif (decide (((s2 : Nat) : Int) < (((a2).length : Nat) : Int))) then (
  Option.bind ((a2)[s2]?) fun x5 =>
  Option.bind (p_mk_Built x5) fun x6 =>
  Option.bind (p_check_Is x6 a0) fun x7 =>
  Option.bind (p_check_Is x6 a1) fun x8 =>
  bif (x1.2 == 0) then (
   bif (x7.2.2 == 0) then (
    bif (x8.2.2 != 0) then (
     law07_CheckSound_j1 g1 s2 true
    ) else (
     bif x1.1 then (
      bif x7.1 then (
       law07_CheckSound_j1 g1 s2 (!x8.1)
      ) else (
       law07_CheckSound_j1 g1 s2 false
      )
     ) else (
      law07_CheckSound_j1 g1 s2 false
     )
    )
   ) else (
    law07_CheckSound_j1 g1 s2 false
   )
  ) else (
   law07_CheckSound_j1 g1 s2 false
  )
 ) else (
  bif (x1.2 == 0) then (
   law07_CheckSound_l2 a0 a1 0
  ) else (
   law07_CheckSound_j2
  )
 )
theorem law07_CheckSound_l1b_cm {ι : Type} {ρ : ι → Type} (g1 : (∀ i, Option (ρ i)) → Nat → Option Bool) (h_g1 : ∀ y0, CM (fun G => g1 G y0)) (a0 : Typ) (a1 : Typ) (a2 : (List Term)) (x1 : (Bool × Int)) (s2 : Nat) : CM (fun G : (∀ i, Option (ρ i)) => law07_CheckSound_l1b a0 a1 a2 x1 (g1 G) s2) := by
 simp only [law07_CheckSound_l1b]
 repeat (first | exact cm_const | exact h_g1 _ | apply law07_CheckSound_j1_cm | apply law07_CheckSound_j2_cm | apply law07_CheckSound_l2_cm | refine cm_cond ?_ ?_ | refine cm_bind ?_ (fun _ => ?_) | intro _ | assumption)
noncomputable def law07_CheckSound_l1 (a0 : Typ) (a1 : Typ) (a2 : (List Term)) (x1 : (Bool × Int)) (s2 : Nat) : Option Bool :=
 fixO (ι := Nat) (ρ := fun _ => Bool) (fun g i => law07_CheckSound_l1b a0 a1 a2 x1 (fun s2 => g s2) i) s2
theorem law07_CheckSound_l1_eq (a0 : Typ) (a1 : Typ) (a2 : (List Term)) (x1 : (Bool × Int)) (s2 : Nat) : law07_CheckSound_l1 a0 a1 a2 x1 s2 = law07_CheckSound_l1b a0 a1 a2 x1 (law07_CheckSound_l1 a0 a1 a2 x1) s2 :=
 fixO_eq (ι := Nat) (ρ := fun _ => Bool) (Φ := fun g i => law07_CheckSound_l1b a0 a1 a2 x1 (fun s2 => g s2) i) (fun i => law07_CheckSound_l1b_cm (ι := Nat) (ρ := fun _ => Bool) (fun g => (fun s2 => g s2)) (fun _ => cm_app) a0 a1 a2 x1 i) s2
noncomputable def p_law07_CheckSound (a0 : Typ) (a1 : Typ) (a2 : (List Term)) : Option Bool :=
 Option.bind (p_check_Sub a0 a1) fun x1 =>
 law07_CheckSound_l1 a0 a1 a2 x1 0
theorem s_law07_CheckSound (a0 : Typ) (a1 : Typ) (a2 : (List Term)) (r : Bool) (h : p_law07_CheckSound a0 a1 a2 = some r) : PCalls Try.prog 5 [(ofTypX a0), (ofTypX a1), (PV.sl none 11 (List.map ofTerm a2))] (BO r) := by
 unfold p_law07_CheckSound at h
 refine acalls_of Try.func5 rfl Try.ntmps5 Try.results5 rfl (aw_of_bw ?_)
 change BW _ _ _ ⟨[(0, (ofTypX a0)), (1, (ofTypX a1)), (2, (PV.sl none 11 (List.map ofTerm a2)))], [], _⟩ _
 refine bR ?_
 refine sS rfl rfl rfl (op1_box rfl rfl rfl) ?_
 refine sS rfl rfl rfl (op1_box rfl rfl rfl) ?_
 refine sA rfl rfl rfl rfl rfl (ao_nil ?_)
 change BW _ _ _ _ _
 refine bR ?_
 refine sS rfl rfl rfl ((op1_ldRA inf_34 Try.underlying34 rfl rfl rfl rfl rfl rfl)) ?_
 refine sS rfl rfl rfl ((op1_ldRA inf_34 Try.underlying34 rfl rfl rfl rfl rfl rfl)) ?_
 obtain ⟨x1, hx1, h⟩ := obind h
 refine sS rfl rfl rfl (op1_pcall rfl en_14 rfl (.cons (Wk.refl _) (.cons (Wk.refl _) .nil)) ⟨(ids_TypX a0), ⟨(ids_TypX a1), trivial⟩⟩ (s_check_Sub a0 a1 x1 hx1) (ids_tup_cons rfl (ids_tup_cons rfl ids_tup_nil))) ?_
 refine sM rfl rfl rfl rfl rfl ?_
 refine sS rfl rfl rfl (op1_ext rfl rfl rfl) ?_
 refine sS rfl rfl rfl (op1_ext rfl rfl rfl) ?_
 refine sA rfl rfl rfl rfl rfl ?_
 refine sA rfl rfl rfl rfl rfl (ao_nil ?_)
 change BW _ _ _ _ _
 refine bw_seq ?_
 refine bR ?_
 refine sA rfl rfl rfl rfl rfl (ao_nil ?_)
 change BW _ _ _ _ _
 refine bw_block ?_
 change BW _ _ _ _ _
 unfold law07_CheckSound_l1 at h
 refine bw_loop (σ := Nat) (fun i => [(2, (PV.sl none 11 (List.map ofTerm a2))), (3, (PV.rf 0 0)), (4, (PV.rf 1 0)), (7, (BO x1.1)), (8, (I64 x1.2)), (9, (I64 (((i : Nat) : Int))))]) (fun i => [.box 34 [(I64 a0.kind), (I64 a0.of), (I64 ((a0.only).kind)), (BO ((a0.only).bool)), (I64 ((a0.only).int)), (PV.v (.float .f64 (a0.only).float)), (ofStr (a0.only).text), (PV.sl none 1 (List.map ofB (a0.only).bytes)), (PV.v (.int .u64 (a0.only).ref)), (PV.sl none 11 (List.map ofTerm (a0.only).list)), (PV.sl none 12 (List.map ofEntry (a0.only).fields)), (ofStr (a0.only).cls), (I64 ((a0.only).ver)), (PV.sl none 18 (List.map ofTyp a0.parts)), (PV.sl none 1 (List.map ofStr a0.names)), (PV.sl none 1 (List.map ofBool a0.lacks)), (BO a0.opn), (ofStr a0.cls)], .box 34 [(I64 a1.kind), (I64 a1.of), (I64 ((a1.only).kind)), (BO ((a1.only).bool)), (I64 ((a1.only).int)), (PV.v (.float .f64 (a1.only).float)), (ofStr (a1.only).text), (PV.sl none 1 (List.map ofB (a1.only).bytes)), (PV.v (.int .u64 (a1.only).ref)), (PV.sl none 11 (List.map ofTerm (a1.only).list)), (PV.sl none 12 (List.map ofEntry (a1.only).fields)), (ofStr (a1.only).cls), (I64 ((a1.only).ver)), (PV.sl none 18 (List.map ofTyp a1.parts)), (PV.sl none 1 (List.map ofStr a1.names)), (PV.sl none 1 (List.map ofBool a1.lacks)), (BO a1.opn), (ofStr a1.cls)]]) 0 h ?_ ?_ ?_
 ·intro i; exact ⟨Nat.le_of_ble_eq_true rfl, ⟨(il_nil (ids_slM ids_Term _)), ⟨(il_rf rfl), ⟨(il_rf rfl), ⟨(il_nil rfl), ⟨(il_nil rfl), ⟨(il_nil rfl), trivial⟩⟩⟩⟩⟩⟩, ⟨⟨(il_nil rfl), ⟨(il_nil rfl), ⟨(il_nil rfl), ⟨(il_nil rfl), ⟨(il_nil rfl), ⟨(il_nil rfl), ⟨(il_nil rfl), ⟨(il_nil (ids_slM (fun _ => rfl) _)), ⟨(il_nil rfl), ⟨(il_nil (ids_slM ids_Term _)), ⟨(il_nil (ids_slM ids_Entry _)), ⟨(il_nil rfl), ⟨(il_nil rfl), ⟨(il_nil (ids_slM ids_Typ _)), ⟨(il_nil (ids_slM (fun _ => rfl) _)), ⟨(il_nil (ids_slM (fun _ => rfl) _)), ⟨(il_nil rfl), ⟨(il_nil rfl), trivial⟩⟩⟩⟩⟩⟩⟩⟩⟩⟩⟩⟩⟩⟩⟩⟩⟩⟩, ⟨⟨(il_nil rfl), ⟨(il_nil rfl), ⟨(il_nil rfl), ⟨(il_nil rfl), ⟨(il_nil rfl), ⟨(il_nil rfl), ⟨(il_nil rfl), ⟨(il_nil (ids_slM (fun _ => rfl) _)), ⟨(il_nil rfl), ⟨(il_nil (ids_slM ids_Term _)), ⟨(il_nil (ids_slM ids_Entry _)), ⟨(il_nil rfl), ⟨(il_nil rfl), ⟨(il_nil (ids_slM ids_Typ _)), ⟨(il_nil (ids_slM (fun _ => rfl) _)), ⟨(il_nil (ids_slM (fun _ => rfl) _)), ⟨(il_nil rfl), ⟨(il_nil rfl), trivial⟩⟩⟩⟩⟩⟩⟩⟩⟩⟩⟩⟩⟩⟩⟩⟩⟩⟩, trivial⟩⟩⟩
 ·exact ⟨(.cons .same (.cons .same .nil)), (sC rfl (sC rfl (sC rfl (sC rfl (sC rfl (sC rfl sub_nil))))))⟩
 ·rintro g1_f s2 h; replace h : law07_CheckSound_l1b a0 a1 a2 x1 (fun y0 => g1_f y0) s2 = some r := h; unfold law07_CheckSound_l1b at h
  change BW _ _ _ ⟨[(2, (PV.sl none 11 (List.map ofTerm a2))), (3, (PV.rf 0 0)), (4, (PV.rf 1 0)), (7, (BO x1.1)), (8, (I64 x1.2)), (9, (I64 (((s2 : Nat) : Int))))], [.box 34 [(I64 a0.kind), (I64 a0.of), (I64 ((a0.only).kind)), (BO ((a0.only).bool)), (I64 ((a0.only).int)), (PV.v (.float .f64 (a0.only).float)), (ofStr (a0.only).text), (PV.sl none 1 (List.map ofB (a0.only).bytes)), (PV.v (.int .u64 (a0.only).ref)), (PV.sl none 11 (List.map ofTerm (a0.only).list)), (PV.sl none 12 (List.map ofEntry (a0.only).fields)), (ofStr (a0.only).cls), (I64 ((a0.only).ver)), (PV.sl none 18 (List.map ofTyp a0.parts)), (PV.sl none 1 (List.map ofStr a0.names)), (PV.sl none 1 (List.map ofBool a0.lacks)), (BO a0.opn), (ofStr a0.cls)], .box 34 [(I64 a1.kind), (I64 a1.of), (I64 ((a1.only).kind)), (BO ((a1.only).bool)), (I64 ((a1.only).int)), (PV.v (.float .f64 (a1.only).float)), (ofStr (a1.only).text), (PV.sl none 1 (List.map ofB (a1.only).bytes)), (PV.v (.int .u64 (a1.only).ref)), (PV.sl none 11 (List.map ofTerm (a1.only).list)), (PV.sl none 12 (List.map ofEntry (a1.only).fields)), (ofStr (a1.only).cls), (I64 ((a1.only).ver)), (PV.sl none 18 (List.map ofTyp a1.parts)), (PV.sl none 1 (List.map ofStr a1.names)), (PV.sl none 1 (List.map ofBool a1.lacks)), (BO a1.opn), (ofStr a1.cls)]], _⟩ _
  refine bw_seq ?_
  refine bR ?_
  refine sM rfl rfl rfl rfl rfl ?_
  refine sM rfl rfl rfl rfl rfl ?_
  refine sS rfl rfl rfl (op1_lenM Try.underlying26 rfl rfl) ?_
  refine sS rfl rfl rfl ((op1_cmp rfl rfl rfl rfl).cast (y := (BO ((decide (((s2 : Nat) : Int) < (((a2).length : Nat) : Int)))))) rfl rfl) (ao_nil ?_)
  change BW _ _ _ _ _
  refine bw_len (t := 30) rfl fun hb4 => ?_
  try rw [List.length_map] at hb4
  refine bw_cond rfl ?_ ?_
  ·intro hc3; replace h := ocond_t hc3 h
   have hc3_ := of_decide_eq_true hc3
   refine bw_skip ?_
   change BW _ _ _ _ _
   refine bw_seq ?_
   refine bw_block ?_
   change BW _ _ _ _ _
   refine bR ?_
   refine sM rfl rfl rfl rfl rfl ?_
   refine sM rfl rfl rfl rfl rfl ?_
   obtain ⟨x5, hx5, h⟩ := obind h
   refine sS rfl rfl rfl (op1_idxN (i := s2) Try.underlying26 inf_29 rfl rfl rfl hx5 (ofTerm_eq _)) ?_
   refine sS rfl rfl rfl (op1_ldPW inf_29 Try.underlying29 rfl rfl rfl rfl rfl) ?_
   obtain ⟨x6, hx6, h⟩ := obind h
   refine sS rfl rfl rfl (op1_pcall rfl en_9 rfl (.cons (Wk.refl _) .nil) ⟨(ids_TermX x5), trivial⟩ (s_mk_Built x5 x6 hx6) (ids_V x6)) ?_
   refine sA rfl rfl rfl rfl rfl (ao_nil ?_)
   change BW _ _ _ _ _
   refine bR ?_
   refine sM rfl rfl rfl rfl rfl ?_
   refine sS rfl rfl rfl ((op1_ldRA inf_34 Try.underlying34 rfl rfl rfl rfl rfl rfl)) ?_
   obtain ⟨x7, hx7, h⟩ := obind h
   refine sS rfl rfl rfl (op1_pcall rfl en_10 rfl (.cons (Wk.refl _) (.cons (Wk.refl _) .nil)) ⟨(ids_V x6), ⟨(ids_TypX a0), trivial⟩⟩ (s_check_Is x6 a0 x7 hx7) (ids_tup_cons rfl (ids_tup_cons rfl (ids_tup_cons rfl ids_tup_nil)))) ?_
   refine sM rfl rfl rfl rfl rfl ?_
   refine sS rfl rfl rfl (op1_ext rfl rfl rfl) ?_
   refine sS rfl rfl rfl (op1_ext rfl rfl rfl) ?_
   refine sS rfl rfl rfl (op1_ext rfl rfl rfl) ?_
   refine sA rfl rfl rfl rfl rfl ?_
   refine sA rfl rfl rfl rfl rfl ?_
   refine sA rfl rfl rfl rfl rfl (ao_nil ?_)
   change BW _ _ _ _ _
   refine bR ?_
   refine sM rfl rfl rfl rfl rfl ?_
   refine sS rfl rfl rfl ((op1_ldRA inf_34 Try.underlying34 rfl rfl rfl rfl rfl rfl)) ?_
   obtain ⟨x8, hx8, h⟩ := obind h
   refine sS rfl rfl rfl (op1_pcall rfl en_10 rfl (.cons (Wk.refl _) (.cons (Wk.refl _) .nil)) ⟨(ids_V x6), ⟨(ids_TypX a1), trivial⟩⟩ (s_check_Is x6 a1 x8 hx8) (ids_tup_cons rfl (ids_tup_cons rfl (ids_tup_cons rfl ids_tup_nil)))) ?_
   refine sM rfl rfl rfl rfl rfl ?_
   refine sS rfl rfl rfl (op1_ext rfl rfl rfl) ?_
   refine sS rfl rfl rfl (op1_ext rfl rfl rfl) ?_
   refine sS rfl rfl rfl (op1_ext rfl rfl rfl) ?_
   refine sA rfl rfl rfl rfl rfl ?_
   refine sA rfl rfl rfl rfl rfl ?_
   refine sA rfl rfl rfl rfl rfl (ao_nil ?_)
   change BW _ _ _ _ _
   refine bw_seqJ (ι := Bool) (fun i => law07_CheckSound_j1 (fun y0 => g1_f y0) s2 i = some r) (fun i => [(2, (PV.sl none 11 (List.map ofTerm a2))), (3, (PV.rf 0 0)), (4, (PV.rf 1 0)), (7, (BO x1.1)), (8, (I64 x1.2)), (9, (I64 (((s2 : Nat) : Int)))), (73, (BO i))]) (fun i => [.box 34 [(I64 a0.kind), (I64 a0.of), (I64 ((a0.only).kind)), (BO ((a0.only).bool)), (I64 ((a0.only).int)), (PV.v (.float .f64 (a0.only).float)), (ofStr (a0.only).text), (PV.sl none 1 (List.map ofB (a0.only).bytes)), (PV.v (.int .u64 (a0.only).ref)), (PV.sl none 11 (List.map ofTerm (a0.only).list)), (PV.sl none 12 (List.map ofEntry (a0.only).fields)), (ofStr (a0.only).cls), (I64 ((a0.only).ver)), (PV.sl none 18 (List.map ofTyp a0.parts)), (PV.sl none 1 (List.map ofStr a0.names)), (PV.sl none 1 (List.map ofBool a0.lacks)), (BO a0.opn), (ofStr a0.cls)], .box 34 [(I64 a1.kind), (I64 a1.of), (I64 ((a1.only).kind)), (BO ((a1.only).bool)), (I64 ((a1.only).int)), (PV.v (.float .f64 (a1.only).float)), (ofStr (a1.only).text), (PV.sl none 1 (List.map ofB (a1.only).bytes)), (PV.v (.int .u64 (a1.only).ref)), (PV.sl none 11 (List.map ofTerm (a1.only).list)), (PV.sl none 12 (List.map ofEntry (a1.only).fields)), (ofStr (a1.only).cls), (I64 ((a1.only).ver)), (PV.sl none 18 (List.map ofTyp a1.parts)), (PV.sl none 1 (List.map ofStr a1.names)), (PV.sl none 1 (List.map ofBool a1.lacks)), (BO a1.opn), (ofStr a1.cls)]]) ?_ ?_ ?_
   ·intro i; exact ⟨Nat.le_of_ble_eq_true rfl, ⟨(il_nil (ids_slM ids_Term _)), ⟨(il_rf rfl), ⟨(il_rf rfl), ⟨(il_nil rfl), ⟨(il_nil rfl), ⟨(il_nil rfl), ⟨(il_nil rfl), trivial⟩⟩⟩⟩⟩⟩⟩, ⟨⟨(il_nil rfl), ⟨(il_nil rfl), ⟨(il_nil rfl), ⟨(il_nil rfl), ⟨(il_nil rfl), ⟨(il_nil rfl), ⟨(il_nil rfl), ⟨(il_nil (ids_slM (fun _ => rfl) _)), ⟨(il_nil rfl), ⟨(il_nil (ids_slM ids_Term _)), ⟨(il_nil (ids_slM ids_Entry _)), ⟨(il_nil rfl), ⟨(il_nil rfl), ⟨(il_nil (ids_slM ids_Typ _)), ⟨(il_nil (ids_slM (fun _ => rfl) _)), ⟨(il_nil (ids_slM (fun _ => rfl) _)), ⟨(il_nil rfl), ⟨(il_nil rfl), trivial⟩⟩⟩⟩⟩⟩⟩⟩⟩⟩⟩⟩⟩⟩⟩⟩⟩⟩, ⟨⟨(il_nil rfl), ⟨(il_nil rfl), ⟨(il_nil rfl), ⟨(il_nil rfl), ⟨(il_nil rfl), ⟨(il_nil rfl), ⟨(il_nil rfl), ⟨(il_nil (ids_slM (fun _ => rfl) _)), ⟨(il_nil rfl), ⟨(il_nil (ids_slM ids_Term _)), ⟨(il_nil (ids_slM ids_Entry _)), ⟨(il_nil rfl), ⟨(il_nil rfl), ⟨(il_nil (ids_slM ids_Typ _)), ⟨(il_nil (ids_slM (fun _ => rfl) _)), ⟨(il_nil (ids_slM (fun _ => rfl) _)), ⟨(il_nil rfl), ⟨(il_nil rfl), trivial⟩⟩⟩⟩⟩⟩⟩⟩⟩⟩⟩⟩⟩⟩⟩⟩⟩⟩, trivial⟩⟩⟩
   ·rintro s9 h; replace h : law07_CheckSound_j1 (fun y0 => g1_f y0) s2 s9 = some r := h; unfold law07_CheckSound_j1 at h
    change BW _ _ _ ⟨[(2, (PV.sl none 11 (List.map ofTerm a2))), (3, (PV.rf 0 0)), (4, (PV.rf 1 0)), (7, (BO x1.1)), (8, (I64 x1.2)), (9, (I64 (((s2 : Nat) : Int)))), (73, (BO s9))], [.box 34 [(I64 a0.kind), (I64 a0.of), (I64 ((a0.only).kind)), (BO ((a0.only).bool)), (I64 ((a0.only).int)), (PV.v (.float .f64 (a0.only).float)), (ofStr (a0.only).text), (PV.sl none 1 (List.map ofB (a0.only).bytes)), (PV.v (.int .u64 (a0.only).ref)), (PV.sl none 11 (List.map ofTerm (a0.only).list)), (PV.sl none 12 (List.map ofEntry (a0.only).fields)), (ofStr (a0.only).cls), (I64 ((a0.only).ver)), (PV.sl none 18 (List.map ofTyp a0.parts)), (PV.sl none 1 (List.map ofStr a0.names)), (PV.sl none 1 (List.map ofBool a0.lacks)), (BO a0.opn), (ofStr a0.cls)], .box 34 [(I64 a1.kind), (I64 a1.of), (I64 ((a1.only).kind)), (BO ((a1.only).bool)), (I64 ((a1.only).int)), (PV.v (.float .f64 (a1.only).float)), (ofStr (a1.only).text), (PV.sl none 1 (List.map ofB (a1.only).bytes)), (PV.v (.int .u64 (a1.only).ref)), (PV.sl none 11 (List.map ofTerm (a1.only).list)), (PV.sl none 12 (List.map ofEntry (a1.only).fields)), (ofStr (a1.only).cls), (I64 ((a1.only).ver)), (PV.sl none 18 (List.map ofTyp a1.parts)), (PV.sl none 1 (List.map ofStr a1.names)), (PV.sl none 1 (List.map ofBool a1.lacks)), (BO a1.opn), (ofStr a1.cls)]], _⟩ _
    refine bw_cond rfl ?_ ?_
    ·intro hc10; replace h := ocond_t hc10 h
     refine bR ?_
     refine sA rfl rfl rfl rfl rfl (ao_nil ?_)
     change BW _ _ _ _ _
     refine bw_ret ?_
     change ∃ xs, _ = some xs ∧ EndOk _ _ _ _
     obtain rfl := Option.some.inj h
     exact ⟨_, rfl, endOk0 (y := (BO false)) (Wk.refl _) rfl ⟨rfl, rfl⟩⟩
    ·intro hc10; replace h := ocond_f hc10 h
     refine bw_skip ?_
     change BW _ _ _ _ _
     refine bw_region ?_
     refine sM rfl rfl rfl rfl rfl ?_
     refine sS rfl rfl rfl (op1_incN (k := s2) (c := 1) rfl rfl rfl (by omega)) ?_
     refine sA rfl rfl rfl rfl rfl (ao_nil ?_)
     exact ⟨rfl, (s2 + 1), h, ⟨(.cons .same (.cons .same .nil)), (sC rfl (sC rfl (sC rfl (sC rfl (sC rfl (sC rfl sub_nil))))))⟩⟩
   ·refine bw_region ?_
    refine sM rfl rfl rfl rfl rfl ?_
    refine sS rfl rfl rfl ((op1_cmp rfl rfl rfl rfl).cast (y := (BO ((x1.2 == 0)))) rfl rfl) ?_
    refine sM rfl rfl rfl rfl rfl ?_
    refine ao_cases (t := 56) rfl ?_ ?_
    ·intro hb11; replace h := ocond_t hb11 h
     refine ao_yes rfl rfl rfl rfl rfl rfl (op1_move rfl rfl) ?_
     refine ao_yes rfl rfl rfl rfl rfl rfl ((op1_cmp rfl rfl rfl rfl).cast (y := (BO ((x7.2.2 == 0)))) rfl rfl) ?_
     refine sS rfl rfl rfl (op1_pickT rfl rfl rfl) ?_
     refine sM rfl rfl rfl rfl rfl ?_
     refine ao_cases (t := 60) rfl ?_ ?_
     ·intro hb12; replace h := ocond_t hb12 h
      refine ao_yes rfl rfl rfl rfl rfl rfl (op1_move rfl rfl) ?_
      refine ao_yes rfl rfl rfl rfl rfl rfl ((op1_cmp rfl rfl rfl rfl).cast (y := (BO ((x8.2.2 != 0)))) rfl rfl) ?_
      refine ao_yes rfl rfl rfl rfl rfl rfl (op1_move rfl rfl) ?_
      refine ao_cases (t := 63) rfl ?_ ?_
      ·intro hb13; replace h := ocond_t hb13 h
       refine ao_no rfl rfl rfl rfl rfl rfl ?_
       refine ao_no rfl rfl rfl rfl rfl rfl ?_
       refine ao_no rfl rfl rfl rfl rfl rfl ?_
       refine ao_no rfl rfl rfl rfl rfl rfl ?_
       refine ao_no rfl rfl rfl rfl rfl rfl ?_
       refine ao_no rfl rfl rfl rfl rfl rfl ?_
       refine ao_no rfl rfl rfl rfl rfl rfl ?_
       refine ao_no rfl rfl rfl rfl rfl rfl ?_
       refine ao_yes rfl rfl rfl rfl rfl rfl (op1_pickT rfl rfl rfl) ?_
       refine sS rfl rfl rfl (op1_pickT rfl rfl rfl) (ao_nil ?_)
       exact ⟨rfl, true, h, ⟨(.cons .same (.cons .same .nil)), (sC rfl (sC rfl (sC rfl (sC rfl (sC rfl (sC rfl (sC rfl sub_nil)))))))⟩⟩
      ·intro hb13; replace h := ocond_f hb13 h
       refine ao_yes rfl rfl rfl rfl rfl rfl (op1_move rfl rfl) ?_
       refine ao_yes rfl rfl rfl rfl rfl rfl (op1_move rfl rfl) ?_
       refine ao_cases (t := 65) rfl ?_ ?_
       ·intro hb14; replace h := ocond_t hb14 h
        refine ao_yes rfl rfl rfl rfl rfl rfl (op1_move rfl rfl) ?_
        refine ao_yes rfl rfl rfl rfl rfl rfl (op1_pickT rfl rfl rfl) ?_
        refine ao_yes rfl rfl rfl rfl rfl rfl (op1_move rfl rfl) ?_
        refine ao_cases (t := 68) rfl ?_ ?_
        ·intro hb15; replace h := ocond_t hb15 h
         refine ao_yes rfl rfl rfl rfl rfl rfl (op1_move rfl rfl) ?_
         refine ao_yes rfl rfl rfl rfl rfl rfl (op1_not rfl rfl) ?_
         refine ao_yes rfl rfl rfl rfl rfl rfl (op1_pickT rfl rfl rfl) ?_
         refine ao_yes rfl rfl rfl rfl rfl rfl (op1_pickF rfl rfl rfl) ?_
         refine sS rfl rfl rfl (op1_pickT rfl rfl rfl) (ao_nil ?_)
         exact ⟨rfl, (!x8.1), h, ⟨(.cons .same (.cons .same .nil)), (sC rfl (sC rfl (sC rfl (sC rfl (sC rfl (sC rfl (sC rfl sub_nil)))))))⟩⟩
        ·intro hb15; replace h := ocond_f hb15 h
         refine ao_no rfl rfl rfl rfl rfl rfl ?_
         refine ao_no rfl rfl rfl rfl rfl rfl ?_
         refine ao_yes rfl rfl rfl rfl rfl rfl (op1_pickF rfl rfl rfl) ?_
         refine ao_yes rfl rfl rfl rfl rfl rfl (op1_pickF rfl rfl rfl) ?_
         refine sS rfl rfl rfl (op1_pickT rfl rfl rfl) (ao_nil ?_)
         exact ⟨rfl, false, h, ⟨(.cons .same (.cons .same .nil)), (sC rfl (sC rfl (sC rfl (sC rfl (sC rfl (sC rfl (sC rfl sub_nil)))))))⟩⟩
       ·intro hb14; replace h := ocond_f hb14 h
        refine ao_no rfl rfl rfl rfl rfl rfl ?_
        refine ao_yes rfl rfl rfl rfl rfl rfl (op1_pickF rfl rfl rfl) ?_
        refine ao_yes rfl rfl rfl rfl rfl rfl (op1_move rfl rfl) ?_
        refine ao_no rfl rfl rfl rfl rfl rfl ?_
        refine ao_no rfl rfl rfl rfl rfl rfl ?_
        refine ao_yes rfl rfl rfl rfl rfl rfl (op1_pickF rfl rfl rfl) ?_
        refine ao_yes rfl rfl rfl rfl rfl rfl (op1_pickF rfl rfl rfl) ?_
        refine sS rfl rfl rfl (op1_pickT rfl rfl rfl) (ao_nil ?_)
        exact ⟨rfl, false, h, ⟨(.cons .same (.cons .same .nil)), (sC rfl (sC rfl (sC rfl (sC rfl (sC rfl (sC rfl (sC rfl sub_nil)))))))⟩⟩
     ·intro hb12; replace h := ocond_f hb12 h
      refine ao_no rfl rfl rfl rfl rfl rfl ?_
      refine ao_no rfl rfl rfl rfl rfl rfl ?_
      refine ao_no rfl rfl rfl rfl rfl rfl ?_
      refine ao_no rfl rfl rfl rfl rfl rfl ?_
      refine ao_no rfl rfl rfl rfl rfl rfl ?_
      refine ao_no rfl rfl rfl rfl rfl rfl ?_
      refine ao_no rfl rfl rfl rfl rfl rfl ?_
      refine ao_no rfl rfl rfl rfl rfl rfl ?_
      refine ao_no rfl rfl rfl rfl rfl rfl ?_
      refine ao_no rfl rfl rfl rfl rfl rfl ?_
      refine ao_no rfl rfl rfl rfl rfl rfl ?_
      refine ao_no rfl rfl rfl rfl rfl rfl ?_
      refine sS rfl rfl rfl (op1_pickF rfl rfl rfl) (ao_nil ?_)
      exact ⟨rfl, false, h, ⟨(.cons .same (.cons .same .nil)), (sC rfl (sC rfl (sC rfl (sC rfl (sC rfl (sC rfl (sC rfl sub_nil)))))))⟩⟩
    ·intro hb11; replace h := ocond_f hb11 h
     refine ao_no rfl rfl rfl rfl rfl rfl ?_
     refine ao_no rfl rfl rfl rfl rfl rfl ?_
     refine sS rfl rfl rfl (op1_pickF rfl rfl rfl) ?_
     refine sM rfl rfl rfl rfl rfl ?_
     refine ao_no rfl rfl rfl rfl rfl rfl ?_
     refine ao_no rfl rfl rfl rfl rfl rfl ?_
     refine ao_no rfl rfl rfl rfl rfl rfl ?_
     refine ao_no rfl rfl rfl rfl rfl rfl ?_
     refine ao_no rfl rfl rfl rfl rfl rfl ?_
     refine ao_no rfl rfl rfl rfl rfl rfl ?_
     refine ao_no rfl rfl rfl rfl rfl rfl ?_
     refine ao_no rfl rfl rfl rfl rfl rfl ?_
     refine ao_no rfl rfl rfl rfl rfl rfl ?_
     refine ao_no rfl rfl rfl rfl rfl rfl ?_
     refine ao_no rfl rfl rfl rfl rfl rfl ?_
     refine ao_no rfl rfl rfl rfl rfl rfl ?_
     refine sS rfl rfl rfl (op1_pickF rfl rfl rfl) (ao_nil ?_)
     exact ⟨rfl, false, h, ⟨(.cons .same (.cons .same .nil)), (sC rfl (sC rfl (sC rfl (sC rfl (sC rfl (sC rfl (sC rfl sub_nil)))))))⟩⟩
  ·intro hc3; replace h := ocond_f hc3 h
   refine bw_exit ?_
   change BW _ _ _ _ _
   refine bw_seqJ (ι := Unit) (fun i => law07_CheckSound_j2 = some r) (fun i => []) (fun i => []) ?_ ?_ ?_
   ·intro i; exact ⟨Nat.le_of_ble_eq_true rfl, trivial, trivial⟩
   ·rintro ⟨⟩ h; replace h : law07_CheckSound_j2 = some r := h; unfold law07_CheckSound_j2 at h
    change BW _ _ _ ⟨[], [], _⟩ _
    refine bR ?_
    refine sS rfl rfl rfl (op1_build (cs := [(I64 1), (BO false), (I64 0), (PV.v (.float .f64 0)), (ofStr []), (PV.v (.slice none 0 0)), (PV.v (.int .u64 0)), (PV.v (.slice none 0 0)), (PV.v (.slice none 0 0)), (ofStr []), (I64 0)]) st_29 inf_29 rfl rfl rfl rfl) ?_
    refine sS rfl rfl rfl (op1_build (cs := [(I64 4), (I64 0), (I64 1), (BO false), (I64 0), (PV.v (.float .f64 0)), (ofStr []), (PV.v (.slice none 0 0)), (PV.v (.int .u64 0)), (PV.v (.slice none 0 0)), (PV.v (.slice none 0 0)), (ofStr []), (I64 0), (PV.v (.slice none 0 0)), (PV.v (.slice none 0 0)), (PV.v (.slice none 0 0)), (BO false), (ofStr [])]) st_34 inf_34 rfl rfl rfl rfl) ?_
    refine sS rfl rfl rfl (op1_build (cs := [(I64 3), (I64 1), (I64 0), (BO false), (I64 0), (PV.v (.float .f64 0)), (ofStr []), (PV.v (.slice none 0 0)), (PV.v (.int .u64 0)), (PV.v (.slice none 0 0)), (PV.v (.slice none 0 0)), (ofStr []), (I64 0), (PV.v (.slice none 0 0)), (PV.v (.slice none 0 0)), (PV.v (.slice none 0 0)), (BO false), (ofStr [])]) st_34 inf_34 rfl rfl rfl rfl) ?_
    obtain ⟨x16, hx16, h⟩ := obind h
    refine sS rfl rfl rfl (op1_pcall rfl en_14 rfl (.cons (Wk.agg (.cons (Wk.refl _) (.cons (Wk.refl _) (.cons (Wk.refl _) (.cons (Wk.refl _) (.cons (Wk.refl _) (.cons (Wk.refl _) (.cons (Wk.refl _) (.cons Wk.nil (.cons (Wk.refl _) (.cons Wk.nil (.cons Wk.nil (.cons (Wk.refl _) (.cons (Wk.refl _) (.cons Wk.nil (.cons Wk.nil (.cons Wk.nil (.cons (Wk.refl _) (.cons (Wk.refl _) .nil))))))))))))))))))) (.cons (Wk.agg (.cons (Wk.refl _) (.cons (Wk.refl _) (.cons (Wk.refl _) (.cons (Wk.refl _) (.cons (Wk.refl _) (.cons (Wk.refl _) (.cons (Wk.refl _) (.cons Wk.nil (.cons (Wk.refl _) (.cons Wk.nil (.cons Wk.nil (.cons (Wk.refl _) (.cons (Wk.refl _) (.cons Wk.nil (.cons Wk.nil (.cons Wk.nil (.cons (Wk.refl _) (.cons (Wk.refl _) .nil))))))))))))))))))) .nil)) ⟨(ids_TypX (Typ.mk 4 0 (Term.mk 1 false 0 0 [] [] 0 [] [] [] 0) [] [] [] false [])), ⟨(ids_TypX (Typ.mk 3 1 (Term.mk 0 false 0 0 [] [] 0 [] [] [] 0) [] [] [] false [])), trivial⟩⟩ (s_check_Sub (Typ.mk 4 0 (Term.mk 1 false 0 0 [] [] 0 [] [] [] 0) [] [] [] false []) (Typ.mk 3 1 (Term.mk 0 false 0 0 [] [] 0 [] [] [] 0) [] [] [] false []) x16 hx16) (ids_tup_cons rfl (ids_tup_cons rfl ids_tup_nil))) ?_
    refine sM rfl rfl rfl rfl rfl ?_
    refine sS rfl rfl rfl (op1_ext rfl rfl rfl) ?_
    refine sS rfl rfl rfl (op1_ext rfl rfl rfl) ?_
    refine sA rfl rfl rfl rfl rfl ?_
    refine sA rfl rfl rfl rfl rfl (ao_nil ?_)
    change BW _ _ _ _ _
    refine bR ?_
    refine sM rfl rfl rfl rfl rfl ?_
    refine sM rfl rfl rfl rfl rfl ?_
    refine ao_cases (t := 106) rfl ?_ ?_
    ·intro hb17; replace h := ocond_t hb17 h
     refine ao_yes rfl rfl rfl rfl rfl rfl (op1_move rfl rfl) ?_
     refine ao_yes rfl rfl rfl rfl rfl rfl ((op1_cmp rfl rfl rfl rfl).cast (y := (BO ((x16.2 == 0)))) rfl rfl) ?_
     refine sS rfl rfl rfl (op1_pickT rfl rfl rfl) ?_
     refine sA rfl rfl rfl rfl rfl (ao_nil ?_)
     change BW _ _ _ _ _
     refine bw_ret ?_
     change ∃ xs, _ = some xs ∧ EndOk _ _ _ _
     obtain rfl := Option.some.inj h
     exact ⟨_, rfl, endOk0 (y := (BO ((x16.2 == 0)))) (Wk.refl _) rfl ⟨rfl, rfl⟩⟩
    ·intro hb17; replace h := ocond_f hb17 h
     refine ao_no rfl rfl rfl rfl rfl rfl ?_
     refine ao_no rfl rfl rfl rfl rfl rfl ?_
     refine sS rfl rfl rfl (op1_pickF rfl rfl rfl) ?_
     refine sA rfl rfl rfl rfl rfl (ao_nil ?_)
     change BW _ _ _ _ _
     refine bw_ret ?_
     change ∃ xs, _ = some xs ∧ EndOk _ _ _ _
     obtain rfl := Option.some.inj h
     exact ⟨_, rfl, endOk0 (y := (BO false)) (Wk.refl _) rfl ⟨rfl, rfl⟩⟩
   ·refine bR ?_
    refine sM rfl rfl rfl rfl rfl ?_
    refine sS rfl rfl rfl ((op1_cmp rfl rfl rfl rfl).cast (y := (BO ((x1.2 == 0)))) rfl rfl) (ao_nil ?_)
    change BW _ _ _ _ _
    refine bw_cond rfl ?_ ?_
    ·intro hc18; replace h := ocond_t hc18 h
     refine bR ?_
     refine sA rfl rfl rfl rfl rfl (ao_nil ?_)
     change BW _ _ _ _ _
     refine bw_block ?_
     change BW _ _ _ _ _
     unfold law07_CheckSound_l2 at h
     refine bw_loop (σ := Int) (fun i => [(3, (PV.rf 0 0)), (4, (PV.rf 1 0)), (17, (I64 i))]) (fun i => [.box 34 [(I64 a0.kind), (I64 a0.of), (I64 ((a0.only).kind)), (BO ((a0.only).bool)), (I64 ((a0.only).int)), (PV.v (.float .f64 (a0.only).float)), (ofStr (a0.only).text), (PV.sl none 1 (List.map ofB (a0.only).bytes)), (PV.v (.int .u64 (a0.only).ref)), (PV.sl none 11 (List.map ofTerm (a0.only).list)), (PV.sl none 12 (List.map ofEntry (a0.only).fields)), (ofStr (a0.only).cls), (I64 ((a0.only).ver)), (PV.sl none 18 (List.map ofTyp a0.parts)), (PV.sl none 1 (List.map ofStr a0.names)), (PV.sl none 1 (List.map ofBool a0.lacks)), (BO a0.opn), (ofStr a0.cls)], .box 34 [(I64 a1.kind), (I64 a1.of), (I64 ((a1.only).kind)), (BO ((a1.only).bool)), (I64 ((a1.only).int)), (PV.v (.float .f64 (a1.only).float)), (ofStr (a1.only).text), (PV.sl none 1 (List.map ofB (a1.only).bytes)), (PV.v (.int .u64 (a1.only).ref)), (PV.sl none 11 (List.map ofTerm (a1.only).list)), (PV.sl none 12 (List.map ofEntry (a1.only).fields)), (ofStr (a1.only).cls), (I64 ((a1.only).ver)), (PV.sl none 18 (List.map ofTyp a1.parts)), (PV.sl none 1 (List.map ofStr a1.names)), (PV.sl none 1 (List.map ofBool a1.lacks)), (BO a1.opn), (ofStr a1.cls)]]) 0 h ?_ ?_ ?_
     ·intro i; exact ⟨Nat.le_of_ble_eq_true rfl, ⟨(il_rf rfl), ⟨(il_rf rfl), ⟨(il_nil rfl), trivial⟩⟩⟩, ⟨⟨(il_nil rfl), ⟨(il_nil rfl), ⟨(il_nil rfl), ⟨(il_nil rfl), ⟨(il_nil rfl), ⟨(il_nil rfl), ⟨(il_nil rfl), ⟨(il_nil (ids_slM (fun _ => rfl) _)), ⟨(il_nil rfl), ⟨(il_nil (ids_slM ids_Term _)), ⟨(il_nil (ids_slM ids_Entry _)), ⟨(il_nil rfl), ⟨(il_nil rfl), ⟨(il_nil (ids_slM ids_Typ _)), ⟨(il_nil (ids_slM (fun _ => rfl) _)), ⟨(il_nil (ids_slM (fun _ => rfl) _)), ⟨(il_nil rfl), ⟨(il_nil rfl), trivial⟩⟩⟩⟩⟩⟩⟩⟩⟩⟩⟩⟩⟩⟩⟩⟩⟩⟩, ⟨⟨(il_nil rfl), ⟨(il_nil rfl), ⟨(il_nil rfl), ⟨(il_nil rfl), ⟨(il_nil rfl), ⟨(il_nil rfl), ⟨(il_nil rfl), ⟨(il_nil (ids_slM (fun _ => rfl) _)), ⟨(il_nil rfl), ⟨(il_nil (ids_slM ids_Term _)), ⟨(il_nil (ids_slM ids_Entry _)), ⟨(il_nil rfl), ⟨(il_nil rfl), ⟨(il_nil (ids_slM ids_Typ _)), ⟨(il_nil (ids_slM (fun _ => rfl) _)), ⟨(il_nil (ids_slM (fun _ => rfl) _)), ⟨(il_nil rfl), ⟨(il_nil rfl), trivial⟩⟩⟩⟩⟩⟩⟩⟩⟩⟩⟩⟩⟩⟩⟩⟩⟩⟩, trivial⟩⟩⟩
     ·exact ⟨(.cons .same (.cons .same .nil)), (sC rfl (sC rfl (sC rfl sub_nil)))⟩
     ·rintro g2_f s19 h; replace h : law07_CheckSound_l2b a0 a1 (fun y0 => g2_f y0) s19 = some r := h; unfold law07_CheckSound_l2b at h
      change BW _ _ _ ⟨[(3, (PV.rf 0 0)), (4, (PV.rf 1 0)), (17, (I64 s19))], [.box 34 [(I64 a0.kind), (I64 a0.of), (I64 ((a0.only).kind)), (BO ((a0.only).bool)), (I64 ((a0.only).int)), (PV.v (.float .f64 (a0.only).float)), (ofStr (a0.only).text), (PV.sl none 1 (List.map ofB (a0.only).bytes)), (PV.v (.int .u64 (a0.only).ref)), (PV.sl none 11 (List.map ofTerm (a0.only).list)), (PV.sl none 12 (List.map ofEntry (a0.only).fields)), (ofStr (a0.only).cls), (I64 ((a0.only).ver)), (PV.sl none 18 (List.map ofTyp a0.parts)), (PV.sl none 1 (List.map ofStr a0.names)), (PV.sl none 1 (List.map ofBool a0.lacks)), (BO a0.opn), (ofStr a0.cls)], .box 34 [(I64 a1.kind), (I64 a1.of), (I64 ((a1.only).kind)), (BO ((a1.only).bool)), (I64 ((a1.only).int)), (PV.v (.float .f64 (a1.only).float)), (ofStr (a1.only).text), (PV.sl none 1 (List.map ofB (a1.only).bytes)), (PV.v (.int .u64 (a1.only).ref)), (PV.sl none 11 (List.map ofTerm (a1.only).list)), (PV.sl none 12 (List.map ofEntry (a1.only).fields)), (ofStr (a1.only).cls), (I64 ((a1.only).ver)), (PV.sl none 18 (List.map ofTyp a1.parts)), (PV.sl none 1 (List.map ofStr a1.names)), (PV.sl none 1 (List.map ofBool a1.lacks)), (BO a1.opn), (ofStr a1.cls)]], _⟩ _
      refine bw_seq ?_
      refine bR ?_
      refine sM rfl rfl rfl rfl rfl ?_
      refine sS rfl rfl rfl ((op1_cmp rfl rfl rfl rfl).cast (y := (BO ((decide (s19 < 2))))) rfl rfl) (ao_nil ?_)
      change BW _ _ _ _ _
      refine bw_cond rfl ?_ ?_
      ·intro hc20; replace h := ocond_t hc20 h
       refine bw_skip ?_
       change BW _ _ _ _ _
       refine bw_seq ?_
       refine bw_block ?_
       change BW _ _ _ _ _
       refine bR ?_
       refine sS rfl rfl rfl ((op1_ldRA inf_34 Try.underlying34 rfl rfl rfl rfl rfl rfl)) ?_
       refine sS rfl rfl rfl ((op1_ldRA inf_34 Try.underlying34 rfl rfl rfl rfl rfl rfl)) ?_
       refine sS rfl rfl rfl ((op1_bslice (xs := [(PV.agg [(I64 a0.kind), (I64 a0.of), (I64 ((a0.only).kind)), (BO ((a0.only).bool)), (I64 ((a0.only).int)), (PV.v (.float .f64 (a0.only).float)), (ofStr (a0.only).text), (PV.sl none 1 (List.map ofB (a0.only).bytes)), (PV.v (.int .u64 (a0.only).ref)), (PV.sl none 11 (List.map ofTerm (a0.only).list)), (PV.sl none 12 (List.map ofEntry (a0.only).fields)), (ofStr (a0.only).cls), (I64 ((a0.only).ver)), (PV.sl none 18 (List.map ofTyp a0.parts)), (PV.sl none 1 (List.map ofStr a0.names)), (PV.sl none 1 (List.map ofBool a0.lacks)), (BO a0.opn), (ofStr a0.cls)]), (PV.agg [(I64 a1.kind), (I64 a1.of), (I64 ((a1.only).kind)), (BO ((a1.only).bool)), (I64 ((a1.only).int)), (PV.v (.float .f64 (a1.only).float)), (ofStr (a1.only).text), (PV.sl none 1 (List.map ofB (a1.only).bytes)), (PV.v (.int .u64 (a1.only).ref)), (PV.sl none 11 (List.map ofTerm (a1.only).list)), (PV.sl none 12 (List.map ofEntry (a1.only).fields)), (ofStr (a1.only).cls), (I64 ((a1.only).ver)), (PV.sl none 18 (List.map ofTyp a1.parts)), (PV.sl none 1 (List.map ofStr a1.names)), (PV.sl none 1 (List.map ofBool a1.lacks)), (BO a1.opn), (ofStr a1.cls)])]) Try.underlying30 inf_34 rfl rfl rfl rfl rfl rfl ⟨Nat.le_of_ble_eq_true rfl, Nat.le_of_ble_eq_true rfl⟩ rfl).cast (y := (PV.sl (some 2) 18 (List.map ofTyp ([a0, a1] : (List Typ))))) (by simp only [List.map_cons, List.map_nil, ofTyp_eq]; try rfl) rfl) ?_
       refine sM rfl rfl rfl rfl rfl ?_
       obtain ⟨x21, hx21, h⟩ := obind h
       refine sS rfl rfl rfl (op1_idxM Try.underlying30 inf_34 rfl rfl rfl hx21 (ofTyp_eq _)) ?_
       refine sS rfl rfl rfl (op1_ldPW inf_34 Try.underlying34 rfl rfl rfl rfl rfl) ?_
       refine sS rfl rfl rfl (op1_alloc inf_34 rfl) ?_
       refine ao_step0 rfl rfl (op1_store inf_34 rfl rfl rfl rfl rfl rfl (Nat.le_of_ble_eq_true rfl) rfl) ?_
       refine ao_nil ?_
       change BW _ _ _ _ _
       refine bR ?_
       refine sS rfl rfl rfl ((op1_ldRA inf_34 Try.underlying34 rfl rfl rfl rfl rfl rfl)) ?_
       refine sS rfl rfl rfl ((op1_ldRA inf_34 Try.underlying34 rfl rfl rfl rfl rfl rfl)) ?_
       obtain ⟨x22, hx22, h⟩ := obind h
       refine sS rfl rfl rfl (op1_pcall rfl en_14 rfl (.cons (Wk.refl _) (.cons (Wk.refl _) .nil)) ⟨(ids_TypX x21), ⟨(ids_TypX x21), trivial⟩⟩ (s_check_Sub x21 x21 x22 hx22) (ids_tup_cons rfl (ids_tup_cons rfl ids_tup_nil))) ?_
       refine sM rfl rfl rfl rfl rfl ?_
       refine sS rfl rfl rfl (op1_ext rfl rfl rfl) ?_
       refine sS rfl rfl rfl (op1_ext rfl rfl rfl) ?_
       refine sA rfl rfl rfl rfl rfl ?_
       refine sA rfl rfl rfl rfl rfl (ao_nil ?_)
       change BW _ _ _ _ _
       refine bw_seqJ (ι := Bool) (fun i => law07_CheckSound_j3 (fun y0 => g2_f y0) s19 i = some r) (fun i => [(3, (PV.rf 0 0)), (4, (PV.rf 1 0)), (17, (I64 s19)), (97, (BO i))]) (fun i => [.box 34 [(I64 a0.kind), (I64 a0.of), (I64 ((a0.only).kind)), (BO ((a0.only).bool)), (I64 ((a0.only).int)), (PV.v (.float .f64 (a0.only).float)), (ofStr (a0.only).text), (PV.sl none 1 (List.map ofB (a0.only).bytes)), (PV.v (.int .u64 (a0.only).ref)), (PV.sl none 11 (List.map ofTerm (a0.only).list)), (PV.sl none 12 (List.map ofEntry (a0.only).fields)), (ofStr (a0.only).cls), (I64 ((a0.only).ver)), (PV.sl none 18 (List.map ofTyp a0.parts)), (PV.sl none 1 (List.map ofStr a0.names)), (PV.sl none 1 (List.map ofBool a0.lacks)), (BO a0.opn), (ofStr a0.cls)], .box 34 [(I64 a1.kind), (I64 a1.of), (I64 ((a1.only).kind)), (BO ((a1.only).bool)), (I64 ((a1.only).int)), (PV.v (.float .f64 (a1.only).float)), (ofStr (a1.only).text), (PV.sl none 1 (List.map ofB (a1.only).bytes)), (PV.v (.int .u64 (a1.only).ref)), (PV.sl none 11 (List.map ofTerm (a1.only).list)), (PV.sl none 12 (List.map ofEntry (a1.only).fields)), (ofStr (a1.only).cls), (I64 ((a1.only).ver)), (PV.sl none 18 (List.map ofTyp a1.parts)), (PV.sl none 1 (List.map ofStr a1.names)), (PV.sl none 1 (List.map ofBool a1.lacks)), (BO a1.opn), (ofStr a1.cls)]]) ?_ ?_ ?_
       ·intro i; exact ⟨Nat.le_of_ble_eq_true rfl, ⟨(il_rf rfl), ⟨(il_rf rfl), ⟨(il_nil rfl), ⟨(il_nil rfl), trivial⟩⟩⟩⟩, ⟨⟨(il_nil rfl), ⟨(il_nil rfl), ⟨(il_nil rfl), ⟨(il_nil rfl), ⟨(il_nil rfl), ⟨(il_nil rfl), ⟨(il_nil rfl), ⟨(il_nil (ids_slM (fun _ => rfl) _)), ⟨(il_nil rfl), ⟨(il_nil (ids_slM ids_Term _)), ⟨(il_nil (ids_slM ids_Entry _)), ⟨(il_nil rfl), ⟨(il_nil rfl), ⟨(il_nil (ids_slM ids_Typ _)), ⟨(il_nil (ids_slM (fun _ => rfl) _)), ⟨(il_nil (ids_slM (fun _ => rfl) _)), ⟨(il_nil rfl), ⟨(il_nil rfl), trivial⟩⟩⟩⟩⟩⟩⟩⟩⟩⟩⟩⟩⟩⟩⟩⟩⟩⟩, ⟨⟨(il_nil rfl), ⟨(il_nil rfl), ⟨(il_nil rfl), ⟨(il_nil rfl), ⟨(il_nil rfl), ⟨(il_nil rfl), ⟨(il_nil rfl), ⟨(il_nil (ids_slM (fun _ => rfl) _)), ⟨(il_nil rfl), ⟨(il_nil (ids_slM ids_Term _)), ⟨(il_nil (ids_slM ids_Entry _)), ⟨(il_nil rfl), ⟨(il_nil rfl), ⟨(il_nil (ids_slM ids_Typ _)), ⟨(il_nil (ids_slM (fun _ => rfl) _)), ⟨(il_nil (ids_slM (fun _ => rfl) _)), ⟨(il_nil rfl), ⟨(il_nil rfl), trivial⟩⟩⟩⟩⟩⟩⟩⟩⟩⟩⟩⟩⟩⟩⟩⟩⟩⟩, trivial⟩⟩⟩
       ·rintro s23 h; replace h : law07_CheckSound_j3 (fun y0 => g2_f y0) s19 s23 = some r := h; unfold law07_CheckSound_j3 at h
        change BW _ _ _ ⟨[(3, (PV.rf 0 0)), (4, (PV.rf 1 0)), (17, (I64 s19)), (97, (BO s23))], [.box 34 [(I64 a0.kind), (I64 a0.of), (I64 ((a0.only).kind)), (BO ((a0.only).bool)), (I64 ((a0.only).int)), (PV.v (.float .f64 (a0.only).float)), (ofStr (a0.only).text), (PV.sl none 1 (List.map ofB (a0.only).bytes)), (PV.v (.int .u64 (a0.only).ref)), (PV.sl none 11 (List.map ofTerm (a0.only).list)), (PV.sl none 12 (List.map ofEntry (a0.only).fields)), (ofStr (a0.only).cls), (I64 ((a0.only).ver)), (PV.sl none 18 (List.map ofTyp a0.parts)), (PV.sl none 1 (List.map ofStr a0.names)), (PV.sl none 1 (List.map ofBool a0.lacks)), (BO a0.opn), (ofStr a0.cls)], .box 34 [(I64 a1.kind), (I64 a1.of), (I64 ((a1.only).kind)), (BO ((a1.only).bool)), (I64 ((a1.only).int)), (PV.v (.float .f64 (a1.only).float)), (ofStr (a1.only).text), (PV.sl none 1 (List.map ofB (a1.only).bytes)), (PV.v (.int .u64 (a1.only).ref)), (PV.sl none 11 (List.map ofTerm (a1.only).list)), (PV.sl none 12 (List.map ofEntry (a1.only).fields)), (ofStr (a1.only).cls), (I64 ((a1.only).ver)), (PV.sl none 18 (List.map ofTyp a1.parts)), (PV.sl none 1 (List.map ofStr a1.names)), (PV.sl none 1 (List.map ofBool a1.lacks)), (BO a1.opn), (ofStr a1.cls)]], _⟩ _
        refine bw_cond rfl ?_ ?_
        ·intro hc24; replace h := ocond_t hc24 h
         refine bR ?_
         refine sA rfl rfl rfl rfl rfl (ao_nil ?_)
         change BW _ _ _ _ _
         refine bw_ret ?_
         change ∃ xs, _ = some xs ∧ EndOk _ _ _ _
         obtain rfl := Option.some.inj h
         exact ⟨_, rfl, endOk0 (y := (BO false)) (Wk.refl _) rfl ⟨rfl, rfl⟩⟩
        ·intro hc24; replace h := ocond_f hc24 h
         refine bw_skip ?_
         change BW _ _ _ _ _
         refine bw_region ?_
         refine sM rfl rfl rfl rfl rfl ?_
         refine sS rfl rfl rfl (op1_addW rfl rfl rfl) ?_
         refine sA rfl rfl rfl rfl rfl (ao_nil ?_)
         exact ⟨rfl, (IntKind.i64.wrap (s19 + 1)), h, ⟨(.cons .same (.cons .same .nil)), (sC rfl (sC rfl (sC rfl sub_nil)))⟩⟩
       ·refine bw_region ?_
        refine sM rfl rfl rfl rfl rfl ?_
        refine sS rfl rfl rfl (op1_not rfl rfl) ?_
        refine sM rfl rfl rfl rfl rfl ?_
        refine ao_cases (t := 94) rfl ?_ ?_
        ·intro hb25; replace h := ocond_t hb25 h
         refine ao_no rfl rfl rfl rfl rfl rfl ?_
         refine ao_no rfl rfl rfl rfl rfl rfl ?_
         refine sS rfl rfl rfl (op1_pickT rfl rfl rfl) (ao_nil ?_)
         exact ⟨rfl, true, h, ⟨(.cons .same (.cons .same .nil)), (sC rfl (sC rfl (sC rfl (sC rfl sub_nil))))⟩⟩
        ·intro hb25; replace h := ocond_f hb25 h
         refine ao_yes rfl rfl rfl rfl rfl rfl (op1_move rfl rfl) ?_
         refine ao_yes rfl rfl rfl rfl rfl rfl ((op1_cmp rfl rfl rfl rfl).cast (y := (BO ((x22.2 != 0)))) rfl rfl) ?_
         refine sS rfl rfl rfl (op1_pickF rfl rfl rfl) (ao_nil ?_)
         exact ⟨rfl, (x22.2 != 0), h, ⟨(.cons .same (.cons .same .nil)), (sC rfl (sC rfl (sC rfl (sC rfl sub_nil))))⟩⟩
      ·intro hc20; replace h := ocond_f hc20 h
       refine bw_exit ?_
       exact ⟨rfl, (), h, ⟨.nil, sub_nil⟩⟩
    ·intro hc18; replace h := ocond_f hc18 h
     refine bw_skip ?_
     exact ⟨rfl, (), h, ⟨.nil, sub_nil⟩⟩
end Go.Proofs.Ytiapdjdhaclmnaa
