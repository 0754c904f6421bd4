/- Pure functions, and that calls answer as they say. Written by gen.py. -/
import Derived.Test.YtigadhiciinicaaG5
namespace Go.Proofs.Ytigadhiciinicaa
open Go Aw
set_option linter.unusedVariables false
set_option linter.unusedSimpArgs false
set_option maxRecDepth 20000
set_option maxHeartbeats 2000000
noncomputable def mk_Dict_l1b (r_mk_Built : Term → Option V) (a0 : (List (Str × Term))) (g1 : (List (Str × V)) → Nat → Option (List (Str × V))) (s1 : (List (Str × V))) (s2 : Nat) : Option (List (Str × V)) :=
 bif (decide (((s2 : Nat) : Int) < (((a0).length : Nat) : Int))) then (
  Option.bind ((a0)[s2]?) fun x5 =>
  Option.bind ((a0)[s2]?) fun x6 =>
  Option.bind (r_mk_Built (x6.2)) fun x7 =>
  Option.bind (appO 32 s1 ([(x5.1, x7)] : (List (Str × V)))) fun x8 =>
  g1 x8 (s2 + 1)
 ) else (
  some s1
 )
theorem mk_Dict_l1b_cm {ι : Type} {ρ : ι → Type} (r_mk_Built : (∀ i, Option (ρ i)) → Term → Option V) (h_r_mk_Built : ∀ y0, CM (fun G => r_mk_Built G y0)) (g1 : (∀ i, Option (ρ i)) → (List (Str × V)) → Nat → Option (List (Str × V))) (h_g1 : ∀ y0 y1, CM (fun G => g1 G y0 y1)) (a0 : (List (Str × Term))) (s1 : (List (Str × V))) (s2 : Nat) : CM (fun G : (∀ i, Option (ρ i)) => mk_Dict_l1b (r_mk_Built G) a0 (g1 G) s1 s2) := by
 simp only [mk_Dict_l1b]
 repeat (first | exact cm_const | exact h_r_mk_Built _ | exact h_g1 _ _ | refine cm_cond ?_ ?_ | refine cm_bind ?_ (fun _ => ?_))
noncomputable def mk_Dict_l1 (r_mk_Built : Term → Option V) (a0 : (List (Str × Term))) (s1 : (List (Str × V))) (s2 : Nat) : Option (List (Str × V)) :=
 fixO (ι := ((List (Str × V)) × Nat)) (ρ := fun _ => (List (Str × V))) (fun g i => mk_Dict_l1b r_mk_Built a0 (fun s1 s2 => g (s1, s2)) i.1 i.2) (s1, s2)
theorem mk_Dict_l1_eq (r_mk_Built : Term → Option V) (a0 : (List (Str × Term))) (s1 : (List (Str × V))) (s2 : Nat) : mk_Dict_l1 r_mk_Built a0 s1 s2 = mk_Dict_l1b r_mk_Built a0 (mk_Dict_l1 r_mk_Built a0) s1 s2 :=
 fixO_eq (ι := ((List (Str × V)) × Nat)) (ρ := fun _ => (List (Str × V))) (Φ := fun g i => mk_Dict_l1b r_mk_Built a0 (fun s1 s2 => g (s1, s2)) i.1 i.2) (fun i => mk_Dict_l1b_cm (ι := ((List (Str × V)) × Nat)) (ρ := fun _ => (List (Str × V))) (fun _ => r_mk_Built) (fun _ => cm_const) (fun g => (fun s1 s2 => g (s1, s2))) (fun _ _ => cm_app) a0 i.1 i.2) (s1, s2)
theorem mk_Dict_l1_cm {ι : Type} {ρ : ι → Type} (r_mk_Built : (∀ i, Option (ρ i)) → Term → Option V) (h_r_mk_Built : ∀ y0, CM (fun G => r_mk_Built G y0)) (a0 : (List (Str × Term))) (s1 : (List (Str × V))) (s2 : Nat) : CM (fun G : (∀ i, Option (ρ i)) => mk_Dict_l1 (r_mk_Built G) a0 s1 s2) :=
 cm_fix (κ := ((List (Str × V)) × Nat)) (τ := fun _ => (List (Str × V))) (Φ := fun G g i => mk_Dict_l1b (r_mk_Built G) a0 (fun s1 s2 => g (s1, s2)) i.1 i.2) (fun g i => mk_Dict_l1b_cm r_mk_Built h_r_mk_Built (fun _ => (fun s1 s2 => g (s1, s2))) (fun _ _ => cm_const) a0 i.1 i.2) (fun G i => mk_Dict_l1b_cm (ι := ((List (Str × V)) × Nat)) (ρ := fun _ => (List (Str × V))) (fun _ => r_mk_Built G) (fun _ => cm_const) (fun g => (fun s1 s2 => g (s1, s2))) (fun _ _ => cm_app) a0 i.1 i.2) (s1, s2)
noncomputable def b_mk_Dict (r_mk_Dict : (List (Str × Term)) → Option (List (Str × V))) (r_mk_Built : Term → Option V) (a0 : (List (Str × Term))) : Option (List (Str × V)) :=
 mk_Dict_l1 r_mk_Built a0 ([] : (List (Str × V))) 0
theorem b_mk_Dict_cm {ι : Type} {ρ : ι → Type} (r_mk_Dict : (∀ i, Option (ρ i)) → (List (Str × Term)) → Option (List (Str × V))) (h_r_mk_Dict : ∀ y0, CM (fun G => r_mk_Dict G y0)) (r_mk_Built : (∀ i, Option (ρ i)) → Term → Option V) (h_r_mk_Built : ∀ y0, CM (fun G => r_mk_Built G y0)) (a0 : (List (Str × Term))) : CM (fun G : (∀ i, Option (ρ i)) => b_mk_Dict (r_mk_Dict G) (r_mk_Built G) a0) := by
 simp only [b_mk_Dict]
 repeat (first | exact cm_const | exact h_r_mk_Dict _ | exact h_r_mk_Built _ | apply mk_Dict_l1_cm | refine cm_cond ?_ ?_ | refine cm_bind ?_ (fun _ => ?_) | intro _ | assumption)
noncomputable def mk_Built_l1b (r_mk_Built : Term → Option V) (a0 : Term) (g1 : (List V) → Nat → Option V) (s10 : (List V)) (s11 : Nat) : Option V :=
 bif (decide (((s11 : Nat) : Int) < (((a0.list).length : Nat) : Int))) then (
  Option.bind ((a0.list)[s11]?) fun x14 =>
  Option.bind (r_mk_Built x14) fun x15 =>
  Option.bind (appO 16 s10 ([x15] : (List V))) fun x16 =>
  g1 x16 (s11 + 1)
 ) else (
  some (V.list s10)
 )
theorem mk_Built_l1b_cm {ι : Type} {ρ : ι → Type} (r_mk_Built : (∀ i, Option (ρ i)) → Term → Option V) (h_r_mk_Built : ∀ y0, CM (fun G => r_mk_Built G y0)) (g1 : (∀ i, Option (ρ i)) → (List V) → Nat → Option V) (h_g1 : ∀ y0 y1, CM (fun G => g1 G y0 y1)) (a0 : Term) (s10 : (List V)) (s11 : Nat) : CM (fun G : (∀ i, Option (ρ i)) => mk_Built_l1b (r_mk_Built G) a0 (g1 G) s10 s11) := by
 simp only [mk_Built_l1b]
 repeat (first | exact cm_const | exact h_r_mk_Built _ | exact h_g1 _ _ | refine cm_cond ?_ ?_ | refine cm_bind ?_ (fun _ => ?_))
noncomputable def mk_Built_l1 (r_mk_Built : Term → Option V) (a0 : Term) (s10 : (List V)) (s11 : Nat) : Option V :=
 fixO (ι := ((List V) × Nat)) (ρ := fun _ => V) (fun g i => mk_Built_l1b r_mk_Built a0 (fun s10 s11 => g (s10, s11)) i.1 i.2) (s10, s11)
theorem mk_Built_l1_eq (r_mk_Built : Term → Option V) (a0 : Term) (s10 : (List V)) (s11 : Nat) : mk_Built_l1 r_mk_Built a0 s10 s11 = mk_Built_l1b r_mk_Built a0 (mk_Built_l1 r_mk_Built a0) s10 s11 :=
 fixO_eq (ι := ((List V) × Nat)) (ρ := fun _ => V) (Φ := fun g i => mk_Built_l1b r_mk_Built a0 (fun s10 s11 => g (s10, s11)) i.1 i.2) (fun i => mk_Built_l1b_cm (ι := ((List V) × Nat)) (ρ := fun _ => V) (fun _ => r_mk_Built) (fun _ => cm_const) (fun g => (fun s10 s11 => g (s10, s11))) (fun _ _ => cm_app) a0 i.1 i.2) (s10, s11)
theorem mk_Built_l1_cm {ι : Type} {ρ : ι → Type} (r_mk_Built : (∀ i, Option (ρ i)) → Term → Option V) (h_r_mk_Built : ∀ y0, CM (fun G => r_mk_Built G y0)) (a0 : Term) (s10 : (List V)) (s11 : Nat) : CM (fun G : (∀ i, Option (ρ i)) => mk_Built_l1 (r_mk_Built G) a0 s10 s11) :=
 cm_fix (κ := ((List V) × Nat)) (τ := fun _ => V) (Φ := fun G g i => mk_Built_l1b (r_mk_Built G) a0 (fun s10 s11 => g (s10, s11)) i.1 i.2) (fun g i => mk_Built_l1b_cm r_mk_Built h_r_mk_Built (fun _ => (fun s10 s11 => g (s10, s11))) (fun _ _ => cm_const) a0 i.1 i.2) (fun G i => mk_Built_l1b_cm (ι := ((List V) × Nat)) (ρ := fun _ => V) (fun _ => r_mk_Built G) (fun _ => cm_const) (fun g => (fun s10 s11 => g (s10, s11))) (fun _ _ => cm_app) a0 i.1 i.2) (s10, s11)
noncomputable def b_mk_Built (r_mk_Dict : (List (Str × Term)) → Option (List (Str × V))) (r_mk_Built : Term → Option V) (a0 : Term) : Option V :=
 bif (a0.kind == 1) then (
  some V.nil
 ) else (
  bif (a0.kind == 2) then (
   some (V.bool a0.bool)
  ) else (
   bif (a0.kind == 3) then (
    some (V.int a0.int)
   ) else (
    bif (a0.kind == 4) then (
     some (V.float a0.float)
    ) else (
     bif (a0.kind == 5) then (
      some (V.text a0.text)
     ) else (
      bif (a0.kind == 6) then (
       Option.bind (appO 1 ([] : Str) a0.bytes) fun x7 =>
       some (V.bytes x7)
      ) else (
       bif (a0.kind == 7) then (
        some (V.ref a0.ref)
       ) else (
        bif (a0.kind == 8) then (
         mk_Built_l1 r_mk_Built a0 ([] : (List V)) 0
        ) else (
         bif (a0.kind == 9) then (
          Option.bind (r_mk_Dict a0.fields) fun x18 =>
          some (V.dict x18)
         ) else (
          bif (a0.kind == 10) then (
           Option.bind (r_mk_Dict a0.fields) fun x20 =>
           some (V.record a0.cls a0.ver x20)
          ) else (
           bif (a0.kind == 11) then (
            some V.nothing
           ) else (
            Option.bind (p_mk_Alien a0.int) fun x22 =>
            some x22
           )
          )
         )
        )
       )
      )
     )
    )
   )
  )
 )
theorem b_mk_Built_cm {ι : Type} {ρ : ι → Type} (r_mk_Dict : (∀ i, Option (ρ i)) → (List (Str × Term)) → Option (List (Str × V))) (h_r_mk_Dict : ∀ y0, CM (fun G => r_mk_Dict G y0)) (r_mk_Built : (∀ i, Option (ρ i)) → Term → Option V) (h_r_mk_Built : ∀ y0, CM (fun G => r_mk_Built G y0)) (a0 : Term) : CM (fun G : (∀ i, Option (ρ i)) => b_mk_Built (r_mk_Dict G) (r_mk_Built G) a0) := by
 simp only [b_mk_Built]
 repeat (first | exact cm_const | exact h_r_mk_Dict _ | exact h_r_mk_Built _ | apply mk_Built_l1_cm | refine cm_cond ?_ ?_ | refine cm_bind ?_ (fun _ => ?_) | intro _ | assumption)
inductive C_mk_Dict where
 | k_mk_Dict (a0 : (List (Str × Term)))
 | k_mk_Built (a0 : Term)
def C_mk_Dict.R : C_mk_Dict → Type
 | .k_mk_Dict _ => (List (Str × V))
 | .k_mk_Built _ => V
noncomputable def C_mk_Dict.F (g : ∀ i : C_mk_Dict, Option i.R) : ∀ i : C_mk_Dict, Option i.R
 | .k_mk_Dict a0 => b_mk_Dict (fun a0 => g (.k_mk_Dict a0)) (fun a0 => g (.k_mk_Built a0)) a0
 | .k_mk_Built a0 => b_mk_Built (fun a0 => g (.k_mk_Dict a0)) (fun a0 => g (.k_mk_Built a0)) a0
noncomputable def p_mk_Dict (a0 : (List (Str × Term))) : Option (List (Str × V)) := fixO C_mk_Dict.F (.k_mk_Dict a0)
noncomputable def p_mk_Built (a0 : Term) : Option V := fixO C_mk_Dict.F (.k_mk_Built a0)
theorem C_mk_Dict.cm (i : C_mk_Dict) : CM (fun g : (∀ i : C_mk_Dict, Option i.R) => C_mk_Dict.F g i) := by
 cases i with
 | k_mk_Dict a0 => exact b_mk_Dict_cm (fun (g : ∀ i : C_mk_Dict, Option i.R) a0 => g (.k_mk_Dict a0)) (fun a0 => cm_app (i := C_mk_Dict.k_mk_Dict a0)) (fun (g : ∀ i : C_mk_Dict, Option i.R) a0 => g (.k_mk_Built a0)) (fun a0 => cm_app (i := C_mk_Dict.k_mk_Built a0)) a0
 | k_mk_Built a0 => exact b_mk_Built_cm (fun (g : ∀ i : C_mk_Dict, Option i.R) a0 => g (.k_mk_Dict a0)) (fun a0 => cm_app (i := C_mk_Dict.k_mk_Dict a0)) (fun (g : ∀ i : C_mk_Dict, Option i.R) a0 => g (.k_mk_Built a0)) (fun a0 => cm_app (i := C_mk_Dict.k_mk_Built a0)) a0
theorem e_mk_Dict (a0 : (List (Str × Term))) : p_mk_Dict a0 = b_mk_Dict p_mk_Dict p_mk_Built a0 := fixO_eq C_mk_Dict.cm (.k_mk_Dict a0)
theorem e_mk_Built (a0 : Term) : p_mk_Built a0 = b_mk_Built p_mk_Dict p_mk_Built a0 := fixO_eq C_mk_Dict.cm (.k_mk_Built a0)
def C_mk_Dict.Q : ∀ i : C_mk_Dict, i.R → Prop
 | .k_mk_Dict a0 => fun (r : (List (Str × V))) => PCalls Try.prog 27 [(PV.sl none 12 (List.map ofEntry a0))] (PV.sl none 2 (List.map ofFld r))
 | .k_mk_Built a0 => fun (r : V) => PCalls Try.prog 10 [(ofTermX a0)] (ofV r)
theorem t_mk_Dict (r_mk_Dict : (List (Str × Term)) → Option (List (Str × V))) (c_mk_Dict : ∀ (a0 : (List (Str × Term))) r, r_mk_Dict a0 = some r → PCalls Try.prog 27 [(PV.sl none 12 (List.map ofEntry a0))] (PV.sl none 2 (List.map ofFld r))) (r_mk_Built : Term → Option V) (c_mk_Built : ∀ (a0 : Term) r, r_mk_Built a0 = some r → PCalls Try.prog 10 [(ofTermX a0)] (ofV r)) (a0 : (List (Str × Term))) (r : (List (Str × V))) (h : b_mk_Dict r_mk_Dict r_mk_Built a0 = some r) : PCalls Try.prog 27 [(PV.sl none 12 (List.map ofEntry a0))] (PV.sl none 2 (List.map ofFld r)) := by
 unfold b_mk_Dict at h
 refine acalls_of Try.func27 rfl Try.ntmps27 Try.results27 rfl (aw_of_bw ?_)
 change BW _ _ _ ⟨[(0, (PV.sl none 12 (List.map ofEntry a0)))], [], _⟩ _
 refine bR ?_
 refine sA rfl rfl rfl rfl rfl (ao_nil ?_)
 change BW _ _ _ _ _
 refine bR ?_
 refine sS rfl rfl rfl ((op1_bslice (xs := []) Try.underlying63 inf_88 rfl rfl rfl rfl rfl rfl ⟨Nat.le_of_ble_eq_true rfl, Nat.le_of_ble_eq_true rfl⟩ rfl).cast (y := (PV.sl (some 0) 2 (List.map ofFld ([] : (List (Str × V)))))) rfl rfl) ?_
 refine sA rfl rfl rfl rfl rfl (ao_nil ?_)
 change BW _ _ _ _ _
 refine bw_seq ?_
 refine bR ?_
 refine sA rfl rfl rfl rfl rfl (ao_nil ?_)
 change BW _ _ _ _ _
 refine bw_block ?_
 change BW _ _ _ _ _
 unfold mk_Dict_l1 at h
 refine bw_loop (σ := ((List (Str × V)) × Nat)) (fun i => [(0, (PV.sl none 12 (List.map ofEntry a0))), (3, (PV.sl (some 0) 2 (List.map ofFld i.1))), (4, (I64 (((i.2 : Nat) : Int))))]) (fun i => [.arr 88 (i.1).length]) (([] : (List (Str × V))), 0) h ?_ ?_ ?_
 ·intro i; exact ⟨Nat.le_of_ble_eq_true rfl, ⟨(il_nil (ids_slM ids_Entry _)), ⟨(il_tok rfl (ids_map ids_Fld _)), ⟨(il_nil rfl), trivial⟩⟩⟩, trivial⟩
 ·exact ⟨(.cons .same .nil), (sC rfl (sC rfl (sC rfl sub_nil)))⟩
 ·rintro g1_f ⟨s1, s2⟩ h; replace h : mk_Dict_l1b r_mk_Built a0 (fun y0 y1 => g1_f (y0, y1)) s1 s2 = some r := h; unfold mk_Dict_l1b at h
  change BW _ _ _ ⟨[(0, (PV.sl none 12 (List.map ofEntry a0))), (3, (PV.sl (some 0) 2 (List.map ofFld s1))), (4, (I64 (((s2 : Nat) : Int))))], [.arr 88 (s1).length], _⟩ _
  refine bw_seq ?_
  refine bR ?_
  refine sM rfl rfl rfl rfl rfl ?_
  refine sM rfl rfl rfl rfl rfl ?_
  refine sS rfl rfl rfl (op1_lenM Try.underlying27 rfl rfl) ?_
  refine sS rfl rfl rfl ((op1_cmp rfl rfl rfl rfl).cast (y := (BO ((decide (((s2 : Nat) : Int) < (((a0).length : Nat) : Int)))))) rfl rfl) (ao_nil ?_)
  change BW _ _ _ _ _
  refine bw_len (t := 7) rfl fun hb4 => ?_
  try rw [List.length_map] at hb4
  refine bw_cond rfl ?_ ?_
  ·intro hc3; replace h := ocond_t hc3 h
   have hc3_ := of_decide_eq_true hc3
   refine bw_skip ?_
   change BW _ _ _ _ _
   refine bw_seq ?_
   refine bw_block ?_
   change BW _ _ _ _ _
   refine bw_tail 14 [13] [] mo (by kernel_rfl) ?_
   refine ac_go rfl rfl rfl rfl (fun H hp => op1_move rfl rfl) ?_
   refine ac_go rfl rfl rfl rfl (fun H hp => op1_move rfl rfl) ?_
   refine ac_go rfl rfl rfl rfl (fun H hp => op1_move rfl rfl) ?_
   obtain ⟨x5, hx5, h⟩ := obind h
   refine ac_go rfl rfl rfl rfl (fun H hp => op1_idxN (i := s2) Try.underlying27 inf_86 rfl rfl rfl hx5 (ofEntry_eq _)) ?_
   refine ac_go rfl rfl rfl rfl (fun H hp => op1_faP st_86 (i := 0) rfl rfl rfl) ?_
   refine ac_go rfl rfl rfl rfl (fun H hp => op1_ldP (y := (ofStr x5.1)) Try.underlying9 rfl rfl rfl rfl) ?_
   refine ac_go rfl rfl rfl rfl (fun H hp => op1_move rfl rfl) ?_
   refine ac_go rfl rfl rfl rfl (fun H hp => op1_move rfl rfl) ?_
   obtain ⟨x6, hx6, h⟩ := obind h
   refine ac_go rfl rfl rfl rfl (fun H hp => op1_idxN (i := s2) Try.underlying27 inf_86 rfl rfl rfl hx6 (ofEntry_eq _)) ?_
   refine ac_go rfl rfl rfl rfl (fun H hp => op1_faP st_86 (i := 1) rfl rfl rfl) ?_
   refine ac_go rfl rfl rfl rfl (fun H hp => (op1_ldPA inf_29 Try.underlying29 rfl rfl rfl rfl rfl)) ?_
   obtain ⟨x7, hx7, h⟩ := obind h
   refine ac_go rfl rfl rfl rfl (fun H hp => op1_pcall rfl en_10 rfl (.cons (Wk.refl _) .nil) ⟨(ids_TermX (x6.2)), trivial⟩ (c_mk_Built (x6.2) x7 hx7) (ids_V x7)) ?_
   refine ac_go rfl rfl rfl rfl (fun H hp => op1_build (cs := [(ofStr x5.1), (ofV x7)]) st_88 inf_88 rfl rfl (by simp only [List.all_cons, List.all_nil, cok_V, cok_RecP, Bool.and_true, Bool.true_and]; try rfl) (by simp only [afill, List.getElem?_cons_zero, List.getElem?_cons_succ, cells_V, cells_RecP]; rfl)) ?_
   refine ac_lgo rfl rfl rfl rfl ((op1_bslice (xs := [(PV.agg [(ofStr x5.1), (ofV x7)])]) Try.underlying63 inf_88 rfl rfl rfl (by simp only [List.all_cons, List.all_nil, cok_V, cok_RecP, Bool.and_true, Bool.true_and]; try rfl) (by simp only [List.all_cons, List.all_nil, csz_V, csz_RecP, cells_V, cells_RecP]; try rfl) rfl ⟨Nat.le_of_ble_eq_true rfl, Nat.le_of_ble_eq_true rfl⟩ (by simp only [zipN, afill, List.flatMap_cons, List.flatMap_nil, cells_V, cells_RecP]; try rfl)).cast (y := (PV.sl (some 1) 2 (List.map ofFld ([(x5.1, x7)] : (List (Str × V)))))) rfl rfl) trivial ?_
   refine ac_nil ?_
   change AO _ _ _ _ _
   obtain ⟨x8, hx8, h⟩ := obind h
   refine sS rfl rfl rfl (op1_appM Try.underlying63 inf_88 rfl Try.underlying63 rfl rfl rfl rfl csz_Fld call1_Fld hx8 rfl) ?_
   refine sA rfl rfl rfl rfl rfl (ao_nil ?_)
   change BW _ _ _ _ _
   refine bw_region ?_
   refine sM rfl rfl rfl rfl rfl ?_
   refine sS rfl rfl rfl (op1_incN (k := s2) (c := 1) rfl rfl rfl (by omega)) ?_
   refine sA rfl rfl rfl rfl rfl (ao_nil ?_)
   exact ⟨rfl, (x8, (s2 + 1)), h, ⟨(.cons .same .nil), (sC rfl (sC rfl (sC rfl sub_nil)))⟩⟩
  ·intro hc3; replace h := ocond_f hc3 h
   refine bw_exit ?_
   change BW _ _ _ _ _
   refine bR ?_
   refine sM rfl rfl rfl rfl rfl ?_
   refine sA rfl rfl rfl rfl rfl (ao_nil ?_)
   change BW _ _ _ _ _
   refine bw_ret ?_
   change ∃ xs, _ = some xs ∧ EndOk _ _ _ _
   obtain rfl := Option.some.inj h
   exact ⟨_, rfl, endOk0 (y := (PV.sl none 2 (List.map ofFld s1))) Wk.tok (ids_slM ids_Fld s1) ⟨rfl, rfl⟩⟩
theorem t_mk_Built (r_mk_Dict : (List (Str × Term)) → Option (List (Str × V))) (c_mk_Dict : ∀ (a0 : (List (Str × Term))) r, r_mk_Dict a0 = some r → PCalls Try.prog 27 [(PV.sl none 12 (List.map ofEntry a0))] (PV.sl none 2 (List.map ofFld r))) (r_mk_Built : Term → Option V) (c_mk_Built : ∀ (a0 : Term) r, r_mk_Built a0 = some r → PCalls Try.prog 10 [(ofTermX a0)] (ofV r)) (a0 : Term) (r : V) (h : b_mk_Built r_mk_Dict r_mk_Built a0 = some r) : PCalls Try.prog 10 [(ofTermX a0)] (ofV r) := by
 unfold b_mk_Built at h
 refine acalls_of Try.func10 rfl Try.ntmps10 Try.results10 rfl (aw_of_bw ?_)
 change BW _ _ _ ⟨[(0, (ofTermX a0))], [], _⟩ _
 refine bR ?_
 refine sS rfl rfl rfl (op1_box rfl rfl rfl) ?_
 refine sA rfl rfl rfl rfl rfl (ao_nil ?_)
 change BW _ _ _ _ _
 refine bw_seq ?_
 refine bR ?_
 refine sS rfl rfl rfl (op1_faR st_29 (i := 0) rfl rfl rfl) ?_
 refine sS rfl rfl rfl ((op1_ldR Try.underlying3 rfl rfl rfl rfl rfl)) (ao_nil ?_)
 change BW _ _ _ _ _
 refine bw_block ?_
 change BW _ _ _ _ _
 refine bR ?_
 refine sS rfl rfl rfl ((op1_cmp rfl rfl rfl rfl).cast (y := (BO ((a0.kind == 1)))) rfl rfl) ?_
 refine sA rfl rfl rfl rfl rfl (ao_nil ?_)
 change BW _ _ _ _ _
 refine bw_cond rfl ?_ ?_
 ·intro hc1; replace h := ocond_t hc1 h
  refine bR ?_
  refine sA rfl rfl rfl rfl rfl (ao_nil ?_)
  change BW _ _ _ _ _
  refine bw_ret ?_
  change ∃ xs, _ = some xs ∧ EndOk _ _ _ _
  obtain rfl := Option.some.inj h
  exact ⟨_, rfl, endOk0 (y := (ofV V.nil)) (Wk.eq mk_nil.symm) (ids_V V.nil) ⟨rfl, rfl⟩⟩
 ·intro hc1; replace h := ocond_f hc1 h
  refine bR ?_
  refine sS rfl rfl rfl ((op1_cmp rfl rfl rfl rfl).cast (y := (BO ((a0.kind == 2)))) rfl rfl) ?_
  refine sA rfl rfl rfl rfl rfl (ao_nil ?_)
  change BW _ _ _ _ _
  refine bw_cond rfl ?_ ?_
  ·intro hc2; replace h := ocond_t hc2 h
   refine bR ?_
   refine sS rfl rfl rfl (op1_faR st_29 (i := 1) rfl rfl rfl) ?_
   refine sS rfl rfl rfl ((op1_ldR Try.underlying4 rfl rfl rfl rfl rfl)) ?_
   refine sS rfl rfl rfl ((op1_mkI Try.underlying4 rfl rfl rfl).wk ((Wk.iface (Wk.refl _)).trans (Wk.eq (mk_bool _).symm))) ?_
   refine sA rfl rfl rfl rfl rfl (ao_nil ?_)
   change BW _ _ _ _ _
   refine bw_ret ?_
   change ∃ xs, _ = some xs ∧ EndOk _ _ _ _
   obtain rfl := Option.some.inj h
   exact ⟨_, rfl, endOk0 (y := (ofV (V.bool a0.bool))) (Wk.refl _) (ids_V (V.bool a0.bool)) ⟨rfl, rfl⟩⟩
  ·intro hc2; replace h := ocond_f hc2 h
   refine bR ?_
   refine sS rfl rfl rfl ((op1_cmp rfl rfl rfl rfl).cast (y := (BO ((a0.kind == 3)))) rfl rfl) ?_
   refine sA rfl rfl rfl rfl rfl (ao_nil ?_)
   change BW _ _ _ _ _
   refine bw_cond rfl ?_ ?_
   ·intro hc3; replace h := ocond_t hc3 h
    refine bR ?_
    refine sS rfl rfl rfl (op1_faR st_29 (i := 2) rfl rfl rfl) ?_
    refine sS rfl rfl rfl ((op1_ldR Try.underlying2 rfl rfl rfl rfl rfl)) ?_
    refine sS rfl rfl rfl ((op1_mkI Try.underlying2 rfl rfl rfl).wk ((Wk.iface (Wk.refl _)).trans (Wk.eq (mk_int _).symm))) ?_
    refine sA rfl rfl rfl rfl rfl (ao_nil ?_)
    change BW _ _ _ _ _
    refine bw_ret ?_
    change ∃ xs, _ = some xs ∧ EndOk _ _ _ _
    obtain rfl := Option.some.inj h
    exact ⟨_, rfl, endOk0 (y := (ofV (V.int a0.int))) (Wk.refl _) (ids_V (V.int a0.int)) ⟨rfl, rfl⟩⟩
   ·intro hc3; replace h := ocond_f hc3 h
    refine bR ?_
    refine sS rfl rfl rfl ((op1_cmp rfl rfl rfl rfl).cast (y := (BO ((a0.kind == 4)))) rfl rfl) ?_
    refine sA rfl rfl rfl rfl rfl (ao_nil ?_)
    change BW _ _ _ _ _
    refine bw_cond rfl ?_ ?_
    ·intro hc4; replace h := ocond_t hc4 h
     refine bR ?_
     refine sS rfl rfl rfl (op1_faR st_29 (i := 3) rfl rfl rfl) ?_
     refine sS rfl rfl rfl ((op1_ldR Try.underlying22 rfl rfl rfl rfl rfl)) ?_
     refine sS rfl rfl rfl ((op1_mkI Try.underlying22 rfl rfl rfl).wk ((Wk.iface (Wk.refl _)).trans (Wk.eq (mk_float _).symm))) ?_
     refine sA rfl rfl rfl rfl rfl (ao_nil ?_)
     change BW _ _ _ _ _
     refine bw_ret ?_
     change ∃ xs, _ = some xs ∧ EndOk _ _ _ _
     obtain rfl := Option.some.inj h
     exact ⟨_, rfl, endOk0 (y := (ofV (V.float a0.float))) (Wk.refl _) (ids_V (V.float a0.float)) ⟨rfl, rfl⟩⟩
    ·intro hc4; replace h := ocond_f hc4 h
     refine bR ?_
     refine sS rfl rfl rfl ((op1_cmp rfl rfl rfl rfl).cast (y := (BO ((a0.kind == 5)))) rfl rfl) ?_
     refine sA rfl rfl rfl rfl rfl (ao_nil ?_)
     change BW _ _ _ _ _
     refine bw_cond rfl ?_ ?_
     ·intro hc5; replace h := ocond_t hc5 h
      refine bR ?_
      refine sS rfl rfl rfl (op1_faR st_29 (i := 4) rfl rfl rfl) ?_
      refine sS rfl rfl rfl ((op1_ldR Try.underlying9 rfl rfl rfl rfl rfl)) ?_
      refine sS rfl rfl rfl ((op1_mkI Try.underlying9 rfl rfl rfl).wk ((Wk.iface (Wk.refl _)).trans (Wk.eq (mk_text _).symm))) ?_
      refine sA rfl rfl rfl rfl rfl (ao_nil ?_)
      change BW _ _ _ _ _
      refine bw_ret ?_
      change ∃ xs, _ = some xs ∧ EndOk _ _ _ _
      obtain rfl := Option.some.inj h
      exact ⟨_, rfl, endOk0 (y := (ofV (V.text a0.text))) (Wk.refl _) (ids_V (V.text a0.text)) ⟨rfl, rfl⟩⟩
     ·intro hc5; replace h := ocond_f hc5 h
      refine bR ?_
      refine sS rfl rfl rfl ((op1_cmp rfl rfl rfl rfl).cast (y := (BO ((a0.kind == 6)))) rfl rfl) ?_
      refine sA rfl rfl rfl rfl rfl (ao_nil ?_)
      change BW _ _ _ _ _
      refine bw_cond rfl ?_ ?_
      ·intro hc6; replace h := ocond_t hc6 h
       refine bR ?_
       refine sS rfl rfl rfl ((op1_bslice (xs := []) Try.underlying23 inf_5 rfl rfl rfl rfl rfl rfl ⟨Nat.le_of_ble_eq_true rfl, Nat.le_of_ble_eq_true rfl⟩ rfl).cast (y := (PV.sl (some 1) 1 (List.map ofB ([] : Str)))) rfl rfl) ?_
       refine sS rfl rfl rfl (op1_faR st_29 (i := 5) rfl rfl rfl) ?_
       refine sS rfl rfl rfl ((op1_ldR Try.underlying23 rfl rfl rfl rfl rfl)) ?_
       obtain ⟨x7, hx7, h⟩ := obind h
       refine sS rfl rfl rfl (op1_appM Try.underlying23 inf_5 rfl Try.underlying23 rfl rfl rfl rfl (fun _ => rfl) (fun _ => rfl) hx7 rfl) ?_
       refine sS rfl rfl rfl ((op1_mkI Try.underlying23 rfl rfl rfl).wk ((Wk.iface Wk.tok).trans (Wk.eq (mk_bytes _).symm))) ?_
       refine sA rfl rfl rfl rfl rfl (ao_nil ?_)
       change BW _ _ _ _ _
       refine bw_ret ?_
       change ∃ xs, _ = some xs ∧ EndOk _ _ _ _
       obtain rfl := Option.some.inj h
       exact ⟨_, rfl, endOk0 (y := (ofV (V.bytes x7))) (Wk.refl _) (ids_V (V.bytes x7)) ⟨rfl, rfl⟩⟩
      ·intro hc6; replace h := ocond_f hc6 h
       refine bR ?_
       refine sS rfl rfl rfl ((op1_cmp rfl rfl rfl rfl).cast (y := (BO ((a0.kind == 7)))) rfl rfl) ?_
       refine sA rfl rfl rfl rfl rfl (ao_nil ?_)
       change BW _ _ _ _ _
       refine bw_cond rfl ?_ ?_
       ·intro hc8; replace h := ocond_t hc8 h
        refine bR ?_
        refine sS rfl rfl rfl (op1_faR st_29 (i := 6) rfl rfl rfl) ?_
        refine sS rfl rfl rfl ((op1_ldR Try.underlying25 rfl rfl rfl rfl rfl)) ?_
        refine sS rfl rfl rfl ((op1_mkI Try.underlying25 rfl rfl rfl).wk ((Wk.iface (Wk.refl _)).trans (Wk.eq (mk_ref _).symm))) ?_
        refine sA rfl rfl rfl rfl rfl (ao_nil ?_)
        change BW _ _ _ _ _
        refine bw_ret ?_
        change ∃ xs, _ = some xs ∧ EndOk _ _ _ _
        obtain rfl := Option.some.inj h
        exact ⟨_, rfl, endOk0 (y := (ofV (V.ref a0.ref))) (Wk.refl _) (ids_V (V.ref a0.ref)) ⟨rfl, rfl⟩⟩
       ·intro hc8; replace h := ocond_f hc8 h
        refine bR ?_
        refine sS rfl rfl rfl ((op1_cmp rfl rfl rfl rfl).cast (y := (BO ((a0.kind == 8)))) rfl rfl) ?_
        refine sA rfl rfl rfl rfl rfl (ao_nil ?_)
        change BW _ _ _ _ _
        refine bw_cond rfl ?_ ?_
        ·intro hc9; replace h := ocond_t hc9 h
         refine bR ?_
         refine sS rfl rfl rfl ((op1_bslice (xs := []) Try.underlying61 inf_20 rfl rfl rfl rfl rfl rfl ⟨Nat.le_of_ble_eq_true rfl, Nat.le_of_ble_eq_true rfl⟩ rfl).cast (y := (PV.sl (some 1) 1 (List.map ofV ([] : (List V))))) rfl rfl) ?_
         refine sA rfl rfl rfl rfl rfl (ao_nil ?_)
         change BW _ _ _ _ _
         refine bw_seq ?_
         refine bR ?_
         refine sA rfl rfl rfl rfl rfl (ao_nil ?_)
         change BW _ _ _ _ _
         refine bw_block ?_
         change BW _ _ _ _ _
         unfold mk_Built_l1 at h
         refine bw_loop (σ := ((List V) × Nat)) (fun i => [(1, (PV.rf 0 0)), (3, (PV.sl (some 1) 1 (List.map ofV i.1))), (4, (I64 (((i.2 : Nat) : Int))))]) (fun i => [.box 29 [(I64 a0.kind), (BO a0.bool), (I64 a0.int), (PV.v (.float .f64 a0.float)), (ofStr a0.text), (PV.sl none 1 (List.map ofB a0.bytes)), (PV.v (.int .u64 a0.ref)), (PV.sl none 11 (List.map ofTerm a0.list)), (PV.sl none 12 (List.map ofEntry a0.fields)), (ofStr a0.cls), (I64 a0.ver)], .arr 20 (i.1).length]) (([] : (List V)), 0) h ?_ ?_ ?_
         ·intro i; exact ⟨Nat.le_of_ble_eq_true rfl, ⟨(il_rf rfl), ⟨(il_tok rfl (ids_map ids_V _)), ⟨(il_nil rfl), trivial⟩⟩⟩, ⟨⟨(il_nil rfl), ⟨(il_nil rfl), ⟨(il_nil rfl), ⟨(il_nil rfl), ⟨(il_nil rfl), ⟨(il_nil (ids_slM (fun _ => rfl) _)), ⟨(il_nil rfl), ⟨(il_nil (ids_slM ids_Term _)), ⟨(il_nil (ids_slM ids_Entry _)), ⟨(il_nil rfl), ⟨(il_nil rfl), trivial⟩⟩⟩⟩⟩⟩⟩⟩⟩⟩⟩, trivial⟩⟩
         ·exact ⟨(.cons .same (.cons .same .nil)), (sC rfl (sC rfl (sC rfl sub_nil)))⟩
         ·rintro g1_f ⟨s10, s11⟩ h; replace h : mk_Built_l1b r_mk_Built a0 (fun y0 y1 => g1_f (y0, y1)) s10 s11 = some r := h; unfold mk_Built_l1b at h
          change BW _ _ _ ⟨[(1, (PV.rf 0 0)), (3, (PV.sl (some 1) 1 (List.map ofV s10))), (4, (I64 (((s11 : Nat) : Int))))], [.box 29 [(I64 a0.kind), (BO a0.bool), (I64 a0.int), (PV.v (.float .f64 a0.float)), (ofStr a0.text), (PV.sl none 1 (List.map ofB a0.bytes)), (PV.v (.int .u64 a0.ref)), (PV.sl none 11 (List.map ofTerm a0.list)), (PV.sl none 12 (List.map ofEntry a0.fields)), (ofStr a0.cls), (I64 a0.ver)], .arr 20 (s10).length], _⟩ _
          refine bw_seq ?_
          refine bR ?_
          refine sM rfl rfl rfl rfl rfl ?_
          refine sS rfl rfl rfl (op1_faR st_29 (i := 7) rfl rfl rfl) ?_
          refine sS rfl rfl rfl ((op1_ldR Try.underlying26 rfl rfl rfl rfl rfl)) ?_
          refine sS rfl rfl rfl (op1_lenM Try.underlying26 rfl rfl) ?_
          refine sS rfl rfl rfl ((op1_cmp rfl rfl rfl rfl).cast (y := (BO ((decide (((s11 : Nat) : Int) < (((a0.list).length : Nat) : Int)))))) rfl rfl) (ao_nil ?_)
          change BW _ _ _ _ _
          refine bw_len (t := 47) rfl fun hb13 => ?_
          try rw [List.length_map] at hb13
          refine bw_cond rfl ?_ ?_
          ·intro hc12; replace h := ocond_t hc12 h
           have hc12_ := of_decide_eq_true hc12
           refine bw_skip ?_
           change BW _ _ _ _ _
           refine bw_seq ?_
           refine bw_block ?_
           change BW _ _ _ _ _
           refine bw_region ?_
           refine sM rfl rfl rfl rfl rfl ?_
           refine sS rfl rfl rfl (op1_faR st_29 (i := 7) rfl rfl rfl) ?_
           refine sS rfl rfl rfl ((op1_ldR Try.underlying26 rfl rfl rfl rfl rfl)) ?_
           refine sM rfl rfl rfl rfl rfl ?_
           obtain ⟨x14, hx14, h⟩ := obind h
           refine sS rfl rfl rfl (op1_idxN (i := s11) Try.underlying26 inf_29 rfl rfl rfl hx14 (ofTerm_eq _)) ?_
           refine sS rfl rfl rfl (op1_ldPW inf_29 Try.underlying29 rfl rfl rfl rfl rfl) ?_
           obtain ⟨x15, hx15, h⟩ := obind h
           refine sS rfl rfl rfl (op1_pcall rfl en_10 rfl (.cons (Wk.refl _) .nil) ⟨(ids_TermX x14), trivial⟩ (c_mk_Built x14 x15 hx15) (ids_V x15)) ?_
           refine sS rfl rfl rfl ((op1_bslice (xs := [(ofV x15)]) Try.underlying61 inf_20 rfl rfl rfl (by simp only [List.all_cons, List.all_nil, cok_V, cok_RecP, Bool.and_true, Bool.true_and]; try rfl) (by simp only [List.all_cons, List.all_nil, csz_V, csz_RecP, cells_V, cells_RecP]; try rfl) rfl ⟨Nat.le_of_ble_eq_true rfl, Nat.le_of_ble_eq_true rfl⟩ (by simp only [zipN, afill, List.flatMap_cons, List.flatMap_nil, cells_V, cells_RecP]; try rfl)).cast (y := (PV.sl (some 2) 1 (List.map ofV ([x15] : (List V))))) rfl rfl) ?_
           obtain ⟨x16, hx16, h⟩ := obind h
           refine sS rfl rfl rfl (op1_appM Try.underlying61 inf_20 rfl Try.underlying61 rfl rfl rfl rfl csz_V call1_V hx16 rfl) ?_
           refine sA rfl rfl rfl rfl rfl (ao_nil ?_)
           change BW _ _ _ _ _
           refine bw_region ?_
           refine sM rfl rfl rfl rfl rfl ?_
           refine sS rfl rfl rfl (op1_incN (k := s11) (c := 1) rfl rfl rfl (by omega)) ?_
           refine sA rfl rfl rfl rfl rfl (ao_nil ?_)
           exact ⟨rfl, (x16, (s11 + 1)), h, ⟨(.cons .same (.cons .same .nil)), (sC rfl (sC rfl (sC rfl sub_nil)))⟩⟩
          ·intro hc12; replace h := ocond_f hc12 h
           refine bw_exit ?_
           change BW _ _ _ _ _
           refine bR ?_
           refine sM rfl rfl rfl rfl rfl ?_
           refine sS rfl rfl rfl ((op1_mkI Try.underlying61 rfl rfl rfl).wk ((Wk.iface Wk.tok).trans (Wk.eq (mk_list _).symm))) ?_
           refine sA rfl rfl rfl rfl rfl (ao_nil ?_)
           change BW _ _ _ _ _
           refine bw_ret ?_
           change ∃ xs, _ = some xs ∧ EndOk _ _ _ _
           obtain rfl := Option.some.inj h
           exact ⟨_, rfl, endOk0 (y := (ofV (V.list s10))) (Wk.refl _) (ids_V (V.list s10)) ⟨rfl, rfl⟩⟩
        ·intro hc9; replace h := ocond_f hc9 h
         refine bR ?_
         refine sS rfl rfl rfl ((op1_cmp rfl rfl rfl rfl).cast (y := (BO ((a0.kind == 9)))) rfl rfl) ?_
         refine sA rfl rfl rfl rfl rfl (ao_nil ?_)
         change BW _ _ _ _ _
         refine bw_cond rfl ?_ ?_
         ·intro hc17; replace h := ocond_t hc17 h
          refine bR ?_
          refine sS rfl rfl rfl (op1_faR st_29 (i := 8) rfl rfl rfl) ?_
          refine sS rfl rfl rfl ((op1_ldR Try.underlying27 rfl rfl rfl rfl rfl)) ?_
          obtain ⟨x18, hx18, h⟩ := obind h
          refine sS rfl rfl rfl (op1_pcall rfl en_27 rfl (.cons (Wk.refl _) .nil) ⟨(ids_slM ids_Entry a0.fields), trivial⟩ (c_mk_Dict a0.fields x18 hx18) (ids_slM ids_Fld x18)) ?_
          refine sS rfl rfl rfl ((op1_mkI Try.underlying63 rfl rfl rfl).wk ((Wk.iface (Wk.refl _)).trans (Wk.eq (mk_dict _).symm))) ?_
          refine sA rfl rfl rfl rfl rfl (ao_nil ?_)
          change BW _ _ _ _ _
          refine bw_ret ?_
          change ∃ xs, _ = some xs ∧ EndOk _ _ _ _
          obtain rfl := Option.some.inj h
          exact ⟨_, rfl, endOk0 (y := (ofV (V.dict x18))) (Wk.refl _) (ids_V (V.dict x18)) ⟨rfl, rfl⟩⟩
         ·intro hc17; replace h := ocond_f hc17 h
          refine bR ?_
          refine sS rfl rfl rfl ((op1_cmp rfl rfl rfl rfl).cast (y := (BO ((a0.kind == 10)))) rfl rfl) ?_
          refine sA rfl rfl rfl rfl rfl (ao_nil ?_)
          change BW _ _ _ _ _
          refine bw_cond rfl ?_ ?_
          ·intro hc19; replace h := ocond_t hc19 h
           refine bw_seq (bw_tail 7 [] [0] mo (by kernel_rfl) ?_)
           refine ac_go rfl rfl rfl rfl (fun H hp => op1_faR st_29 (i := 9) rfl rfl rfl) ?_
           refine ac_go rfl rfl rfl rfl (fun H hp => (op1_ldR Try.underlying9 rfl rfl rfl (hp.at rfl rfl) rfl)) ?_
           refine ac_go rfl rfl rfl rfl (fun H hp => op1_faR st_29 (i := 10) rfl rfl rfl) ?_
           refine ac_go rfl rfl rfl rfl (fun H hp => (op1_ldR Try.underlying3 rfl rfl rfl (hp.at rfl rfl) rfl)) ?_
           refine ac_go rfl rfl rfl rfl (fun H hp => op1_faR st_29 (i := 8) rfl rfl rfl) ?_
           refine ac_go rfl rfl rfl rfl (fun H hp => (op1_ldR Try.underlying27 rfl rfl rfl (hp.at rfl rfl) rfl)) ?_
           obtain ⟨x20, hx20, h⟩ := obind h
           refine ac_go rfl rfl rfl rfl (fun H hp => op1_pcall rfl en_27 rfl (.cons (Wk.refl _) .nil) ⟨(ids_slM ids_Entry a0.fields), trivial⟩ (c_mk_Dict a0.fields x20 hx20) (ids_slM ids_Fld x20)) ?_
           refine ac_nil ?_
           change AO _ _ _ _ _
           refine sS rfl rfl rfl (op1_build (cs := [(ofStr a0.cls), (I64 a0.ver), (PV.sl none 2 (List.map ofFld x20))]) st_67 inf_67 rfl rfl rfl rfl) ?_
           refine sS rfl rfl rfl (op1_box rfl rfl rfl) ?_
           refine sS rfl rfl rfl (op1_mkI Try.underlying65 rfl rfl rfl) ?_
           refine sA rfl rfl rfl rfl rfl (ao_nil ?_)
           change BW _ _ _ _ _
           refine bw_thaw 1 2 (y := (ofV (V.record a0.cls a0.ver x20))) rfl rfl ((Wk.iface (Wk.pt (x := .agg [(ofStr a0.cls), (I64 a0.ver), (PV.sl none 2 (List.map ofFld x20))]) (y := ofRec (Rec.mk a0.cls a0.ver x20)) (.cons (Wk.refl _) (.cons (Wk.refl _) (.cons (Wk.refl _) .nil))))).trans (Wk.eq (mk_rec (some (Rec.mk a0.cls a0.ver x20))).symm)) ?_
           refine bw_ret ?_
           change ∃ xs, _ = some xs ∧ EndOk _ _ _ _
           obtain rfl := Option.some.inj h
           exact ⟨_, rfl, endOk0 (y := (ofV (V.record a0.cls a0.ver x20))) (Wk.refl _) (ids_V (V.record a0.cls a0.ver x20)) ⟨rfl, rfl⟩⟩
          ·intro hc19; replace h := ocond_f hc19 h
           refine bR ?_
           refine sS rfl rfl rfl ((op1_cmp rfl rfl rfl rfl).cast (y := (BO ((a0.kind == 11)))) rfl rfl) ?_
           refine sA rfl rfl rfl rfl rfl (ao_nil ?_)
           change BW _ _ _ _ _
           refine bw_cond rfl ?_ ?_
           ·intro hc21; replace h := ocond_t hc21 h
            refine bR ?_
            refine sA rfl rfl rfl rfl rfl (ao_nil ?_)
            change BW _ _ _ _ _
            refine bR ?_
            refine sM rfl rfl rfl rfl rfl ?_
            refine sS rfl rfl rfl ((op1_mkI Try.underlying65 rfl rfl rfl).wk (Wk.eq (mk_rec none).symm)) ?_
            refine sA rfl rfl rfl rfl rfl (ao_nil ?_)
            change BW _ _ _ _ _
            refine bw_ret ?_
            change ∃ xs, _ = some xs ∧ EndOk _ _ _ _
            obtain rfl := Option.some.inj h
            exact ⟨_, rfl, endOk0 (y := (ofV V.nothing)) (Wk.refl _) (ids_V V.nothing) ⟨rfl, rfl⟩⟩
           ·intro hc21; replace h := ocond_f hc21 h
            refine bw_skip ?_
            change BW _ _ _ _ _
            refine bR ?_
            refine sS rfl rfl rfl (op1_faR st_29 (i := 2) rfl rfl rfl) ?_
            refine sS rfl rfl rfl ((op1_ldR Try.underlying2 rfl rfl rfl rfl rfl)) ?_
            obtain ⟨x22, hx22, h⟩ := obind h
            refine sS rfl rfl rfl (op1_pcall rfl en_28 rfl (.cons (Wk.refl _) .nil) ⟨rfl, trivial⟩ (s_mk_Alien a0.int x22 hx22) (ids_V x22)) ?_
            refine sA rfl rfl rfl rfl rfl (ao_nil ?_)
            change BW _ _ _ _ _
            refine bw_ret ?_
            change ∃ xs, _ = some xs ∧ EndOk _ _ _ _
            obtain rfl := Option.some.inj h
            exact ⟨_, rfl, endOk0 (y := (ofV x22)) (Wk.refl _) (ids_V x22) ⟨rfl, rfl⟩⟩
theorem C_mk_Dict.sound : ∀ (i : C_mk_Dict) (r : i.R), fixO C_mk_Dict.F i = some r → C_mk_Dict.Q i r := by
 refine fixO_ind (Φ := C_mk_Dict.F) (Q := C_mk_Dict.Q) ?_
 intro g hg i r h
 cases i with
 | k_mk_Dict a0 => exact t_mk_Dict (fun a0 => g (.k_mk_Dict a0)) (fun a0 r hr => hg (.k_mk_Dict a0) r hr) (fun a0 => g (.k_mk_Built a0)) (fun a0 r hr => hg (.k_mk_Built a0) r hr) a0 r h
 | k_mk_Built a0 => exact t_mk_Built (fun a0 => g (.k_mk_Dict a0)) (fun a0 r hr => hg (.k_mk_Dict a0) r hr) (fun a0 => g (.k_mk_Built a0)) (fun a0 r hr => hg (.k_mk_Built a0) r hr) a0 r h
theorem s_mk_Dict (a0 : (List (Str × Term))) (r : (List (Str × V))) (h : p_mk_Dict a0 = some r) : PCalls Try.prog 27 [(PV.sl none 12 (List.map ofEntry a0))] (PV.sl none 2 (List.map ofFld r)) := C_mk_Dict.sound (.k_mk_Dict a0) r h
theorem s_mk_Built (a0 : Term) (r : V) (h : p_mk_Built a0 = some r) : PCalls Try.prog 10 [(ofTermX a0)] (ofV r) := C_mk_Dict.sound (.k_mk_Built a0) r h
noncomputable def p_value_Kind (a0 : V) : Option Int :=
 Option.bind (p_value_kind a0) fun x1 =>
 some x1
theorem s_value_Kind (a0 : V) (r : Int) (h : p_value_Kind a0 = some r) : PCalls Try.prog 42 [(ofV a0)] (I64 r) := by
 unfold p_value_Kind at h
 refine acalls_of Try.func42 rfl Try.ntmps42 Try.results42 rfl (aw_of_bw ?_)
 change BW _ _ _ ⟨[(0, (ofV a0))], [], _⟩ _
 refine bR ?_
 refine sA rfl rfl rfl rfl rfl (ao_nil ?_)
 change BW _ _ _ _ _
 refine bR ?_
 refine sM rfl rfl rfl rfl rfl ?_
 obtain ⟨x1, hx1, h⟩ := obind h
 refine sS rfl rfl rfl (op1_pcall rfl en_59 rfl (.cons (Wk.refl _) .nil) ⟨(ids_V a0), trivial⟩ (s_value_kind a0 x1 hx1) rfl) ?_
 refine sA rfl rfl rfl rfl rfl (ao_nil ?_)
 change BW _ _ _ _ _
 refine bw_ret ?_
 change ∃ xs, _ = some xs ∧ EndOk _ _ _ _
 obtain rfl := Option.some.inj h
 exact ⟨_, rfl, endOk0 (y := (I64 x1)) (Wk.refl _) rfl ⟨rfl, rfl⟩⟩
noncomputable def p_wire_zigzag (a0 : Int) : Option Int :=
 some (xorK .u64 (shlK .u64 (IntKind.u64.wrap a0) 1) (IntKind.u64.wrap (shrK .i64 a0 63)))
theorem s_wire_zigzag (a0 : Int) (r : Int) (h : p_wire_zigzag a0 = some r) : PCalls Try.prog 44 [(I64 a0)] (PV.v (.int .u64 r)) := by
 unfold p_wire_zigzag at h
 refine acalls_of Try.func44 rfl Try.ntmps44 Try.results44 rfl (aw_of_bw ?_)
 change BW _ _ _ ⟨[(0, (I64 a0))], [], _⟩ _
 refine bR ?_
 refine sA rfl rfl rfl rfl rfl (ao_nil ?_)
 change BW _ _ _ _ _
 refine bR ?_
 refine sM rfl rfl rfl rfl rfl ?_
 refine sS rfl rfl rfl (op1_convI Try.underlying2 Try.underlying24 rfl rfl) ?_
 refine sS rfl rfl rfl ((op1_shl rfl rfl rfl (by decide)).cast (y := (PV.v (.int .u64 (shlK .u64 (IntKind.u64.wrap a0) 1)))) rfl rfl) ?_
 refine sM rfl rfl rfl rfl rfl ?_
 refine sS rfl rfl rfl ((op1_shr rfl rfl rfl (by decide)).cast (y := (I64 ((shrK .i64 a0 63)))) rfl rfl) ?_
 refine sS rfl rfl rfl (op1_convI Try.underlying2 Try.underlying24 rfl rfl) ?_
 refine sS rfl rfl rfl ((op1_xorW rfl rfl rfl).cast (y := (PV.v (.int .u64 (xorK .u64 (shlK .u64 (IntKind.u64.wrap a0) 1) (IntKind.u64.wrap (shrK .i64 a0 63)))))) rfl rfl) ?_
 refine sA rfl rfl rfl rfl rfl (ao_nil ?_)
 change BW _ _ _ _ _
 refine bw_ret ?_
 change ∃ xs, _ = some xs ∧ EndOk _ _ _ _
 obtain rfl := Option.some.inj h
 exact ⟨_, rfl, endOk0 (y := (PV.v (.int .u64 (xorK .u64 (shlK .u64 (IntKind.u64.wrap a0) 1) (IntKind.u64.wrap (shrK .i64 a0 63)))))) (Wk.refl _) rfl ⟨rfl, rfl⟩⟩
noncomputable def wire_number_l1b (g1 : Str → Int → Option Str) (s1 : Str) (s2 : Int) : Option Str :=
 bif (decide (s2 ≥ 128)) then (
  Option.bind (appO 1 s1 ([(UInt8.ofInt (orR .u8 (((UInt8.ofInt s2)).toNat : Int) (((128 : UInt8)).toNat : Int)))] : Str)) fun x4 =>
  g1 x4 (shrK .u64 s2 7)
 ) else (
  Option.bind (appO 1 s1 ([(UInt8.ofInt s2)] : Str)) fun x5 =>
  some x5
 )
theorem wire_number_l1b_cm {ι : Type} {ρ : ι → Type} (g1 : (∀ i, Option (ρ i)) → Str → Int → Option Str) (h_g1 : ∀ y0 y1, CM (fun G => g1 G y0 y1)) (s1 : Str) (s2 : Int) : CM (fun G : (∀ i, Option (ρ i)) => wire_number_l1b (g1 G) s1 s2) := by
 simp only [wire_number_l1b]
 repeat (first | exact cm_const | exact h_g1 _ _ | refine cm_cond ?_ ?_ | refine cm_bind ?_ (fun _ => ?_))
noncomputable def wire_number_l1 (s1 : Str) (s2 : Int) : Option Str :=
 fixO (ι := (Str × Int)) (ρ := fun _ => Str) (fun g i => wire_number_l1b (fun s1 s2 => g (s1, s2)) i.1 i.2) (s1, s2)
theorem wire_number_l1_eq (s1 : Str) (s2 : Int) : wire_number_l1 s1 s2 = wire_number_l1b (wire_number_l1) s1 s2 :=
 fixO_eq (ι := (Str × Int)) (ρ := fun _ => Str) (Φ := fun g i => wire_number_l1b (fun s1 s2 => g (s1, s2)) i.1 i.2) (fun i => wire_number_l1b_cm (ι := (Str × Int)) (ρ := fun _ => Str) (fun g => (fun s1 s2 => g (s1, s2))) (fun _ _ => cm_app) i.1 i.2) (s1, s2)
noncomputable def p_wire_number (a0 : Str) (a1 : Int) : Option Str :=
 wire_number_l1 a0 a1
theorem s_wire_number (a0 : Str) (a1 : Int) (r : Str) (h : p_wire_number a0 a1 = some r) : MCalls Try.prog 43 [(PV.sl (some 0) 1 (List.map ofB a0)), (PV.v (.int .u64 a1))] [.arr 5 (a0).length] (PV.sl (some 0) 1 (List.map ofB r)) [.arr 5 (r).length] := by
 unfold p_wire_number at h
 refine acalls_of Try.func43 rfl Try.ntmps43 Try.results43 rfl (aw_of_bw ?_)
 change BW _ _ _ ⟨[(0, (PV.sl (some 0) 1 (List.map ofB a0))), (1, (PV.v (.int .u64 a1)))], [.arr 5 (a0).length], _⟩ _
 refine bR ?_
 refine sA rfl rfl rfl rfl rfl (ao_nil ?_)
 change BW _ _ _ _ _
 refine bw_seq ?_
 refine bw_block ?_
 change BW _ _ _ _ _
 unfold wire_number_l1 at h
 refine bw_loop (σ := (Str × Int)) (fun i => [(0, (PV.sl (some 0) 1 (List.map ofB i.1))), (1, (PV.v (.int .u64 i.2)))]) (fun i => [.arr 5 (i.1).length]) (a0, a1) h ?_ ?_ ?_
 ·intro i; exact ⟨Nat.le_of_ble_eq_true rfl, ⟨(il_tok rfl (ids_map (fun _ => rfl) _)), ⟨(il_nil rfl), trivial⟩⟩, trivial⟩
 ·exact ⟨(.cons .same .nil), (sC rfl (sC rfl sub_nil))⟩
 ·rintro g1_f ⟨s1, s2⟩ h; replace h : wire_number_l1b (fun y0 y1 => g1_f (y0, y1)) s1 s2 = some r := h; unfold wire_number_l1b at h
  change BW _ _ _ ⟨[(0, (PV.sl (some 0) 1 (List.map ofB s1))), (1, (PV.v (.int .u64 s2)))], [.arr 5 (s1).length], _⟩ _
  refine bw_seq ?_
  refine bR ?_
  refine sM rfl rfl rfl rfl rfl ?_
  refine sS rfl rfl rfl ((op1_cmp rfl rfl rfl rfl).cast (y := (BO ((decide (s2 ≥ 128))))) rfl rfl) (ao_nil ?_)
  change BW _ _ _ _ _
  refine bw_cond rfl ?_ ?_
  ·intro hc3; replace h := ocond_t hc3 h
   refine bw_skip ?_
   change BW _ _ _ _ _
   refine bw_block ?_
   change BW _ _ _ _ _
   refine bR ?_
   refine sM rfl rfl rfl rfl rfl ?_
   refine sM rfl rfl rfl rfl rfl ?_
   refine sS rfl rfl rfl (op1_toU8 Try.underlying24 Try.underlying5 rfl rfl) ?_
   refine sS rfl rfl rfl ((op1_orW rfl rfl rfl).cast (y := (ofB (UInt8.ofInt (orR .u8 (((UInt8.ofInt s2)).toNat : Int) (((128 : UInt8)).toNat : Int))))) (by rw [toU8_wrap]; rfl) rfl) ?_
   refine sS rfl rfl rfl ((op1_bslice (xs := [(ofB (UInt8.ofInt (orR .u8 (((UInt8.ofInt s2)).toNat : Int) (((128 : UInt8)).toNat : Int))))]) Try.underlying23 inf_5 rfl rfl rfl rfl rfl rfl ⟨Nat.le_of_ble_eq_true rfl, Nat.le_of_ble_eq_true rfl⟩ rfl).cast (y := (PV.sl (some 1) 1 (List.map ofB ([(UInt8.ofInt (orR .u8 (((UInt8.ofInt s2)).toNat : Int) (((128 : UInt8)).toNat : Int)))] : Str)))) rfl rfl) ?_
   obtain ⟨x4, hx4, h⟩ := obind h
   refine sS rfl rfl rfl (op1_appM Try.underlying23 inf_5 rfl Try.underlying23 rfl rfl rfl rfl (fun _ => rfl) (fun _ => rfl) hx4 rfl) ?_
   refine sA rfl rfl rfl rfl rfl (ao_nil ?_)
   change BW _ _ _ _ _
   refine bw_region ?_
   refine sM rfl rfl rfl rfl rfl ?_
   refine sS rfl rfl rfl ((op1_shr rfl rfl rfl (by decide)).cast (y := (PV.v (.int .u64 (shrK .u64 s2 7)))) rfl rfl) ?_
   refine sA rfl rfl rfl rfl rfl (ao_nil ?_)
   exact ⟨rfl, (x4, (shrK .u64 s2 7)), h, ⟨(.cons .same .nil), (sC rfl (sC rfl sub_nil))⟩⟩
  ·intro hc3; replace h := ocond_f hc3 h
   refine bw_exit ?_
   change BW _ _ _ _ _
   refine bR ?_
   refine sM rfl rfl rfl rfl rfl ?_
   refine sM rfl rfl rfl rfl rfl ?_
   refine sS rfl rfl rfl (op1_toU8 Try.underlying24 Try.underlying5 rfl rfl) ?_
   refine sS rfl rfl rfl ((op1_bslice (xs := [(ofB (UInt8.ofInt s2))]) Try.underlying23 inf_5 rfl rfl rfl rfl rfl rfl ⟨Nat.le_of_ble_eq_true rfl, Nat.le_of_ble_eq_true rfl⟩ rfl).cast (y := (PV.sl (some 1) 1 (List.map ofB ([(UInt8.ofInt s2)] : Str)))) rfl rfl) ?_
   obtain ⟨x5, hx5, h⟩ := obind h
   refine sS rfl rfl rfl (op1_appM Try.underlying23 inf_5 rfl Try.underlying23 rfl rfl rfl rfl (fun _ => rfl) (fun _ => rfl) hx5 rfl) ?_
   refine sA rfl rfl rfl rfl rfl (ao_nil ?_)
   change BW _ _ _ _ _
   refine bw_ret ?_
   change ∃ xs, _ = some xs ∧ EndOk _ _ _ _
   obtain rfl := Option.some.inj h
   exact ⟨_, rfl, endR (y := (PV.sl (some 0) 1 (List.map ofB x5))) 1 (Wk.refl _) rfl rfl (.row rfl (ids_map (fun _ => rfl) _)) (.cons .arr .nil) ⟨rfl, rfl⟩⟩
noncomputable def p_wire_text (a0 : Str) (a1 : Str) : Option Str :=
 Option.bind (p_wire_number a0 (IntKind.u64.wrap (((a1).length : Nat) : Int))) fun x1 =>
 Option.bind (appO 1 x1 a1) fun x2 =>
 some x2
theorem s_wire_text (a0 : Str) (a1 : Str) (r : Str) (h : p_wire_text a0 a1 = some r) : MCalls Try.prog 45 [(PV.sl (some 0) 1 (List.map ofB a0)), (ofStr a1)] [.arr 5 (a0).length] (PV.sl (some 0) 1 (List.map ofB r)) [.arr 5 (r).length] := by
 unfold p_wire_text at h
 refine acalls_of Try.func45 rfl Try.ntmps45 Try.results45 rfl (aw_of_bw ?_)
 change BW _ _ _ ⟨[(0, (PV.sl (some 0) 1 (List.map ofB a0))), (1, (ofStr a1))], [.arr 5 (a0).length], _⟩ _
 refine bR ?_
 refine sA rfl rfl rfl rfl rfl (ao_nil ?_)
 change BW _ _ _ _ _
 refine bR ?_
 refine sM rfl rfl rfl rfl rfl ?_
 refine sM rfl rfl rfl rfl rfl ?_
 refine sS rfl rfl rfl (op1_lenT (s := a1) Try.underlying9 rfl rfl) ?_
 refine sS rfl rfl rfl (op1_convI Try.underlying3 Try.underlying24 rfl rfl) ?_
 obtain ⟨x1, hx1, h⟩ := obind h
 refine sS rfl rfl rfl (op1_mcall [0] (.func rfl) en_43 rfl (.cons (Wk.refl _) (.cons (Wk.refl _) .nil)) rfl (.cons rfl .arr .nil) (.cons (.row rfl (ids_map (fun _ => rfl) _)) (.cons (.same rfl) .nil)) (s_wire_number a0 (IntKind.u64.wrap (((a1).length : Nat) : Int)) x1 hx1) (.row rfl (ids_map (fun _ => rfl) _)) (.cons .arr .nil) rfl) ?_
 refine sM rfl rfl rfl rfl rfl ?_
 obtain ⟨x2, hx2, h⟩ := obind h
 refine sS rfl rfl rfl (op1_appT (m := a1) Try.underlying23 inf_5 rfl Try.underlying9 rfl rfl rfl rfl hx2 rfl) ?_
 refine sA rfl rfl rfl rfl rfl (ao_nil ?_)
 change BW _ _ _ _ _
 refine bw_ret ?_
 change ∃ xs, _ = some xs ∧ EndOk _ _ _ _
 obtain rfl := Option.some.inj h
 exact ⟨_, rfl, endR (y := (PV.sl (some 0) 1 (List.map ofB x2))) 1 (Wk.refl _) rfl rfl (.row rfl (ids_map (fun _ => rfl) _)) (.cons .arr .nil) ⟨rfl, rfl⟩⟩
noncomputable def wire_fields_l1b (r_wire_put : Str → V → Option Str) (a1 : (List (Str × V))) (g1 : Str → Nat → Option Str) (s2 : Str) (s3 : Nat) : Option Str :=
 bif (decide (((s3 : Nat) : Int) < (((a1).length : Nat) : Int))) then (
  Option.bind ((a1)[s3]?) fun x6 =>
  Option.bind (p_wire_text s2 x6.1) fun x7 =>
  Option.bind (r_wire_put x7 x6.2) fun x8 =>
  g1 x8 (s3 + 1)
 ) else (
  some s2
 )
theorem wire_fields_l1b_cm {ι : Type} {ρ : ι → Type} (r_wire_put : (∀ i, Option (ρ i)) → Str → V → Option Str) (h_r_wire_put : ∀ y0 y1, CM (fun G => r_wire_put G y0 y1)) (g1 : (∀ i, Option (ρ i)) → Str → Nat → Option Str) (h_g1 : ∀ y0 y1, CM (fun G => g1 G y0 y1)) (a1 : (List (Str × V))) (s2 : Str) (s3 : Nat) : CM (fun G : (∀ i, Option (ρ i)) => wire_fields_l1b (r_wire_put G) a1 (g1 G) s2 s3) := by
 simp only [wire_fields_l1b]
 repeat (first | exact cm_const | exact h_r_wire_put _ _ | exact h_g1 _ _ | refine cm_cond ?_ ?_ | refine cm_bind ?_ (fun _ => ?_))
noncomputable def wire_fields_l1 (r_wire_put : Str → V → Option Str) (a1 : (List (Str × V))) (s2 : Str) (s3 : Nat) : Option Str :=
 fixO (ι := (Str × Nat)) (ρ := fun _ => Str) (fun g i => wire_fields_l1b r_wire_put a1 (fun s2 s3 => g (s2, s3)) i.1 i.2) (s2, s3)
theorem wire_fields_l1_eq (r_wire_put : Str → V → Option Str) (a1 : (List (Str × V))) (s2 : Str) (s3 : Nat) : wire_fields_l1 r_wire_put a1 s2 s3 = wire_fields_l1b r_wire_put a1 (wire_fields_l1 r_wire_put a1) s2 s3 :=
 fixO_eq (ι := (Str × Nat)) (ρ := fun _ => Str) (Φ := fun g i => wire_fields_l1b r_wire_put a1 (fun s2 s3 => g (s2, s3)) i.1 i.2) (fun i => wire_fields_l1b_cm (ι := (Str × Nat)) (ρ := fun _ => Str) (fun _ => r_wire_put) (fun _ _ => cm_const) (fun g => (fun s2 s3 => g (s2, s3))) (fun _ _ => cm_app) a1 i.1 i.2) (s2, s3)
theorem wire_fields_l1_cm {ι : Type} {ρ : ι → Type} (r_wire_put : (∀ i, Option (ρ i)) → Str → V → Option Str) (h_r_wire_put : ∀ y0 y1, CM (fun G => r_wire_put G y0 y1)) (a1 : (List (Str × V))) (s2 : Str) (s3 : Nat) : CM (fun G : (∀ i, Option (ρ i)) => wire_fields_l1 (r_wire_put G) a1 s2 s3) :=
 cm_fix (κ := (Str × Nat)) (τ := fun _ => Str) (Φ := fun G g i => wire_fields_l1b (r_wire_put G) a1 (fun s2 s3 => g (s2, s3)) i.1 i.2) (fun g i => wire_fields_l1b_cm r_wire_put h_r_wire_put (fun _ => (fun s2 s3 => g (s2, s3))) (fun _ _ => cm_const) a1 i.1 i.2) (fun G i => wire_fields_l1b_cm (ι := (Str × Nat)) (ρ := fun _ => Str) (fun _ => r_wire_put G) (fun _ _ => cm_const) (fun g => (fun s2 s3 => g (s2, s3))) (fun _ _ => cm_app) a1 i.1 i.2) (s2, s3)
noncomputable def b_wire_fields (r_wire_fields : Str → (List (Str × V)) → Option Str) (r_wire_put : Str → V → Option Str) (a0 : Str) (a1 : (List (Str × V))) : Option Str :=
 Option.bind (p_wire_number a0 (IntKind.u64.wrap (((a1).length : Nat) : Int))) fun x1 =>
 wire_fields_l1 r_wire_put a1 x1 0
theorem b_wire_fields_cm {ι : Type} {ρ : ι → Type} (r_wire_fields : (∀ i, Option (ρ i)) → Str → (List (Str × V)) → Option Str) (h_r_wire_fields : ∀ y0 y1, CM (fun G => r_wire_fields G y0 y1)) (r_wire_put : (∀ i, Option (ρ i)) → Str → V → Option Str) (h_r_wire_put : ∀ y0 y1, CM (fun G => r_wire_put G y0 y1)) (a0 : Str) (a1 : (List (Str × V))) : CM (fun G : (∀ i, Option (ρ i)) => b_wire_fields (r_wire_fields G) (r_wire_put G) a0 a1) := by
 simp only [b_wire_fields]
 repeat (first | exact cm_const | exact h_r_wire_fields _ _ | exact h_r_wire_put _ _ | apply wire_fields_l1_cm | refine cm_cond ?_ ?_ | refine cm_bind ?_ (fun _ => ?_) | intro _ | assumption)
noncomputable def wire_put_j1 (s3 : Str) : Option Str :=
 some s3
noncomputable def wire_put_l1b (a1 : V) (g1 : Str → Int → Option Str) (s12 : Str) (s13 : Int) : Option Str :=
 bif (decide (s13 ≥ 0)) then (
  Option.bind (negO s13) fun x15 =>
  Option.bind (appO 1 s12 ([(UInt8.ofInt (shrK .u64 (((a1).asFloat : Nat) : Int) s13))] : Str)) fun x16 =>
  g1 x16 (IntKind.i64.wrap (s13 - 8))
 ) else (
  wire_put_j1 s12
 )
theorem wire_put_l1b_cm {ι : Type} {ρ : ι → Type} (g1 : (∀ i, Option (ρ i)) → Str → Int → Option Str) (h_g1 : ∀ y0 y1, CM (fun G => g1 G y0 y1)) (a1 : V) (s12 : Str) (s13 : Int) : CM (fun G : (∀ i, Option (ρ i)) => wire_put_l1b a1 (g1 G) s12 s13) := by
 simp only [wire_put_l1b]
 repeat (first | exact cm_const | exact h_g1 _ _ | apply wire_put_j1_cm | refine cm_cond ?_ ?_ | refine cm_bind ?_ (fun _ => ?_) | intro _ | assumption)
noncomputable def wire_put_l1 (a1 : V) (s12 : Str) (s13 : Int) : Option Str :=
 fixO (ι := (Str × Int)) (ρ := fun _ => Str) (fun g i => wire_put_l1b a1 (fun s12 s13 => g (s12, s13)) i.1 i.2) (s12, s13)
theorem wire_put_l1_eq (a1 : V) (s12 : Str) (s13 : Int) : wire_put_l1 a1 s12 s13 = wire_put_l1b a1 (wire_put_l1 a1) s12 s13 :=
 fixO_eq (ι := (Str × Int)) (ρ := fun _ => Str) (Φ := fun g i => wire_put_l1b a1 (fun s12 s13 => g (s12, s13)) i.1 i.2) (fun i => wire_put_l1b_cm (ι := (Str × Int)) (ρ := fun _ => Str) (fun g => (fun s12 s13 => g (s12, s13))) (fun _ _ => cm_app) a1 i.1 i.2) (s12, s13)
noncomputable def wire_put_l2b (r_wire_put : Str → V → Option Str) (a1 : V) (g1 : Str → Nat → Option Str) (s26 : Str) (s27 : Nat) : Option Str :=
 bif (decide (((s27 : Nat) : Int) < ((((a1).asList).length : Nat) : Int))) then (
  Option.bind (((a1).asList)[s27]?) fun x30 =>
  Option.bind (r_wire_put s26 x30) fun x31 =>
  g1 x31 (s27 + 1)
 ) else (
  wire_put_j1 s26
 )
theorem wire_put_l2b_cm {ι : Type} {ρ : ι → Type} (r_wire_put : (∀ i, Option (ρ i)) → Str → V → Option Str) (h_r_wire_put : ∀ y0 y1, CM (fun G => r_wire_put G y0 y1)) (g1 : (∀ i, Option (ρ i)) → Str → Nat → Option Str) (h_g1 : ∀ y0 y1, CM (fun G => g1 G y0 y1)) (a1 : V) (s26 : Str) (s27 : Nat) : CM (fun G : (∀ i, Option (ρ i)) => wire_put_l2b (r_wire_put G) a1 (g1 G) s26 s27) := by
 simp only [wire_put_l2b]
 repeat (first | exact cm_const | exact h_r_wire_put _ _ | exact h_g1 _ _ | apply wire_put_j1_cm | refine cm_cond ?_ ?_ | refine cm_bind ?_ (fun _ => ?_) | intro _ | assumption)
noncomputable def wire_put_l2 (r_wire_put : Str → V → Option Str) (a1 : V) (s26 : Str) (s27 : Nat) : Option Str :=
 fixO (ι := (Str × Nat)) (ρ := fun _ => Str) (fun g i => wire_put_l2b r_wire_put a1 (fun s26 s27 => g (s26, s27)) i.1 i.2) (s26, s27)
theorem wire_put_l2_eq (r_wire_put : Str → V → Option Str) (a1 : V) (s26 : Str) (s27 : Nat) : wire_put_l2 r_wire_put a1 s26 s27 = wire_put_l2b r_wire_put a1 (wire_put_l2 r_wire_put a1) s26 s27 :=
 fixO_eq (ι := (Str × Nat)) (ρ := fun _ => Str) (Φ := fun g i => wire_put_l2b r_wire_put a1 (fun s26 s27 => g (s26, s27)) i.1 i.2) (fun i => wire_put_l2b_cm (ι := (Str × Nat)) (ρ := fun _ => Str) (fun _ => r_wire_put) (fun _ _ => cm_const) (fun g => (fun s26 s27 => g (s26, s27))) (fun _ _ => cm_app) a1 i.1 i.2) (s26, s27)
theorem wire_put_l2_cm {ι : Type} {ρ : ι → Type} (r_wire_put : (∀ i, Option (ρ i)) → Str → V → Option Str) (h_r_wire_put : ∀ y0 y1, CM (fun G => r_wire_put G y0 y1)) (a1 : V) (s26 : Str) (s27 : Nat) : CM (fun G : (∀ i, Option (ρ i)) => wire_put_l2 (r_wire_put G) a1 s26 s27) :=
 cm_fix (κ := (Str × Nat)) (τ := fun _ => Str) (Φ := fun G g i => wire_put_l2b (r_wire_put G) a1 (fun s26 s27 => g (s26, s27)) i.1 i.2) (fun g i => wire_put_l2b_cm r_wire_put h_r_wire_put (fun _ => (fun s26 s27 => g (s26, s27))) (fun _ _ => cm_const) a1 i.1 i.2) (fun G i => wire_put_l2b_cm (ι := (Str × Nat)) (ρ := fun _ => Str) (fun _ => r_wire_put G) (fun _ _ => cm_const) (fun g => (fun s26 s27 => g (s26, s27))) (fun _ _ => cm_app) a1 i.1 i.2) (s26, s27)
noncomputable def b_wire_put (r_wire_fields : Str → (List (Str × V)) → Option Str) (r_wire_put : Str → V → Option Str) (a0 : Str) (a1 : V) : Option Str :=
 Option.bind (p_value_Kind a1) fun x1 =>
 Option.bind (appO 1 a0 ([(UInt8.ofInt x1)] : Str)) fun x2 =>
 bif (a1).isBool then (
  bif (a1).asBool then (
   Option.bind (appO 1 x2 ([(1 : UInt8)] : Str)) fun x6 =>
   some x6
  ) else (
   Option.bind (appO 1 x2 ([(0 : UInt8)] : Str)) fun x7 =>
   some x7
  )
 ) else (
  bif (a1).isInt then (
   Option.bind (p_wire_zigzag ((a1).asInt)) fun x9 =>
   Option.bind (p_wire_number x2 x9) fun x10 =>
   some x10
  ) else (
   bif (a1).isFloat then (
    wire_put_l1 a1 x2 56
   ) else (
    bif (a1).isText then (
     Option.bind (p_wire_text x2 ((a1).asText)) fun x18 =>
     some x18
    ) else (
     bif (a1).isBytes then (
      Option.bind (p_wire_number x2 (IntKind.u64.wrap ((((a1).asBytes).length : Nat) : Int))) fun x20 =>
      Option.bind (appO 1 x20 ((a1).asBytes)) fun x21 =>
      some x21
     ) else (
      bif (a1).isRef then (
       Option.bind (p_wire_number x2 ((a1).asRef)) fun x23 =>
       some x23
      ) else (
       bif (a1).isList then (
        Option.bind (p_wire_number x2 (IntKind.u64.wrap ((((a1).asList).length : Nat) : Int))) fun x25 =>
        wire_put_l2 r_wire_put a1 x25 0
       ) else (
        bif (a1).isDict then (
         Option.bind (r_wire_fields x2 ((a1).asDict)) fun x33 =>
         some x33
        ) else (
         bif (a1).isRec then (
          Option.bind ((a1).asRec) fun x35 =>
          Option.bind (p_wire_text x2 x35.cls) fun x36 =>
          Option.bind (p_wire_number x36 (IntKind.u64.wrap x35.ver)) fun x37 =>
          Option.bind (r_wire_fields x37 x35.fields) fun x38 =>
          some x38
         ) else (
          wire_put_j1 x2
         )
        )
       )
      )
     )
    )
   )
  )
 )
theorem b_wire_put_cm {ι : Type} {ρ : ι → Type} (r_wire_fields : (∀ i, Option (ρ i)) → Str → (List (Str × V)) → Option Str) (h_r_wire_fields : ∀ y0 y1, CM (fun G => r_wire_fields G y0 y1)) (r_wire_put : (∀ i, Option (ρ i)) → Str → V → Option Str) (h_r_wire_put : ∀ y0 y1, CM (fun G => r_wire_put G y0 y1)) (a0 : Str) (a1 : V) : CM (fun G : (∀ i, Option (ρ i)) => b_wire_put (r_wire_fields G) (r_wire_put G) a0 a1) := by
 simp only [b_wire_put]
 repeat (first | exact cm_const | exact h_r_wire_fields _ _ | exact h_r_wire_put _ _ | apply wire_put_j1_cm | apply wire_put_l1_cm | apply wire_put_l2_cm | refine cm_cond ?_ ?_ | refine cm_bind ?_ (fun _ => ?_) | intro _ | assumption)
inductive C_wire_fields where
 | k_wire_fields (a0 : Str) (a1 : (List (Str × V)))
 | k_wire_put (a0 : Str) (a1 : V)
def C_wire_fields.R : C_wire_fields → Type
 | .k_wire_fields _ _ => Str
 | .k_wire_put _ _ => Str
noncomputable def C_wire_fields.F (g : ∀ i : C_wire_fields, Option i.R) : ∀ i : C_wire_fields, Option i.R
 | .k_wire_fields a0 a1 => b_wire_fields (fun a0 a1 => g (.k_wire_fields a0 a1)) (fun a0 a1 => g (.k_wire_put a0 a1)) a0 a1
 | .k_wire_put a0 a1 => b_wire_put (fun a0 a1 => g (.k_wire_fields a0 a1)) (fun a0 a1 => g (.k_wire_put a0 a1)) a0 a1
noncomputable def p_wire_fields (a0 : Str) (a1 : (List (Str × V))) : Option Str := fixO C_wire_fields.F (.k_wire_fields a0 a1)
noncomputable def p_wire_put (a0 : Str) (a1 : V) : Option Str := fixO C_wire_fields.F (.k_wire_put a0 a1)
theorem C_wire_fields.cm (i : C_wire_fields) : CM (fun g : (∀ i : C_wire_fields, Option i.R) => C_wire_fields.F g i) := by
 cases i with
 | k_wire_fields a0 a1 => exact b_wire_fields_cm (fun (g : ∀ i : C_wire_fields, Option i.R) a0 a1 => g (.k_wire_fields a0 a1)) (fun a0 a1 => cm_app (i := C_wire_fields.k_wire_fields a0 a1)) (fun (g : ∀ i : C_wire_fields, Option i.R) a0 a1 => g (.k_wire_put a0 a1)) (fun a0 a1 => cm_app (i := C_wire_fields.k_wire_put a0 a1)) a0 a1
 | k_wire_put a0 a1 => exact b_wire_put_cm (fun (g : ∀ i : C_wire_fields, Option i.R) a0 a1 => g (.k_wire_fields a0 a1)) (fun a0 a1 => cm_app (i := C_wire_fields.k_wire_fields a0 a1)) (fun (g : ∀ i : C_wire_fields, Option i.R) a0 a1 => g (.k_wire_put a0 a1)) (fun a0 a1 => cm_app (i := C_wire_fields.k_wire_put a0 a1)) a0 a1
theorem e_wire_fields (a0 : Str) (a1 : (List (Str × V))) : p_wire_fields a0 a1 = b_wire_fields p_wire_fields p_wire_put a0 a1 := fixO_eq C_wire_fields.cm (.k_wire_fields a0 a1)
theorem e_wire_put (a0 : Str) (a1 : V) : p_wire_put a0 a1 = b_wire_put p_wire_fields p_wire_put a0 a1 := fixO_eq C_wire_fields.cm (.k_wire_put a0 a1)
def C_wire_fields.Q : ∀ i : C_wire_fields, i.R → Prop
 | .k_wire_fields a0 a1 => fun (r : Str) => MCalls Try.prog 46 [(PV.sl (some 0) 1 (List.map ofB a0)), (PV.sl none 2 (List.map ofFld a1))] [.arr 5 (a0).length] (PV.sl (some 0) 1 (List.map ofB r)) [.arr 5 (r).length]
 | .k_wire_put a0 a1 => fun (r : Str) => MCalls Try.prog 30 [(PV.sl (some 0) 1 (List.map ofB a0)), (ofV a1)] [.arr 5 (a0).length] (PV.sl (some 0) 1 (List.map ofB r)) [.arr 5 (r).length]
theorem t_wire_fields (r_wire_fields : Str → (List (Str × V)) → Option Str) (c_wire_fields : ∀ (a0 : Str) (a1 : (List (Str × V))) r, r_wire_fields a0 a1 = some r → MCalls Try.prog 46 [(PV.sl (some 0) 1 (List.map ofB a0)), (PV.sl none 2 (List.map ofFld a1))] [.arr 5 (a0).length] (PV.sl (some 0) 1 (List.map ofB r)) [.arr 5 (r).length]) (r_wire_put : Str → V → Option Str) (c_wire_put : ∀ (a0 : Str) (a1 : V) r, r_wire_put a0 a1 = some r → MCalls Try.prog 30 [(PV.sl (some 0) 1 (List.map ofB a0)), (ofV a1)] [.arr 5 (a0).length] (PV.sl (some 0) 1 (List.map ofB r)) [.arr 5 (r).length]) (a0 : Str) (a1 : (List (Str × V))) (r : Str) (h : b_wire_fields r_wire_fields r_wire_put a0 a1 = some r) : MCalls Try.prog 46 [(PV.sl (some 0) 1 (List.map ofB a0)), (PV.sl none 2 (List.map ofFld a1))] [.arr 5 (a0).length] (PV.sl (some 0) 1 (List.map ofB r)) [.arr 5 (r).length] := by
 unfold b_wire_fields at h
 refine acalls_of Try.func46 rfl Try.ntmps46 Try.results46 rfl (aw_of_bw ?_)
 change BW _ _ _ ⟨[(0, (PV.sl (some 0) 1 (List.map ofB a0))), (1, (PV.sl none 2 (List.map ofFld a1)))], [.arr 5 (a0).length], _⟩ _
 refine bR ?_
 refine sA rfl rfl rfl rfl rfl (ao_nil ?_)
 change BW _ _ _ _ _
 refine bR ?_
 refine sM rfl rfl rfl rfl rfl ?_
 refine sM rfl rfl rfl rfl rfl ?_
 refine sS rfl rfl rfl (op1_lenM Try.underlying63 rfl rfl) ?_
 refine sS rfl rfl rfl (op1_convI Try.underlying3 Try.underlying24 rfl rfl) ?_
 obtain ⟨x1, hx1, h⟩ := obind h
 refine sS rfl rfl rfl (op1_mcall [0] (.func rfl) en_43 rfl (.cons (Wk.refl _) (.cons (Wk.refl _) .nil)) rfl (.cons rfl .arr .nil) (.cons (.row rfl (ids_map (fun _ => rfl) _)) (.cons (.same rfl) .nil)) (s_wire_number a0 (IntKind.u64.wrap (((a1).length : Nat) : Int)) x1 hx1) (.row rfl (ids_map (fun _ => rfl) _)) (.cons .arr .nil) rfl) ?_
 refine sA rfl rfl rfl rfl rfl (ao_nil ?_)
 change BW _ _ _ _ _
 refine bw_seq ?_
 refine bR ?_
 refine sM rfl rfl rfl rfl rfl ?_
 refine sS rfl rfl rfl (op1_lenM Try.underlying63 rfl rfl) ?_
 refine sM rfl rfl rfl rfl rfl (ao_nil ?_)
 change BW _ _ _ _ _
 refine bw_block ?_
 change BW _ _ _ _ _
 unfold wire_fields_l1 at h
 refine bw_loop (σ := (Str × Nat)) (fun i => [(0, (PV.sl (some 0) 1 (List.map ofB i.1))), (12, (PV.sl none 2 (List.map ofFld a1))), (13, (I64 ((((a1).length : Nat) : Int)))), (14, (I64 (((i.2 : Nat) : Int))))]) (fun i => [.arr 5 (i.1).length]) (x1, 0) h ?_ ?_ ?_
 ·intro i; exact ⟨Nat.le_of_ble_eq_true rfl, ⟨(il_tok rfl (ids_map (fun _ => rfl) _)), ⟨(il_nil (ids_slM ids_Fld _)), ⟨(il_nil rfl), ⟨(il_nil rfl), trivial⟩⟩⟩⟩, trivial⟩
 ·exact ⟨(.cons .same .nil), (sC rfl (sC rfl (sC rfl (sC rfl sub_nil))))⟩
 ·rintro g1_f ⟨s2, s3⟩ h; replace h : wire_fields_l1b r_wire_put a1 (fun y0 y1 => g1_f (y0, y1)) s2 s3 = some r := h; unfold wire_fields_l1b at h
  change BW _ _ _ ⟨[(0, (PV.sl (some 0) 1 (List.map ofB s2))), (12, (PV.sl none 2 (List.map ofFld a1))), (13, (I64 ((((a1).length : Nat) : Int)))), (14, (I64 (((s3 : Nat) : Int))))], [.arr 5 (s2).length], _⟩ _
  refine bR ?_
  refine sS rfl rfl rfl ((op1_cmp rfl rfl rfl rfl).cast (y := (BO ((decide (((s3 : Nat) : Int) < (((a1).length : Nat) : Int)))))) rfl rfl) (ao_nil ?_)
  change BW _ _ _ _ _
  refine bw_seq ?_
  refine bw_len (t := 12) rfl fun hb5 => ?_
  try rw [List.length_map] at hb5
  refine bw_cond rfl ?_ ?_
  ·intro hc4; replace h := ocond_t hc4 h
   have hc4_ := of_decide_eq_true hc4
   refine bw_skip ?_
   change BW _ _ _ _ _
   refine bw_seq ?_
   refine bw_block ?_
   change BW _ _ _ _ _
   refine bR ?_
   obtain ⟨x6, hx6, h⟩ := obind h
   refine sS rfl rfl rfl (op1_idxN (i := s3) Try.underlying63 inf_88 rfl rfl rfl hx6 rfl) ?_
   refine sS rfl rfl rfl (op1_ldPW inf_88 Try.underlying88 rfl rfl rfl rfl rfl) ?_
   refine sS rfl rfl rfl ((op1_alloc inf_88 rfl).cast (H'' := [.arr 5 (s2).length, .box 88 [(ofStr []), (ofV V.nil)]]) rfl (by simp only [mk_nil]; rfl)) ?_
   refine ao_step0 rfl rfl (op1_store inf_88 rfl rfl rfl rfl rfl rfl (Nat.le_of_ble_eq_true rfl) (by show List.all [(ofStr x6.1), (ofV x6.2)] one1 = true; simp only [List.all_cons, List.all_nil, one_V, one_RecP, Bool.and_true, Bool.true_and]; try rfl)) ?_
   refine ao_nil ?_
   change BW _ _ _ _ _
   refine bw_tail 6 [3] [1] mo (by kernel_rfl) ?_
   refine ac_go rfl rfl rfl rfl (fun H hp => op1_move rfl rfl) ?_
   refine ac_go rfl rfl rfl rfl (fun H hp => op1_faR st_88 (i := 0) rfl rfl rfl) ?_
   refine ac_go rfl rfl rfl rfl (fun H hp => (op1_ldR Try.underlying9 rfl rfl rfl (hp.at rfl rfl) rfl)) ?_
   obtain ⟨x7, hx7, h⟩ := obind h
   refine ac_lgo rfl rfl rfl rfl (op1_mcall [0] (.func rfl) en_45 rfl (.cons (Wk.refl _) (.cons (Wk.refl _) .nil)) rfl (.cons rfl .arr .nil) (.cons (.row rfl (ids_map (fun _ => rfl) _)) (.cons (.same rfl) .nil)) (s_wire_text s2 x6.1 x7 hx7) (.row rfl (ids_map (fun _ => rfl) _)) (.cons .arr .nil) rfl) ⟨rfl, trivial⟩ ?_
   refine ac_go rfl rfl rfl rfl (fun H hp => op1_faR st_88 (i := 1) rfl rfl rfl) ?_
   refine ac_go rfl rfl rfl rfl (fun H hp => (op1_ldR Try.underlying20 rfl rfl rfl (hp.at rfl rfl) rfl)) ?_
   refine ac_nil ?_
   change AO _ _ _ _ _
   obtain ⟨x8, hx8, h⟩ := obind h
   refine sS rfl rfl rfl (op1_mcall [0] (.func rfl) en_30 rfl (.cons (Wk.refl _) (.cons (Wk.refl _) .nil)) rfl (.cons rfl .arr .nil) (.cons (.row rfl (ids_map (fun _ => rfl) _)) (.cons (.same (ids_V x6.2)) .nil)) (c_wire_put x7 x6.2 x8 hx8) (.row rfl (ids_map (fun _ => rfl) _)) (.cons .arr .nil) rfl) ?_
   refine sA rfl rfl rfl rfl rfl (ao_nil ?_)
   change BW _ _ _ _ _
   refine bw_region ?_
   refine sS rfl rfl rfl (op1_incN (k := s3) (c := 1) rfl rfl rfl (by omega)) ?_
   refine sM rfl rfl rfl rfl rfl (ao_nil ?_)
   exact ⟨rfl, (x8, (s3 + 1)), h, ⟨(.cons .same .nil), (sC rfl (sC rfl (sC rfl (sC rfl sub_nil))))⟩⟩
  ·intro hc4; replace h := ocond_f hc4 h
   refine bw_exit ?_
   change BW _ _ _ _ _
   refine bR ?_
   refine sM rfl rfl rfl rfl rfl ?_
   refine sA rfl rfl rfl rfl rfl (ao_nil ?_)
   change BW _ _ _ _ _
   refine bw_ret ?_
   change ∃ xs, _ = some xs ∧ EndOk _ _ _ _
   obtain rfl := Option.some.inj h
   exact ⟨_, rfl, endR (y := (PV.sl (some 0) 1 (List.map ofB s2))) 1 (Wk.refl _) rfl rfl (.row rfl (ids_map (fun _ => rfl) _)) (.cons .arr .nil) ⟨rfl, rfl⟩⟩
theorem t_wire_put (r_wire_fields : Str → (List (Str × V)) → Option Str) (c_wire_fields : ∀ (a0 : Str) (a1 : (List (Str × V))) r, r_wire_fields a0 a1 = some r → MCalls Try.prog 46 [(PV.sl (some 0) 1 (List.map ofB a0)), (PV.sl none 2 (List.map ofFld a1))] [.arr 5 (a0).length] (PV.sl (some 0) 1 (List.map ofB r)) [.arr 5 (r).length]) (r_wire_put : Str → V → Option Str) (c_wire_put : ∀ (a0 : Str) (a1 : V) r, r_wire_put a0 a1 = some r → MCalls Try.prog 30 [(PV.sl (some 0) 1 (List.map ofB a0)), (ofV a1)] [.arr 5 (a0).length] (PV.sl (some 0) 1 (List.map ofB r)) [.arr 5 (r).length]) (a0 : Str) (a1 : V) (r : Str) (h : b_wire_put r_wire_fields r_wire_put a0 a1 = some r) : MCalls Try.prog 30 [(PV.sl (some 0) 1 (List.map ofB a0)), (ofV a1)] [.arr 5 (a0).length] (PV.sl (some 0) 1 (List.map ofB r)) [.arr 5 (r).length] := by
 unfold b_wire_put at h
 refine acalls_of Try.func30 rfl Try.ntmps30 Try.results30 rfl (aw_of_bw ?_)
 change BW _ _ _ ⟨[(0, (PV.sl (some 0) 1 (List.map ofB a0))), (1, (ofV a1))], [.arr 5 (a0).length], _⟩ _
 refine bR ?_
 refine sA rfl rfl rfl rfl rfl (ao_nil ?_)
 change BW _ _ _ _ _
 refine bR ?_
 refine sM rfl rfl rfl rfl rfl ?_
 refine sM rfl rfl rfl rfl rfl ?_
 obtain ⟨x1, hx1, h⟩ := obind h
 refine sS rfl rfl rfl (op1_pcall rfl en_42 rfl (.cons (Wk.refl _) .nil) ⟨(ids_V a1), trivial⟩ (s_value_Kind a1 x1 hx1) rfl) ?_
 refine sS rfl rfl rfl (op1_toU8 Try.underlying3 Try.underlying5 rfl rfl) ?_
 refine sS rfl rfl rfl ((op1_bslice (xs := [(ofB (UInt8.ofInt x1))]) Try.underlying23 inf_5 rfl rfl rfl rfl rfl rfl ⟨Nat.le_of_ble_eq_true rfl, Nat.le_of_ble_eq_true rfl⟩ rfl).cast (y := (PV.sl (some 1) 1 (List.map ofB ([(UInt8.ofInt x1)] : Str)))) rfl rfl) ?_
 obtain ⟨x2, hx2, h⟩ := obind h
 refine sS rfl rfl rfl (op1_appM Try.underlying23 inf_5 rfl Try.underlying23 rfl rfl rfl rfl (fun _ => rfl) (fun _ => rfl) hx2 rfl) ?_
 refine sA rfl rfl rfl rfl rfl (ao_nil ?_)
 change BW _ _ _ _ _
 refine bw_seqJ (ι := Str) (fun i => wire_put_j1 i = some r) (fun i => [(0, (PV.sl (some 0) 1 (List.map ofB i)))]) (fun i => [.arr 5 (i).length]) ?_ ?_ ?_
 ·intro i; exact ⟨Nat.le_of_ble_eq_true rfl, ⟨(il_tok rfl (ids_map (fun _ => rfl) _)), trivial⟩, trivial⟩
 ·rintro s3 h; replace h : wire_put_j1 s3 = some r := h; unfold wire_put_j1 at h
  change BW _ _ _ ⟨[(0, (PV.sl (some 0) 1 (List.map ofB s3)))], [.arr 5 (s3).length], _⟩ _
  refine bR ?_
  refine sM rfl rfl rfl rfl rfl ?_
  refine sA rfl rfl rfl rfl rfl (ao_nil ?_)
  change BW _ _ _ _ _
  refine bw_ret ?_
  change ∃ xs, _ = some xs ∧ EndOk _ _ _ _
  obtain rfl := Option.some.inj h
  exact ⟨_, rfl, endR (y := (PV.sl (some 0) 1 (List.map ofB s3))) 1 (Wk.refl _) rfl rfl (.row rfl (ids_map (fun _ => rfl) _)) (.cons .arr .nil) ⟨rfl, rfl⟩⟩
 ·refine bR ?_
  refine sM rfl rfl rfl rfl rfl (ao_nil ?_)
  change BW _ _ _ _ _
  refine bw_block ?_
  change BW _ _ _ _ _
  refine bR ?_
  refine sS rfl rfl rfl (op1_taBool rfl rfl) ?_
  refine sS rfl rfl rfl (op1_ext rfl rfl rfl) ?_
  refine sS rfl rfl rfl (op1_ext rfl rfl rfl) (ao_nil ?_)
  change BW _ _ _ _ _
  refine bw_cond rfl ?_ ?_
  ·intro hc4; replace h := ocond_t hc4 h
   refine bR ?_
   refine sA rfl rfl rfl rfl rfl (ao_nil ?_)
   change BW _ _ _ _ _
   refine bw_seq ?_
   refine bR ?_
   refine sM rfl rfl rfl rfl rfl (ao_nil ?_)
   change BW _ _ _ _ _
   refine bw_cond rfl ?_ ?_
   ·intro hc5; replace h := ocond_t hc5 h
    refine bR ?_
    refine sM rfl rfl rfl rfl rfl ?_
    refine sS rfl rfl rfl ((op1_bslice (xs := [(ofB (1 : UInt8))]) Try.underlying23 inf_5 rfl rfl rfl rfl rfl rfl ⟨Nat.le_of_ble_eq_true rfl, Nat.le_of_ble_eq_true rfl⟩ rfl).cast (y := (PV.sl (some 2) 1 (List.map ofB ([(1 : UInt8)] : Str)))) rfl rfl) ?_
    obtain ⟨x6, hx6, h⟩ := obind h
    refine sS rfl rfl rfl (op1_appM Try.underlying23 inf_5 rfl Try.underlying23 rfl rfl rfl rfl (fun _ => rfl) (fun _ => rfl) hx6 rfl) ?_
    refine sA rfl rfl rfl rfl rfl (ao_nil ?_)
    change BW _ _ _ _ _
    refine bw_ret ?_
    change ∃ xs, _ = some xs ∧ EndOk _ _ _ _
    obtain rfl := Option.some.inj h
    exact ⟨_, rfl, endR (y := (PV.sl (some 0) 1 (List.map ofB x6))) 1 (Wk.refl _) rfl rfl (.row rfl (ids_map (fun _ => rfl) _)) (.cons .arr .nil) ⟨rfl, rfl⟩⟩
   ·intro hc5; replace h := ocond_f hc5 h
    refine bw_skip ?_
    change BW _ _ _ _ _
    refine bR ?_
    refine sM rfl rfl rfl rfl rfl ?_
    refine sS rfl rfl rfl ((op1_bslice (xs := [(ofB (0 : UInt8))]) Try.underlying23 inf_5 rfl rfl rfl rfl rfl rfl ⟨Nat.le_of_ble_eq_true rfl, Nat.le_of_ble_eq_true rfl⟩ rfl).cast (y := (PV.sl (some 2) 1 (List.map ofB ([(0 : UInt8)] : Str)))) rfl rfl) ?_
    obtain ⟨x7, hx7, h⟩ := obind h
    refine sS rfl rfl rfl (op1_appM Try.underlying23 inf_5 rfl Try.underlying23 rfl rfl rfl rfl (fun _ => rfl) (fun _ => rfl) hx7 rfl) ?_
    refine sA rfl rfl rfl rfl rfl (ao_nil ?_)
    change BW _ _ _ _ _
    refine bw_ret ?_
    change ∃ xs, _ = some xs ∧ EndOk _ _ _ _
    obtain rfl := Option.some.inj h
    exact ⟨_, rfl, endR (y := (PV.sl (some 0) 1 (List.map ofB x7))) 1 (Wk.refl _) rfl rfl (.row rfl (ids_map (fun _ => rfl) _)) (.cons .arr .nil) ⟨rfl, rfl⟩⟩
  ·intro hc4; replace h := ocond_f hc4 h
   refine bR ?_
   refine sS rfl rfl rfl (op1_taInt rfl rfl) ?_
   refine sS rfl rfl rfl (op1_ext rfl rfl rfl) ?_
   refine sS rfl rfl rfl (op1_ext rfl rfl rfl) (ao_nil ?_)
   change BW _ _ _ _ _
   refine bw_cond rfl ?_ ?_
   ·intro hc8; replace h := ocond_t hc8 h
    refine bR ?_
    refine sA rfl rfl rfl rfl rfl (ao_nil ?_)
    change BW _ _ _ _ _
    refine bR ?_
    refine sM rfl rfl rfl rfl rfl ?_
    refine sM rfl rfl rfl rfl rfl ?_
    obtain ⟨x9, hx9, h⟩ := obind h
    refine sS rfl rfl rfl (op1_pcall rfl en_44 rfl (.cons (Wk.refl _) .nil) ⟨rfl, trivial⟩ (s_wire_zigzag ((a1).asInt) x9 hx9) rfl) ?_
    obtain ⟨x10, hx10, h⟩ := obind h
    refine sS rfl rfl rfl (op1_mcall [0] (.func rfl) en_43 rfl (.cons (Wk.refl _) (.cons (Wk.refl _) .nil)) rfl (.cons rfl .arr .nil) (.cons (.row rfl (ids_map (fun _ => rfl) _)) (.cons (.same rfl) .nil)) (s_wire_number x2 x9 x10 hx10) (.row rfl (ids_map (fun _ => rfl) _)) (.cons .arr .nil) rfl) ?_
    refine sA rfl rfl rfl rfl rfl (ao_nil ?_)
    change BW _ _ _ _ _
    refine bw_ret ?_
    change ∃ xs, _ = some xs ∧ EndOk _ _ _ _
    obtain rfl := Option.some.inj h
    exact ⟨_, rfl, endR (y := (PV.sl (some 0) 1 (List.map ofB x10))) 1 (Wk.refl _) rfl rfl (.row rfl (ids_map (fun _ => rfl) _)) (.cons .arr .nil) ⟨rfl, rfl⟩⟩
   ·intro hc8; replace h := ocond_f hc8 h
    refine bR ?_
    refine sS rfl rfl rfl (op1_taFloat rfl rfl) ?_
    refine sS rfl rfl rfl (op1_ext rfl rfl rfl) ?_
    refine sS rfl rfl rfl (op1_ext rfl rfl rfl) (ao_nil ?_)
    change BW _ _ _ _ _
    refine bw_cond rfl ?_ ?_
    ·intro hc11; replace h := ocond_t hc11 h
     refine bR ?_
     refine sA rfl rfl rfl rfl rfl (ao_nil ?_)
     change BW _ _ _ _ _
     refine bR ?_
     refine sM rfl rfl rfl rfl rfl ?_
     refine sS rfl rfl rfl (op1_f64bits rfl rfl) ?_
     refine sA rfl rfl rfl rfl rfl (ao_nil ?_)
     change BW _ _ _ _ _
     refine bR ?_
     refine sA rfl rfl rfl rfl rfl (ao_nil ?_)
     change BW _ _ _ _ _
     refine bw_block ?_
     change BW _ _ _ _ _
     unfold wire_put_l1 at h
     refine bw_loop (σ := (Str × Int)) (fun i => [(0, (PV.sl (some 0) 1 (List.map ofB i.1))), (8, (PV.v (.int .u64 (((a1).asFloat : Nat) : Int)))), (9, (I64 i.2))]) (fun i => [.arr 5 (i.1).length]) (x2, 56) h ?_ ?_ ?_
     ·intro i; exact ⟨Nat.le_of_ble_eq_true rfl, ⟨(il_tok rfl (ids_map (fun _ => rfl) _)), ⟨(il_nil rfl), ⟨(il_nil rfl), trivial⟩⟩⟩, trivial⟩
     ·exact ⟨(.cons .same .nil), (sC rfl (sC rfl (sC rfl sub_nil)))⟩
     ·rintro g1_f ⟨s12, s13⟩ h; replace h : wire_put_l1b a1 (fun y0 y1 => g1_f (y0, y1)) s12 s13 = some r := h; unfold wire_put_l1b at h
      change BW _ _ _ ⟨[(0, (PV.sl (some 0) 1 (List.map ofB s12))), (8, (PV.v (.int .u64 (((a1).asFloat : Nat) : Int)))), (9, (I64 s13))], [.arr 5 (s12).length], _⟩ _
      refine bw_seq ?_
      refine bR ?_
      refine sM rfl rfl rfl rfl rfl ?_
      refine sS rfl rfl rfl ((op1_cmp rfl rfl rfl rfl).cast (y := (BO ((decide (s13 ≥ 0))))) rfl rfl) (ao_nil ?_)
      change BW _ _ _ _ _
      refine bw_cond rfl ?_ ?_
      ·intro hc14; replace h := ocond_t hc14 h
       refine bw_skip ?_
       change BW _ _ _ _ _
       refine bw_seq ?_
       refine bw_block ?_
       change BW _ _ _ _ _
       refine bw_region ?_
       refine sM rfl rfl rfl rfl rfl ?_
       refine sM rfl rfl rfl rfl rfl ?_
       refine sM rfl rfl rfl rfl rfl ?_
       obtain ⟨x15, hx15, h⟩ := obind h
       refine sS rfl rfl rfl ((op1_shr rfl rfl rfl (negO_some hx15)).cast (y := (PV.v (.int .u64 (shrK .u64 (((a1).asFloat : Nat) : Int) s13)))) rfl rfl) ?_
       refine sS rfl rfl rfl (op1_toU8 Try.underlying24 Try.underlying5 rfl rfl) ?_
       refine sS rfl rfl rfl ((op1_bslice (xs := [(ofB (UInt8.ofInt (shrK .u64 (((a1).asFloat : Nat) : Int) s13)))]) Try.underlying23 inf_5 rfl rfl rfl rfl rfl rfl ⟨Nat.le_of_ble_eq_true rfl, Nat.le_of_ble_eq_true rfl⟩ rfl).cast (y := (PV.sl (some 1) 1 (List.map ofB ([(UInt8.ofInt (shrK .u64 (((a1).asFloat : Nat) : Int) s13))] : Str)))) rfl rfl) ?_
       obtain ⟨x16, hx16, h⟩ := obind h
       refine sS rfl rfl rfl (op1_appM Try.underlying23 inf_5 rfl Try.underlying23 rfl rfl rfl rfl (fun _ => rfl) (fun _ => rfl) hx16 rfl) ?_
       refine sA rfl rfl rfl rfl rfl (ao_nil ?_)
       change BW _ _ _ _ _
       refine bw_region ?_
       refine sM rfl rfl rfl rfl rfl ?_
       refine sS rfl rfl rfl (op1_subW rfl rfl rfl) ?_
       refine sA rfl rfl rfl rfl rfl (ao_nil ?_)
       exact ⟨rfl, (x16, (IntKind.i64.wrap (s13 - 8))), h, ⟨(.cons .same .nil), (sC rfl (sC rfl (sC rfl sub_nil)))⟩⟩
      ·intro hc14; replace h := ocond_f hc14 h
       refine bw_exit ?_
       exact ⟨rfl, s12, h, ⟨(.cons .same .nil), (sC rfl sub_nil)⟩⟩
    ·intro hc11; replace h := ocond_f hc11 h
     refine bR ?_
     refine sS rfl rfl rfl (op1_taText rfl rfl) ?_
     refine sS rfl rfl rfl (op1_ext rfl rfl rfl) ?_
     refine sS rfl rfl rfl (op1_ext rfl rfl rfl) (ao_nil ?_)
     change BW _ _ _ _ _
     refine bw_cond rfl ?_ ?_
     ·intro hc17; replace h := ocond_t hc17 h
      refine bR ?_
      refine sA rfl rfl rfl rfl rfl (ao_nil ?_)
      change BW _ _ _ _ _
      refine bR ?_
      refine sM rfl rfl rfl rfl rfl ?_
      refine sM rfl rfl rfl rfl rfl ?_
      obtain ⟨x18, hx18, h⟩ := obind h
      refine sS rfl rfl rfl (op1_mcall [0] (.func rfl) en_45 rfl (.cons (Wk.refl _) (.cons (Wk.refl _) .nil)) rfl (.cons rfl .arr .nil) (.cons (.row rfl (ids_map (fun _ => rfl) _)) (.cons (.same rfl) .nil)) (s_wire_text x2 ((a1).asText) x18 hx18) (.row rfl (ids_map (fun _ => rfl) _)) (.cons .arr .nil) rfl) ?_
      refine sA rfl rfl rfl rfl rfl (ao_nil ?_)
      change BW _ _ _ _ _
      refine bw_ret ?_
      change ∃ xs, _ = some xs ∧ EndOk _ _ _ _
      obtain rfl := Option.some.inj h
      exact ⟨_, rfl, endR (y := (PV.sl (some 0) 1 (List.map ofB x18))) 1 (Wk.refl _) rfl rfl (.row rfl (ids_map (fun _ => rfl) _)) (.cons .arr .nil) ⟨rfl, rfl⟩⟩
     ·intro hc17; replace h := ocond_f hc17 h
      refine bR ?_
      refine sS rfl rfl rfl (op1_taBytes rfl rfl) ?_
      refine sS rfl rfl rfl (op1_ext rfl rfl rfl) ?_
      refine sS rfl rfl rfl (op1_ext rfl rfl rfl) (ao_nil ?_)
      change BW _ _ _ _ _
      refine bw_cond rfl ?_ ?_
      ·intro hc19; replace h := ocond_t hc19 h
       refine bR ?_
       refine sA rfl rfl rfl rfl rfl (ao_nil ?_)
       change BW _ _ _ _ _
       refine bR ?_
       refine sM rfl rfl rfl rfl rfl ?_
       refine sM rfl rfl rfl rfl rfl ?_
       refine sS rfl rfl rfl (op1_lenM Try.underlying23 rfl rfl) ?_
       refine sS rfl rfl rfl (op1_convI Try.underlying3 Try.underlying24 rfl rfl) ?_
       obtain ⟨x20, hx20, h⟩ := obind h
       refine sS rfl rfl rfl (op1_mcall [0] (.func rfl) en_43 rfl (.cons (Wk.refl _) (.cons (Wk.refl _) .nil)) rfl (.cons rfl .arr .nil) (.cons (.row rfl (ids_map (fun _ => rfl) _)) (.cons (.same rfl) .nil)) (s_wire_number x2 (IntKind.u64.wrap ((((a1).asBytes).length : Nat) : Int)) x20 hx20) (.row rfl (ids_map (fun _ => rfl) _)) (.cons .arr .nil) rfl) ?_
       refine sM rfl rfl rfl rfl rfl ?_
       obtain ⟨x21, hx21, h⟩ := obind h
       refine sS rfl rfl rfl (op1_appM Try.underlying23 inf_5 rfl Try.underlying23 rfl rfl rfl rfl (fun _ => rfl) (fun _ => rfl) hx21 rfl) ?_
       refine sA rfl rfl rfl rfl rfl (ao_nil ?_)
       change BW _ _ _ _ _
       refine bw_ret ?_
       change ∃ xs, _ = some xs ∧ EndOk _ _ _ _
       obtain rfl := Option.some.inj h
       exact ⟨_, rfl, endR (y := (PV.sl (some 0) 1 (List.map ofB x21))) 1 (Wk.refl _) rfl rfl (.row rfl (ids_map (fun _ => rfl) _)) (.cons .arr .nil) ⟨rfl, rfl⟩⟩
      ·intro hc19; replace h := ocond_f hc19 h
       refine bR ?_
       refine sS rfl rfl rfl (op1_taRef rfl rfl) ?_
       refine sS rfl rfl rfl (op1_ext rfl rfl rfl) ?_
       refine sS rfl rfl rfl (op1_ext rfl rfl rfl) (ao_nil ?_)
       change BW _ _ _ _ _
       refine bw_cond rfl ?_ ?_
       ·intro hc22; replace h := ocond_t hc22 h
        refine bR ?_
        refine sA rfl rfl rfl rfl rfl (ao_nil ?_)
        change BW _ _ _ _ _
        refine bR ?_
        refine sM rfl rfl rfl rfl rfl ?_
        refine sM rfl rfl rfl rfl rfl ?_
        obtain ⟨x23, hx23, h⟩ := obind h
        refine sS rfl rfl rfl (op1_mcall [0] (.func rfl) en_43 rfl (.cons (Wk.refl _) (.cons (Wk.refl _) .nil)) rfl (.cons rfl .arr .nil) (.cons (.row rfl (ids_map (fun _ => rfl) _)) (.cons (.same rfl) .nil)) (s_wire_number x2 ((a1).asRef) x23 hx23) (.row rfl (ids_map (fun _ => rfl) _)) (.cons .arr .nil) rfl) ?_
        refine sA rfl rfl rfl rfl rfl (ao_nil ?_)
        change BW _ _ _ _ _
        refine bw_ret ?_
        change ∃ xs, _ = some xs ∧ EndOk _ _ _ _
        obtain rfl := Option.some.inj h
        exact ⟨_, rfl, endR (y := (PV.sl (some 0) 1 (List.map ofB x23))) 1 (Wk.refl _) rfl rfl (.row rfl (ids_map (fun _ => rfl) _)) (.cons .arr .nil) ⟨rfl, rfl⟩⟩
       ·intro hc22; replace h := ocond_f hc22 h
        refine bR ?_
        refine sS rfl rfl rfl (op1_taList rfl rfl) ?_
        refine sS rfl rfl rfl (op1_ext rfl rfl rfl) ?_
        refine sS rfl rfl rfl (op1_ext rfl rfl rfl) (ao_nil ?_)
        change BW _ _ _ _ _
        refine bw_cond rfl ?_ ?_
        ·intro hc24; replace h := ocond_t hc24 h
         refine bR ?_
         refine sA rfl rfl rfl rfl rfl (ao_nil ?_)
         change BW _ _ _ _ _
         refine bR ?_
         refine sM rfl rfl rfl rfl rfl ?_
         refine sM rfl rfl rfl rfl rfl ?_
         refine sS rfl rfl rfl (op1_lenM Try.underlying61 rfl rfl) ?_
         refine sS rfl rfl rfl (op1_convI Try.underlying3 Try.underlying24 rfl rfl) ?_
         obtain ⟨x25, hx25, h⟩ := obind h
         refine sS rfl rfl rfl (op1_mcall [0] (.func rfl) en_43 rfl (.cons (Wk.refl _) (.cons (Wk.refl _) .nil)) rfl (.cons rfl .arr .nil) (.cons (.row rfl (ids_map (fun _ => rfl) _)) (.cons (.same rfl) .nil)) (s_wire_number x2 (IntKind.u64.wrap ((((a1).asList).length : Nat) : Int)) x25 hx25) (.row rfl (ids_map (fun _ => rfl) _)) (.cons .arr .nil) rfl) ?_
         refine sA rfl rfl rfl rfl rfl (ao_nil ?_)
         change BW _ _ _ _ _
         refine bR ?_
         refine sM rfl rfl rfl rfl rfl ?_
         refine sS rfl rfl rfl (op1_lenM Try.underlying61 rfl rfl) ?_
         refine sM rfl rfl rfl rfl rfl (ao_nil ?_)
         change BW _ _ _ _ _
         refine bw_block ?_
         change BW _ _ _ _ _
         unfold wire_put_l2 at h
         refine bw_loop (σ := (Str × Nat)) (fun i => [(0, (PV.sl (some 0) 1 (List.map ofB i.1))), (88, (PV.sl none 1 (List.map ofV (a1).asList))), (89, (I64 (((((a1).asList).length : Nat) : Int)))), (90, (I64 (((i.2 : Nat) : Int))))]) (fun i => [.arr 5 (i.1).length]) (x25, 0) h ?_ ?_ ?_
         ·intro i; exact ⟨Nat.le_of_ble_eq_true rfl, ⟨(il_tok rfl (ids_map (fun _ => rfl) _)), ⟨(il_nil (ids_slM ids_V _)), ⟨(il_nil rfl), ⟨(il_nil rfl), trivial⟩⟩⟩⟩, trivial⟩
         ·exact ⟨(.cons .same .nil), (sC rfl (sC rfl (sC rfl (sC rfl sub_nil))))⟩
         ·rintro g1_f ⟨s26, s27⟩ h; replace h : wire_put_l2b r_wire_put a1 (fun y0 y1 => g1_f (y0, y1)) s26 s27 = some r := h; unfold wire_put_l2b at h
          change BW _ _ _ ⟨[(0, (PV.sl (some 0) 1 (List.map ofB s26))), (88, (PV.sl none 1 (List.map ofV (a1).asList))), (89, (I64 (((((a1).asList).length : Nat) : Int)))), (90, (I64 (((s27 : Nat) : Int))))], [.arr 5 (s26).length], _⟩ _
          refine bR ?_
          refine sS rfl rfl rfl ((op1_cmp rfl rfl rfl rfl).cast (y := (BO ((decide (((s27 : Nat) : Int) < ((((a1).asList).length : Nat) : Int)))))) rfl rfl) (ao_nil ?_)
          change BW _ _ _ _ _
          refine bw_seq ?_
          refine bw_len (t := 88) rfl fun hb29 => ?_
          try rw [List.length_map] at hb29
          refine bw_cond rfl ?_ ?_
          ·intro hc28; replace h := ocond_t hc28 h
           have hc28_ := of_decide_eq_true hc28
           refine bw_skip ?_
           change BW _ _ _ _ _
           refine bw_seq ?_
           refine bw_block ?_
           change BW _ _ _ _ _
           refine bR ?_
           obtain ⟨x30, hx30, h⟩ := obind h
           refine sS rfl rfl rfl (op1_idxN (i := s27) Try.underlying61 inf_20 rfl rfl rfl hx30 rfl) ?_
           refine sS rfl rfl rfl (op1_ldP (y := (ofV x30)) Try.underlying20 rfl rfl rfl (by rw [cells_V]; rfl)) ?_
           refine sA rfl rfl rfl rfl rfl (ao_nil ?_)
           change BW _ _ _ _ _
           refine bw_region ?_
           refine sM rfl rfl rfl rfl rfl ?_
           refine sM rfl rfl rfl rfl rfl ?_
           obtain ⟨x31, hx31, h⟩ := obind h
           refine sS rfl rfl rfl (op1_mcall [0] (.func rfl) en_30 rfl (.cons (Wk.refl _) (.cons (Wk.refl _) .nil)) rfl (.cons rfl .arr .nil) (.cons (.row rfl (ids_map (fun _ => rfl) _)) (.cons (.same (ids_V x30)) .nil)) (c_wire_put s26 x30 x31 hx31) (.row rfl (ids_map (fun _ => rfl) _)) (.cons .arr .nil) rfl) ?_
           refine sA rfl rfl rfl rfl rfl (ao_nil ?_)
           change BW _ _ _ _ _
           refine bw_region ?_
           refine sS rfl rfl rfl (op1_incN (k := s27) (c := 1) rfl rfl rfl (by omega)) ?_
           refine sM rfl rfl rfl rfl rfl (ao_nil ?_)
           exact ⟨rfl, (x31, (s27 + 1)), h, ⟨(.cons .same .nil), (sC rfl (sC rfl (sC rfl (sC rfl sub_nil))))⟩⟩
          ·intro hc28; replace h := ocond_f hc28 h
           refine bw_exit ?_
           exact ⟨rfl, s26, h, ⟨(.cons .same .nil), (sC rfl sub_nil)⟩⟩
        ·intro hc24; replace h := ocond_f hc24 h
         refine bR ?_
         refine sS rfl rfl rfl (op1_taDict rfl rfl) ?_
         refine sS rfl rfl rfl (op1_ext rfl rfl rfl) ?_
         refine sS rfl rfl rfl (op1_ext rfl rfl rfl) (ao_nil ?_)
         change BW _ _ _ _ _
         refine bw_cond rfl ?_ ?_
         ·intro hc32; replace h := ocond_t hc32 h
          refine bR ?_
          refine sA rfl rfl rfl rfl rfl (ao_nil ?_)
          change BW _ _ _ _ _
          refine bR ?_
          refine sM rfl rfl rfl rfl rfl ?_
          refine sM rfl rfl rfl rfl rfl ?_
          obtain ⟨x33, hx33, h⟩ := obind h
          refine sS rfl rfl rfl (op1_mcall [0] (.func rfl) en_46 rfl (.cons (Wk.refl _) (.cons (Wk.refl _) .nil)) rfl (.cons rfl .arr .nil) (.cons (.row rfl (ids_map (fun _ => rfl) _)) (.cons (.same (ids_slM ids_Fld ((a1).asDict))) .nil)) (c_wire_fields x2 ((a1).asDict) x33 hx33) (.row rfl (ids_map (fun _ => rfl) _)) (.cons .arr .nil) rfl) ?_
          refine sA rfl rfl rfl rfl rfl (ao_nil ?_)
          change BW _ _ _ _ _
          refine bw_ret ?_
          change ∃ xs, _ = some xs ∧ EndOk _ _ _ _
          obtain rfl := Option.some.inj h
          exact ⟨_, rfl, endR (y := (PV.sl (some 0) 1 (List.map ofB x33))) 1 (Wk.refl _) rfl rfl (.row rfl (ids_map (fun _ => rfl) _)) (.cons .arr .nil) ⟨rfl, rfl⟩⟩
         ·intro hc32; replace h := ocond_f hc32 h
          refine bR ?_
          refine sS rfl rfl rfl (op1_taRec rfl rfl) ?_
          refine sS rfl rfl rfl (op1_ext rfl rfl rfl) ?_
          refine sS rfl rfl rfl (op1_ext rfl rfl rfl) (ao_nil ?_)
          change BW _ _ _ _ _
          refine bw_cond rfl ?_ ?_
          ·intro hc34; replace h := ocond_t hc34 h
           refine bR ?_
           refine sA rfl rfl rfl rfl rfl (ao_nil ?_)
           change BW _ _ _ _ _
           refine bw_seq (bw_tail 16 [5, 11] [] mo (by kernel_rfl) ?_)
           refine ac_go rfl rfl rfl rfl (fun H hp => op1_move rfl rfl) ?_
           refine ac_go rfl rfl rfl rfl (fun H hp => op1_move rfl rfl) ?_
           obtain ⟨x35, hx35, h⟩ := obind h
           refine ac_go rfl rfl rfl rfl (fun H hp => op1_pNil rfl rfl hx35) ?_
           refine ac_go rfl rfl rfl rfl (fun H hp => op1_faP st_67 (i := 0) rfl rfl rfl) ?_
           refine ac_go rfl rfl rfl rfl (fun H hp => op1_ldP (y := (ofStr x35.cls)) Try.underlying9 rfl rfl rfl rfl) ?_
           obtain ⟨x36, hx36, h⟩ := obind h
           refine ac_lgo rfl rfl rfl rfl (op1_mcall [0] (.func rfl) en_45 rfl (.cons (Wk.refl _) (.cons (Wk.refl _) .nil)) rfl (.cons rfl .arr .nil) (.cons (.row rfl (ids_map (fun _ => rfl) _)) (.cons (.same rfl) .nil)) (s_wire_text x2 x35.cls x36 hx36) (.row rfl (ids_map (fun _ => rfl) _)) (.cons .arr .nil) rfl) trivial ?_
           refine ac_go rfl rfl rfl rfl (fun H hp => op1_move rfl rfl) ?_
           refine ac_go rfl rfl rfl rfl (fun H hp => op1_pNil rfl rfl hx35) ?_
           refine ac_go rfl rfl rfl rfl (fun H hp => op1_faP st_67 (i := 1) rfl rfl rfl) ?_
           refine ac_go rfl rfl rfl rfl (fun H hp => op1_ldP (y := (I64 x35.ver)) Try.underlying3 rfl rfl rfl rfl) ?_
           refine ac_go rfl rfl rfl rfl (fun H hp => op1_convI Try.underlying3 Try.underlying24 rfl rfl) ?_
           obtain ⟨x37, hx37, h⟩ := obind h
           refine ac_lgo rfl rfl rfl rfl (op1_mcall [0] (.func rfl) en_43 rfl (.cons (Wk.refl _) (.cons (Wk.refl _) .nil)) rfl (.cons rfl .arr .nil) (.cons (.row rfl (ids_map (fun _ => rfl) _)) (.cons (.same rfl) .nil)) (s_wire_number x36 (IntKind.u64.wrap x35.ver) x37 hx37) (.row rfl (ids_map (fun _ => rfl) _)) (.cons .arr .nil) rfl) trivial ?_
           refine ac_go rfl rfl rfl rfl (fun H hp => op1_move rfl rfl) ?_
           refine ac_go rfl rfl rfl rfl (fun H hp => op1_pNil rfl rfl hx35) ?_
           refine ac_go rfl rfl rfl rfl (fun H hp => op1_faP st_67 (i := 2) rfl rfl rfl) ?_
           refine ac_go rfl rfl rfl rfl (fun H hp => op1_ldP (y := (PV.sl none 2 (List.map ofFld x35.fields))) Try.underlying63 rfl rfl rfl rfl) ?_
           refine ac_nil ?_
           change AO _ _ _ _ _
           obtain ⟨x38, hx38, h⟩ := obind h
           refine sS rfl rfl rfl (op1_mcall [0] (.func rfl) en_46 rfl (.cons (Wk.refl _) (.cons (Wk.refl _) .nil)) rfl (.cons rfl .arr .nil) (.cons (.row rfl (ids_map (fun _ => rfl) _)) (.cons (.same (ids_slM ids_Fld x35.fields)) .nil)) (c_wire_fields x37 x35.fields x38 hx38) (.row rfl (ids_map (fun _ => rfl) _)) (.cons .arr .nil) rfl) ?_
           refine sA rfl rfl rfl rfl rfl (ao_nil ?_)
           change BW _ _ _ _ _
           refine bw_ret ?_
           change ∃ xs, _ = some xs ∧ EndOk _ _ _ _
           obtain rfl := Option.some.inj h
           exact ⟨_, rfl, endR (y := (PV.sl (some 0) 1 (List.map ofB x38))) 1 (Wk.refl _) rfl rfl (.row rfl (ids_map (fun _ => rfl) _)) (.cons .arr .nil) ⟨rfl, rfl⟩⟩
          ·intro hc34; replace h := ocond_f hc34 h
           refine bw_skip ?_
           exact ⟨rfl, x2, h, ⟨(.cons .same .nil), (sC rfl sub_nil)⟩⟩
theorem C_wire_fields.sound : ∀ (i : C_wire_fields) (r : i.R), fixO C_wire_fields.F i = some r → C_wire_fields.Q i r := by
 refine fixO_ind (Φ := C_wire_fields.F) (Q := C_wire_fields.Q) ?_
 intro g hg i r h
 cases i with
 | k_wire_fields a0 a1 => exact t_wire_fields (fun a0 a1 => g (.k_wire_fields a0 a1)) (fun a0 a1 r hr => hg (.k_wire_fields a0 a1) r hr) (fun a0 a1 => g (.k_wire_put a0 a1)) (fun a0 a1 r hr => hg (.k_wire_put a0 a1) r hr) a0 a1 r h
 | k_wire_put a0 a1 => exact t_wire_put (fun a0 a1 => g (.k_wire_fields a0 a1)) (fun a0 a1 r hr => hg (.k_wire_fields a0 a1) r hr) (fun a0 a1 => g (.k_wire_put a0 a1)) (fun a0 a1 r hr => hg (.k_wire_put a0 a1) r hr) a0 a1 r h
theorem s_wire_fields (a0 : Str) (a1 : (List (Str × V))) (r : Str) (h : p_wire_fields a0 a1 = some r) : MCalls Try.prog 46 [(PV.sl (some 0) 1 (List.map ofB a0)), (PV.sl none 2 (List.map ofFld a1))] [.arr 5 (a0).length] (PV.sl (some 0) 1 (List.map ofB r)) [.arr 5 (r).length] := C_wire_fields.sound (.k_wire_fields a0 a1) r h
theorem s_wire_put (a0 : Str) (a1 : V) (r : Str) (h : p_wire_put a0 a1 = some r) : MCalls Try.prog 30 [(PV.sl (some 0) 1 (List.map ofB a0)), (ofV a1)] [.arr 5 (a0).length] (PV.sl (some 0) 1 (List.map ofB r)) [.arr 5 (r).length] := C_wire_fields.sound (.k_wire_put a0 a1) r h
noncomputable def p_wire_Encode (a0 : V) : Option (Str × Int) :=
 Option.bind (p_value_Check a0) fun x1 =>
 bif (x1.2 != 0) then (
  some ([], x1.2)
 ) else (
  Option.bind (p_wire_put ([] : Str) a0) fun x3 =>
  some (x3, 0)
 )
theorem s_wire_Encode (a0 : V) (r : (Str × Int)) (h : p_wire_Encode a0 = some r) : PCalls Try.prog 11 [(ofV a0)] (PV.tup [(PV.sl none 1 (List.map ofB r.1)), (I64 r.2)]) := by
 unfold p_wire_Encode at h
 refine acalls_of Try.func11 rfl Try.ntmps11 Try.results11 rfl (aw_of_bw ?_)
 change BW _ _ _ ⟨[(0, (ofV a0))], [], _⟩ _
 refine bR ?_
 refine sA rfl rfl rfl rfl rfl ?_
 refine sA rfl rfl rfl rfl rfl (ao_nil ?_)
 change BW _ _ _ _ _
 refine bw_seq ?_
 refine bR ?_
 refine sM rfl rfl rfl rfl rfl ?_
 obtain ⟨x1, hx1, h⟩ := obind h
 refine sS rfl rfl rfl (op1_pcall rfl en_29 rfl (.cons (Wk.refl _) .nil) ⟨(ids_V a0), trivial⟩ (s_value_Check a0 x1 hx1) (ids_tup_cons rfl (ids_tup_cons rfl ids_tup_nil))) ?_
 refine sM rfl rfl rfl rfl rfl ?_
 refine sS rfl rfl rfl (op1_ext rfl rfl rfl) ?_
 refine sS rfl rfl rfl (op1_ext rfl rfl rfl) ?_
 refine sA rfl rfl rfl rfl rfl ?_
 refine sA rfl rfl rfl rfl rfl (ao_nil ?_)
 change BW _ _ _ _ _
 refine bR ?_
 refine sM rfl rfl rfl rfl rfl ?_
 refine sS rfl rfl rfl ((op1_cmp rfl rfl rfl rfl).cast (y := (BO ((x1.2 != 0)))) rfl rfl) (ao_nil ?_)
 change BW _ _ _ _ _
 refine bw_cond rfl ?_ ?_
 ·intro hc2; replace h := ocond_t hc2 h
  refine bR ?_
  refine sM rfl rfl rfl rfl rfl ?_
  refine sA rfl rfl rfl rfl rfl ?_
  refine sA rfl rfl rfl rfl rfl (ao_nil ?_)
  change BW _ _ _ _ _
  refine bw_ret ?_
  change ∃ xs, _ = some xs ∧ EndOk _ _ _ _
  obtain rfl := Option.some.inj h
  exact ⟨_, rfl, endOk0 (y := (PV.tup [(PV.sl none 1 (List.map ofB [])), (I64 x1.2)])) (Wk.tup (.cons Wk.nil (.cons (Wk.refl _) .nil))) (ids_tup_cons (ids_slM (fun _ => rfl) ([])) (ids_tup_cons rfl ids_tup_nil)) ⟨rfl, rfl⟩⟩
 ·intro hc2; replace h := ocond_f hc2 h
  refine bw_skip ?_
  change BW _ _ _ _ _
  refine bR ?_
  refine sM rfl rfl rfl rfl rfl ?_
  obtain ⟨x3, hx3, h⟩ := obind h
  refine sS rfl rfl rfl (op1_mcallN 5 [0] rfl en_30 rfl rfl (.row (.val (Wk.refl _) .nil)) rfl (.cons rfl .arr .nil) (.cons (.row rfl rfl) (.cons (.same (ids_V a0)) .nil)) (s_wire_put ([] : Str) a0 x3 hx3) (.row rfl (ids_map (fun _ => rfl) _)) (.cons .arr .nil) rfl) ?_
  refine sA rfl rfl rfl rfl rfl ?_
  refine sA rfl rfl rfl rfl rfl (ao_nil ?_)
  change BW _ _ _ _ _
  refine bw_ret ?_
  change ∃ xs, _ = some xs ∧ EndOk _ _ _ _
  obtain rfl := Option.some.inj h
  exact ⟨_, rfl, endOk0 (y := (PV.tup [(PV.sl none 1 (List.map ofB x3)), (I64 0)])) (Wk.tup (.cons Wk.tok (.cons (Wk.refl _) .nil))) (ids_tup_cons (ids_slM (fun _ => rfl) x3) (ids_tup_cons rfl ids_tup_nil)) ⟨rfl, rfl⟩⟩
noncomputable def wire_All_l1b (a0 : Str) (g1 : (List V) → Int → Option ((List V) × Int × Int)) (s1 : (List V)) (s2 : Int) : Option ((List V) × Int × Int) :=
 bif (decide (s2 < (((a0).length : Nat) : Int))) then (
  Option.bind (p_wire_read a0 s2 true) fun x4 =>
  bif (x4.2.2 != 0) then (
   some ([], x4.2.1, x4.2.2)
  ) else (
   Option.bind (appO 16 s1 ([x4.1] : (List V))) fun x6 =>
   g1 x6 x4.2.1
  )
 ) else (
  some (s1, s2, 0)
 )
theorem wire_All_l1b_cm {ι : Type} {ρ : ι → Type} (g1 : (∀ i, Option (ρ i)) → (List V) → Int → Option ((List V) × Int × Int)) (h_g1 : ∀ y0 y1, CM (fun G => g1 G y0 y1)) (a0 : Str) (s1 : (List V)) (s2 : Int) : CM (fun G : (∀ i, Option (ρ i)) => wire_All_l1b a0 (g1 G) s1 s2) := by
 simp only [wire_All_l1b]
 repeat (first | exact cm_const | exact h_g1 _ _ | refine cm_cond ?_ ?_ | refine cm_bind ?_ (fun _ => ?_))
noncomputable def wire_All_l1 (a0 : Str) (s1 : (List V)) (s2 : Int) : Option ((List V) × Int × Int) :=
 fixO (ι := ((List V) × Int)) (ρ := fun _ => ((List V) × Int × Int)) (fun g i => wire_All_l1b a0 (fun s1 s2 => g (s1, s2)) i.1 i.2) (s1, s2)
theorem wire_All_l1_eq (a0 : Str) (s1 : (List V)) (s2 : Int) : wire_All_l1 a0 s1 s2 = wire_All_l1b a0 (wire_All_l1 a0) s1 s2 :=
 fixO_eq (ι := ((List V) × Int)) (ρ := fun _ => ((List V) × Int × Int)) (Φ := fun g i => wire_All_l1b a0 (fun s1 s2 => g (s1, s2)) i.1 i.2) (fun i => wire_All_l1b_cm (ι := ((List V) × Int)) (ρ := fun _ => ((List V) × Int × Int)) (fun g => (fun s1 s2 => g (s1, s2))) (fun _ _ => cm_app) a0 i.1 i.2) (s1, s2)
noncomputable def p_wire_All (a0 : Str) : Option ((List V) × Int × Int) :=
 wire_All_l1 a0 ([]) 0
theorem s_wire_All (a0 : Str) (r : ((List V) × Int × Int)) (h : p_wire_All a0 = some r) : PCalls Try.prog 24 [(PV.sl none 1 (List.map ofB a0))] (PV.tup [(PV.sl none 1 (List.map ofV r.1)), (I64 r.2.1), (I64 r.2.2)]) := by
 unfold p_wire_All at h
 refine acalls_of Try.func24 rfl Try.ntmps24 Try.results24 rfl (aw_of_bw ?_)
 change BW _ _ _ ⟨[(0, (PV.sl none 1 (List.map ofB a0)))], [], _⟩ _
 refine bR ?_
 refine sA rfl rfl rfl rfl rfl ?_
 refine sA rfl rfl rfl rfl rfl ?_
 refine sA rfl rfl rfl rfl rfl (ao_nil ?_)
 change BW _ _ _ _ _
 refine bR ?_
 refine sA rfl rfl rfl rfl rfl (ao_nil ?_)
 change BW _ _ _ _ _
 refine bR ?_
 refine sA rfl rfl rfl rfl rfl (ao_nil ?_)
 change BW _ _ _ _ _
 refine bw_seq ?_
 refine bw_block ?_
 change BW _ _ _ _ _
 refine bw_ghost (s := ⟨_, _, _⟩) 5 20 (sz := 1) rfl rfl ?_
 unfold wire_All_l1 at h
 refine bw_loop (σ := ((List V) × Int)) (fun i => [(0, (PV.sl none 1 (List.map ofB a0))), (5, (PV.sl (some 0) 1 (List.map ofV i.1))), (6, (I64 i.2))]) (fun i => [.arr 20 (i.1).length]) ([], 0) h ?_ ?_ ?_
 ·intro i; exact ⟨Nat.le_of_ble_eq_true rfl, ⟨(il_nil (ids_slM (fun _ => rfl) _)), ⟨(il_tok rfl (ids_map ids_V _)), ⟨(il_nil rfl), trivial⟩⟩⟩, trivial⟩
 ·exact ⟨(.cons .same .nil), (sC rfl (sC rfl (sC rfl sub_nil)))⟩
 ·rintro g1_f ⟨s1, s2⟩ h; replace h : wire_All_l1b a0 (fun y0 y1 => g1_f (y0, y1)) s1 s2 = some r := h; unfold wire_All_l1b at h
  change BW _ _ _ ⟨[(0, (PV.sl none 1 (List.map ofB a0))), (5, (PV.sl (some 0) 1 (List.map ofV s1))), (6, (I64 s2))], [.arr 20 (s1).length], _⟩ _
  refine bw_seq ?_
  refine bR ?_
  refine sM rfl rfl rfl rfl rfl ?_
  refine sM rfl rfl rfl rfl rfl ?_
  refine sS rfl rfl rfl (op1_lenM Try.underlying23 rfl rfl) ?_
  refine sS rfl rfl rfl ((op1_cmp rfl rfl rfl rfl).cast (y := (BO ((decide (s2 < (((a0).length : Nat) : Int)))))) rfl rfl) (ao_nil ?_)
  change BW _ _ _ _ _
  refine bw_cond rfl ?_ ?_
  ·intro hc3; replace h := ocond_t hc3 h
   refine bw_skip ?_
   change BW _ _ _ _ _
   refine bw_block ?_
   change BW _ _ _ _ _
   refine bR ?_
   refine sM rfl rfl rfl rfl rfl ?_
   refine sM rfl rfl rfl rfl rfl ?_
   obtain ⟨x4, hx4, h⟩ := obind h
   refine sS rfl rfl rfl (op1_pcall rfl en_36 rfl (.cons (Wk.refl _) (.cons (Wk.refl _) (.cons (Wk.refl _) .nil))) ⟨(ids_slM (fun _ => rfl) a0), ⟨rfl, ⟨rfl, trivial⟩⟩⟩ (s_wire_read a0 s2 true x4 hx4) (ids_tup_cons (ids_V x4.1) (ids_tup_cons rfl (ids_tup_cons rfl ids_tup_nil)))) ?_
   refine sM rfl rfl rfl rfl rfl ?_
   refine sS rfl rfl rfl (op1_ext rfl rfl rfl) ?_
   refine sS rfl rfl rfl (op1_ext rfl rfl rfl) ?_
   refine sS rfl rfl rfl (op1_ext rfl rfl rfl) ?_
   refine sA rfl rfl rfl rfl rfl ?_
   refine sA rfl rfl rfl rfl rfl ?_
   refine sA rfl rfl rfl rfl rfl (ao_nil ?_)
   change BW _ _ _ _ _
   refine bw_seq ?_
   refine bR ?_
   refine sM rfl rfl rfl rfl rfl ?_
   refine sS rfl rfl rfl ((op1_cmp rfl rfl rfl rfl).cast (y := (BO ((x4.2.2 != 0)))) rfl rfl) (ao_nil ?_)
   change BW _ _ _ _ _
   refine bw_cond rfl ?_ ?_
   ·intro hc5; replace h := ocond_t hc5 h
    refine bR ?_
    refine sM rfl rfl rfl rfl rfl ?_
    refine sM rfl rfl rfl rfl rfl ?_
    refine sA rfl rfl rfl rfl rfl ?_
    refine sA rfl rfl rfl rfl rfl ?_
    refine sA rfl rfl rfl rfl rfl (ao_nil ?_)
    change BW _ _ _ _ _
    refine bw_ret ?_
    change ∃ xs, _ = some xs ∧ EndOk _ _ _ _
    obtain rfl := Option.some.inj h
    exact ⟨_, rfl, endOk0 (y := (PV.tup [(PV.sl none 1 (List.map ofV [])), (I64 x4.2.1), (I64 x4.2.2)])) (Wk.tup (.cons Wk.nil (.cons (Wk.refl _) (.cons (Wk.refl _) .nil)))) (ids_tup_cons (ids_slM ids_V ([])) (ids_tup_cons rfl (ids_tup_cons rfl ids_tup_nil))) ⟨rfl, rfl⟩⟩
   ·intro hc5; replace h := ocond_f hc5 h
    refine bw_skip ?_
    change BW _ _ _ _ _
    refine bw_region ?_
    refine sM rfl rfl rfl rfl rfl ?_
    refine sM rfl rfl rfl rfl rfl ?_
    refine sS rfl rfl rfl ((op1_bslice (xs := [(ofV x4.1)]) Try.underlying51 inf_20 rfl rfl rfl (by simp only [List.all_cons, List.all_nil, cok_V, cok_RecP, Bool.and_true, Bool.true_and]; try rfl) (by simp only [List.all_cons, List.all_nil, csz_V, csz_RecP, cells_V, cells_RecP]; try rfl) rfl ⟨Nat.le_of_ble_eq_true rfl, Nat.le_of_ble_eq_true rfl⟩ (by simp only [zipN, afill, List.flatMap_cons, List.flatMap_nil, cells_V, cells_RecP]; try rfl)).cast (y := (PV.sl (some 1) 1 (List.map ofV ([x4.1] : (List V))))) rfl rfl) ?_
    obtain ⟨x6, hx6, h⟩ := obind h
    refine sS rfl rfl rfl (op1_appM Try.underlying51 inf_20 rfl Try.underlying51 rfl rfl rfl rfl csz_V call1_V hx6 rfl) ?_
    refine sM rfl rfl rfl rfl rfl ?_
    refine sA rfl rfl rfl rfl rfl ?_
    refine sA rfl rfl rfl rfl rfl (ao_nil ?_)
    exact ⟨rfl, (x6, x4.2.1), h, ⟨(.cons .same .nil), (sC rfl (sC rfl (sC rfl sub_nil)))⟩⟩
  ·intro hc3; replace h := ocond_f hc3 h
   refine bw_exit ?_
   change BW _ _ _ _ _
   refine bR ?_
   refine sM rfl rfl rfl rfl rfl ?_
   refine sM rfl rfl rfl rfl rfl ?_
   refine sA rfl rfl rfl rfl rfl ?_
   refine sA rfl rfl rfl rfl rfl ?_
   refine sA rfl rfl rfl rfl rfl (ao_nil ?_)
   change BW _ _ _ _ _
   refine bw_ret ?_
   change ∃ xs, _ = some xs ∧ EndOk _ _ _ _
   obtain rfl := Option.some.inj h
   exact ⟨_, rfl, endOk0 (y := (PV.tup [(PV.sl none 1 (List.map ofV s1)), (I64 s2), (I64 0)])) (Wk.tup (.cons Wk.tok (.cons (Wk.refl _) (.cons (Wk.refl _) .nil)))) (ids_tup_cons (ids_slM ids_V s1) (ids_tup_cons rfl (ids_tup_cons rfl ids_tup_nil))) ⟨rfl, rfl⟩⟩
end Go.Proofs.Ytigadhiciinicaa
