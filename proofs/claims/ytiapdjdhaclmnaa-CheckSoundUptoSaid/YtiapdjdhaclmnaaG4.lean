/- Pure functions, and that calls answer as they say. Written by gen.py. -/
import Derived.Test.YtiapdjdhaclmnaaG3
namespace Go.Proofs.Ytiapdjdhaclmnaa
open Go Aw
set_option linter.unusedVariables false
set_option linter.unusedSimpArgs false
set_option maxRecDepth 20000
set_option maxHeartbeats 2000000
noncomputable def slices_IndexFunc_string_string_check_dicts_1_l1b (a0 : (List Str)) (a1c0 : Typ) (g1 : Nat → Option Int) (s1 : Nat) : Option Int :=
 bif (decide (((s1 : Nat) : Int) < (((a0).length : Nat) : Int))) then (
  Option.bind ((a0)[s1]?) fun x4 =>
  Option.bind (p_check_dicts_1 x4 a1c0) fun x5 =>
  bif x5 then (
   some ((s1 : Nat) : Int)
  ) else (
   g1 (s1 + 1)
  )
 ) else (
  some (-1)
 )
theorem slices_IndexFunc_string_string_check_dicts_1_l1b_cm {ι : Type} {ρ : ι → Type} (g1 : (∀ i, Option (ρ i)) → Nat → Option Int) (h_g1 : ∀ y0, CM (fun G => g1 G y0)) (a0 : (List Str)) (a1c0 : Typ) (s1 : Nat) : CM (fun G : (∀ i, Option (ρ i)) => slices_IndexFunc_string_string_check_dicts_1_l1b a0 a1c0 (g1 G) s1) := by
 simp only [slices_IndexFunc_string_string_check_dicts_1_l1b]
 repeat (first | exact cm_const | exact h_g1 _ | refine cm_cond ?_ ?_ | refine cm_bind ?_ (fun _ => ?_))
noncomputable def slices_IndexFunc_string_string_check_dicts_1_l1 (a0 : (List Str)) (a1c0 : Typ) (s1 : Nat) : Option Int :=
 fixO (ι := Nat) (ρ := fun _ => Int) (fun g i => slices_IndexFunc_string_string_check_dicts_1_l1b a0 a1c0 (fun s1 => g s1) i) s1
theorem slices_IndexFunc_string_string_check_dicts_1_l1_eq (a0 : (List Str)) (a1c0 : Typ) (s1 : Nat) : slices_IndexFunc_string_string_check_dicts_1_l1 a0 a1c0 s1 = slices_IndexFunc_string_string_check_dicts_1_l1b a0 a1c0 (slices_IndexFunc_string_string_check_dicts_1_l1 a0 a1c0) s1 :=
 fixO_eq (ι := Nat) (ρ := fun _ => Int) (Φ := fun g i => slices_IndexFunc_string_string_check_dicts_1_l1b a0 a1c0 (fun s1 => g s1) i) (fun i => slices_IndexFunc_string_string_check_dicts_1_l1b_cm (ι := Nat) (ρ := fun _ => Int) (fun g => (fun s1 => g s1)) (fun _ => cm_app) a0 a1c0 i) s1
noncomputable def p_slices_IndexFunc_string_string_check_dicts_1 (a0 : (List Str)) (a1c0 : Typ) : Option Int :=
 slices_IndexFunc_string_string_check_dicts_1_l1 a0 a1c0 0
theorem s_slices_IndexFunc_string_string_check_dicts_1 (a0 : (List Str)) (a1c0 : Typ) (r : Int) (h : p_slices_IndexFunc_string_string_check_dicts_1 a0 a1c0 = some r) : PCalls Try.prog 116 [(PV.sl none 1 (List.map ofStr a0)), (PV.fn (.func 95) [] [(PV.pt (ofTypX a1c0) 0)])] (I64 r) := by
 unfold p_slices_IndexFunc_string_string_check_dicts_1 at h
 refine acalls_of Try.func116 rfl Try.ntmps116 Try.results116 rfl (aw_of_bw ?_)
 change BW _ _ _ ⟨[(0, (PV.sl none 1 (List.map ofStr a0))), (1, (PV.fn (.func 95) [] [(PV.pt (ofTypX a1c0) 0)]))], [], _⟩ _
 refine bR ?_
 refine sA rfl rfl rfl rfl rfl (ao_nil ?_)
 change BW _ _ _ _ _
 refine bw_seq ?_
 refine bR ?_
 refine sM rfl rfl rfl rfl rfl ?_
 refine sS rfl rfl rfl (op1_lenM Try.underlying31 rfl rfl) ?_
 refine sM rfl rfl rfl rfl rfl (ao_nil ?_)
 change BW _ _ _ _ _
 refine bw_block ?_
 change BW _ _ _ _ _
 unfold slices_IndexFunc_string_string_check_dicts_1_l1 at h
 refine bw_loop (σ := Nat) (fun i => [(0, (PV.sl none 1 (List.map ofStr a0))), (1, (PV.fn (.func 95) [] [(PV.pt (ofTypX a1c0) 0)])), (7, (I64 ((((a0).length : Nat) : Int)))), (8, (I64 (((i : Nat) : Int))))]) (fun i => []) 0 h ?_ ?_ ?_
 ·intro i; exact ⟨Nat.le_of_ble_eq_true rfl, ⟨(il_nil (ids_slM (fun _ => rfl) _)), ⟨(il_nil (ids_fnc (ids_pt1 (ids_TypX a1c0) rfl))), ⟨(il_nil rfl), ⟨(il_nil rfl), trivial⟩⟩⟩⟩, trivial⟩
 ·exact ⟨.nil, (sC rfl (sC rfl (sC rfl (sC rfl sub_nil))))⟩
 ·rintro g1_f s1 h; replace h : slices_IndexFunc_string_string_check_dicts_1_l1b a0 a1c0 (fun y0 => g1_f y0) s1 = some r := h; unfold slices_IndexFunc_string_string_check_dicts_1_l1b at h
  change BW _ _ _ ⟨[(0, (PV.sl none 1 (List.map ofStr a0))), (1, (PV.fn (.func 95) [] [(PV.pt (ofTypX a1c0) 0)])), (7, (I64 ((((a0).length : Nat) : Int)))), (8, (I64 (((s1 : Nat) : Int))))], [], _⟩ _
  refine bR ?_
  refine sS rfl rfl rfl ((op1_cmp rfl rfl rfl rfl).cast (y := (BO ((decide (((s1 : Nat) : Int) < (((a0).length : Nat) : Int)))))) rfl rfl) (ao_nil ?_)
  change BW _ _ _ _ _
  refine bw_seq ?_
  refine bw_len (t := 0) rfl fun hb3 => ?_
  try rw [List.length_map] at hb3
  refine bw_cond rfl ?_ ?_
  ·intro hc2; replace h := ocond_t hc2 h
   have hc2_ := of_decide_eq_true hc2
   refine bw_skip ?_
   change BW _ _ _ _ _
   refine bw_seq ?_
   refine bw_block ?_
   change BW _ _ _ _ _
   refine bR ?_
   refine sM rfl rfl rfl rfl rfl ?_
   refine sA rfl rfl rfl rfl rfl (ao_nil ?_)
   change BW _ _ _ _ _
   refine bR ?_
   refine sM rfl rfl rfl rfl rfl ?_
   refine sM rfl rfl rfl rfl rfl ?_
   refine sM rfl rfl rfl rfl rfl ?_
   obtain ⟨x4, hx4, h⟩ := obind h
   refine sS rfl rfl rfl (op1_idxN (i := s1) Try.underlying31 inf_9 rfl rfl rfl hx4 rfl) ?_
   refine sS rfl rfl rfl (op1_ldP (y := (ofStr x4)) Try.underlying9 rfl rfl rfl rfl) ?_
   obtain ⟨x5, hx5, h⟩ := obind h
   refine sS rfl rfl rfl (op1_pcallC rfl rfl en_95 rfl (.cons (Wk.refl _) (.cons (Wk.refl _) .nil)) ⟨rfl, ⟨(ids_TypX a1c0), trivial⟩⟩ (s_check_dicts_1 x4 a1c0 x5 hx5) rfl) (ao_nil ?_)
   change BW _ _ _ _ _
   refine bw_cond rfl ?_ ?_
   ·intro hc6; replace h := ocond_t hc6 h
    refine bR ?_
    refine sM rfl rfl rfl rfl rfl ?_
    refine sA rfl rfl rfl rfl rfl (ao_nil ?_)
    change BW _ _ _ _ _
    refine bw_ret ?_
    change ∃ xs, _ = some xs ∧ EndOk _ _ _ _
    obtain rfl := Option.some.inj h
    exact ⟨_, rfl, endOk0 (y := (I64 (((s1 : Nat) : Int)))) (Wk.refl _) rfl ⟨rfl, rfl⟩⟩
   ·intro hc6; replace h := ocond_f hc6 h
    refine bw_skip ?_
    change BW _ _ _ _ _
    refine bw_region ?_
    refine sS rfl rfl rfl (op1_incN (k := s1) (c := 1) rfl rfl rfl (by omega)) ?_
    refine sM rfl rfl rfl rfl rfl (ao_nil ?_)
    exact ⟨rfl, (s1 + 1), h, ⟨.nil, (sC rfl (sC rfl (sC rfl (sC rfl sub_nil))))⟩⟩
  ·intro hc2; replace h := ocond_f hc2 h
   refine bw_exit ?_
   change BW _ _ _ _ _
   refine bR ?_
   refine sA rfl rfl rfl rfl rfl (ao_nil ?_)
   change BW _ _ _ _ _
   refine bw_ret ?_
   change ∃ xs, _ = some xs ∧ EndOk _ _ _ _
   obtain rfl := Option.some.inj h
   exact ⟨_, rfl, endOk0 (y := (I64 ((-1)))) (Wk.refl _) rfl ⟨rfl, rfl⟩⟩
noncomputable def p_slices_ContainsFunc_string_string_check_dicts_1 (a0 : (List Str)) (a1c0 : Typ) : Option Bool :=
 Option.bind (p_slices_IndexFunc_string_string_check_dicts_1 a0 a1c0) fun x1 =>
 some (decide (x1 ≥ 0))
theorem s_slices_ContainsFunc_string_string_check_dicts_1 (a0 : (List Str)) (a1c0 : Typ) (r : Bool) (h : p_slices_ContainsFunc_string_string_check_dicts_1 a0 a1c0 = some r) : PCalls Try.prog 94 [(PV.sl none 1 (List.map ofStr a0)), (PV.fn (.func 95) [] [(PV.pt (ofTypX a1c0) 0)])] (BO r) := by
 unfold p_slices_ContainsFunc_string_string_check_dicts_1 at h
 refine acalls_of Try.func94 rfl Try.ntmps94 Try.results94 rfl (aw_of_bw ?_)
 change BW _ _ _ ⟨[(0, (PV.sl none 1 (List.map ofStr a0))), (1, (PV.fn (.func 95) [] [(PV.pt (ofTypX a1c0) 0)]))], [], _⟩ _
 refine bR ?_
 refine sA rfl rfl rfl rfl rfl (ao_nil ?_)
 change BW _ _ _ _ _
 refine bR ?_
 refine sM rfl rfl rfl rfl rfl ?_
 refine sM rfl rfl rfl rfl rfl ?_
 obtain ⟨x1, hx1, h⟩ := obind h
 refine sS rfl rfl rfl (op1_pcall rfl en_116 rfl (.cons (Wk.refl _) (.cons (Wk.refl _) .nil)) ⟨(ids_slM (fun _ => rfl) a0), ⟨(ids_fnc (ids_pt1 (ids_TypX a1c0) rfl)), trivial⟩⟩ (s_slices_IndexFunc_string_string_check_dicts_1 a0 a1c0 x1 hx1) rfl) ?_
 refine sS rfl rfl rfl ((op1_cmp rfl rfl rfl rfl).cast (y := (BO ((decide (x1 ≥ 0))))) rfl rfl) ?_
 refine sA rfl rfl rfl rfl rfl (ao_nil ?_)
 change BW _ _ _ _ _
 refine bw_ret ?_
 change ∃ xs, _ = some xs ∧ EndOk _ _ _ _
 obtain rfl := Option.some.inj h
 exact ⟨_, rfl, endOk0 (y := (BO ((decide (x1 ≥ 0))))) (Wk.refl _) rfl ⟨rfl, rfl⟩⟩
end Go.Proofs.Ytiapdjdhaclmnaa
