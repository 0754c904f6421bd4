/- Pure functions, and that calls answer as they say. Written by gen.py. -/
import Derived.Test.YthfdpaboekoncaaG1
namespace Go.Proofs.Ythfdpaboekoncaa
open Go Aw
set_option linter.unusedVariables false
set_option linter.unusedSimpArgs false
set_option maxRecDepth 20000
set_option maxHeartbeats 2000000
noncomputable def value_entries_l1b (r_value_plain : V → Option Term) (a0 : (List (Str × V))) (g1 : (List (Str × Term)) → Nat → Option (List (Str × Term))) (s1 : (List (Str × Term))) (s2 : Nat) : Option (List (Str × Term)) :=
 bif (decide (((s2 : Nat) : Int) < (((a0).length : Nat) : Int))) then (
  Option.bind ((a0)[s2]?) fun x5 =>
  Option.bind (r_value_plain x5.2) fun x6 =>
  Option.bind (appO 168 s1 ([(x5.1, x6)] : (List (Str × Term)))) fun x7 =>
  g1 x7 (s2 + 1)
 ) else (
  some s1
 )
theorem value_entries_l1b_cm {ι : Type} {ρ : ι → Type} (r_value_plain : (∀ i, Option (ρ i)) → V → Option Term) (h_r_value_plain : ∀ y0, CM (fun G => r_value_plain G y0)) (g1 : (∀ i, Option (ρ i)) → (List (Str × Term)) → Nat → Option (List (Str × Term))) (h_g1 : ∀ y0 y1, CM (fun G => g1 G y0 y1)) (a0 : (List (Str × V))) (s1 : (List (Str × Term))) (s2 : Nat) : CM (fun G : (∀ i, Option (ρ i)) => value_entries_l1b (r_value_plain G) a0 (g1 G) s1 s2) := by
 simp only [value_entries_l1b]
 repeat (first | exact cm_const | exact h_r_value_plain _ | exact h_g1 _ _ | refine cm_cond ?_ ?_ | refine cm_bind ?_ (fun _ => ?_))
noncomputable def value_entries_l1 (r_value_plain : V → Option Term) (a0 : (List (Str × V))) (s1 : (List (Str × Term))) (s2 : Nat) : Option (List (Str × Term)) :=
 fixO (ι := ((List (Str × Term)) × Nat)) (ρ := fun _ => (List (Str × Term))) (fun g i => value_entries_l1b r_value_plain a0 (fun s1 s2 => g (s1, s2)) i.1 i.2) (s1, s2)
theorem value_entries_l1_eq (r_value_plain : V → Option Term) (a0 : (List (Str × V))) (s1 : (List (Str × Term))) (s2 : Nat) : value_entries_l1 r_value_plain a0 s1 s2 = value_entries_l1b r_value_plain a0 (value_entries_l1 r_value_plain a0) s1 s2 :=
 fixO_eq (ι := ((List (Str × Term)) × Nat)) (ρ := fun _ => (List (Str × Term))) (Φ := fun g i => value_entries_l1b r_value_plain a0 (fun s1 s2 => g (s1, s2)) i.1 i.2) (fun i => value_entries_l1b_cm (ι := ((List (Str × Term)) × Nat)) (ρ := fun _ => (List (Str × Term))) (fun _ => r_value_plain) (fun _ => cm_const) (fun g => (fun s1 s2 => g (s1, s2))) (fun _ _ => cm_app) a0 i.1 i.2) (s1, s2)
theorem value_entries_l1_cm {ι : Type} {ρ : ι → Type} (r_value_plain : (∀ i, Option (ρ i)) → V → Option Term) (h_r_value_plain : ∀ y0, CM (fun G => r_value_plain G y0)) (a0 : (List (Str × V))) (s1 : (List (Str × Term))) (s2 : Nat) : CM (fun G : (∀ i, Option (ρ i)) => value_entries_l1 (r_value_plain G) a0 s1 s2) :=
 cm_fix (κ := ((List (Str × Term)) × Nat)) (τ := fun _ => (List (Str × Term))) (Φ := fun G g i => value_entries_l1b (r_value_plain G) a0 (fun s1 s2 => g (s1, s2)) i.1 i.2) (fun g i => value_entries_l1b_cm r_value_plain h_r_value_plain (fun _ => (fun s1 s2 => g (s1, s2))) (fun _ _ => cm_const) a0 i.1 i.2) (fun G i => value_entries_l1b_cm (ι := ((List (Str × Term)) × Nat)) (ρ := fun _ => (List (Str × Term))) (fun _ => r_value_plain G) (fun _ => cm_const) (fun g => (fun s1 s2 => g (s1, s2))) (fun _ _ => cm_app) a0 i.1 i.2) (s1, s2)
noncomputable def b_value_entries (r_value_entries : (List (Str × V)) → Option (List (Str × Term))) (r_value_plain : V → Option Term) (a0 : (List (Str × V))) : Option (List (Str × Term)) :=
 value_entries_l1 r_value_plain a0 ([]) 0
theorem b_value_entries_cm {ι : Type} {ρ : ι → Type} (r_value_entries : (∀ i, Option (ρ i)) → (List (Str × V)) → Option (List (Str × Term))) (h_r_value_entries : ∀ y0, CM (fun G => r_value_entries G y0)) (r_value_plain : (∀ i, Option (ρ i)) → V → Option Term) (h_r_value_plain : ∀ y0, CM (fun G => r_value_plain G y0)) (a0 : (List (Str × V))) : CM (fun G : (∀ i, Option (ρ i)) => b_value_entries (r_value_entries G) (r_value_plain G) a0) := by
 simp only [b_value_entries]
 repeat (first | exact cm_const | exact h_r_value_entries _ | exact h_r_value_plain _ | apply value_entries_l1_cm | refine cm_cond ?_ ?_ | refine cm_bind ?_ (fun _ => ?_) | intro _ | assumption)
noncomputable def value_plain_j1 (x1 : Int) (s2 : Bool) (s3 : Int) (s4 : Nat) (s5 : Str) (s6 : Str) (s7 : Int) (s8 : (List Term)) (s9 : (List (Str × Term))) (s10 : Str) (s11 : Int) : Option Term :=
 some (Term.mk x1 s2 s3 s4 s5 s6 s7 s8 s9 s10 s11)
noncomputable def value_plain_l1b (r_value_plain : V → Option Term) (a0 : V) (x1 : Int) (g1 : Nat → (List Term) → Option Term) (s20 : Nat) (s21 : (List Term)) : Option Term :=
 bif (decide (((s20 : Nat) : Int) < ((((a0).asList).length : Nat) : Int))) then (
  Option.bind (((a0).asList)[s20]?) fun x24 =>
  Option.bind (r_value_plain x24) fun x25 =>
  Option.bind (appO 152 s21 ([x25] : (List Term))) fun x26 =>
  g1 (s20 + 1) x26
 ) else (
  value_plain_j1 x1 false 0 0 ([]) ([]) 0 s21 ([]) ([]) 0
 )
theorem value_plain_l1b_cm {ι : Type} {ρ : ι → Type} (r_value_plain : (∀ i, Option (ρ i)) → V → Option Term) (h_r_value_plain : ∀ y0, CM (fun G => r_value_plain G y0)) (g1 : (∀ i, Option (ρ i)) → Nat → (List Term) → Option Term) (h_g1 : ∀ y0 y1, CM (fun G => g1 G y0 y1)) (a0 : V) (x1 : Int) (s20 : Nat) (s21 : (List Term)) : CM (fun G : (∀ i, Option (ρ i)) => value_plain_l1b (r_value_plain G) a0 x1 (g1 G) s20 s21) := by
 simp only [value_plain_l1b]
 repeat (first | exact cm_const | exact h_r_value_plain _ | exact h_g1 _ _ | apply value_plain_j1_cm | refine cm_cond ?_ ?_ | refine cm_bind ?_ (fun _ => ?_) | intro _ | assumption)
noncomputable def value_plain_l1 (r_value_plain : V → Option Term) (a0 : V) (x1 : Int) (s20 : Nat) (s21 : (List Term)) : Option Term :=
 fixO (ι := (Nat × (List Term))) (ρ := fun _ => Term) (fun g i => value_plain_l1b r_value_plain a0 x1 (fun s20 s21 => g (s20, s21)) i.1 i.2) (s20, s21)
theorem value_plain_l1_eq (r_value_plain : V → Option Term) (a0 : V) (x1 : Int) (s20 : Nat) (s21 : (List Term)) : value_plain_l1 r_value_plain a0 x1 s20 s21 = value_plain_l1b r_value_plain a0 x1 (value_plain_l1 r_value_plain a0 x1) s20 s21 :=
 fixO_eq (ι := (Nat × (List Term))) (ρ := fun _ => Term) (Φ := fun g i => value_plain_l1b r_value_plain a0 x1 (fun s20 s21 => g (s20, s21)) i.1 i.2) (fun i => value_plain_l1b_cm (ι := (Nat × (List Term))) (ρ := fun _ => Term) (fun _ => r_value_plain) (fun _ => cm_const) (fun g => (fun s20 s21 => g (s20, s21))) (fun _ _ => cm_app) a0 x1 i.1 i.2) (s20, s21)
theorem value_plain_l1_cm {ι : Type} {ρ : ι → Type} (r_value_plain : (∀ i, Option (ρ i)) → V → Option Term) (h_r_value_plain : ∀ y0, CM (fun G => r_value_plain G y0)) (a0 : V) (x1 : Int) (s20 : Nat) (s21 : (List Term)) : CM (fun G : (∀ i, Option (ρ i)) => value_plain_l1 (r_value_plain G) a0 x1 s20 s21) :=
 cm_fix (κ := (Nat × (List Term))) (τ := fun _ => Term) (Φ := fun G g i => value_plain_l1b (r_value_plain G) a0 x1 (fun s20 s21 => g (s20, s21)) i.1 i.2) (fun g i => value_plain_l1b_cm r_value_plain h_r_value_plain (fun _ => (fun s20 s21 => g (s20, s21))) (fun _ _ => cm_const) a0 x1 i.1 i.2) (fun G i => value_plain_l1b_cm (ι := (Nat × (List Term))) (ρ := fun _ => Term) (fun _ => r_value_plain G) (fun _ => cm_const) (fun g => (fun s20 s21 => g (s20, s21))) (fun _ _ => cm_app) a0 x1 i.1 i.2) (s20, s21)
noncomputable def b_value_plain (r_value_entries : (List (Str × V)) → Option (List (Str × Term))) (r_value_plain : V → Option Term) (a0 : V) : Option Term :=
 Option.bind (p_value_kind a0) fun x1 =>
 bif (a0).isBool then (
  value_plain_j1 x1 ((a0).asBool) 0 0 ([]) ([]) 0 ([]) ([]) ([]) 0
 ) else (
  bif (a0).isInt then (
   value_plain_j1 x1 false ((a0).asInt) 0 ([]) ([]) 0 ([]) ([]) ([]) 0
  ) else (
   bif (a0).isFloat then (
    value_plain_j1 x1 false 0 ((a0).asFloat) ([]) ([]) 0 ([]) ([]) ([]) 0
   ) else (
    bif (a0).isText then (
     value_plain_j1 x1 false 0 0 ((a0).asText) ([]) 0 ([]) ([]) ([]) 0
    ) else (
     bif (a0).isBytes then (
      Option.bind (appO 1 ([] : Str) ((a0).asBytes)) fun x17 =>
      value_plain_j1 x1 false 0 0 ([]) x17 0 ([]) ([]) ([]) 0
     ) else (
      bif (a0).isRef then (
       value_plain_j1 x1 false 0 0 ([]) ([]) ((a0).asRef) ([]) ([]) ([]) 0
      ) else (
       bif (a0).isList then (
        value_plain_l1 r_value_plain a0 x1 0 ([])
       ) else (
        bif (a0).isDict then (
         Option.bind (r_value_entries ((a0).asDict)) fun x28 =>
         value_plain_j1 x1 false 0 0 ([]) ([]) 0 ([]) x28 ([]) 0
        ) else (
         bif (a0).isRec then (
          Option.bind ((a0).asRec) fun x30 =>
          Option.bind (r_value_entries x30.fields) fun x31 =>
          value_plain_j1 x1 false 0 0 ([]) ([]) 0 ([]) x31 x30.cls x30.ver
         ) else (
          value_plain_j1 x1 false 0 0 ([]) ([]) 0 ([]) ([]) ([]) 0
         )
        )
       )
      )
     )
    )
   )
  )
 )
theorem b_value_plain_cm {ι : Type} {ρ : ι → Type} (r_value_entries : (∀ i, Option (ρ i)) → (List (Str × V)) → Option (List (Str × Term))) (h_r_value_entries : ∀ y0, CM (fun G => r_value_entries G y0)) (r_value_plain : (∀ i, Option (ρ i)) → V → Option Term) (h_r_value_plain : ∀ y0, CM (fun G => r_value_plain G y0)) (a0 : V) : CM (fun G : (∀ i, Option (ρ i)) => b_value_plain (r_value_entries G) (r_value_plain G) a0) := by
 simp only [b_value_plain]
 repeat (first | exact cm_const | exact h_r_value_entries _ | exact h_r_value_plain _ | apply value_plain_j1_cm | apply value_plain_l1_cm | refine cm_cond ?_ ?_ | refine cm_bind ?_ (fun _ => ?_) | intro _ | assumption)
inductive C_value_entries where
 | k_value_entries (a0 : (List (Str × V)))
 | k_value_plain (a0 : V)
def C_value_entries.R : C_value_entries → Type
 | .k_value_entries _ => (List (Str × Term))
 | .k_value_plain _ => Term
noncomputable def C_value_entries.F (g : ∀ i : C_value_entries, Option i.R) : ∀ i : C_value_entries, Option i.R
 | .k_value_entries a0 => b_value_entries (fun a0 => g (.k_value_entries a0)) (fun a0 => g (.k_value_plain a0)) a0
 | .k_value_plain a0 => b_value_plain (fun a0 => g (.k_value_entries a0)) (fun a0 => g (.k_value_plain a0)) a0
noncomputable def p_value_entries (a0 : (List (Str × V))) : Option (List (Str × Term)) := fixO C_value_entries.F (.k_value_entries a0)
noncomputable def p_value_plain (a0 : V) : Option Term := fixO C_value_entries.F (.k_value_plain a0)
theorem C_value_entries.cm (i : C_value_entries) : CM (fun g : (∀ i : C_value_entries, Option i.R) => C_value_entries.F g i) := by
 cases i with
 | k_value_entries a0 => exact b_value_entries_cm (fun (g : ∀ i : C_value_entries, Option i.R) a0 => g (.k_value_entries a0)) (fun a0 => cm_app (i := C_value_entries.k_value_entries a0)) (fun (g : ∀ i : C_value_entries, Option i.R) a0 => g (.k_value_plain a0)) (fun a0 => cm_app (i := C_value_entries.k_value_plain a0)) a0
 | k_value_plain a0 => exact b_value_plain_cm (fun (g : ∀ i : C_value_entries, Option i.R) a0 => g (.k_value_entries a0)) (fun a0 => cm_app (i := C_value_entries.k_value_entries a0)) (fun (g : ∀ i : C_value_entries, Option i.R) a0 => g (.k_value_plain a0)) (fun a0 => cm_app (i := C_value_entries.k_value_plain a0)) a0
theorem e_value_entries (a0 : (List (Str × V))) : p_value_entries a0 = b_value_entries p_value_entries p_value_plain a0 := fixO_eq C_value_entries.cm (.k_value_entries a0)
theorem e_value_plain (a0 : V) : p_value_plain a0 = b_value_plain p_value_entries p_value_plain a0 := fixO_eq C_value_entries.cm (.k_value_plain a0)
def C_value_entries.Q : ∀ i : C_value_entries, i.R → Prop
 | .k_value_entries a0 => fun (r : (List (Str × Term))) => PCalls Try.prog 57 [(PV.old (PV.sl none 56 2 (List.map ofFld a0)))] (PV.sl none 66 12 (List.map ofEntry r))
 | .k_value_plain a0 => fun (r : Term) => PCalls Try.prog 42 [(PV.old (ofV a0))] (ofTermX r)
theorem t_value_entries (r_value_entries : (List (Str × V)) → Option (List (Str × Term))) (c_value_entries : ∀ (a0 : (List (Str × V))) r, r_value_entries a0 = some r → PCalls Try.prog 57 [(PV.old (PV.sl none 56 2 (List.map ofFld a0)))] (PV.sl none 66 12 (List.map ofEntry r))) (r_value_plain : V → Option Term) (c_value_plain : ∀ (a0 : V) r, r_value_plain a0 = some r → PCalls Try.prog 42 [(PV.old (ofV a0))] (ofTermX r)) (a0 : (List (Str × V))) (r : (List (Str × Term))) (h : b_value_entries r_value_entries r_value_plain a0 = some r) : PCalls Try.prog 57 [(PV.old (PV.sl none 56 2 (List.map ofFld a0)))] (PV.sl none 66 12 (List.map ofEntry r)) := by
 unfold b_value_entries at h
 refine acalls_of Try.func57 rfl Try.ntmps57 Try.results57 rfl (aw_of_bw ?_)
 change BW _ _ _ ⟨[(0, (PV.old (PV.sl none 56 2 (List.map ofFld a0))))], [], _⟩ _
 refine bR ?_
 refine sA rfl rfl rfl rfl rfl (ao_nil ?_)
 change BW _ _ _ _ _
 refine bR ?_
 refine sA rfl rfl rfl rfl rfl (ao_nil ?_)
 change BW _ _ _ _ _
 refine bw_seq ?_
 refine bR ?_
 refine sM rfl rfl rfl rfl rfl ?_
 refine sS rfl rfl rfl (op1_oldS (op1_lenM Try.underlying58 rfl rfl) Sc.v) ?_
 refine sM rfl rfl rfl rfl rfl (ao_nil ?_)
 change BW _ _ _ _ _
 refine bw_block ?_
 change BW _ _ _ _ _
 refine bw_ghost (s := ⟨_, _, _⟩) 3 66 (sz := 12) rfl rfl ?_
 unfold value_entries_l1 at h
 refine bw_loop (σ := ((List (Str × Term)) × Nat)) (fun i => [(3, (PV.sl (some 0) 66 12 (List.map ofEntry i.1))), (6, (PV.old (PV.sl none 56 2 (List.map ofFld a0)))), (7, (I64 ((((a0).length : Nat) : Int)))), (8, (I64 (((i.2 : Nat) : Int))))]) (fun i => [.arr 66 (i.1).length]) ([], 0) h ?_ ?_ ?_
 ·intro i; exact ⟨Nat.le_of_ble_eq_true rfl, ⟨(il_tok rfl (ids_map ids_Entry _)), ⟨(il_nil (ids_old (ids_slM ids_Fld _))), ⟨(il_nil rfl), ⟨(il_nil rfl), trivial⟩⟩⟩⟩, trivial⟩
 ·exact ⟨(.cons .same .nil), (sC rfl (sC rfl (sC rfl (sC rfl sub_nil))))⟩
 ·rintro g1_f ⟨s1, s2⟩ h; replace h : value_entries_l1b r_value_plain a0 (fun y0 y1 => g1_f (y0, y1)) s1 s2 = some r := h; unfold value_entries_l1b at h
  change BW _ _ _ ⟨[(3, (PV.sl (some 0) 66 12 (List.map ofEntry s1))), (6, (PV.old (PV.sl none 56 2 (List.map ofFld a0)))), (7, (I64 ((((a0).length : Nat) : Int)))), (8, (I64 (((s2 : Nat) : Int))))], [.arr 66 (s1).length], _⟩ _
  refine bR ?_
  refine sS rfl rfl rfl ((op1_cmp rfl rfl rfl rfl).cast (y := (BO ((decide (((s2 : Nat) : Int) < (((a0).length : Nat) : Int)))))) rfl rfl) (ao_nil ?_)
  change BW _ _ _ _ _
  refine bw_seq ?_
  refine bw_lenO (t := 6) rfl fun hb4 => ?_
  try rw [List.length_map] at hb4
  refine bw_cond rfl ?_ ?_
  ·intro hc3; replace h := ocond_t hc3 h
   have hc3_ := of_decide_eq_true hc3
   refine bw_skip ?_
   change BW _ _ _ _ _
   refine bw_seq ?_
   refine bw_block ?_
   change BW _ _ _ _ _
   refine bR ?_
   obtain ⟨x5, hx5, h⟩ := obind h
   refine sS rfl rfl rfl (op1_old (op1_idxN (i := s2) Try.underlying58 inf_56 rfl rfl rfl hx5 rfl)) ?_
   refine sS rfl rfl rfl (Op1.wk (x := (PV.old (ofFld x5))) (op1_old (op1_ldPW inf_56 Try.underlying56 rfl rfl rfl rfl rfl)) (Wk.opened (cs := [(ofStr x5.1), (ofV x5.2)]) (.cons (Wk.oldSc Sc.v) (.cons (Wk.refl _) .nil)))) ?_
   refine sS rfl rfl rfl ((op1_alloc inf_56 rfl).cast (H'' := [.arr 66 (s1).length, .box 56 [(ofStr []), (ofV V.nil)]]) rfl (by simp only [mk_nil]; rfl)) ?_
   refine ao_step0 rfl rfl (op1_store inf_56 rfl rfl rfl rfl rfl rfl (Nat.le_of_ble_eq_true rfl) (by show List.all [(ofStr x5.1), (PV.old (ofV x5.2))] one1 = true; simp only [List.all_cons, List.all_nil, one_old, one_V, one_RecP, Bool.and_true, Bool.true_and]; try rfl)) ?_
   refine ao_nil ?_
   change BW _ _ _ _ _
   refine bw_tail 8 [7] [1] mo (by kernel_rfl) ?_
   refine ac_go rfl rfl rfl rfl (fun H hp => op1_move rfl rfl) ?_
   refine ac_go rfl rfl rfl rfl (fun H hp => op1_faR st_56 (i := 0) rfl rfl rfl) ?_
   refine ac_go rfl rfl rfl rfl (fun H hp => (op1_ldR Try.underlying9 rfl rfl rfl (hp.at rfl rfl) rfl)) ?_
   refine ac_go rfl rfl rfl rfl (fun H hp => op1_faR st_56 (i := 1) rfl rfl rfl) ?_
   refine ac_go rfl rfl rfl rfl (fun H hp => (op1_ldR Try.underlying20 rfl rfl rfl (hp.at rfl rfl) rfl)) ?_
   obtain ⟨x6, hx6, h⟩ := obind h
   refine ac_go rfl rfl rfl rfl (fun H hp => op1_pcall rfl en_42 rfl (.cons (Wk.refl _) .nil) ⟨(ids_old (ids_V x5.2)), trivial⟩ (c_value_plain x5.2 x6 hx6) (ids_TermX x6)) ?_
   refine ac_go rfl rfl rfl rfl (fun H hp => op1_build (cs := [(ofStr x5.1), (I64 x6.kind), (BO x6.bool), (I64 x6.int), (PV.v (.float .f64 x6.float)), (ofStr x6.text), (PV.sl none 5 1 (List.map ofB x6.bytes)), (PV.v (.int .u64 x6.ref)), (PV.sl none 29 11 (List.map ofTerm x6.list)), (PV.sl none 66 12 (List.map ofEntry x6.fields)), (ofStr x6.cls), (I64 x6.ver)]) st_66 inf_66 rfl rfl rfl rfl) ?_
   refine ac_lgo rfl rfl rfl rfl ((op1_bslice (xs := [(PV.agg [(ofStr x5.1), (I64 x6.kind), (BO x6.bool), (I64 x6.int), (PV.v (.float .f64 x6.float)), (ofStr x6.text), (PV.sl none 5 1 (List.map ofB x6.bytes)), (PV.v (.int .u64 x6.ref)), (PV.sl none 29 11 (List.map ofTerm x6.list)), (PV.sl none 66 12 (List.map ofEntry x6.fields)), (ofStr x6.cls), (I64 x6.ver)])]) Try.underlying27 inf_66 rfl rfl rfl rfl rfl rfl ⟨Nat.le_of_ble_eq_true rfl, Nat.le_of_ble_eq_true rfl⟩ rfl).cast (y := (PV.sl (some 2) 66 12 (List.map ofEntry ([(x5.1, x6)] : (List (Str × Term)))))) (by simp only [List.map_cons, List.map_nil, ofEntry_eq]; try rfl) rfl) ⟨rfl, trivial⟩ ?_
   refine ac_nil ?_
   change AO _ _ _ _ _
   obtain ⟨x7, hx7, h⟩ := obind h
   refine sS rfl rfl rfl (op1_appM Try.underlying27 inf_66 rfl Try.underlying27 rfl rfl rfl rfl csz_Entry call1_Entry hx7 rfl) ?_
   refine sA rfl rfl rfl rfl rfl (ao_nil ?_)
   change BW _ _ _ _ _
   refine bw_region ?_
   refine sS rfl rfl rfl (op1_incN (k := s2) (c := 1) rfl rfl rfl (by omega)) ?_
   refine sM rfl rfl rfl rfl rfl (ao_nil ?_)
   exact ⟨rfl, (x7, (s2 + 1)), h, ⟨(.cons .same .nil), (sC rfl (sC rfl (sC rfl (sC rfl sub_nil))))⟩⟩
  ·intro hc3; replace h := ocond_f hc3 h
   refine bw_exit ?_
   change BW _ _ _ _ _
   refine bR ?_
   refine sM rfl rfl rfl rfl rfl ?_
   refine sA rfl rfl rfl rfl rfl (ao_nil ?_)
   change BW _ _ _ _ _
   refine bw_ret ?_
   change ∃ xs, _ = some xs ∧ EndOk _ _ _ _
   obtain rfl := Option.some.inj h
   exact ⟨_, rfl, endOk0 (y := (PV.sl none 66 12 (List.map ofEntry s1))) Wk.tok (ids_slM ids_Entry s1) ⟨rfl, rfl⟩⟩
theorem t_value_plain (r_value_entries : (List (Str × V)) → Option (List (Str × Term))) (c_value_entries : ∀ (a0 : (List (Str × V))) r, r_value_entries a0 = some r → PCalls Try.prog 57 [(PV.old (PV.sl none 56 2 (List.map ofFld a0)))] (PV.sl none 66 12 (List.map ofEntry r))) (r_value_plain : V → Option Term) (c_value_plain : ∀ (a0 : V) r, r_value_plain a0 = some r → PCalls Try.prog 42 [(PV.old (ofV a0))] (ofTermX r)) (a0 : V) (r : Term) (h : b_value_plain r_value_entries r_value_plain a0 = some r) : PCalls Try.prog 42 [(PV.old (ofV a0))] (ofTermX r) := by
 unfold b_value_plain at h
 refine acalls_of Try.func42 rfl Try.ntmps42 Try.results42 rfl (aw_of_bw ?_)
 change BW _ _ _ ⟨[(0, (PV.old (ofV a0)))], [], _⟩ _
 refine bR ?_
 refine sS rfl rfl rfl (op1_alloc inf_29 rfl) (ao_nil ?_)
 change BW _ _ _ _ _
 refine bR ?_
 refine sM rfl rfl rfl rfl rfl ?_
 obtain ⟨x1, hx1, h⟩ := obind h
 refine sS rfl rfl rfl (op1_oldS (op1_pcall rfl en_37 rfl (.cons (Wk.refl _) .nil) ⟨(ids_V a0), trivial⟩ (s_value_kind a0 x1 hx1) rfl) Sc.v) ?_
 refine sS rfl rfl rfl (op1_build (cs := [(I64 x1), (BO false), (I64 0), (PV.v (.float .f64 0)), (ofStr []), (PV.v (.slice none 0 0)), (PV.v (.int .u64 0)), (PV.v (.slice none 0 0)), (PV.v (.slice none 0 0)), (ofStr []), (I64 0)]) st_29 inf_29 rfl rfl rfl rfl) ?_
 refine sS rfl rfl rfl (op1_alloc inf_29 rfl) ?_
 refine ao_step0 rfl rfl (op1_store inf_29 rfl rfl rfl rfl rfl rfl (Nat.le_of_ble_eq_true rfl) rfl) ?_
 refine ao_nil ?_
 change BW _ _ _ _ _
 refine bw_seqJ (ι := (Bool × Int × Nat × Str × Str × Int × (List Term) × (List (Str × Term)) × Str × Int)) (fun i => value_plain_j1 x1 i.1 i.2.1 i.2.2.1 i.2.2.2.1 i.2.2.2.2.1 i.2.2.2.2.2.1 i.2.2.2.2.2.2.1 i.2.2.2.2.2.2.2.1 i.2.2.2.2.2.2.2.2.1 i.2.2.2.2.2.2.2.2.2 = some r) (fun i => [(2, (PV.rf 0 0)), (3, (PV.rf 1 0))]) (fun i => [.box 29 [(I64 0), (BO false), (I64 0), (PV.v (.float .f64 0)), (ofStr []), (PV.v (.slice none 0 0)), (PV.v (.int .u64 0)), (PV.v (.slice none 0 0)), (PV.v (.slice none 0 0)), (ofStr []), (I64 0)], .box 29 [(I64 x1), (BO i.1), (I64 i.2.1), (PV.v (.float .f64 i.2.2.1)), (ofStr i.2.2.2.1), (PV.sl none 5 1 (List.map ofB i.2.2.2.2.1)), (PV.v (.int .u64 i.2.2.2.2.2.1)), (PV.sl none 29 11 (List.map ofTerm i.2.2.2.2.2.2.1)), (PV.sl none 66 12 (List.map ofEntry i.2.2.2.2.2.2.2.1)), (ofStr i.2.2.2.2.2.2.2.2.1), (I64 i.2.2.2.2.2.2.2.2.2)]]) ?_ ?_ ?_
 ·intro i; exact ⟨Nat.le_of_ble_eq_true rfl, ⟨(il_rf rfl), ⟨(il_rf rfl), trivial⟩⟩, ⟨⟨(il_nil rfl), ⟨(il_nil rfl), ⟨(il_nil rfl), ⟨(il_nil rfl), ⟨(il_nil rfl), ⟨(il_nil rfl), ⟨(il_nil rfl), ⟨(il_nil rfl), ⟨(il_nil rfl), ⟨(il_nil rfl), ⟨(il_nil rfl), trivial⟩⟩⟩⟩⟩⟩⟩⟩⟩⟩⟩, ⟨⟨(il_nil rfl), ⟨(il_nil rfl), ⟨(il_nil rfl), ⟨(il_nil rfl), ⟨(il_nil rfl), ⟨(il_nil (ids_slM (fun _ => rfl) _)), ⟨(il_nil rfl), ⟨(il_nil (ids_slM ids_Term _)), ⟨(il_nil (ids_slM ids_Entry _)), ⟨(il_nil rfl), ⟨(il_nil rfl), trivial⟩⟩⟩⟩⟩⟩⟩⟩⟩⟩⟩, trivial⟩⟩⟩
 ·rintro ⟨s2, s3, s4, s5, s6, s7, s8, s9, s10, s11⟩ h; replace h : value_plain_j1 x1 s2 s3 s4 s5 s6 s7 s8 s9 s10 s11 = some r := h; unfold value_plain_j1 at h
  change BW _ _ _ ⟨[(2, (PV.rf 0 0)), (3, (PV.rf 1 0))], [.box 29 [(I64 0), (BO false), (I64 0), (PV.v (.float .f64 0)), (ofStr []), (PV.v (.slice none 0 0)), (PV.v (.int .u64 0)), (PV.v (.slice none 0 0)), (PV.v (.slice none 0 0)), (ofStr []), (I64 0)], .box 29 [(I64 x1), (BO s2), (I64 s3), (PV.v (.float .f64 s4)), (ofStr s5), (PV.sl none 5 1 (List.map ofB s6)), (PV.v (.int .u64 s7)), (PV.sl none 29 11 (List.map ofTerm s8)), (PV.sl none 66 12 (List.map ofEntry s9)), (ofStr s10), (I64 s11)]], _⟩ _
  refine bR ?_
  refine sS rfl rfl rfl ((op1_ldRA inf_29 Try.underlying29 rfl rfl rfl rfl rfl rfl)) ?_
  refine ao_step0 rfl rfl (op1_store inf_29 rfl rfl rfl rfl rfl rfl (Nat.le_of_ble_eq_true rfl) rfl) ?_
  refine ao_nil ?_
  change BW _ _ _ _ _
  refine bw_ret ?_
  change ∃ xs, _ = some xs ∧ EndOk _ _ _ _
  obtain rfl := Option.some.inj h
  exact ⟨_, rfl, endOk0 (y := (ofTermX (Term.mk x1 s2 s3 s4 s5 s6 s7 s8 s9 s10 s11))) (Wk.refl _) (ids_TermX (Term.mk x1 s2 s3 s4 s5 s6 s7 s8 s9 s10 s11)) ⟨rfl, rfl⟩⟩
 ·refine bR ?_
  refine sM rfl rfl rfl rfl rfl (ao_nil ?_)
  change BW _ _ _ _ _
  refine bw_block ?_
  change BW _ _ _ _ _
  refine bR ?_
  refine sS rfl rfl rfl (op1_oldS (op1_taBool rfl rfl) (Sc.tup (sc_cons Sc.v (sc_cons Sc.v sc_nil)))) ?_
  refine sS rfl rfl rfl (op1_ext rfl rfl rfl) ?_
  refine sS rfl rfl rfl (op1_ext rfl rfl rfl) (ao_nil ?_)
  change BW _ _ _ _ _
  refine bw_cond rfl ?_ ?_
  ·intro hc12; replace h := ocond_t hc12 h
   refine bR ?_
   refine sA rfl rfl rfl rfl rfl (ao_nil ?_)
   change BW _ _ _ _ _
   refine bw_region ?_
   refine sM rfl rfl rfl rfl rfl ?_
   refine sS rfl rfl rfl (op1_faR st_29 (i := 1) rfl rfl rfl) ?_
   refine ao_step0 rfl rfl (op1_store inf_4 rfl rfl rfl rfl rfl rfl (Nat.le_of_ble_eq_true rfl) rfl) ?_
   refine ao_nil ?_
   exact ⟨rfl, ((a0).asBool, 0, 0, [], [], 0, [], [], [], 0), h, ⟨(.cons .same (.cons (.box (.cons (Wk.refl _) (.cons (Wk.refl _) (.cons (Wk.refl _) (.cons (Wk.refl _) (.cons (Wk.refl _) (.cons Wk.nil (.cons (Wk.refl _) (.cons Wk.nil (.cons Wk.nil (.cons (Wk.refl _) (.cons (Wk.refl _) .nil)))))))))))) .nil)), (sC rfl (sC rfl sub_nil))⟩⟩
  ·intro hc12; replace h := ocond_f hc12 h
   refine bR ?_
   refine sS rfl rfl rfl (op1_oldS (op1_taInt rfl rfl) (Sc.tup (sc_cons Sc.v (sc_cons Sc.v sc_nil)))) ?_
   refine sS rfl rfl rfl (op1_ext rfl rfl rfl) ?_
   refine sS rfl rfl rfl (op1_ext rfl rfl rfl) (ao_nil ?_)
   change BW _ _ _ _ _
   refine bw_cond rfl ?_ ?_
   ·intro hc13; replace h := ocond_t hc13 h
    refine bR ?_
    refine sA rfl rfl rfl rfl rfl (ao_nil ?_)
    change BW _ _ _ _ _
    refine bw_region ?_
    refine sM rfl rfl rfl rfl rfl ?_
    refine sS rfl rfl rfl (op1_faR st_29 (i := 2) rfl rfl rfl) ?_
    refine ao_step0 rfl rfl (op1_store inf_2 rfl rfl rfl rfl rfl rfl (Nat.le_of_ble_eq_true rfl) rfl) ?_
    refine ao_nil ?_
    exact ⟨rfl, (false, (a0).asInt, 0, [], [], 0, [], [], [], 0), h, ⟨(.cons .same (.cons (.box (.cons (Wk.refl _) (.cons (Wk.refl _) (.cons (Wk.refl _) (.cons (Wk.refl _) (.cons (Wk.refl _) (.cons Wk.nil (.cons (Wk.refl _) (.cons Wk.nil (.cons Wk.nil (.cons (Wk.refl _) (.cons (Wk.refl _) .nil)))))))))))) .nil)), (sC rfl (sC rfl sub_nil))⟩⟩
   ·intro hc13; replace h := ocond_f hc13 h
    refine bR ?_
    refine sS rfl rfl rfl (op1_oldS (op1_taFloat rfl rfl) (Sc.tup (sc_cons Sc.v (sc_cons Sc.v sc_nil)))) ?_
    refine sS rfl rfl rfl (op1_ext rfl rfl rfl) ?_
    refine sS rfl rfl rfl (op1_ext rfl rfl rfl) (ao_nil ?_)
    change BW _ _ _ _ _
    refine bw_cond rfl ?_ ?_
    ·intro hc14; replace h := ocond_t hc14 h
     refine bR ?_
     refine sA rfl rfl rfl rfl rfl (ao_nil ?_)
     change BW _ _ _ _ _
     refine bw_region ?_
     refine sM rfl rfl rfl rfl rfl ?_
     refine sS rfl rfl rfl (op1_faR st_29 (i := 3) rfl rfl rfl) ?_
     refine ao_step0 rfl rfl (op1_store inf_22 rfl rfl rfl rfl rfl rfl (Nat.le_of_ble_eq_true rfl) rfl) ?_
     refine ao_nil ?_
     exact ⟨rfl, (false, 0, (a0).asFloat, [], [], 0, [], [], [], 0), h, ⟨(.cons .same (.cons (.box (.cons (Wk.refl _) (.cons (Wk.refl _) (.cons (Wk.refl _) (.cons (Wk.refl _) (.cons (Wk.refl _) (.cons Wk.nil (.cons (Wk.refl _) (.cons Wk.nil (.cons Wk.nil (.cons (Wk.refl _) (.cons (Wk.refl _) .nil)))))))))))) .nil)), (sC rfl (sC rfl sub_nil))⟩⟩
    ·intro hc14; replace h := ocond_f hc14 h
     refine bR ?_
     refine sS rfl rfl rfl (op1_oldS (op1_taText rfl rfl) (Sc.tup (sc_cons Sc.v (sc_cons Sc.v sc_nil)))) ?_
     refine sS rfl rfl rfl (op1_ext rfl rfl rfl) ?_
     refine sS rfl rfl rfl (op1_ext rfl rfl rfl) (ao_nil ?_)
     change BW _ _ _ _ _
     refine bw_cond rfl ?_ ?_
     ·intro hc15; replace h := ocond_t hc15 h
      refine bR ?_
      refine sA rfl rfl rfl rfl rfl (ao_nil ?_)
      change BW _ _ _ _ _
      refine bw_region ?_
      refine sM rfl rfl rfl rfl rfl ?_
      refine sS rfl rfl rfl (op1_faR st_29 (i := 4) rfl rfl rfl) ?_
      refine ao_step0 rfl rfl (op1_store inf_9 rfl rfl rfl rfl rfl rfl (Nat.le_of_ble_eq_true rfl) rfl) ?_
      refine ao_nil ?_
      exact ⟨rfl, (false, 0, 0, (a0).asText, [], 0, [], [], [], 0), h, ⟨(.cons .same (.cons (.box (.cons (Wk.refl _) (.cons (Wk.refl _) (.cons (Wk.refl _) (.cons (Wk.refl _) (.cons (Wk.refl _) (.cons Wk.nil (.cons (Wk.refl _) (.cons Wk.nil (.cons Wk.nil (.cons (Wk.refl _) (.cons (Wk.refl _) .nil)))))))))))) .nil)), (sC rfl (sC rfl sub_nil))⟩⟩
     ·intro hc15; replace h := ocond_f hc15 h
      refine bR ?_
      refine sS rfl rfl rfl (op1_old (op1_taBytes rfl rfl)) ?_
      refine sS rfl rfl rfl (op1_oldS (op1_ext rfl rfl rfl) Sc.v) ?_
      refine sS rfl rfl rfl (op1_old (op1_ext rfl rfl rfl)) (ao_nil ?_)
      change BW _ _ _ _ _
      refine bw_cond rfl ?_ ?_
      ·intro hc16; replace h := ocond_t hc16 h
       refine bR ?_
       refine sA rfl rfl rfl rfl rfl (ao_nil ?_)
       change BW _ _ _ _ _
       refine bw_region ?_
       refine sS rfl rfl rfl ((op1_bslice (xs := []) Try.underlying23 inf_5 rfl rfl rfl rfl rfl rfl ⟨Nat.le_of_ble_eq_true rfl, Nat.le_of_ble_eq_true rfl⟩ rfl).cast (y := (PV.sl (some 2) 5 1 (List.map ofB ([] : Str)))) rfl rfl) ?_
       refine sM rfl rfl rfl rfl rfl ?_
       obtain ⟨x17, hx17, h⟩ := obind h
       refine sS rfl rfl rfl (op1_appMO Try.underlying23 inf_5 rfl Try.underlying23 rfl rfl rfl rfl (fun _ => rfl) (fun _ => rfl) hx17 rfl (fun _ => (sc_cons Sc.v sc_nil))) ?_
       refine sS rfl rfl rfl (op1_faR st_29 (i := 5) rfl rfl rfl) ?_
       refine ao_step0 rfl rfl (op1_store inf_23 rfl rfl rfl rfl rfl rfl (Nat.le_of_ble_eq_true rfl) rfl) ?_
       refine ao_nil ?_
       exact ⟨rfl, (false, 0, 0, [], x17, 0, [], [], [], 0), h, ⟨(.cons .same (.cons (.box (.cons (Wk.refl _) (.cons (Wk.refl _) (.cons (Wk.refl _) (.cons (Wk.refl _) (.cons (Wk.refl _) (.cons Wk.tok (.cons (Wk.refl _) (.cons Wk.nil (.cons Wk.nil (.cons (Wk.refl _) (.cons (Wk.refl _) .nil)))))))))))) .nil)), (sC rfl (sC rfl sub_nil))⟩⟩
      ·intro hc16; replace h := ocond_f hc16 h
       refine bR ?_
       refine sS rfl rfl rfl (op1_oldS (op1_taRef rfl rfl) (Sc.tup (sc_cons Sc.v (sc_cons Sc.v sc_nil)))) ?_
       refine sS rfl rfl rfl (op1_ext rfl rfl rfl) ?_
       refine sS rfl rfl rfl (op1_ext rfl rfl rfl) (ao_nil ?_)
       change BW _ _ _ _ _
       refine bw_cond rfl ?_ ?_
       ·intro hc18; replace h := ocond_t hc18 h
        refine bR ?_
        refine sA rfl rfl rfl rfl rfl (ao_nil ?_)
        change BW _ _ _ _ _
        refine bw_region ?_
        refine sM rfl rfl rfl rfl rfl ?_
        refine sS rfl rfl rfl (op1_faR st_29 (i := 6) rfl rfl rfl) ?_
        refine ao_step0 rfl rfl (op1_store inf_25 rfl rfl rfl rfl rfl rfl (Nat.le_of_ble_eq_true rfl) rfl) ?_
        refine ao_nil ?_
        exact ⟨rfl, (false, 0, 0, [], [], (a0).asRef, [], [], [], 0), h, ⟨(.cons .same (.cons (.box (.cons (Wk.refl _) (.cons (Wk.refl _) (.cons (Wk.refl _) (.cons (Wk.refl _) (.cons (Wk.refl _) (.cons Wk.nil (.cons (Wk.refl _) (.cons Wk.nil (.cons Wk.nil (.cons (Wk.refl _) (.cons (Wk.refl _) .nil)))))))))))) .nil)), (sC rfl (sC rfl sub_nil))⟩⟩
       ·intro hc18; replace h := ocond_f hc18 h
        refine bR ?_
        refine sS rfl rfl rfl (op1_old (op1_taList rfl rfl)) ?_
        refine sS rfl rfl rfl (op1_oldS (op1_ext rfl rfl rfl) Sc.v) ?_
        refine sS rfl rfl rfl (op1_old (op1_ext rfl rfl rfl)) (ao_nil ?_)
        change BW _ _ _ _ _
        refine bw_cond rfl ?_ ?_
        ·intro hc19; replace h := ocond_t hc19 h
         refine bR ?_
         refine sA rfl rfl rfl rfl rfl (ao_nil ?_)
         change BW _ _ _ _ _
         refine bR ?_
         refine sM rfl rfl rfl rfl rfl ?_
         refine sS rfl rfl rfl (op1_oldS (op1_lenM Try.underlying60 rfl rfl) Sc.v) ?_
         refine sM rfl rfl rfl rfl rfl (ao_nil ?_)
         change BW _ _ _ _ _
         refine bw_block ?_
         change BW _ _ _ _ _
         refine bw_ghostB (s := ⟨_, _, _⟩) 1 7 29 (sz := 11) rfl rfl rfl ?_
         unfold value_plain_l1 at h
         refine bw_loop (σ := (Nat × (List Term))) (fun i => [(2, (PV.rf 0 0)), (3, (PV.rf 1 0)), (54, (PV.old (PV.sl none 20 1 (List.map ofV (a0).asList)))), (55, (I64 (((((a0).asList).length : Nat) : Int)))), (56, (I64 (((i.1 : Nat) : Int))))]) (fun i => [.box 29 [(I64 0), (BO false), (I64 0), (PV.v (.float .f64 0)), (ofStr []), (PV.v (.slice none 0 0)), (PV.v (.int .u64 0)), (PV.v (.slice none 0 0)), (PV.v (.slice none 0 0)), (ofStr []), (I64 0)], .box 29 [(I64 x1), (BO false), (I64 0), (PV.v (.float .f64 0)), (ofStr []), (PV.v (.slice none 0 0)), (PV.v (.int .u64 0)), (PV.sl (some 2) 29 11 (List.map ofTerm i.2)), (PV.v (.slice none 0 0)), (ofStr []), (I64 0)], .arr 29 (i.2).length]) (0, []) h ?_ ?_ ?_
         ·intro i; exact ⟨Nat.le_of_ble_eq_true rfl, ⟨(il_rf rfl), ⟨(il_rf rfl), ⟨(il_nil (ids_old (ids_slM ids_V _))), ⟨(il_nil rfl), ⟨(il_nil rfl), trivial⟩⟩⟩⟩⟩, ⟨⟨(il_nil rfl), ⟨(il_nil rfl), ⟨(il_nil rfl), ⟨(il_nil rfl), ⟨(il_nil rfl), ⟨(il_nil rfl), ⟨(il_nil rfl), ⟨(il_nil rfl), ⟨(il_nil rfl), ⟨(il_nil rfl), ⟨(il_nil rfl), trivial⟩⟩⟩⟩⟩⟩⟩⟩⟩⟩⟩, ⟨⟨(il_nil rfl), ⟨(il_nil rfl), ⟨(il_nil rfl), ⟨(il_nil rfl), ⟨(il_nil rfl), ⟨(il_nil rfl), ⟨(il_nil rfl), ⟨(il_tok rfl (ids_map ids_Term _)), ⟨(il_nil rfl), ⟨(il_nil rfl), ⟨(il_nil rfl), trivial⟩⟩⟩⟩⟩⟩⟩⟩⟩⟩⟩, trivial⟩⟩⟩
         ·exact ⟨(.cons .same (.cons .same (.cons .same .nil))), (sC rfl (sC rfl (sC rfl (sC rfl (sC rfl sub_nil)))))⟩
         ·rintro g1_f ⟨s20, s21⟩ h; replace h : value_plain_l1b r_value_plain a0 x1 (fun y0 y1 => g1_f (y0, y1)) s20 s21 = some r := h; unfold value_plain_l1b at h
          change BW _ _ _ ⟨[(2, (PV.rf 0 0)), (3, (PV.rf 1 0)), (54, (PV.old (PV.sl none 20 1 (List.map ofV (a0).asList)))), (55, (I64 (((((a0).asList).length : Nat) : Int)))), (56, (I64 (((s20 : Nat) : Int))))], [.box 29 [(I64 0), (BO false), (I64 0), (PV.v (.float .f64 0)), (ofStr []), (PV.v (.slice none 0 0)), (PV.v (.int .u64 0)), (PV.v (.slice none 0 0)), (PV.v (.slice none 0 0)), (ofStr []), (I64 0)], .box 29 [(I64 x1), (BO false), (I64 0), (PV.v (.float .f64 0)), (ofStr []), (PV.v (.slice none 0 0)), (PV.v (.int .u64 0)), (PV.sl (some 2) 29 11 (List.map ofTerm s21)), (PV.v (.slice none 0 0)), (ofStr []), (I64 0)], .arr 29 (s21).length], _⟩ _
          refine bR ?_
          refine sS rfl rfl rfl ((op1_cmp rfl rfl rfl rfl).cast (y := (BO ((decide (((s20 : Nat) : Int) < ((((a0).asList).length : Nat) : Int)))))) rfl rfl) (ao_nil ?_)
          change BW _ _ _ _ _
          refine bw_seq ?_
          refine bw_lenO (t := 54) rfl fun hb23 => ?_
          try rw [List.length_map] at hb23
          refine bw_cond rfl ?_ ?_
          ·intro hc22; replace h := ocond_t hc22 h
           have hc22_ := of_decide_eq_true hc22
           refine bw_skip ?_
           change BW _ _ _ _ _
           refine bw_seq ?_
           refine bw_block ?_
           change BW _ _ _ _ _
           refine bR ?_
           obtain ⟨x24, hx24, h⟩ := obind h
           refine sS rfl rfl rfl (op1_old (op1_idxN (i := s20) Try.underlying60 inf_20 rfl rfl rfl hx24 rfl)) ?_
           refine sS rfl rfl rfl (op1_old (op1_ldP (y := (ofV x24)) Try.underlying20 rfl rfl rfl (by rw [cells_V]; rfl))) ?_
           refine sA rfl rfl rfl rfl rfl (ao_nil ?_)
           change BW _ _ _ _ _
           refine bw_tail 5 [4] [1] mo (by kernel_rfl) ?_
           refine ac_go rfl rfl rfl rfl (fun H hp => op1_faR st_29 (i := 7) rfl rfl rfl) ?_
           refine ac_go rfl rfl rfl rfl (fun H hp => (op1_ldR Try.underlying26 rfl rfl rfl (hp.at rfl rfl) rfl)) ?_
           refine ac_go rfl rfl rfl rfl (fun H hp => op1_move rfl rfl) ?_
           obtain ⟨x25, hx25, h⟩ := obind h
           refine ac_go rfl rfl rfl rfl (fun H hp => op1_pcall rfl en_42 rfl (.cons (Wk.refl _) .nil) ⟨(ids_old (ids_V x24)), trivial⟩ (c_value_plain x24 x25 hx25) (ids_TermX x25)) ?_
           refine ac_lgo rfl rfl rfl rfl ((op1_bslice (xs := [(ofTermX x25)]) Try.underlying26 inf_29 rfl rfl rfl rfl rfl rfl ⟨Nat.le_of_ble_eq_true rfl, Nat.le_of_ble_eq_true rfl⟩ rfl).cast (y := (PV.sl (some 3) 29 11 (List.map ofTerm ([x25] : (List Term))))) (by simp only [List.map_cons, List.map_nil, ofTerm_eq]; try rfl) rfl) ⟨rfl, trivial⟩ ?_
           refine ac_nil ?_
           change AO _ _ _ _ _
           obtain ⟨x26, hx26, h⟩ := obind h
           refine sS rfl rfl rfl (op1_appM Try.underlying26 inf_29 rfl Try.underlying26 rfl rfl rfl rfl csz_Term call1_Term hx26 rfl) ?_
           refine sS rfl rfl rfl (op1_faR st_29 (i := 7) rfl rfl rfl) ?_
           refine ao_step0 rfl rfl (op1_store inf_26 rfl rfl rfl rfl rfl rfl (Nat.le_of_ble_eq_true rfl) rfl) ?_
           refine ao_nil ?_
           change BW _ _ _ _ _
           refine bw_region ?_
           refine sS rfl rfl rfl (op1_incN (k := s20) (c := 1) rfl rfl rfl (by omega)) ?_
           refine sM rfl rfl rfl rfl rfl (ao_nil ?_)
           exact ⟨rfl, ((s20 + 1), x26), h, ⟨(.cons .same (.cons .same (.cons .same .nil))), (sC rfl (sC rfl (sC rfl (sC rfl (sC rfl sub_nil)))))⟩⟩
          ·intro hc22; replace h := ocond_f hc22 h
           refine bw_exit ?_
           exact ⟨rfl, (false, 0, 0, [], [], 0, s21, [], [], 0), h, ⟨(.cons .same (.cons (.box (.cons (Wk.refl _) (.cons (Wk.refl _) (.cons (Wk.refl _) (.cons (Wk.refl _) (.cons (Wk.refl _) (.cons Wk.nil (.cons (Wk.refl _) (.cons Wk.tok (.cons Wk.nil (.cons (Wk.refl _) (.cons (Wk.refl _) .nil)))))))))))) .nil)), (sC rfl (sC rfl sub_nil))⟩⟩
        ·intro hc19; replace h := ocond_f hc19 h
         refine bR ?_
         refine sS rfl rfl rfl (op1_old (op1_taDict rfl rfl)) ?_
         refine sS rfl rfl rfl (op1_oldS (op1_ext rfl rfl rfl) Sc.v) ?_
         refine sS rfl rfl rfl (op1_old (op1_ext rfl rfl rfl)) (ao_nil ?_)
         change BW _ _ _ _ _
         refine bw_cond rfl ?_ ?_
         ·intro hc27; replace h := ocond_t hc27 h
          refine bR ?_
          refine sA rfl rfl rfl rfl rfl (ao_nil ?_)
          change BW _ _ _ _ _
          refine bw_region ?_
          refine sM rfl rfl rfl rfl rfl ?_
          obtain ⟨x28, hx28, h⟩ := obind h
          refine sS rfl rfl rfl (op1_pcall rfl en_57 rfl (.cons (Wk.refl _) .nil) ⟨(ids_old (ids_slM ids_Fld ((a0).asDict))), trivial⟩ (c_value_entries ((a0).asDict) x28 hx28) (ids_slM ids_Entry x28)) ?_
          refine sS rfl rfl rfl (op1_faR st_29 (i := 8) rfl rfl rfl) ?_
          refine ao_step0 rfl rfl (op1_store inf_27 rfl rfl rfl rfl rfl rfl (Nat.le_of_ble_eq_true rfl) rfl) ?_
          refine ao_nil ?_
          exact ⟨rfl, (false, 0, 0, [], [], 0, [], x28, [], 0), h, ⟨(.cons .same (.cons (.box (.cons (Wk.refl _) (.cons (Wk.refl _) (.cons (Wk.refl _) (.cons (Wk.refl _) (.cons (Wk.refl _) (.cons Wk.nil (.cons (Wk.refl _) (.cons Wk.nil (.cons (Wk.refl _) (.cons (Wk.refl _) (.cons (Wk.refl _) .nil)))))))))))) .nil)), (sC rfl (sC rfl sub_nil))⟩⟩
         ·intro hc27; replace h := ocond_f hc27 h
          refine bR ?_
          refine sS rfl rfl rfl (op1_old (op1_taRec rfl rfl)) ?_
          refine sS rfl rfl rfl (op1_oldS (op1_ext rfl rfl rfl) Sc.v) ?_
          refine sS rfl rfl rfl (op1_old (op1_ext rfl rfl rfl)) (ao_nil ?_)
          change BW _ _ _ _ _
          refine bw_cond rfl ?_ ?_
          ·intro hc29; replace h := ocond_t hc29 h
           refine bR ?_
           refine sA rfl rfl rfl rfl rfl (ao_nil ?_)
           change BW _ _ _ _ _
           refine bw_tail 15 [14] [] mo (by kernel_rfl) ?_
           refine ac_go rfl rfl rfl rfl (fun H hp => op1_move rfl rfl) ?_
           obtain ⟨x30, hx30, h⟩ := obind h
           refine ac_go rfl rfl rfl rfl (fun H hp => op1_old (op1_pNil rfl rfl hx30)) ?_
           refine ac_go rfl rfl rfl rfl (fun H hp => op1_old (op1_faP st_70 (i := 0) rfl rfl rfl)) ?_
           refine ac_go rfl rfl rfl rfl (fun H hp => op1_oldS (op1_ldP (y := (ofStr x30.cls)) Try.underlying9 rfl rfl rfl rfl) Sc.v) ?_
           refine ac_go rfl rfl rfl rfl (fun H hp => op1_move rfl rfl) ?_
           refine ac_go rfl rfl rfl rfl (fun H hp => op1_old (op1_pNil rfl rfl hx30)) ?_
           refine ac_go rfl rfl rfl rfl (fun H hp => op1_old (op1_faP st_70 (i := 1) rfl rfl rfl)) ?_
           refine ac_go rfl rfl rfl rfl (fun H hp => op1_oldS (op1_ldP (y := (I64 x30.ver)) Try.underlying3 rfl rfl rfl rfl) Sc.v) ?_
           refine ac_go rfl rfl rfl rfl (fun H hp => op1_move rfl rfl) ?_
           refine ac_go rfl rfl rfl rfl (fun H hp => op1_old (op1_pNil rfl rfl hx30)) ?_
           refine ac_go rfl rfl rfl rfl (fun H hp => op1_old (op1_faP st_70 (i := 2) rfl rfl rfl)) ?_
           refine ac_go rfl rfl rfl rfl (fun H hp => op1_old (op1_ldP (y := (PV.sl none 56 2 (List.map ofFld x30.fields))) Try.underlying58 rfl rfl rfl rfl)) ?_
           obtain ⟨x31, hx31, h⟩ := obind h
           refine ac_go rfl rfl rfl rfl (fun H hp => op1_pcall rfl en_57 rfl (.cons (Wk.refl _) .nil) ⟨(ids_old (ids_slM ids_Fld x30.fields)), trivial⟩ (c_value_entries x30.fields x31 hx31) (ids_slM ids_Entry x31)) ?_
           refine ac_go rfl rfl rfl rfl (fun H hp => op1_faR st_29 (i := 9) rfl rfl rfl) ?_
           refine ac_lgo0 rfl rfl rfl (op1_store inf_9 rfl rfl rfl rfl rfl rfl (Nat.le_of_ble_eq_true rfl) rfl) trivial ?_
           refine ac_nil ?_
           change AO _ _ _ _ _
           refine sS rfl rfl rfl (op1_faR st_29 (i := 10) rfl rfl rfl) ?_
           refine ao_step0 rfl rfl (op1_store inf_3 rfl rfl rfl rfl rfl rfl (Nat.le_of_ble_eq_true rfl) rfl) ?_
           refine sS rfl rfl rfl (op1_faR st_29 (i := 8) rfl rfl rfl) ?_
           refine ao_step0 rfl rfl (op1_store inf_27 rfl rfl rfl rfl rfl rfl (Nat.le_of_ble_eq_true rfl) rfl) ?_
           refine ao_nil ?_
           exact ⟨rfl, (false, 0, 0, [], [], 0, [], x31, x30.cls, x30.ver), h, ⟨(.cons .same (.cons (.box (.cons (Wk.refl _) (.cons (Wk.refl _) (.cons (Wk.refl _) (.cons (Wk.refl _) (.cons (Wk.refl _) (.cons Wk.nil (.cons (Wk.refl _) (.cons Wk.nil (.cons (Wk.refl _) (.cons (Wk.refl _) (.cons (Wk.refl _) .nil)))))))))))) .nil)), (sC rfl (sC rfl sub_nil))⟩⟩
          ·intro hc29; replace h := ocond_f hc29 h
           refine bw_skip ?_
           exact ⟨rfl, (false, 0, 0, [], [], 0, [], [], [], 0), h, ⟨(.cons .same (.cons (.box (.cons (Wk.refl _) (.cons (Wk.refl _) (.cons (Wk.refl _) (.cons (Wk.refl _) (.cons (Wk.refl _) (.cons Wk.nil (.cons (Wk.refl _) (.cons Wk.nil (.cons Wk.nil (.cons (Wk.refl _) (.cons (Wk.refl _) .nil)))))))))))) .nil)), (sC rfl (sC rfl sub_nil))⟩⟩
theorem C_value_entries.sound : ∀ (i : C_value_entries) (r : i.R), fixO C_value_entries.F i = some r → C_value_entries.Q i r := by
 refine fixO_ind (Φ := C_value_entries.F) (Q := C_value_entries.Q) ?_
 intro g hg i r h
 cases i with
 | k_value_entries a0 => exact t_value_entries (fun a0 => g (.k_value_entries a0)) (fun a0 r hr => hg (.k_value_entries a0) r hr) (fun a0 => g (.k_value_plain a0)) (fun a0 r hr => hg (.k_value_plain a0) r hr) a0 r h
 | k_value_plain a0 => exact t_value_plain (fun a0 => g (.k_value_entries a0)) (fun a0 r hr => hg (.k_value_entries a0) r hr) (fun a0 => g (.k_value_plain a0)) (fun a0 r hr => hg (.k_value_plain a0) r hr) a0 r h
theorem s_value_entries (a0 : (List (Str × V))) (r : (List (Str × Term))) (h : p_value_entries a0 = some r) : PCalls Try.prog 57 [(PV.old (PV.sl none 56 2 (List.map ofFld a0)))] (PV.sl none 66 12 (List.map ofEntry r)) := C_value_entries.sound (.k_value_entries a0) r h
theorem s_value_plain (a0 : V) (r : Term) (h : p_value_plain a0 = some r) : PCalls Try.prog 42 [(PV.old (ofV a0))] (ofTermX r) := C_value_entries.sound (.k_value_plain a0) r h
noncomputable def p_value_Plain (a0 : V) : Option (Term × Int) :=
 Option.bind (p_value_check a0) fun x1 =>
 bif (x1.2 != 0) then (
  some ((Term.mk 0 false 0 0 [] [] 0 [] [] [] 0), x1.2)
 ) else (
  Option.bind (p_value_plain a0) fun x3 =>
  some (x3, 0)
 )
theorem s_value_Plain (a0 : V) (r : (Term × Int)) (h : p_value_Plain a0 = some r) : PCalls Try.prog 22 [(PV.old (ofV a0))] (PV.tup [(ofTermX r.1), (I64 r.2)]) := by
 unfold p_value_Plain at h
 refine acalls_of Try.func22 rfl Try.ntmps22 Try.results22 rfl (aw_of_bw ?_)
 change BW _ _ _ ⟨[(0, (PV.old (ofV a0)))], [], _⟩ _
 refine bR ?_
 refine sS rfl rfl rfl (op1_alloc inf_29 rfl) ?_
 refine sA rfl rfl rfl rfl rfl (ao_nil ?_)
 change BW _ _ _ _ _
 refine bw_seq ?_
 refine bR ?_
 refine sM rfl rfl rfl rfl rfl ?_
 obtain ⟨x1, hx1, h⟩ := obind h
 refine sS rfl rfl rfl (op1_oldS (op1_pcall rfl en_34 rfl (.cons (Wk.refl _) .nil) ⟨(ids_V a0), trivial⟩ (s_value_check a0 x1 hx1) (ids_tup_cons rfl (ids_tup_cons rfl ids_tup_nil))) (Sc.tup (sc_cons Sc.v (sc_cons Sc.v sc_nil)))) ?_
 refine sM rfl rfl rfl rfl rfl ?_
 refine sS rfl rfl rfl (op1_ext rfl rfl rfl) ?_
 refine sS rfl rfl rfl (op1_ext rfl rfl rfl) ?_
 refine sA rfl rfl rfl rfl rfl ?_
 refine sA rfl rfl rfl rfl rfl (ao_nil ?_)
 change BW _ _ _ _ _
 refine bR ?_
 refine sM rfl rfl rfl rfl rfl ?_
 refine sS rfl rfl rfl ((op1_cmp rfl rfl rfl rfl).cast (y := (BO ((x1.2 != 0)))) rfl rfl) (ao_nil ?_)
 change BW _ _ _ _ _
 refine bw_cond rfl ?_ ?_
 ·intro hc2; replace h := ocond_t hc2 h
  refine bR ?_
  refine sS rfl rfl rfl (op1_build (cs := [(I64 0), (BO false), (I64 0), (PV.v (.float .f64 0)), (ofStr []), (PV.v (.slice none 0 0)), (PV.v (.int .u64 0)), (PV.v (.slice none 0 0)), (PV.v (.slice none 0 0)), (ofStr []), (I64 0)]) st_29 inf_29 rfl rfl rfl rfl) ?_
  refine sM rfl rfl rfl rfl rfl ?_
  refine ao_step0 rfl rfl (op1_store inf_29 rfl rfl rfl rfl rfl rfl (Nat.le_of_ble_eq_true rfl) rfl) ?_
  refine sA rfl rfl rfl rfl rfl (ao_nil ?_)
  change BW _ _ _ _ _
  refine bw_ret ?_
  change ∃ xs, _ = some xs ∧ EndOk _ _ _ _
  obtain rfl := Option.some.inj h
  exact ⟨_, rfl, endOk0 (y := (PV.tup [(ofTermX (Term.mk 0 false 0 0 [] [] 0 [] [] [] 0)), (I64 x1.2)])) (Wk.tup (.cons (Wk.agg (.cons (Wk.refl _) (.cons (Wk.refl _) (.cons (Wk.refl _) (.cons (Wk.refl _) (.cons (Wk.refl _) (.cons Wk.nil (.cons (Wk.refl _) (.cons Wk.nil (.cons Wk.nil (.cons (Wk.refl _) (.cons (Wk.refl _) .nil)))))))))))) (.cons (Wk.refl _) .nil))) (ids_tup_cons (ids_TermX (Term.mk 0 false 0 0 [] [] 0 [] [] [] 0)) (ids_tup_cons rfl ids_tup_nil)) ⟨rfl, rfl⟩⟩
 ·intro hc2; replace h := ocond_f hc2 h
  refine bw_skip ?_
  change BW _ _ _ _ _
  refine bR ?_
  refine sM rfl rfl rfl rfl rfl ?_
  obtain ⟨x3, hx3, h⟩ := obind h
  refine sS rfl rfl rfl (op1_pcall rfl en_42 rfl (.cons (Wk.refl _) .nil) ⟨(ids_old (ids_V a0)), trivial⟩ (s_value_plain a0 x3 hx3) (ids_TermX x3)) ?_
  refine ao_step0 rfl rfl (op1_store inf_29 rfl rfl rfl rfl rfl rfl (Nat.le_of_ble_eq_true rfl) rfl) ?_
  refine sA rfl rfl rfl rfl rfl (ao_nil ?_)
  change BW _ _ _ _ _
  refine bw_ret ?_
  change ∃ xs, _ = some xs ∧ EndOk _ _ _ _
  obtain rfl := Option.some.inj h
  exact ⟨_, rfl, endOk0 (y := (PV.tup [(ofTermX x3), (I64 0)])) (Wk.refl _) (ids_tup_cons (ids_TermX x3) (ids_tup_cons rfl ids_tup_nil)) ⟨rfl, rfl⟩⟩
noncomputable def ref01_Name_j3 (g1 : Int → Option Bool) (s3 : Int) (s6 : Bool) : Option Bool :=
 bif s6 then (
  some false
 ) else (
  g1 (IntKind.i64.wrap (s3 + 1))
 )
theorem ref01_Name_j3_cm {ι : Type} {ρ : ι → Type} (g1 : (∀ i, Option (ρ i)) → Int → Option Bool) (h_g1 : ∀ y0, CM (fun G => g1 G y0)) (s3 : Int) (s6 : Bool) : CM (fun G : (∀ i, Option (ρ i)) => ref01_Name_j3 (g1 G) s3 s6) := by
 simp only [ref01_Name_j3]
 repeat (first | exact cm_const | exact h_g1 _ | refine cm_cond ?_ ?_ | refine cm_bind ?_ (fun _ => ?_))
noncomputable def ref01_Name_j2 (g1 : Int → Option Bool) (a0 : Str) (s3 : Int) (s5 : Bool) : Option Bool :=
 bif (!s5) then (
  bif (s3 == 0) then (
   ref01_Name_j3 g1 s3 true
  ) else (
   Option.bind (idxI a0 s3) fun x10 =>
   bif (((x10).toNat : Int) != (((95 : UInt8)).toNat : Int)) then (
    Option.bind (idxI a0 s3) fun x12 =>
    bif (decide (((x12).toNat : Int) < (((48 : UInt8)).toNat : Int))) then (
     ref01_Name_j3 g1 s3 true
    ) else (
     Option.bind (idxI a0 s3) fun x14 =>
     ref01_Name_j3 g1 s3 (decide (((x14).toNat : Int) > (((57 : UInt8)).toNat : Int)))
    )
   ) else (
    ref01_Name_j3 g1 s3 false
   )
  )
 ) else (
  ref01_Name_j3 g1 s3 false
 )
theorem ref01_Name_j2_cm {ι : Type} {ρ : ι → Type} (g1 : (∀ i, Option (ρ i)) → Int → Option Bool) (h_g1 : ∀ y0, CM (fun G => g1 G y0)) (a0 : Str) (s3 : Int) (s5 : Bool) : CM (fun G : (∀ i, Option (ρ i)) => ref01_Name_j2 (g1 G) a0 s3 s5) := by
 simp only [ref01_Name_j2]
 repeat (first | exact cm_const | exact h_g1 _ | apply ref01_Name_j3_cm | refine cm_cond ?_ ?_ | refine cm_bind ?_ (fun _ => ?_) | intro _ | assumption)
noncomputable def ref01_Name_l1b (a0 : Str) (g1 : Int → Option Bool) (s3 : Int) : Option Bool :=
 bif (decide (s3 < (((a0).length : Nat) : Int))) then (
  Option.bind (idxI a0 s3) fun x15 =>
  bif (decide (((x15).toNat : Int) ≥ (((97 : UInt8)).toNat : Int))) then (
   Option.bind (idxI a0 s3) fun x17 =>
   ref01_Name_j2 g1 a0 s3 (decide (((x17).toNat : Int) ≤ (((122 : UInt8)).toNat : Int)))
  ) else (
   ref01_Name_j2 g1 a0 s3 false
  )
 ) else (
  some true
 )
theorem ref01_Name_l1b_cm {ι : Type} {ρ : ι → Type} (g1 : (∀ i, Option (ρ i)) → Int → Option Bool) (h_g1 : ∀ y0, CM (fun G => g1 G y0)) (a0 : Str) (s3 : Int) : CM (fun G : (∀ i, Option (ρ i)) => ref01_Name_l1b a0 (g1 G) s3) := by
 simp only [ref01_Name_l1b]
 repeat (first | exact cm_const | exact h_g1 _ | apply ref01_Name_j2_cm | refine cm_cond ?_ ?_ | refine cm_bind ?_ (fun _ => ?_) | intro _ | assumption)
noncomputable def ref01_Name_l1 (a0 : Str) (s3 : Int) : Option Bool :=
 fixO (ι := Int) (ρ := fun _ => Bool) (fun g i => ref01_Name_l1b a0 (fun s3 => g s3) i) s3
theorem ref01_Name_l1_eq (a0 : Str) (s3 : Int) : ref01_Name_l1 a0 s3 = ref01_Name_l1b a0 (ref01_Name_l1 a0) s3 :=
 fixO_eq (ι := Int) (ρ := fun _ => Bool) (Φ := fun g i => ref01_Name_l1b a0 (fun s3 => g s3) i) (fun i => ref01_Name_l1b_cm (ι := Int) (ρ := fun _ => Bool) (fun g => (fun s3 => g s3)) (fun _ => cm_app) a0 i) s3
noncomputable def ref01_Name_j1 (a0 : Str) (s1 : Bool) : Option Bool :=
 bif s1 then (
  some false
 ) else (
  ref01_Name_l1 a0 0
 )
noncomputable def p_ref01_Name (a0 : Str) : Option Bool :=
 bif (decide ((((a0).length : Nat) : Int) < 1)) then (
  ref01_Name_j1 a0 true
 ) else (
  ref01_Name_j1 a0 (decide ((((a0).length : Nat) : Int) > 32))
 )
theorem s_ref01_Name (a0 : Str) (r : Bool) (h : p_ref01_Name a0 = some r) : PCalls Try.prog 74 [(ofStr a0)] (BO r) := by
 unfold p_ref01_Name at h
 refine acalls_of Try.func74 rfl Try.ntmps74 Try.results74 rfl (aw_of_bw ?_)
 change BW _ _ _ ⟨[(0, (ofStr a0))], [], _⟩ _
 refine bR ?_
 refine sA rfl rfl rfl rfl rfl (ao_nil ?_)
 change BW _ _ _ _ _
 refine bw_seq ?_
 refine bw_seqJ (ι := Bool) (fun i => ref01_Name_j1 a0 i = some r) (fun i => [(0, (ofStr a0)), (12, (BO i))]) (fun i => []) ?_ ?_ ?_
 ·intro i; exact ⟨Nat.le_of_ble_eq_true rfl, ⟨(il_nil rfl), ⟨(il_nil rfl), trivial⟩⟩, trivial⟩
 ·rintro s1 h; replace h : ref01_Name_j1 a0 s1 = some r := h; unfold ref01_Name_j1 at h
  change BW _ _ _ ⟨[(0, (ofStr a0)), (12, (BO s1))], [], _⟩ _
  refine bw_cond rfl ?_ ?_
  ·intro hc2; replace h := ocond_t hc2 h
   refine bR ?_
   refine sA rfl rfl rfl rfl rfl (ao_nil ?_)
   change BW _ _ _ _ _
   refine bw_ret ?_
   change ∃ xs, _ = some xs ∧ EndOk _ _ _ _
   obtain rfl := Option.some.inj h
   exact ⟨_, rfl, endOk0 (y := (BO false)) (Wk.refl _) rfl ⟨rfl, rfl⟩⟩
  ·intro hc2; replace h := ocond_f hc2 h
   refine bw_skip ?_
   change BW _ _ _ _ _
   refine bw_seq ?_
   refine bR ?_
   refine sA rfl rfl rfl rfl rfl (ao_nil ?_)
   change BW _ _ _ _ _
   refine bw_block ?_
   change BW _ _ _ _ _
   unfold ref01_Name_l1 at h
   refine bw_loop (σ := Int) (fun i => [(0, (ofStr a0)), (3, (I64 i))]) (fun i => []) 0 h ?_ ?_ ?_
   ·intro i; exact ⟨Nat.le_of_ble_eq_true rfl, ⟨(il_nil rfl), ⟨(il_nil rfl), trivial⟩⟩, trivial⟩
   ·exact ⟨.nil, (sC rfl (sC rfl sub_nil))⟩
   ·rintro g1_f s3 h; replace h : ref01_Name_l1b a0 (fun y0 => g1_f y0) s3 = some r := h; unfold ref01_Name_l1b at h
    change BW _ _ _ ⟨[(0, (ofStr a0)), (3, (I64 s3))], [], _⟩ _
    refine bw_seq ?_
    refine bR ?_
    refine sM rfl rfl rfl rfl rfl ?_
    refine sM rfl rfl rfl rfl rfl ?_
    refine sS rfl rfl rfl (op1_lenT (s := a0) Try.underlying9 rfl rfl) ?_
    refine sS rfl rfl rfl ((op1_cmp rfl rfl rfl rfl).cast (y := (BO ((decide (s3 < (((a0).length : Nat) : Int)))))) rfl rfl) (ao_nil ?_)
    change BW _ _ _ _ _
    refine bw_cond rfl ?_ ?_
    ·intro hc4; replace h := ocond_t hc4 h
     refine bw_skip ?_
     change BW _ _ _ _ _
     refine bw_seq ?_
     refine bw_block ?_
     change BW _ _ _ _ _
     refine bw_seqJ (ι := Bool) (fun i => ref01_Name_j2 (fun y0 => g1_f y0) a0 s3 i = some r) (fun i => [(0, (ofStr a0)), (3, (I64 s3)), (4, (BO i))]) (fun i => []) ?_ ?_ ?_
     ·intro i; exact ⟨Nat.le_of_ble_eq_true rfl, ⟨(il_nil rfl), ⟨(il_nil rfl), ⟨(il_nil rfl), trivial⟩⟩⟩, trivial⟩
     ·rintro s5 h; replace h : ref01_Name_j2 (fun y0 => g1_f y0) a0 s3 s5 = some r := h; unfold ref01_Name_j2 at h
      change BW _ _ _ ⟨[(0, (ofStr a0)), (3, (I64 s3)), (4, (BO s5))], [], _⟩ _
      refine bw_seqJ (ι := Bool) (fun i => ref01_Name_j3 (fun y0 => g1_f y0) s3 i = some r) (fun i => [(0, (ofStr a0)), (3, (I64 s3)), (52, (BO i))]) (fun i => []) ?_ ?_ ?_
      ·intro i; exact ⟨Nat.le_of_ble_eq_true rfl, ⟨(il_nil rfl), ⟨(il_nil rfl), ⟨(il_nil rfl), trivial⟩⟩⟩, trivial⟩
      ·rintro s6 h; replace h : ref01_Name_j3 (fun y0 => g1_f y0) s3 s6 = some r := h; unfold ref01_Name_j3 at h
       change BW _ _ _ ⟨[(0, (ofStr a0)), (3, (I64 s3)), (52, (BO s6))], [], _⟩ _
       refine bw_cond rfl ?_ ?_
       ·intro hc7; replace h := ocond_t hc7 h
        refine bR ?_
        refine sA rfl rfl rfl rfl rfl (ao_nil ?_)
        change BW _ _ _ _ _
        refine bw_ret ?_
        change ∃ xs, _ = some xs ∧ EndOk _ _ _ _
        obtain rfl := Option.some.inj h
        exact ⟨_, rfl, endOk0 (y := (BO false)) (Wk.refl _) rfl ⟨rfl, rfl⟩⟩
       ·intro hc7; replace h := ocond_f hc7 h
        refine bw_skip ?_
        change BW _ _ _ _ _
        refine bw_region ?_
        refine sM rfl rfl rfl rfl rfl ?_
        refine sS rfl rfl rfl (op1_addW rfl rfl rfl) ?_
        refine sA rfl rfl rfl rfl rfl (ao_nil ?_)
        exact ⟨rfl, (IntKind.i64.wrap (s3 + 1)), h, ⟨.nil, (sC rfl (sC rfl sub_nil))⟩⟩
      ·refine bw_region ?_
       refine sM rfl rfl rfl rfl rfl ?_
       refine sS rfl rfl rfl (op1_not rfl rfl) ?_
       refine sM rfl rfl rfl rfl rfl ?_
       refine ao_cases (t := 31) rfl ?_ ?_
       ·intro hb8; replace h := ocond_t hb8 h
        refine ao_yes rfl rfl rfl rfl rfl rfl (op1_move rfl rfl) ?_
        refine ao_yes rfl rfl rfl rfl rfl rfl ((op1_cmp rfl rfl rfl rfl).cast (y := (BO ((s3 == 0)))) rfl rfl) ?_
        refine ao_yes rfl rfl rfl rfl rfl rfl (op1_move rfl rfl) ?_
        refine ao_cases (t := 34) rfl ?_ ?_
        ·intro hb9; replace h := ocond_t hb9 h
         refine ao_no rfl rfl rfl rfl rfl rfl ?_
         refine ao_no rfl rfl rfl rfl rfl rfl ?_
         refine ao_no rfl rfl rfl rfl rfl rfl ?_
         refine ao_no rfl rfl rfl rfl rfl rfl ?_
         refine ao_no rfl rfl rfl rfl rfl rfl ?_
         refine ao_no rfl rfl rfl rfl rfl rfl ?_
         refine ao_no rfl rfl rfl rfl rfl rfl ?_
         refine ao_no rfl rfl rfl rfl rfl rfl ?_
         refine ao_no rfl rfl rfl rfl rfl rfl ?_
         refine ao_no rfl rfl rfl rfl rfl rfl ?_
         refine ao_no rfl rfl rfl rfl rfl rfl ?_
         refine ao_no rfl rfl rfl rfl rfl rfl ?_
         refine ao_no rfl rfl rfl rfl rfl rfl ?_
         refine ao_no rfl rfl rfl rfl rfl rfl ?_
         refine ao_no rfl rfl rfl rfl rfl rfl ?_
         refine ao_no rfl rfl rfl rfl rfl rfl ?_
         refine ao_yes rfl rfl rfl rfl rfl rfl (op1_pickT rfl rfl rfl) ?_
         refine sS rfl rfl rfl (op1_pickT rfl rfl rfl) (ao_nil ?_)
         exact ⟨rfl, true, h, ⟨.nil, (sC rfl (sC rfl (sC rfl sub_nil)))⟩⟩
        ·intro hb9; replace h := ocond_f hb9 h
         refine ao_yes rfl rfl rfl rfl rfl rfl (op1_move rfl rfl) ?_
         refine ao_yes rfl rfl rfl rfl rfl rfl (op1_move rfl rfl) ?_
         obtain ⟨x10, hx10, h⟩ := obind h
         refine ao_yes rfl rfl rfl rfl rfl rfl (op1_idxT (s := a0) Try.underlying9 rfl rfl rfl hx10) ?_
         refine ao_yes rfl rfl rfl rfl rfl rfl ((op1_cmp rfl rfl rfl rfl).cast (y := (BO ((((x10).toNat : Int) != (((95 : UInt8)).toNat : Int))))) rfl rfl) ?_
         refine ao_yes rfl rfl rfl rfl rfl rfl (op1_move rfl rfl) ?_
         refine ao_cases (t := 39) rfl ?_ ?_
         ·intro hb11; replace h := ocond_t hb11 h
          refine ao_yes rfl rfl rfl rfl rfl rfl (op1_move rfl rfl) ?_
          refine ao_yes rfl rfl rfl rfl rfl rfl (op1_move rfl rfl) ?_
          obtain ⟨x12, hx12, h⟩ := obind h
          refine ao_yes rfl rfl rfl rfl rfl rfl (op1_idxT (s := a0) Try.underlying9 rfl rfl rfl hx12) ?_
          refine ao_yes rfl rfl rfl rfl rfl rfl ((op1_cmp rfl rfl rfl rfl).cast (y := (BO ((decide (((x12).toNat : Int) < (((48 : UInt8)).toNat : Int)))))) rfl rfl) ?_
          refine ao_yes rfl rfl rfl rfl rfl rfl (op1_move rfl rfl) ?_
          refine ao_cases (t := 44) rfl ?_ ?_
          ·intro hb13; replace h := ocond_t hb13 h
           refine ao_no rfl rfl rfl rfl rfl rfl ?_
           refine ao_no rfl rfl rfl rfl rfl rfl ?_
           refine ao_no rfl rfl rfl rfl rfl rfl ?_
           refine ao_no rfl rfl rfl rfl rfl rfl ?_
           refine ao_yes rfl rfl rfl rfl rfl rfl (op1_pickT rfl rfl rfl) ?_
           refine ao_yes rfl rfl rfl rfl rfl rfl (op1_pickT rfl rfl rfl) ?_
           refine ao_yes rfl rfl rfl rfl rfl rfl (op1_pickF rfl rfl rfl) ?_
           refine sS rfl rfl rfl (op1_pickT rfl rfl rfl) (ao_nil ?_)
           exact ⟨rfl, true, h, ⟨.nil, (sC rfl (sC rfl (sC rfl sub_nil)))⟩⟩
          ·intro hb13; replace h := ocond_f hb13 h
           refine ao_yes rfl rfl rfl rfl rfl rfl (op1_move rfl rfl) ?_
           refine ao_yes rfl rfl rfl rfl rfl rfl (op1_move rfl rfl) ?_
           obtain ⟨x14, hx14, h⟩ := obind h
           refine ao_yes rfl rfl rfl rfl rfl rfl (op1_idxT (s := a0) Try.underlying9 rfl rfl rfl hx14) ?_
           refine ao_yes rfl rfl rfl rfl rfl rfl ((op1_cmp rfl rfl rfl rfl).cast (y := (BO ((decide (((x14).toNat : Int) > (((57 : UInt8)).toNat : Int)))))) rfl rfl) ?_
           refine ao_yes rfl rfl rfl rfl rfl rfl (op1_pickF rfl rfl rfl) ?_
           refine ao_yes rfl rfl rfl rfl rfl rfl (op1_pickT rfl rfl rfl) ?_
           refine ao_yes rfl rfl rfl rfl rfl rfl (op1_pickF rfl rfl rfl) ?_
           refine sS rfl rfl rfl (op1_pickT rfl rfl rfl) (ao_nil ?_)
           exact ⟨rfl, (decide (((x14).toNat : Int) > (((57 : UInt8)).toNat : Int))), h, ⟨.nil, (sC rfl (sC rfl (sC rfl sub_nil)))⟩⟩
         ·intro hb11; replace h := ocond_f hb11 h
          refine ao_no rfl rfl rfl rfl rfl rfl ?_
          refine ao_no rfl rfl rfl rfl rfl rfl ?_
          refine ao_no rfl rfl rfl rfl rfl rfl ?_
          refine ao_no rfl rfl rfl rfl rfl rfl ?_
          refine ao_no rfl rfl rfl rfl rfl rfl ?_
          refine ao_no rfl rfl rfl rfl rfl rfl ?_
          refine ao_no rfl rfl rfl rfl rfl rfl ?_
          refine ao_no rfl rfl rfl rfl rfl rfl ?_
          refine ao_no rfl rfl rfl rfl rfl rfl ?_
          refine ao_no rfl rfl rfl rfl rfl rfl ?_
          refine ao_yes rfl rfl rfl rfl rfl rfl (op1_pickF rfl rfl rfl) ?_
          refine ao_yes rfl rfl rfl rfl rfl rfl (op1_pickF rfl rfl rfl) ?_
          refine sS rfl rfl rfl (op1_pickT rfl rfl rfl) (ao_nil ?_)
          exact ⟨rfl, false, h, ⟨.nil, (sC rfl (sC rfl (sC rfl sub_nil)))⟩⟩
       ·intro hb8; replace h := ocond_f hb8 h
        refine ao_no rfl rfl rfl rfl rfl rfl ?_
        refine ao_no rfl rfl rfl rfl rfl rfl ?_
        refine ao_no rfl rfl rfl rfl rfl rfl ?_
        refine ao_no rfl rfl rfl rfl rfl rfl ?_
        refine ao_no rfl rfl rfl rfl rfl rfl ?_
        refine ao_no rfl rfl rfl rfl rfl rfl ?_
        refine ao_no rfl rfl rfl rfl rfl rfl ?_
        refine ao_no rfl rfl rfl rfl rfl rfl ?_
        refine ao_no rfl rfl rfl rfl rfl rfl ?_
        refine ao_no rfl rfl rfl rfl rfl rfl ?_
        refine ao_no rfl rfl rfl rfl rfl rfl ?_
        refine ao_no rfl rfl rfl rfl rfl rfl ?_
        refine ao_no rfl rfl rfl rfl rfl rfl ?_
        refine ao_no rfl rfl rfl rfl rfl rfl ?_
        refine ao_no rfl rfl rfl rfl rfl rfl ?_
        refine ao_no rfl rfl rfl rfl rfl rfl ?_
        refine ao_no rfl rfl rfl rfl rfl rfl ?_
        refine ao_no rfl rfl rfl rfl rfl rfl ?_
        refine ao_no rfl rfl rfl rfl rfl rfl ?_
        refine ao_no rfl rfl rfl rfl rfl rfl ?_
        refine sS rfl rfl rfl (op1_pickF rfl rfl rfl) (ao_nil ?_)
        exact ⟨rfl, false, h, ⟨.nil, (sC rfl (sC rfl (sC rfl sub_nil)))⟩⟩
     ·refine bw_region ?_
      refine sM rfl rfl rfl rfl rfl ?_
      refine sM rfl rfl rfl rfl rfl ?_
      obtain ⟨x15, hx15, h⟩ := obind h
      refine sS rfl rfl rfl (op1_idxT (s := a0) Try.underlying9 rfl rfl rfl hx15) ?_
      refine sS rfl rfl rfl ((op1_cmp rfl rfl rfl rfl).cast (y := (BO ((decide (((x15).toNat : Int) ≥ (((97 : UInt8)).toNat : Int)))))) rfl rfl) ?_
      refine sM rfl rfl rfl rfl rfl ?_
      refine ao_cases (t := 23) rfl ?_ ?_
      ·intro hb16; replace h := ocond_t hb16 h
       refine ao_yes rfl rfl rfl rfl rfl rfl (op1_move rfl rfl) ?_
       refine ao_yes rfl rfl rfl rfl rfl rfl (op1_move rfl rfl) ?_
       obtain ⟨x17, hx17, h⟩ := obind h
       refine ao_yes rfl rfl rfl rfl rfl rfl (op1_idxT (s := a0) Try.underlying9 rfl rfl rfl hx17) ?_
       refine ao_yes rfl rfl rfl rfl rfl rfl ((op1_cmp rfl rfl rfl rfl).cast (y := (BO ((decide (((x17).toNat : Int) ≤ (((122 : UInt8)).toNat : Int)))))) rfl rfl) ?_
       refine sS rfl rfl rfl (op1_pickT rfl rfl rfl) ?_
       refine sA rfl rfl rfl rfl rfl (ao_nil ?_)
       exact ⟨rfl, (decide (((x17).toNat : Int) ≤ (((122 : UInt8)).toNat : Int))), h, ⟨.nil, (sC rfl (sC rfl (sC rfl sub_nil)))⟩⟩
      ·intro hb16; replace h := ocond_f hb16 h
       refine ao_no rfl rfl rfl rfl rfl rfl ?_
       refine ao_no rfl rfl rfl rfl rfl rfl ?_
       refine ao_no rfl rfl rfl rfl rfl rfl ?_
       refine ao_no rfl rfl rfl rfl rfl rfl ?_
       refine sS rfl rfl rfl (op1_pickF rfl rfl rfl) ?_
       refine sA rfl rfl rfl rfl rfl (ao_nil ?_)
       exact ⟨rfl, false, h, ⟨.nil, (sC rfl (sC rfl (sC rfl sub_nil)))⟩⟩
    ·intro hc4; replace h := ocond_f hc4 h
     refine bw_exit ?_
     change BW _ _ _ _ _
     refine bR ?_
     refine sA rfl rfl rfl rfl rfl (ao_nil ?_)
     change BW _ _ _ _ _
     refine bw_ret ?_
     change ∃ xs, _ = some xs ∧ EndOk _ _ _ _
     obtain rfl := Option.some.inj h
     exact ⟨_, rfl, endOk0 (y := (BO true)) (Wk.refl _) rfl ⟨rfl, rfl⟩⟩
 ·refine bw_region ?_
  refine sM rfl rfl rfl rfl rfl ?_
  refine sS rfl rfl rfl (op1_lenT (s := a0) Try.underlying9 rfl rfl) ?_
  refine sS rfl rfl rfl ((op1_cmp rfl rfl rfl rfl).cast (y := (BO ((decide ((((a0).length : Nat) : Int) < 1))))) rfl rfl) ?_
  refine sM rfl rfl rfl rfl rfl ?_
  refine ao_cases (t := 8) rfl ?_ ?_
  ·intro hb18; replace h := ocond_t hb18 h
   refine ao_no rfl rfl rfl rfl rfl rfl ?_
   refine ao_no rfl rfl rfl rfl rfl rfl ?_
   refine ao_no rfl rfl rfl rfl rfl rfl ?_
   refine sS rfl rfl rfl (op1_pickT rfl rfl rfl) (ao_nil ?_)
   exact ⟨rfl, true, h, ⟨.nil, (sC rfl (sC rfl sub_nil))⟩⟩
  ·intro hb18; replace h := ocond_f hb18 h
   refine ao_yes rfl rfl rfl rfl rfl rfl (op1_move rfl rfl) ?_
   refine ao_yes rfl rfl rfl rfl rfl rfl (op1_lenT (s := a0) Try.underlying9 rfl rfl) ?_
   refine ao_yes rfl rfl rfl rfl rfl rfl ((op1_cmp rfl rfl rfl rfl).cast (y := (BO ((decide ((((a0).length : Nat) : Int) > 32))))) rfl rfl) ?_
   refine sS rfl rfl rfl (op1_pickF rfl rfl rfl) (ao_nil ?_)
   exact ⟨rfl, (decide ((((a0).length : Nat) : Int) > 32)), h, ⟨.nil, (sC rfl (sC rfl sub_nil))⟩⟩
end Go.Proofs.Ythfdpaboekoncaa
