/- Pure functions, and that calls answer as they say. Written by gen.py. -/
import Derived.Test.YthfdpaboekoncaaG3
namespace Go.Proofs.Ythfdpaboekoncaa
open Go Aw
set_option linter.unusedVariables false
set_option linter.unusedSimpArgs false
set_option maxRecDepth 20000
set_option maxHeartbeats 2000000
noncomputable def ref01_cleaned_l1b (r_ref01_Clean : Term → Option Term) (a0 : (List (Str × Term))) (g1 : (List (Str × Term)) → Nat → Option (List (Str × Term))) (s1 : (List (Str × Term))) (s2 : Nat) : Option (List (Str × Term)) :=
 bif (decide (((s2 : Nat) : Int) < (((a0).length : Nat) : Int))) then (
  Option.bind ((a0)[s2]?) fun x5 =>
  Option.bind ((a0)[s2]?) fun x6 =>
  Option.bind (r_ref01_Clean (x6.2)) fun x7 =>
  Option.bind (appO 168 s1 ([(x5.1, x7)] : (List (Str × Term)))) fun x8 =>
  g1 x8 (s2 + 1)
 ) else (
  some s1
 )
theorem ref01_cleaned_l1b_cm {ι : Type} {ρ : ι → Type} (r_ref01_Clean : (∀ i, Option (ρ i)) → Term → Option Term) (h_r_ref01_Clean : ∀ y0, CM (fun G => r_ref01_Clean G y0)) (g1 : (∀ i, Option (ρ i)) → (List (Str × Term)) → Nat → Option (List (Str × Term))) (h_g1 : ∀ y0 y1, CM (fun G => g1 G y0 y1)) (a0 : (List (Str × Term))) (s1 : (List (Str × Term))) (s2 : Nat) : CM (fun G : (∀ i, Option (ρ i)) => ref01_cleaned_l1b (r_ref01_Clean G) a0 (g1 G) s1 s2) := by
 simp only [ref01_cleaned_l1b]
 repeat (first | exact cm_const | exact h_r_ref01_Clean _ | exact h_g1 _ _ | refine cm_cond ?_ ?_ | refine cm_bind ?_ (fun _ => ?_))
noncomputable def ref01_cleaned_l1 (r_ref01_Clean : Term → Option Term) (a0 : (List (Str × Term))) (s1 : (List (Str × Term))) (s2 : Nat) : Option (List (Str × Term)) :=
 fixO (ι := ((List (Str × Term)) × Nat)) (ρ := fun _ => (List (Str × Term))) (fun g i => ref01_cleaned_l1b r_ref01_Clean a0 (fun s1 s2 => g (s1, s2)) i.1 i.2) (s1, s2)
theorem ref01_cleaned_l1_eq (r_ref01_Clean : Term → Option Term) (a0 : (List (Str × Term))) (s1 : (List (Str × Term))) (s2 : Nat) : ref01_cleaned_l1 r_ref01_Clean a0 s1 s2 = ref01_cleaned_l1b r_ref01_Clean a0 (ref01_cleaned_l1 r_ref01_Clean a0) s1 s2 :=
 fixO_eq (ι := ((List (Str × Term)) × Nat)) (ρ := fun _ => (List (Str × Term))) (Φ := fun g i => ref01_cleaned_l1b r_ref01_Clean a0 (fun s1 s2 => g (s1, s2)) i.1 i.2) (fun i => ref01_cleaned_l1b_cm (ι := ((List (Str × Term)) × Nat)) (ρ := fun _ => (List (Str × Term))) (fun _ => r_ref01_Clean) (fun _ => cm_const) (fun g => (fun s1 s2 => g (s1, s2))) (fun _ _ => cm_app) a0 i.1 i.2) (s1, s2)
theorem ref01_cleaned_l1_cm {ι : Type} {ρ : ι → Type} (r_ref01_Clean : (∀ i, Option (ρ i)) → Term → Option Term) (h_r_ref01_Clean : ∀ y0, CM (fun G => r_ref01_Clean G y0)) (a0 : (List (Str × Term))) (s1 : (List (Str × Term))) (s2 : Nat) : CM (fun G : (∀ i, Option (ρ i)) => ref01_cleaned_l1 (r_ref01_Clean G) a0 s1 s2) :=
 cm_fix (κ := ((List (Str × Term)) × Nat)) (τ := fun _ => (List (Str × Term))) (Φ := fun G g i => ref01_cleaned_l1b (r_ref01_Clean G) a0 (fun s1 s2 => g (s1, s2)) i.1 i.2) (fun g i => ref01_cleaned_l1b_cm r_ref01_Clean h_r_ref01_Clean (fun _ => (fun s1 s2 => g (s1, s2))) (fun _ _ => cm_const) a0 i.1 i.2) (fun G i => ref01_cleaned_l1b_cm (ι := ((List (Str × Term)) × Nat)) (ρ := fun _ => (List (Str × Term))) (fun _ => r_ref01_Clean G) (fun _ => cm_const) (fun g => (fun s1 s2 => g (s1, s2))) (fun _ _ => cm_app) a0 i.1 i.2) (s1, s2)
noncomputable def b_ref01_cleaned (r_ref01_cleaned : (List (Str × Term)) → Option (List (Str × Term))) (r_ref01_Clean : Term → Option Term) (a0 : (List (Str × Term))) : Option (List (Str × Term)) :=
 ref01_cleaned_l1 r_ref01_Clean a0 ([] : (List (Str × Term))) 0
theorem b_ref01_cleaned_cm {ι : Type} {ρ : ι → Type} (r_ref01_cleaned : (∀ i, Option (ρ i)) → (List (Str × Term)) → Option (List (Str × Term))) (h_r_ref01_cleaned : ∀ y0, CM (fun G => r_ref01_cleaned G y0)) (r_ref01_Clean : (∀ i, Option (ρ i)) → Term → Option Term) (h_r_ref01_Clean : ∀ y0, CM (fun G => r_ref01_Clean G y0)) (a0 : (List (Str × Term))) : CM (fun G : (∀ i, Option (ρ i)) => b_ref01_cleaned (r_ref01_cleaned G) (r_ref01_Clean G) a0) := by
 simp only [b_ref01_cleaned]
 repeat (first | exact cm_const | exact h_r_ref01_cleaned _ | exact h_r_ref01_Clean _ | apply ref01_cleaned_l1_cm | refine cm_cond ?_ ?_ | refine cm_bind ?_ (fun _ => ?_) | intro _ | assumption)
noncomputable def ref01_Clean_j1 (a0 : Term) (s1 : Bool) (s2 : Int) (s3 : Nat) (s4 : Str) (s5 : Str) (s6 : Int) (s7 : (List Term)) (s8 : (List (Str × Term))) (s9 : Str) (s10 : Int) : Option Term :=
 some (Term.mk a0.kind s1 s2 s3 s4 s5 s6 s7 s8 s9 s10)
noncomputable def ref01_Clean_l1b (r_ref01_Clean : Term → Option Term) (a0 : Term) (g1 : Nat → (List Term) → Option Term) (s19 : Nat) (s20 : (List Term)) : Option Term :=
 bif (decide (((s19 : Nat) : Int) < (((a0.list).length : Nat) : Int))) then (
  Option.bind ((a0.list)[s19]?) fun x23 =>
  Option.bind (r_ref01_Clean x23) fun x24 =>
  Option.bind (appO 152 s20 ([x24] : (List Term))) fun x25 =>
  g1 (s19 + 1) x25
 ) else (
  ref01_Clean_j1 a0 false 0 0 ([]) ([]) 0 s20 ([]) ([]) 0
 )
theorem ref01_Clean_l1b_cm {ι : Type} {ρ : ι → Type} (r_ref01_Clean : (∀ i, Option (ρ i)) → Term → Option Term) (h_r_ref01_Clean : ∀ y0, CM (fun G => r_ref01_Clean G y0)) (g1 : (∀ i, Option (ρ i)) → Nat → (List Term) → Option Term) (h_g1 : ∀ y0 y1, CM (fun G => g1 G y0 y1)) (a0 : Term) (s19 : Nat) (s20 : (List Term)) : CM (fun G : (∀ i, Option (ρ i)) => ref01_Clean_l1b (r_ref01_Clean G) a0 (g1 G) s19 s20) := by
 simp only [ref01_Clean_l1b]
 repeat (first | exact cm_const | exact h_r_ref01_Clean _ | exact h_g1 _ _ | apply ref01_Clean_j1_cm | refine cm_cond ?_ ?_ | refine cm_bind ?_ (fun _ => ?_) | intro _ | assumption)
noncomputable def ref01_Clean_l1 (r_ref01_Clean : Term → Option Term) (a0 : Term) (s19 : Nat) (s20 : (List Term)) : Option Term :=
 fixO (ι := (Nat × (List Term))) (ρ := fun _ => Term) (fun g i => ref01_Clean_l1b r_ref01_Clean a0 (fun s19 s20 => g (s19, s20)) i.1 i.2) (s19, s20)
theorem ref01_Clean_l1_eq (r_ref01_Clean : Term → Option Term) (a0 : Term) (s19 : Nat) (s20 : (List Term)) : ref01_Clean_l1 r_ref01_Clean a0 s19 s20 = ref01_Clean_l1b r_ref01_Clean a0 (ref01_Clean_l1 r_ref01_Clean a0) s19 s20 :=
 fixO_eq (ι := (Nat × (List Term))) (ρ := fun _ => Term) (Φ := fun g i => ref01_Clean_l1b r_ref01_Clean a0 (fun s19 s20 => g (s19, s20)) i.1 i.2) (fun i => ref01_Clean_l1b_cm (ι := (Nat × (List Term))) (ρ := fun _ => Term) (fun _ => r_ref01_Clean) (fun _ => cm_const) (fun g => (fun s19 s20 => g (s19, s20))) (fun _ _ => cm_app) a0 i.1 i.2) (s19, s20)
theorem ref01_Clean_l1_cm {ι : Type} {ρ : ι → Type} (r_ref01_Clean : (∀ i, Option (ρ i)) → Term → Option Term) (h_r_ref01_Clean : ∀ y0, CM (fun G => r_ref01_Clean G y0)) (a0 : Term) (s19 : Nat) (s20 : (List Term)) : CM (fun G : (∀ i, Option (ρ i)) => ref01_Clean_l1 (r_ref01_Clean G) a0 s19 s20) :=
 cm_fix (κ := (Nat × (List Term))) (τ := fun _ => Term) (Φ := fun G g i => ref01_Clean_l1b (r_ref01_Clean G) a0 (fun s19 s20 => g (s19, s20)) i.1 i.2) (fun g i => ref01_Clean_l1b_cm r_ref01_Clean h_r_ref01_Clean (fun _ => (fun s19 s20 => g (s19, s20))) (fun _ _ => cm_const) a0 i.1 i.2) (fun G i => ref01_Clean_l1b_cm (ι := (Nat × (List Term))) (ρ := fun _ => Term) (fun _ => r_ref01_Clean G) (fun _ => cm_const) (fun g => (fun s19 s20 => g (s19, s20))) (fun _ _ => cm_app) a0 i.1 i.2) (s19, s20)
noncomputable def b_ref01_Clean (r_ref01_cleaned : (List (Str × Term)) → Option (List (Str × Term))) (r_ref01_Clean : Term → Option Term) (a0 : Term) : Option Term :=
 bif (a0.kind == 2) then (
  ref01_Clean_j1 a0 a0.bool 0 0 ([]) ([]) 0 ([]) ([]) ([]) 0
 ) else (
  bif (a0.kind == 3) then (
   ref01_Clean_j1 a0 false a0.int 0 ([]) ([]) 0 ([]) ([]) ([]) 0
  ) else (
   bif (a0.kind == 4) then (
    ref01_Clean_j1 a0 false 0 a0.float ([]) ([]) 0 ([]) ([]) ([]) 0
   ) else (
    bif (a0.kind == 5) then (
     ref01_Clean_j1 a0 false 0 0 a0.text ([]) 0 ([]) ([]) ([]) 0
    ) else (
     bif (a0.kind == 6) then (
      Option.bind (appO 1 ([] : Str) a0.bytes) fun x16 =>
      ref01_Clean_j1 a0 false 0 0 ([]) x16 0 ([]) ([]) ([]) 0
     ) else (
      bif (a0.kind == 7) then (
       ref01_Clean_j1 a0 false 0 0 ([]) ([]) a0.ref ([]) ([]) ([]) 0
      ) else (
       bif (a0.kind == 8) then (
        ref01_Clean_l1 r_ref01_Clean a0 0 ([])
       ) else (
        bif (a0.kind == 10) then (
         Option.bind (r_ref01_cleaned a0.fields) fun x27 =>
         ref01_Clean_j1 a0 false 0 0 ([]) ([]) 0 ([]) x27 a0.cls a0.ver
        ) else (
         bif (a0.kind == 9) then (
          Option.bind (r_ref01_cleaned a0.fields) fun x29 =>
          ref01_Clean_j1 a0 false 0 0 ([]) ([]) 0 ([]) x29 ([]) 0
         ) else (
          ref01_Clean_j1 a0 false 0 0 ([]) ([]) 0 ([]) ([]) ([]) 0
         )
        )
       )
      )
     )
    )
   )
  )
 )
theorem b_ref01_Clean_cm {ι : Type} {ρ : ι → Type} (r_ref01_cleaned : (∀ i, Option (ρ i)) → (List (Str × Term)) → Option (List (Str × Term))) (h_r_ref01_cleaned : ∀ y0, CM (fun G => r_ref01_cleaned G y0)) (r_ref01_Clean : (∀ i, Option (ρ i)) → Term → Option Term) (h_r_ref01_Clean : ∀ y0, CM (fun G => r_ref01_Clean G y0)) (a0 : Term) : CM (fun G : (∀ i, Option (ρ i)) => b_ref01_Clean (r_ref01_cleaned G) (r_ref01_Clean G) a0) := by
 simp only [b_ref01_Clean]
 repeat (first | exact cm_const | exact h_r_ref01_cleaned _ | exact h_r_ref01_Clean _ | apply ref01_Clean_j1_cm | apply ref01_Clean_l1_cm | refine cm_cond ?_ ?_ | refine cm_bind ?_ (fun _ => ?_) | intro _ | assumption)
inductive C_ref01_cleaned where
 | k_ref01_cleaned (a0 : (List (Str × Term)))
 | k_ref01_Clean (a0 : Term)
def C_ref01_cleaned.R : C_ref01_cleaned → Type
 | .k_ref01_cleaned _ => (List (Str × Term))
 | .k_ref01_Clean _ => Term
noncomputable def C_ref01_cleaned.F (g : ∀ i : C_ref01_cleaned, Option i.R) : ∀ i : C_ref01_cleaned, Option i.R
 | .k_ref01_cleaned a0 => b_ref01_cleaned (fun a0 => g (.k_ref01_cleaned a0)) (fun a0 => g (.k_ref01_Clean a0)) a0
 | .k_ref01_Clean a0 => b_ref01_Clean (fun a0 => g (.k_ref01_cleaned a0)) (fun a0 => g (.k_ref01_Clean a0)) a0
noncomputable def p_ref01_cleaned (a0 : (List (Str × Term))) : Option (List (Str × Term)) := fixO C_ref01_cleaned.F (.k_ref01_cleaned a0)
noncomputable def p_ref01_Clean (a0 : Term) : Option Term := fixO C_ref01_cleaned.F (.k_ref01_Clean a0)
theorem C_ref01_cleaned.cm (i : C_ref01_cleaned) : CM (fun g : (∀ i : C_ref01_cleaned, Option i.R) => C_ref01_cleaned.F g i) := by
 cases i with
 | k_ref01_cleaned a0 => exact b_ref01_cleaned_cm (fun (g : ∀ i : C_ref01_cleaned, Option i.R) a0 => g (.k_ref01_cleaned a0)) (fun a0 => cm_app (i := C_ref01_cleaned.k_ref01_cleaned a0)) (fun (g : ∀ i : C_ref01_cleaned, Option i.R) a0 => g (.k_ref01_Clean a0)) (fun a0 => cm_app (i := C_ref01_cleaned.k_ref01_Clean a0)) a0
 | k_ref01_Clean a0 => exact b_ref01_Clean_cm (fun (g : ∀ i : C_ref01_cleaned, Option i.R) a0 => g (.k_ref01_cleaned a0)) (fun a0 => cm_app (i := C_ref01_cleaned.k_ref01_cleaned a0)) (fun (g : ∀ i : C_ref01_cleaned, Option i.R) a0 => g (.k_ref01_Clean a0)) (fun a0 => cm_app (i := C_ref01_cleaned.k_ref01_Clean a0)) a0
theorem e_ref01_cleaned (a0 : (List (Str × Term))) : p_ref01_cleaned a0 = b_ref01_cleaned p_ref01_cleaned p_ref01_Clean a0 := fixO_eq C_ref01_cleaned.cm (.k_ref01_cleaned a0)
theorem e_ref01_Clean (a0 : Term) : p_ref01_Clean a0 = b_ref01_Clean p_ref01_cleaned p_ref01_Clean a0 := fixO_eq C_ref01_cleaned.cm (.k_ref01_Clean a0)
def C_ref01_cleaned.Q : ∀ i : C_ref01_cleaned, i.R → Prop
 | .k_ref01_cleaned a0 => fun (r : (List (Str × Term))) => PCalls Try.prog 43 [(PV.sl none 66 12 (List.map ofEntry a0))] (PV.sl none 66 12 (List.map ofEntry r))
 | .k_ref01_Clean a0 => fun (r : Term) => PCalls Try.prog 23 [(ofTermX a0)] (ofTermX r)
theorem t_ref01_cleaned (r_ref01_cleaned : (List (Str × Term)) → Option (List (Str × Term))) (c_ref01_cleaned : ∀ (a0 : (List (Str × Term))) r, r_ref01_cleaned a0 = some r → PCalls Try.prog 43 [(PV.sl none 66 12 (List.map ofEntry a0))] (PV.sl none 66 12 (List.map ofEntry r))) (r_ref01_Clean : Term → Option Term) (c_ref01_Clean : ∀ (a0 : Term) r, r_ref01_Clean a0 = some r → PCalls Try.prog 23 [(ofTermX a0)] (ofTermX r)) (a0 : (List (Str × Term))) (r : (List (Str × Term))) (h : b_ref01_cleaned r_ref01_cleaned r_ref01_Clean a0 = some r) : PCalls Try.prog 43 [(PV.sl none 66 12 (List.map ofEntry a0))] (PV.sl none 66 12 (List.map ofEntry r)) := by
 unfold b_ref01_cleaned at h
 refine acalls_of Try.func43 rfl Try.ntmps43 Try.results43 rfl (aw_of_bw ?_)
 change BW _ _ _ ⟨[(0, (PV.sl none 66 12 (List.map ofEntry a0)))], [], _⟩ _
 refine bR ?_
 refine sA rfl rfl rfl rfl rfl (ao_nil ?_)
 change BW _ _ _ _ _
 refine bR ?_
 refine sS rfl rfl rfl ((op1_bslice (xs := []) Try.underlying27 inf_66 rfl rfl rfl rfl rfl rfl ⟨Nat.le_of_ble_eq_true rfl, Nat.le_of_ble_eq_true rfl⟩ rfl).cast (y := (PV.sl (some 0) 66 12 (List.map ofEntry ([] : (List (Str × Term)))))) rfl rfl) ?_
 refine sA rfl rfl rfl rfl rfl (ao_nil ?_)
 change BW _ _ _ _ _
 refine bw_seq ?_
 refine bR ?_
 refine sA rfl rfl rfl rfl rfl (ao_nil ?_)
 change BW _ _ _ _ _
 refine bw_block ?_
 change BW _ _ _ _ _
 unfold ref01_cleaned_l1 at h
 refine bw_loop (σ := ((List (Str × Term)) × Nat)) (fun i => [(0, (PV.sl none 66 12 (List.map ofEntry a0))), (3, (PV.sl (some 0) 66 12 (List.map ofEntry i.1))), (4, (I64 (((i.2 : Nat) : Int))))]) (fun i => [.arr 66 (i.1).length]) (([] : (List (Str × Term))), 0) h ?_ ?_ ?_
 ·intro i; exact ⟨Nat.le_of_ble_eq_true rfl, ⟨(il_nil (ids_slM ids_Entry _)), ⟨(il_tok rfl (ids_map ids_Entry _)), ⟨(il_nil rfl), trivial⟩⟩⟩, trivial⟩
 ·exact ⟨(.cons .same .nil), (sC rfl (sC rfl (sC rfl sub_nil)))⟩
 ·rintro g1_f ⟨s1, s2⟩ h; replace h : ref01_cleaned_l1b r_ref01_Clean a0 (fun y0 y1 => g1_f (y0, y1)) s1 s2 = some r := h; unfold ref01_cleaned_l1b at h
  change BW _ _ _ ⟨[(0, (PV.sl none 66 12 (List.map ofEntry a0))), (3, (PV.sl (some 0) 66 12 (List.map ofEntry s1))), (4, (I64 (((s2 : Nat) : Int))))], [.arr 66 (s1).length], _⟩ _
  refine bw_seq ?_
  refine bR ?_
  refine sM rfl rfl rfl rfl rfl ?_
  refine sM rfl rfl rfl rfl rfl ?_
  refine sS rfl rfl rfl (op1_lenM Try.underlying27 rfl rfl) ?_
  refine sS rfl rfl rfl ((op1_cmp rfl rfl rfl rfl).cast (y := (BO ((decide (((s2 : Nat) : Int) < (((a0).length : Nat) : Int)))))) rfl rfl) (ao_nil ?_)
  change BW _ _ _ _ _
  refine bw_len (t := 7) rfl fun hb4 => ?_
  try rw [List.length_map] at hb4
  refine bw_cond rfl ?_ ?_
  ·intro hc3; replace h := ocond_t hc3 h
   have hc3_ := of_decide_eq_true hc3
   refine bw_skip ?_
   change BW _ _ _ _ _
   refine bw_seq ?_
   refine bw_block ?_
   change BW _ _ _ _ _
   refine bw_tail 14 [13] [] mo (by kernel_rfl) ?_
   refine ac_go rfl rfl rfl rfl (fun H hp => op1_move rfl rfl) ?_
   refine ac_go rfl rfl rfl rfl (fun H hp => op1_move rfl rfl) ?_
   refine ac_go rfl rfl rfl rfl (fun H hp => op1_move rfl rfl) ?_
   obtain ⟨x5, hx5, h⟩ := obind h
   refine ac_go rfl rfl rfl rfl (fun H hp => op1_idxN (i := s2) Try.underlying27 inf_66 rfl rfl rfl hx5 (ofEntry_eq _)) ?_
   refine ac_go rfl rfl rfl rfl (fun H hp => op1_faP st_66 (i := 0) rfl rfl rfl) ?_
   refine ac_go rfl rfl rfl rfl (fun H hp => op1_ldP (y := (ofStr x5.1)) Try.underlying9 rfl rfl rfl rfl) ?_
   refine ac_go rfl rfl rfl rfl (fun H hp => op1_move rfl rfl) ?_
   refine ac_go rfl rfl rfl rfl (fun H hp => op1_move rfl rfl) ?_
   obtain ⟨x6, hx6, h⟩ := obind h
   refine ac_go rfl rfl rfl rfl (fun H hp => op1_idxN (i := s2) Try.underlying27 inf_66 rfl rfl rfl hx6 (ofEntry_eq _)) ?_
   refine ac_go rfl rfl rfl rfl (fun H hp => op1_faP st_66 (i := 1) rfl rfl rfl) ?_
   refine ac_go rfl rfl rfl rfl (fun H hp => (op1_ldPA inf_29 Try.underlying29 rfl rfl rfl rfl rfl)) ?_
   obtain ⟨x7, hx7, h⟩ := obind h
   refine ac_go rfl rfl rfl rfl (fun H hp => op1_pcall rfl en_23 rfl (.cons (Wk.refl _) .nil) ⟨(ids_TermX (x6.2)), trivial⟩ (c_ref01_Clean (x6.2) x7 hx7) (ids_TermX x7)) ?_
   refine ac_go rfl rfl rfl rfl (fun H hp => op1_build (cs := [(ofStr x5.1), (I64 x7.kind), (BO x7.bool), (I64 x7.int), (PV.v (.float .f64 x7.float)), (ofStr x7.text), (PV.sl none 5 1 (List.map ofB x7.bytes)), (PV.v (.int .u64 x7.ref)), (PV.sl none 29 11 (List.map ofTerm x7.list)), (PV.sl none 66 12 (List.map ofEntry x7.fields)), (ofStr x7.cls), (I64 x7.ver)]) st_66 inf_66 rfl rfl rfl rfl) ?_
   refine ac_lgo rfl rfl rfl rfl ((op1_bslice (xs := [(PV.agg [(ofStr x5.1), (I64 x7.kind), (BO x7.bool), (I64 x7.int), (PV.v (.float .f64 x7.float)), (ofStr x7.text), (PV.sl none 5 1 (List.map ofB x7.bytes)), (PV.v (.int .u64 x7.ref)), (PV.sl none 29 11 (List.map ofTerm x7.list)), (PV.sl none 66 12 (List.map ofEntry x7.fields)), (ofStr x7.cls), (I64 x7.ver)])]) Try.underlying27 inf_66 rfl rfl rfl rfl rfl rfl ⟨Nat.le_of_ble_eq_true rfl, Nat.le_of_ble_eq_true rfl⟩ rfl).cast (y := (PV.sl (some 1) 66 12 (List.map ofEntry ([(x5.1, x7)] : (List (Str × Term)))))) (by simp only [List.map_cons, List.map_nil, ofEntry_eq]; try rfl) rfl) trivial ?_
   refine ac_nil ?_
   change AO _ _ _ _ _
   obtain ⟨x8, hx8, h⟩ := obind h
   refine sS rfl rfl rfl (op1_appM Try.underlying27 inf_66 rfl Try.underlying27 rfl rfl rfl rfl csz_Entry call1_Entry hx8 rfl) ?_
   refine sA rfl rfl rfl rfl rfl (ao_nil ?_)
   change BW _ _ _ _ _
   refine bw_region ?_
   refine sM rfl rfl rfl rfl rfl ?_
   refine sS rfl rfl rfl (op1_incN (k := s2) (c := 1) rfl rfl rfl (by omega)) ?_
   refine sA rfl rfl rfl rfl rfl (ao_nil ?_)
   exact ⟨rfl, (x8, (s2 + 1)), h, ⟨(.cons .same .nil), (sC rfl (sC rfl (sC rfl sub_nil)))⟩⟩
  ·intro hc3; replace h := ocond_f hc3 h
   refine bw_exit ?_
   change BW _ _ _ _ _
   refine bR ?_
   refine sM rfl rfl rfl rfl rfl ?_
   refine sA rfl rfl rfl rfl rfl (ao_nil ?_)
   change BW _ _ _ _ _
   refine bw_ret ?_
   change ∃ xs, _ = some xs ∧ EndOk _ _ _ _
   obtain rfl := Option.some.inj h
   exact ⟨_, rfl, endOk0 (y := (PV.sl none 66 12 (List.map ofEntry s1))) Wk.tok (ids_slM ids_Entry s1) ⟨rfl, rfl⟩⟩
theorem t_ref01_Clean (r_ref01_cleaned : (List (Str × Term)) → Option (List (Str × Term))) (c_ref01_cleaned : ∀ (a0 : (List (Str × Term))) r, r_ref01_cleaned a0 = some r → PCalls Try.prog 43 [(PV.sl none 66 12 (List.map ofEntry a0))] (PV.sl none 66 12 (List.map ofEntry r))) (r_ref01_Clean : Term → Option Term) (c_ref01_Clean : ∀ (a0 : Term) r, r_ref01_Clean a0 = some r → PCalls Try.prog 23 [(ofTermX a0)] (ofTermX r)) (a0 : Term) (r : Term) (h : b_ref01_Clean r_ref01_cleaned r_ref01_Clean a0 = some r) : PCalls Try.prog 23 [(ofTermX a0)] (ofTermX r) := by
 unfold b_ref01_Clean at h
 refine acalls_of Try.func23 rfl Try.ntmps23 Try.results23 rfl (aw_of_bw ?_)
 change BW _ _ _ ⟨[(0, (ofTermX a0))], [], _⟩ _
 refine bR ?_
 refine sS rfl rfl rfl (op1_box rfl rfl rfl) ?_
 refine sS rfl rfl rfl (op1_alloc inf_29 rfl) (ao_nil ?_)
 change BW _ _ _ _ _
 refine bR ?_
 refine sS rfl rfl rfl (op1_faR st_29 (i := 0) rfl rfl rfl) ?_
 refine sS rfl rfl rfl ((op1_ldR Try.underlying3 rfl rfl rfl rfl rfl)) ?_
 refine sS rfl rfl rfl (op1_build (cs := [(I64 a0.kind), (BO false), (I64 0), (PV.v (.float .f64 0)), (ofStr []), (PV.v (.slice none 0 0)), (PV.v (.int .u64 0)), (PV.v (.slice none 0 0)), (PV.v (.slice none 0 0)), (ofStr []), (I64 0)]) st_29 inf_29 rfl rfl rfl rfl) ?_
 refine sS rfl rfl rfl (op1_alloc inf_29 rfl) ?_
 refine ao_step0 rfl rfl (op1_store inf_29 rfl rfl rfl rfl rfl rfl (Nat.le_of_ble_eq_true rfl) rfl) ?_
 refine ao_nil ?_
 change BW _ _ _ _ _
 refine bw_seqJ (ι := (Bool × Int × Nat × Str × Str × Int × (List Term) × (List (Str × Term)) × Str × Int)) (fun i => ref01_Clean_j1 a0 i.1 i.2.1 i.2.2.1 i.2.2.2.1 i.2.2.2.2.1 i.2.2.2.2.2.1 i.2.2.2.2.2.2.1 i.2.2.2.2.2.2.2.1 i.2.2.2.2.2.2.2.2.1 i.2.2.2.2.2.2.2.2.2 = some r) (fun i => [(2, (PV.rf 1 0)), (3, (PV.rf 2 0))]) (fun i => [.dead, .box 29 [(I64 0), (BO false), (I64 0), (PV.v (.float .f64 0)), (ofStr []), (PV.v (.slice none 0 0)), (PV.v (.int .u64 0)), (PV.v (.slice none 0 0)), (PV.v (.slice none 0 0)), (ofStr []), (I64 0)], .box 29 [(I64 a0.kind), (BO i.1), (I64 i.2.1), (PV.v (.float .f64 i.2.2.1)), (ofStr i.2.2.2.1), (PV.sl none 5 1 (List.map ofB i.2.2.2.2.1)), (PV.v (.int .u64 i.2.2.2.2.2.1)), (PV.sl none 29 11 (List.map ofTerm i.2.2.2.2.2.2.1)), (PV.sl none 66 12 (List.map ofEntry i.2.2.2.2.2.2.2.1)), (ofStr i.2.2.2.2.2.2.2.2.1), (I64 i.2.2.2.2.2.2.2.2.2)]]) ?_ ?_ ?_
 ·intro i; exact ⟨Nat.le_of_ble_eq_true rfl, ⟨(il_rf rfl), ⟨(il_rf rfl), trivial⟩⟩, ⟨⟨(il_nil rfl), ⟨(il_nil rfl), ⟨(il_nil rfl), ⟨(il_nil rfl), ⟨(il_nil rfl), ⟨(il_nil rfl), ⟨(il_nil rfl), ⟨(il_nil rfl), ⟨(il_nil rfl), ⟨(il_nil rfl), ⟨(il_nil rfl), trivial⟩⟩⟩⟩⟩⟩⟩⟩⟩⟩⟩, ⟨⟨(il_nil rfl), ⟨(il_nil rfl), ⟨(il_nil rfl), ⟨(il_nil rfl), ⟨(il_nil rfl), ⟨(il_nil (ids_slM (fun _ => rfl) _)), ⟨(il_nil rfl), ⟨(il_nil (ids_slM ids_Term _)), ⟨(il_nil (ids_slM ids_Entry _)), ⟨(il_nil rfl), ⟨(il_nil rfl), trivial⟩⟩⟩⟩⟩⟩⟩⟩⟩⟩⟩, trivial⟩⟩⟩
 ·rintro ⟨s1, s2, s3, s4, s5, s6, s7, s8, s9, s10⟩ h; replace h : ref01_Clean_j1 a0 s1 s2 s3 s4 s5 s6 s7 s8 s9 s10 = some r := h; unfold ref01_Clean_j1 at h
  change BW _ _ _ ⟨[(2, (PV.rf 1 0)), (3, (PV.rf 2 0))], [.dead, .box 29 [(I64 0), (BO false), (I64 0), (PV.v (.float .f64 0)), (ofStr []), (PV.v (.slice none 0 0)), (PV.v (.int .u64 0)), (PV.v (.slice none 0 0)), (PV.v (.slice none 0 0)), (ofStr []), (I64 0)], .box 29 [(I64 a0.kind), (BO s1), (I64 s2), (PV.v (.float .f64 s3)), (ofStr s4), (PV.sl none 5 1 (List.map ofB s5)), (PV.v (.int .u64 s6)), (PV.sl none 29 11 (List.map ofTerm s7)), (PV.sl none 66 12 (List.map ofEntry s8)), (ofStr s9), (I64 s10)]], _⟩ _
  refine bR ?_
  refine sS rfl rfl rfl ((op1_ldRA inf_29 Try.underlying29 rfl rfl rfl rfl rfl rfl)) ?_
  refine ao_step0 rfl rfl (op1_store inf_29 rfl rfl rfl rfl rfl rfl (Nat.le_of_ble_eq_true rfl) rfl) ?_
  refine ao_nil ?_
  change BW _ _ _ _ _
  refine bw_ret ?_
  change ∃ xs, _ = some xs ∧ EndOk _ _ _ _
  obtain rfl := Option.some.inj h
  exact ⟨_, rfl, endOk0 (y := (ofTermX (Term.mk a0.kind s1 s2 s3 s4 s5 s6 s7 s8 s9 s10))) (Wk.refl _) (ids_TermX (Term.mk a0.kind s1 s2 s3 s4 s5 s6 s7 s8 s9 s10)) ⟨rfl, rfl⟩⟩
 ·refine bR ?_
  refine sS rfl rfl rfl (op1_faR st_29 (i := 0) rfl rfl rfl) ?_
  refine sS rfl rfl rfl ((op1_ldR Try.underlying3 rfl rfl rfl rfl rfl)) (ao_nil ?_)
  change BW _ _ _ _ _
  refine bw_block ?_
  change BW _ _ _ _ _
  refine bR ?_
  refine sS rfl rfl rfl ((op1_cmp rfl rfl rfl rfl).cast (y := (BO ((a0.kind == 2)))) rfl rfl) ?_
  refine sA rfl rfl rfl rfl rfl (ao_nil ?_)
  change BW _ _ _ _ _
  refine bw_cond rfl ?_ ?_
  ·intro hc11; replace h := ocond_t hc11 h
   refine bw_region ?_
   refine sS rfl rfl rfl (op1_faR st_29 (i := 1) rfl rfl rfl) ?_
   refine sS rfl rfl rfl ((op1_ldR Try.underlying4 rfl rfl rfl rfl rfl)) ?_
   refine sS rfl rfl rfl (op1_faR st_29 (i := 1) rfl rfl rfl) ?_
   refine ao_step0 rfl rfl (op1_store inf_4 rfl rfl rfl rfl rfl rfl (Nat.le_of_ble_eq_true rfl) rfl) ?_
   refine ao_nil ?_
   exact ⟨rfl, (a0.bool, 0, 0, [], [], 0, [], [], [], 0), h, ⟨(.cons .dead (.cons .same (.cons (.box (.cons (Wk.refl _) (.cons (Wk.refl _) (.cons (Wk.refl _) (.cons (Wk.refl _) (.cons (Wk.refl _) (.cons Wk.nil (.cons (Wk.refl _) (.cons Wk.nil (.cons Wk.nil (.cons (Wk.refl _) (.cons (Wk.refl _) .nil)))))))))))) .nil))), (sC rfl (sC rfl sub_nil))⟩⟩
  ·intro hc11; replace h := ocond_f hc11 h
   refine bR ?_
   refine sS rfl rfl rfl ((op1_cmp rfl rfl rfl rfl).cast (y := (BO ((a0.kind == 3)))) rfl rfl) ?_
   refine sA rfl rfl rfl rfl rfl (ao_nil ?_)
   change BW _ _ _ _ _
   refine bw_cond rfl ?_ ?_
   ·intro hc12; replace h := ocond_t hc12 h
    refine bw_region ?_
    refine sS rfl rfl rfl (op1_faR st_29 (i := 2) rfl rfl rfl) ?_
    refine sS rfl rfl rfl ((op1_ldR Try.underlying2 rfl rfl rfl rfl rfl)) ?_
    refine sS rfl rfl rfl (op1_faR st_29 (i := 2) rfl rfl rfl) ?_
    refine ao_step0 rfl rfl (op1_store inf_2 rfl rfl rfl rfl rfl rfl (Nat.le_of_ble_eq_true rfl) rfl) ?_
    refine ao_nil ?_
    exact ⟨rfl, (false, a0.int, 0, [], [], 0, [], [], [], 0), h, ⟨(.cons .dead (.cons .same (.cons (.box (.cons (Wk.refl _) (.cons (Wk.refl _) (.cons (Wk.refl _) (.cons (Wk.refl _) (.cons (Wk.refl _) (.cons Wk.nil (.cons (Wk.refl _) (.cons Wk.nil (.cons Wk.nil (.cons (Wk.refl _) (.cons (Wk.refl _) .nil)))))))))))) .nil))), (sC rfl (sC rfl sub_nil))⟩⟩
   ·intro hc12; replace h := ocond_f hc12 h
    refine bR ?_
    refine sS rfl rfl rfl ((op1_cmp rfl rfl rfl rfl).cast (y := (BO ((a0.kind == 4)))) rfl rfl) ?_
    refine sA rfl rfl rfl rfl rfl (ao_nil ?_)
    change BW _ _ _ _ _
    refine bw_cond rfl ?_ ?_
    ·intro hc13; replace h := ocond_t hc13 h
     refine bw_region ?_
     refine sS rfl rfl rfl (op1_faR st_29 (i := 3) rfl rfl rfl) ?_
     refine sS rfl rfl rfl ((op1_ldR Try.underlying22 rfl rfl rfl rfl rfl)) ?_
     refine sS rfl rfl rfl (op1_faR st_29 (i := 3) rfl rfl rfl) ?_
     refine ao_step0 rfl rfl (op1_store inf_22 rfl rfl rfl rfl rfl rfl (Nat.le_of_ble_eq_true rfl) rfl) ?_
     refine ao_nil ?_
     exact ⟨rfl, (false, 0, a0.float, [], [], 0, [], [], [], 0), h, ⟨(.cons .dead (.cons .same (.cons (.box (.cons (Wk.refl _) (.cons (Wk.refl _) (.cons (Wk.refl _) (.cons (Wk.refl _) (.cons (Wk.refl _) (.cons Wk.nil (.cons (Wk.refl _) (.cons Wk.nil (.cons Wk.nil (.cons (Wk.refl _) (.cons (Wk.refl _) .nil)))))))))))) .nil))), (sC rfl (sC rfl sub_nil))⟩⟩
    ·intro hc13; replace h := ocond_f hc13 h
     refine bR ?_
     refine sS rfl rfl rfl ((op1_cmp rfl rfl rfl rfl).cast (y := (BO ((a0.kind == 5)))) rfl rfl) ?_
     refine sA rfl rfl rfl rfl rfl (ao_nil ?_)
     change BW _ _ _ _ _
     refine bw_cond rfl ?_ ?_
     ·intro hc14; replace h := ocond_t hc14 h
      refine bw_region ?_
      refine sS rfl rfl rfl (op1_faR st_29 (i := 4) rfl rfl rfl) ?_
      refine sS rfl rfl rfl ((op1_ldR Try.underlying9 rfl rfl rfl rfl rfl)) ?_
      refine sS rfl rfl rfl (op1_faR st_29 (i := 4) rfl rfl rfl) ?_
      refine ao_step0 rfl rfl (op1_store inf_9 rfl rfl rfl rfl rfl rfl (Nat.le_of_ble_eq_true rfl) rfl) ?_
      refine ao_nil ?_
      exact ⟨rfl, (false, 0, 0, a0.text, [], 0, [], [], [], 0), h, ⟨(.cons .dead (.cons .same (.cons (.box (.cons (Wk.refl _) (.cons (Wk.refl _) (.cons (Wk.refl _) (.cons (Wk.refl _) (.cons (Wk.refl _) (.cons Wk.nil (.cons (Wk.refl _) (.cons Wk.nil (.cons Wk.nil (.cons (Wk.refl _) (.cons (Wk.refl _) .nil)))))))))))) .nil))), (sC rfl (sC rfl sub_nil))⟩⟩
     ·intro hc14; replace h := ocond_f hc14 h
      refine bR ?_
      refine sS rfl rfl rfl ((op1_cmp rfl rfl rfl rfl).cast (y := (BO ((a0.kind == 6)))) rfl rfl) ?_
      refine sA rfl rfl rfl rfl rfl (ao_nil ?_)
      change BW _ _ _ _ _
      refine bw_cond rfl ?_ ?_
      ·intro hc15; replace h := ocond_t hc15 h
       refine bw_region ?_
       refine sS rfl rfl rfl ((op1_bslice (xs := []) Try.underlying23 inf_5 rfl rfl rfl rfl rfl rfl ⟨Nat.le_of_ble_eq_true rfl, Nat.le_of_ble_eq_true rfl⟩ rfl).cast (y := (PV.sl (some 3) 5 1 (List.map ofB ([] : Str)))) rfl rfl) ?_
       refine sS rfl rfl rfl (op1_faR st_29 (i := 5) rfl rfl rfl) ?_
       refine sS rfl rfl rfl ((op1_ldR Try.underlying23 rfl rfl rfl rfl rfl)) ?_
       obtain ⟨x16, hx16, h⟩ := obind h
       refine sS rfl rfl rfl (op1_appM Try.underlying23 inf_5 rfl Try.underlying23 rfl rfl rfl rfl (fun _ => rfl) (fun _ => rfl) hx16 rfl) ?_
       refine sS rfl rfl rfl (op1_faR st_29 (i := 5) rfl rfl rfl) ?_
       refine ao_step0 rfl rfl (op1_store inf_23 rfl rfl rfl rfl rfl rfl (Nat.le_of_ble_eq_true rfl) rfl) ?_
       refine ao_nil ?_
       exact ⟨rfl, (false, 0, 0, [], x16, 0, [], [], [], 0), h, ⟨(.cons .dead (.cons .same (.cons (.box (.cons (Wk.refl _) (.cons (Wk.refl _) (.cons (Wk.refl _) (.cons (Wk.refl _) (.cons (Wk.refl _) (.cons Wk.tok (.cons (Wk.refl _) (.cons Wk.nil (.cons Wk.nil (.cons (Wk.refl _) (.cons (Wk.refl _) .nil)))))))))))) .nil))), (sC rfl (sC rfl sub_nil))⟩⟩
      ·intro hc15; replace h := ocond_f hc15 h
       refine bR ?_
       refine sS rfl rfl rfl ((op1_cmp rfl rfl rfl rfl).cast (y := (BO ((a0.kind == 7)))) rfl rfl) ?_
       refine sA rfl rfl rfl rfl rfl (ao_nil ?_)
       change BW _ _ _ _ _
       refine bw_cond rfl ?_ ?_
       ·intro hc17; replace h := ocond_t hc17 h
        refine bw_region ?_
        refine sS rfl rfl rfl (op1_faR st_29 (i := 6) rfl rfl rfl) ?_
        refine sS rfl rfl rfl ((op1_ldR Try.underlying25 rfl rfl rfl rfl rfl)) ?_
        refine sS rfl rfl rfl (op1_faR st_29 (i := 6) rfl rfl rfl) ?_
        refine ao_step0 rfl rfl (op1_store inf_25 rfl rfl rfl rfl rfl rfl (Nat.le_of_ble_eq_true rfl) rfl) ?_
        refine ao_nil ?_
        exact ⟨rfl, (false, 0, 0, [], [], a0.ref, [], [], [], 0), h, ⟨(.cons .dead (.cons .same (.cons (.box (.cons (Wk.refl _) (.cons (Wk.refl _) (.cons (Wk.refl _) (.cons (Wk.refl _) (.cons (Wk.refl _) (.cons Wk.nil (.cons (Wk.refl _) (.cons Wk.nil (.cons Wk.nil (.cons (Wk.refl _) (.cons (Wk.refl _) .nil)))))))))))) .nil))), (sC rfl (sC rfl sub_nil))⟩⟩
       ·intro hc17; replace h := ocond_f hc17 h
        refine bR ?_
        refine sS rfl rfl rfl ((op1_cmp rfl rfl rfl rfl).cast (y := (BO ((a0.kind == 8)))) rfl rfl) ?_
        refine sA rfl rfl rfl rfl rfl (ao_nil ?_)
        change BW _ _ _ _ _
        refine bw_cond rfl ?_ ?_
        ·intro hc18; replace h := ocond_t hc18 h
         refine bR ?_
         refine sA rfl rfl rfl rfl rfl (ao_nil ?_)
         change BW _ _ _ _ _
         refine bw_block ?_
         change BW _ _ _ _ _
         refine bw_ghostB (s := ⟨_, _, _⟩) 2 7 29 (sz := 11) rfl rfl rfl ?_
         unfold ref01_Clean_l1 at h
         refine bw_loop (σ := (Nat × (List Term))) (fun i => [(1, (PV.rf 0 0)), (2, (PV.rf 1 0)), (3, (PV.rf 2 0)), (4, (I64 (((i.1 : Nat) : Int))))]) (fun i => [.box 29 [(I64 a0.kind), (BO a0.bool), (I64 a0.int), (PV.v (.float .f64 a0.float)), (ofStr a0.text), (PV.sl none 5 1 (List.map ofB a0.bytes)), (PV.v (.int .u64 a0.ref)), (PV.sl none 29 11 (List.map ofTerm a0.list)), (PV.sl none 66 12 (List.map ofEntry a0.fields)), (ofStr a0.cls), (I64 a0.ver)], .box 29 [(I64 0), (BO false), (I64 0), (PV.v (.float .f64 0)), (ofStr []), (PV.v (.slice none 0 0)), (PV.v (.int .u64 0)), (PV.v (.slice none 0 0)), (PV.v (.slice none 0 0)), (ofStr []), (I64 0)], .box 29 [(I64 a0.kind), (BO false), (I64 0), (PV.v (.float .f64 0)), (ofStr []), (PV.v (.slice none 0 0)), (PV.v (.int .u64 0)), (PV.sl (some 3) 29 11 (List.map ofTerm i.2)), (PV.v (.slice none 0 0)), (ofStr []), (I64 0)], .arr 29 (i.2).length]) (0, []) h ?_ ?_ ?_
         ·intro i; exact ⟨Nat.le_of_ble_eq_true rfl, ⟨(il_rf rfl), ⟨(il_rf rfl), ⟨(il_rf rfl), ⟨(il_nil rfl), trivial⟩⟩⟩⟩, ⟨⟨(il_nil rfl), ⟨(il_nil rfl), ⟨(il_nil rfl), ⟨(il_nil rfl), ⟨(il_nil rfl), ⟨(il_nil (ids_slM (fun _ => rfl) _)), ⟨(il_nil rfl), ⟨(il_nil (ids_slM ids_Term _)), ⟨(il_nil (ids_slM ids_Entry _)), ⟨(il_nil rfl), ⟨(il_nil rfl), trivial⟩⟩⟩⟩⟩⟩⟩⟩⟩⟩⟩, ⟨⟨(il_nil rfl), ⟨(il_nil rfl), ⟨(il_nil rfl), ⟨(il_nil rfl), ⟨(il_nil rfl), ⟨(il_nil rfl), ⟨(il_nil rfl), ⟨(il_nil rfl), ⟨(il_nil rfl), ⟨(il_nil rfl), ⟨(il_nil rfl), trivial⟩⟩⟩⟩⟩⟩⟩⟩⟩⟩⟩, ⟨⟨(il_nil rfl), ⟨(il_nil rfl), ⟨(il_nil rfl), ⟨(il_nil rfl), ⟨(il_nil rfl), ⟨(il_nil rfl), ⟨(il_nil rfl), ⟨(il_tok rfl (ids_map ids_Term _)), ⟨(il_nil rfl), ⟨(il_nil rfl), ⟨(il_nil rfl), trivial⟩⟩⟩⟩⟩⟩⟩⟩⟩⟩⟩, trivial⟩⟩⟩⟩
         ·exact ⟨(.cons .same (.cons .same (.cons .same (.cons .same .nil)))), (sC rfl (sC rfl (sC rfl (sC rfl sub_nil))))⟩
         ·rintro g1_f ⟨s19, s20⟩ h; replace h : ref01_Clean_l1b r_ref01_Clean a0 (fun y0 y1 => g1_f (y0, y1)) s19 s20 = some r := h; unfold ref01_Clean_l1b at h
          change BW _ _ _ ⟨[(1, (PV.rf 0 0)), (2, (PV.rf 1 0)), (3, (PV.rf 2 0)), (4, (I64 (((s19 : Nat) : Int))))], [.box 29 [(I64 a0.kind), (BO a0.bool), (I64 a0.int), (PV.v (.float .f64 a0.float)), (ofStr a0.text), (PV.sl none 5 1 (List.map ofB a0.bytes)), (PV.v (.int .u64 a0.ref)), (PV.sl none 29 11 (List.map ofTerm a0.list)), (PV.sl none 66 12 (List.map ofEntry a0.fields)), (ofStr a0.cls), (I64 a0.ver)], .box 29 [(I64 0), (BO false), (I64 0), (PV.v (.float .f64 0)), (ofStr []), (PV.v (.slice none 0 0)), (PV.v (.int .u64 0)), (PV.v (.slice none 0 0)), (PV.v (.slice none 0 0)), (ofStr []), (I64 0)], .box 29 [(I64 a0.kind), (BO false), (I64 0), (PV.v (.float .f64 0)), (ofStr []), (PV.v (.slice none 0 0)), (PV.v (.int .u64 0)), (PV.sl (some 3) 29 11 (List.map ofTerm s20)), (PV.v (.slice none 0 0)), (ofStr []), (I64 0)], .arr 29 (s20).length], _⟩ _
          refine bw_seq ?_
          refine bR ?_
          refine sM rfl rfl rfl rfl rfl ?_
          refine sS rfl rfl rfl (op1_faR st_29 (i := 7) rfl rfl rfl) ?_
          refine sS rfl rfl rfl ((op1_ldR Try.underlying26 rfl rfl rfl rfl rfl)) ?_
          refine sS rfl rfl rfl (op1_lenM Try.underlying26 rfl rfl) ?_
          refine sS rfl rfl rfl ((op1_cmp rfl rfl rfl rfl).cast (y := (BO ((decide (((s19 : Nat) : Int) < (((a0.list).length : Nat) : Int)))))) rfl rfl) (ao_nil ?_)
          change BW _ _ _ _ _
          refine bw_len (t := 46) rfl fun hb22 => ?_
          try rw [List.length_map] at hb22
          refine bw_cond rfl ?_ ?_
          ·intro hc21; replace h := ocond_t hc21 h
           have hc21_ := of_decide_eq_true hc21
           refine bw_skip ?_
           change BW _ _ _ _ _
           refine bw_seq ?_
           refine bw_block ?_
           change BW _ _ _ _ _
           refine bw_tail 9 [8] [0, 2] mo (by kernel_rfl) ?_
           refine ac_go rfl rfl rfl rfl (fun H hp => op1_faR st_29 (i := 7) rfl rfl rfl) ?_
           refine ac_go rfl rfl rfl rfl (fun H hp => (op1_ldR Try.underlying26 rfl rfl rfl (hp.at rfl rfl) rfl)) ?_
           refine ac_go rfl rfl rfl rfl (fun H hp => op1_faR st_29 (i := 7) rfl rfl rfl) ?_
           refine ac_go rfl rfl rfl rfl (fun H hp => (op1_ldR Try.underlying26 rfl rfl rfl (hp.at rfl rfl) rfl)) ?_
           refine ac_go rfl rfl rfl rfl (fun H hp => op1_move rfl rfl) ?_
           obtain ⟨x23, hx23, h⟩ := obind h
           refine ac_go rfl rfl rfl rfl (fun H hp => op1_idxN (i := s19) Try.underlying26 inf_29 rfl rfl rfl hx23 (ofTerm_eq _)) ?_
           refine ac_go rfl rfl rfl rfl (fun H hp => op1_ldPW inf_29 Try.underlying29 rfl rfl rfl rfl rfl) ?_
           obtain ⟨x24, hx24, h⟩ := obind h
           refine ac_go rfl rfl rfl rfl (fun H hp => op1_pcall rfl en_23 rfl (.cons (Wk.refl _) .nil) ⟨(ids_TermX x23), trivial⟩ (c_ref01_Clean x23 x24 hx24) (ids_TermX x24)) ?_
           refine ac_lgo rfl rfl rfl rfl ((op1_bslice (xs := [(ofTermX x24)]) Try.underlying26 inf_29 rfl rfl rfl rfl rfl rfl ⟨Nat.le_of_ble_eq_true rfl, Nat.le_of_ble_eq_true rfl⟩ rfl).cast (y := (PV.sl (some 4) 29 11 (List.map ofTerm ([x24] : (List Term))))) (by simp only [List.map_cons, List.map_nil, ofTerm_eq]; try rfl) rfl) ⟨rfl, ⟨rfl, trivial⟩⟩ ?_
           refine ac_nil ?_
           change AO _ _ _ _ _
           obtain ⟨x25, hx25, h⟩ := obind h
           refine sS rfl rfl rfl (op1_appM Try.underlying26 inf_29 rfl Try.underlying26 rfl rfl rfl rfl csz_Term call1_Term hx25 rfl) ?_
           refine sS rfl rfl rfl (op1_faR st_29 (i := 7) rfl rfl rfl) ?_
           refine ao_step0 rfl rfl (op1_store inf_26 rfl rfl rfl rfl rfl rfl (Nat.le_of_ble_eq_true rfl) rfl) ?_
           refine ao_nil ?_
           change BW _ _ _ _ _
           refine bw_region ?_
           refine sM rfl rfl rfl rfl rfl ?_
           refine sS rfl rfl rfl (op1_incN (k := s19) (c := 1) rfl rfl rfl (by omega)) ?_
           refine sA rfl rfl rfl rfl rfl (ao_nil ?_)
           exact ⟨rfl, ((s19 + 1), x25), h, ⟨(.cons .same (.cons .same (.cons .same (.cons .same .nil)))), (sC rfl (sC rfl (sC rfl (sC rfl sub_nil))))⟩⟩
          ·intro hc21; replace h := ocond_f hc21 h
           refine bw_exit ?_
           exact ⟨rfl, (false, 0, 0, [], [], 0, s20, [], [], 0), h, ⟨(.cons .dead (.cons .same (.cons (.box (.cons (Wk.refl _) (.cons (Wk.refl _) (.cons (Wk.refl _) (.cons (Wk.refl _) (.cons (Wk.refl _) (.cons Wk.nil (.cons (Wk.refl _) (.cons Wk.tok (.cons Wk.nil (.cons (Wk.refl _) (.cons (Wk.refl _) .nil)))))))))))) .nil))), (sC rfl (sC rfl sub_nil))⟩⟩
        ·intro hc18; replace h := ocond_f hc18 h
         refine bR ?_
         refine sS rfl rfl rfl ((op1_cmp rfl rfl rfl rfl).cast (y := (BO ((a0.kind == 10)))) rfl rfl) ?_
         refine sA rfl rfl rfl rfl rfl (ao_nil ?_)
         change BW _ _ _ _ _
         refine bw_cond rfl ?_ ?_
         ·intro hc26; replace h := ocond_t hc26 h
          refine bw_seq (bw_tail 6 [5] [0] mo (by kernel_rfl) ?_)
          refine ac_go rfl rfl rfl rfl (fun H hp => op1_faR st_29 (i := 9) rfl rfl rfl) ?_
          refine ac_go rfl rfl rfl rfl (fun H hp => (op1_ldR Try.underlying9 rfl rfl rfl (hp.at rfl rfl) rfl)) ?_
          refine ac_go rfl rfl rfl rfl (fun H hp => op1_faR st_29 (i := 10) rfl rfl rfl) ?_
          refine ac_go rfl rfl rfl rfl (fun H hp => (op1_ldR Try.underlying3 rfl rfl rfl (hp.at rfl rfl) rfl)) ?_
          refine ac_go rfl rfl rfl rfl (fun H hp => op1_faR st_29 (i := 9) rfl rfl rfl) ?_
          refine ac_lgo0 rfl rfl rfl (op1_store inf_9 rfl rfl rfl rfl rfl rfl (Nat.le_of_ble_eq_true rfl) rfl) ⟨rfl, trivial⟩ ?_
          refine ac_nil ?_
          change AO _ _ _ _ _
          refine sS rfl rfl rfl (op1_faR st_29 (i := 10) rfl rfl rfl) ?_
          refine ao_step0 rfl rfl (op1_store inf_3 rfl rfl rfl rfl rfl rfl (Nat.le_of_ble_eq_true rfl) rfl) ?_
          refine ao_nil ?_
          change BW _ _ _ _ _
          refine bw_region ?_
          refine sS rfl rfl rfl (op1_faR st_29 (i := 8) rfl rfl rfl) ?_
          refine sS rfl rfl rfl ((op1_ldR Try.underlying27 rfl rfl rfl rfl rfl)) ?_
          obtain ⟨x27, hx27, h⟩ := obind h
          refine sS rfl rfl rfl (op1_pcall rfl en_43 rfl (.cons (Wk.refl _) .nil) ⟨(ids_slM ids_Entry a0.fields), trivial⟩ (c_ref01_cleaned a0.fields x27 hx27) (ids_slM ids_Entry x27)) ?_
          refine sS rfl rfl rfl (op1_faR st_29 (i := 8) rfl rfl rfl) ?_
          refine ao_step0 rfl rfl (op1_store inf_27 rfl rfl rfl rfl rfl rfl (Nat.le_of_ble_eq_true rfl) rfl) ?_
          refine ao_nil ?_
          exact ⟨rfl, (false, 0, 0, [], [], 0, [], x27, a0.cls, a0.ver), h, ⟨(.cons .dead (.cons .same (.cons (.box (.cons (Wk.refl _) (.cons (Wk.refl _) (.cons (Wk.refl _) (.cons (Wk.refl _) (.cons (Wk.refl _) (.cons Wk.nil (.cons (Wk.refl _) (.cons Wk.nil (.cons (Wk.refl _) (.cons (Wk.refl _) (.cons (Wk.refl _) .nil)))))))))))) .nil))), (sC rfl (sC rfl sub_nil))⟩⟩
         ·intro hc26; replace h := ocond_f hc26 h
          refine bR ?_
          refine sS rfl rfl rfl ((op1_cmp rfl rfl rfl rfl).cast (y := (BO ((a0.kind == 9)))) rfl rfl) ?_
          refine sA rfl rfl rfl rfl rfl (ao_nil ?_)
          change BW _ _ _ _ _
          refine bw_cond rfl ?_ ?_
          ·intro hc28; replace h := ocond_t hc28 h
           refine bw_region ?_
           refine sS rfl rfl rfl (op1_faR st_29 (i := 8) rfl rfl rfl) ?_
           refine sS rfl rfl rfl ((op1_ldR Try.underlying27 rfl rfl rfl rfl rfl)) ?_
           obtain ⟨x29, hx29, h⟩ := obind h
           refine sS rfl rfl rfl (op1_pcall rfl en_43 rfl (.cons (Wk.refl _) .nil) ⟨(ids_slM ids_Entry a0.fields), trivial⟩ (c_ref01_cleaned a0.fields x29 hx29) (ids_slM ids_Entry x29)) ?_
           refine sS rfl rfl rfl (op1_faR st_29 (i := 8) rfl rfl rfl) ?_
           refine ao_step0 rfl rfl (op1_store inf_27 rfl rfl rfl rfl rfl rfl (Nat.le_of_ble_eq_true rfl) rfl) ?_
           refine ao_nil ?_
           exact ⟨rfl, (false, 0, 0, [], [], 0, [], x29, [], 0), h, ⟨(.cons .dead (.cons .same (.cons (.box (.cons (Wk.refl _) (.cons (Wk.refl _) (.cons (Wk.refl _) (.cons (Wk.refl _) (.cons (Wk.refl _) (.cons Wk.nil (.cons (Wk.refl _) (.cons Wk.nil (.cons (Wk.refl _) (.cons (Wk.refl _) (.cons (Wk.refl _) .nil)))))))))))) .nil))), (sC rfl (sC rfl sub_nil))⟩⟩
          ·intro hc28; replace h := ocond_f hc28 h
           refine bw_skip ?_
           exact ⟨rfl, (false, 0, 0, [], [], 0, [], [], [], 0), h, ⟨(.cons .dead (.cons .same (.cons (.box (.cons (Wk.refl _) (.cons (Wk.refl _) (.cons (Wk.refl _) (.cons (Wk.refl _) (.cons (Wk.refl _) (.cons Wk.nil (.cons (Wk.refl _) (.cons Wk.nil (.cons Wk.nil (.cons (Wk.refl _) (.cons (Wk.refl _) .nil)))))))))))) .nil))), (sC rfl (sC rfl sub_nil))⟩⟩
theorem C_ref01_cleaned.sound : ∀ (i : C_ref01_cleaned) (r : i.R), fixO C_ref01_cleaned.F i = some r → C_ref01_cleaned.Q i r := by
 refine fixO_ind (Φ := C_ref01_cleaned.F) (Q := C_ref01_cleaned.Q) ?_
 intro g hg i r h
 cases i with
 | k_ref01_cleaned a0 => exact t_ref01_cleaned (fun a0 => g (.k_ref01_cleaned a0)) (fun a0 r hr => hg (.k_ref01_cleaned a0) r hr) (fun a0 => g (.k_ref01_Clean a0)) (fun a0 r hr => hg (.k_ref01_Clean a0) r hr) a0 r h
 | k_ref01_Clean a0 => exact t_ref01_Clean (fun a0 => g (.k_ref01_cleaned a0)) (fun a0 r hr => hg (.k_ref01_cleaned a0) r hr) (fun a0 => g (.k_ref01_Clean a0)) (fun a0 r hr => hg (.k_ref01_Clean a0) r hr) a0 r h
theorem s_ref01_cleaned (a0 : (List (Str × Term))) (r : (List (Str × Term))) (h : p_ref01_cleaned a0 = some r) : PCalls Try.prog 43 [(PV.sl none 66 12 (List.map ofEntry a0))] (PV.sl none 66 12 (List.map ofEntry r)) := C_ref01_cleaned.sound (.k_ref01_cleaned a0) r h
theorem s_ref01_Clean (a0 : Term) (r : Term) (h : p_ref01_Clean a0 = some r) : PCalls Try.prog 23 [(ofTermX a0)] (ofTermX r) := C_ref01_cleaned.sound (.k_ref01_Clean a0) r h
noncomputable def mk_entries_l1b (r_mk_plain : V → Int → Option Term) (a0 : (List (Str × V))) (a1 : Int) (g1 : (List (Str × Term)) → Nat → Option (List (Str × Term))) (s1 : (List (Str × Term))) (s2 : Nat) : Option (List (Str × Term)) :=
 bif (decide (((s2 : Nat) : Int) < (((a0).length : Nat) : Int))) then (
  Option.bind ((a0)[s2]?) fun x5 =>
  Option.bind ((a0)[s2]?) fun x6 =>
  Option.bind (r_mk_plain x6.2 (IntKind.i64.wrap (a1 + 1))) fun x7 =>
  Option.bind (appO 168 s1 ([(x5.1, x7)] : (List (Str × Term)))) fun x8 =>
  g1 x8 (s2 + 1)
 ) else (
  some s1
 )
theorem mk_entries_l1b_cm {ι : Type} {ρ : ι → Type} (r_mk_plain : (∀ i, Option (ρ i)) → V → Int → Option Term) (h_r_mk_plain : ∀ y0 y1, CM (fun G => r_mk_plain G y0 y1)) (g1 : (∀ i, Option (ρ i)) → (List (Str × Term)) → Nat → Option (List (Str × Term))) (h_g1 : ∀ y0 y1, CM (fun G => g1 G y0 y1)) (a0 : (List (Str × V))) (a1 : Int) (s1 : (List (Str × Term))) (s2 : Nat) : CM (fun G : (∀ i, Option (ρ i)) => mk_entries_l1b (r_mk_plain G) a0 a1 (g1 G) s1 s2) := by
 simp only [mk_entries_l1b]
 repeat (first | exact cm_const | exact h_r_mk_plain _ _ | exact h_g1 _ _ | refine cm_cond ?_ ?_ | refine cm_bind ?_ (fun _ => ?_))
noncomputable def mk_entries_l1 (r_mk_plain : V → Int → Option Term) (a0 : (List (Str × V))) (a1 : Int) (s1 : (List (Str × Term))) (s2 : Nat) : Option (List (Str × Term)) :=
 fixO (ι := ((List (Str × Term)) × Nat)) (ρ := fun _ => (List (Str × Term))) (fun g i => mk_entries_l1b r_mk_plain a0 a1 (fun s1 s2 => g (s1, s2)) i.1 i.2) (s1, s2)
theorem mk_entries_l1_eq (r_mk_plain : V → Int → Option Term) (a0 : (List (Str × V))) (a1 : Int) (s1 : (List (Str × Term))) (s2 : Nat) : mk_entries_l1 r_mk_plain a0 a1 s1 s2 = mk_entries_l1b r_mk_plain a0 a1 (mk_entries_l1 r_mk_plain a0 a1) s1 s2 :=
 fixO_eq (ι := ((List (Str × Term)) × Nat)) (ρ := fun _ => (List (Str × Term))) (Φ := fun g i => mk_entries_l1b r_mk_plain a0 a1 (fun s1 s2 => g (s1, s2)) i.1 i.2) (fun i => mk_entries_l1b_cm (ι := ((List (Str × Term)) × Nat)) (ρ := fun _ => (List (Str × Term))) (fun _ => r_mk_plain) (fun _ _ => cm_const) (fun g => (fun s1 s2 => g (s1, s2))) (fun _ _ => cm_app) a0 a1 i.1 i.2) (s1, s2)
theorem mk_entries_l1_cm {ι : Type} {ρ : ι → Type} (r_mk_plain : (∀ i, Option (ρ i)) → V → Int → Option Term) (h_r_mk_plain : ∀ y0 y1, CM (fun G => r_mk_plain G y0 y1)) (a0 : (List (Str × V))) (a1 : Int) (s1 : (List (Str × Term))) (s2 : Nat) : CM (fun G : (∀ i, Option (ρ i)) => mk_entries_l1 (r_mk_plain G) a0 a1 s1 s2) :=
 cm_fix (κ := ((List (Str × Term)) × Nat)) (τ := fun _ => (List (Str × Term))) (Φ := fun G g i => mk_entries_l1b (r_mk_plain G) a0 a1 (fun s1 s2 => g (s1, s2)) i.1 i.2) (fun g i => mk_entries_l1b_cm r_mk_plain h_r_mk_plain (fun _ => (fun s1 s2 => g (s1, s2))) (fun _ _ => cm_const) a0 a1 i.1 i.2) (fun G i => mk_entries_l1b_cm (ι := ((List (Str × Term)) × Nat)) (ρ := fun _ => (List (Str × Term))) (fun _ => r_mk_plain G) (fun _ _ => cm_const) (fun g => (fun s1 s2 => g (s1, s2))) (fun _ _ => cm_app) a0 a1 i.1 i.2) (s1, s2)
noncomputable def b_mk_entries (r_mk_entries : (List (Str × V)) → Int → Option (List (Str × Term))) (r_mk_plain : V → Int → Option Term) (a0 : (List (Str × V))) (a1 : Int) : Option (List (Str × Term)) :=
 mk_entries_l1 r_mk_plain a0 a1 ([] : (List (Str × Term))) 0
theorem b_mk_entries_cm {ι : Type} {ρ : ι → Type} (r_mk_entries : (∀ i, Option (ρ i)) → (List (Str × V)) → Int → Option (List (Str × Term))) (h_r_mk_entries : ∀ y0 y1, CM (fun G => r_mk_entries G y0 y1)) (r_mk_plain : (∀ i, Option (ρ i)) → V → Int → Option Term) (h_r_mk_plain : ∀ y0 y1, CM (fun G => r_mk_plain G y0 y1)) (a0 : (List (Str × V))) (a1 : Int) : CM (fun G : (∀ i, Option (ρ i)) => b_mk_entries (r_mk_entries G) (r_mk_plain G) a0 a1) := by
 simp only [b_mk_entries]
 repeat (first | exact cm_const | exact h_r_mk_entries _ _ | exact h_r_mk_plain _ _ | apply mk_entries_l1_cm | refine cm_cond ?_ ?_ | refine cm_bind ?_ (fun _ => ?_) | intro _ | assumption)
noncomputable def mk_plain_l1b (r_mk_plain : V → Int → Option Term) (a0 : V) (a1 : Int) (g1 : Nat → (List Term) → Option Term) (s11 : Nat) (s12 : (List Term)) : Option Term :=
 bif (decide (((s11 : Nat) : Int) < ((((a0).asList).length : Nat) : Int))) then (
  Option.bind (((a0).asList)[s11]?) fun x15 =>
  Option.bind (r_mk_plain x15 (IntKind.i64.wrap (a1 + 1))) fun x16 =>
  Option.bind (appO 152 s12 ([x16] : (List Term))) fun x17 =>
  g1 (s11 + 1) x17
 ) else (
  some (Term.mk 8 false 0 0 [] [] 0 s12 [] [] 0)
 )
theorem mk_plain_l1b_cm {ι : Type} {ρ : ι → Type} (r_mk_plain : (∀ i, Option (ρ i)) → V → Int → Option Term) (h_r_mk_plain : ∀ y0 y1, CM (fun G => r_mk_plain G y0 y1)) (g1 : (∀ i, Option (ρ i)) → Nat → (List Term) → Option Term) (h_g1 : ∀ y0 y1, CM (fun G => g1 G y0 y1)) (a0 : V) (a1 : Int) (s11 : Nat) (s12 : (List Term)) : CM (fun G : (∀ i, Option (ρ i)) => mk_plain_l1b (r_mk_plain G) a0 a1 (g1 G) s11 s12) := by
 simp only [mk_plain_l1b]
 repeat (first | exact cm_const | exact h_r_mk_plain _ _ | exact h_g1 _ _ | refine cm_cond ?_ ?_ | refine cm_bind ?_ (fun _ => ?_))
noncomputable def mk_plain_l1 (r_mk_plain : V → Int → Option Term) (a0 : V) (a1 : Int) (s11 : Nat) (s12 : (List Term)) : Option Term :=
 fixO (ι := (Nat × (List Term))) (ρ := fun _ => Term) (fun g i => mk_plain_l1b r_mk_plain a0 a1 (fun s11 s12 => g (s11, s12)) i.1 i.2) (s11, s12)
theorem mk_plain_l1_eq (r_mk_plain : V → Int → Option Term) (a0 : V) (a1 : Int) (s11 : Nat) (s12 : (List Term)) : mk_plain_l1 r_mk_plain a0 a1 s11 s12 = mk_plain_l1b r_mk_plain a0 a1 (mk_plain_l1 r_mk_plain a0 a1) s11 s12 :=
 fixO_eq (ι := (Nat × (List Term))) (ρ := fun _ => Term) (Φ := fun g i => mk_plain_l1b r_mk_plain a0 a1 (fun s11 s12 => g (s11, s12)) i.1 i.2) (fun i => mk_plain_l1b_cm (ι := (Nat × (List Term))) (ρ := fun _ => Term) (fun _ => r_mk_plain) (fun _ _ => cm_const) (fun g => (fun s11 s12 => g (s11, s12))) (fun _ _ => cm_app) a0 a1 i.1 i.2) (s11, s12)
theorem mk_plain_l1_cm {ι : Type} {ρ : ι → Type} (r_mk_plain : (∀ i, Option (ρ i)) → V → Int → Option Term) (h_r_mk_plain : ∀ y0 y1, CM (fun G => r_mk_plain G y0 y1)) (a0 : V) (a1 : Int) (s11 : Nat) (s12 : (List Term)) : CM (fun G : (∀ i, Option (ρ i)) => mk_plain_l1 (r_mk_plain G) a0 a1 s11 s12) :=
 cm_fix (κ := (Nat × (List Term))) (τ := fun _ => Term) (Φ := fun G g i => mk_plain_l1b (r_mk_plain G) a0 a1 (fun s11 s12 => g (s11, s12)) i.1 i.2) (fun g i => mk_plain_l1b_cm r_mk_plain h_r_mk_plain (fun _ => (fun s11 s12 => g (s11, s12))) (fun _ _ => cm_const) a0 a1 i.1 i.2) (fun G i => mk_plain_l1b_cm (ι := (Nat × (List Term))) (ρ := fun _ => Term) (fun _ => r_mk_plain G) (fun _ _ => cm_const) (fun g => (fun s11 s12 => g (s11, s12))) (fun _ _ => cm_app) a0 a1 i.1 i.2) (s11, s12)
noncomputable def b_mk_plain (r_mk_entries : (List (Str × V)) → Int → Option (List (Str × Term))) (r_mk_plain : V → Int → Option Term) (a0 : V) (a1 : Int) : Option Term :=
 bif (decide (a1 > 400)) then (
  some (Term.mk 0 false 0 0 [] [] 0 [] [] [] 0)
 ) else (
  bif (a0).isNil then (
   some (Term.mk 1 false 0 0 [] [] 0 [] [] [] 0)
  ) else (
   bif (a0).isBool then (
    some (Term.mk 2 (a0).asBool 0 0 [] [] 0 [] [] [] 0)
   ) else (
    bif (a0).isInt then (
     some (Term.mk 3 false (a0).asInt 0 [] [] 0 [] [] [] 0)
    ) else (
     bif (a0).isFloat then (
      some (Term.mk 4 false 0 (a0).asFloat [] [] 0 [] [] [] 0)
     ) else (
      bif (a0).isText then (
       some (Term.mk 5 false 0 0 (a0).asText [] 0 [] [] [] 0)
      ) else (
       bif (a0).isBytes then (
        Option.bind (appO 1 ([] : Str) ((a0).asBytes)) fun x8 =>
        some (Term.mk 6 false 0 0 [] x8 0 [] [] [] 0)
       ) else (
        bif (a0).isRef then (
         some (Term.mk 7 false 0 0 [] [] (a0).asRef [] [] [] 0)
        ) else (
         bif (a0).isList then (
          mk_plain_l1 r_mk_plain a0 a1 0 ([])
         ) else (
          bif (a0).isDict then (
           Option.bind (r_mk_entries ((a0).asDict) a1) fun x19 =>
           some (Term.mk 9 false 0 0 [] [] 0 [] x19 [] 0)
          ) else (
           bif (a0).isRec then (
            bif ((a0).asRec).isNone then (
             some (Term.mk 11 false 0 0 [] [] 0 [] [] [] 0)
            ) else (
             Option.bind ((a0).asRec) fun x22 =>
             Option.bind (r_mk_entries x22.fields a1) fun x23 =>
             some (Term.mk 10 false 0 0 [] [] 0 [] x23 x22.cls x22.ver)
            )
           ) else (
            some (Term.mk 0 false 0 0 [] [] 0 [] [] [] 0)
           )
          )
         )
        )
       )
      )
     )
    )
   )
  )
 )
theorem b_mk_plain_cm {ι : Type} {ρ : ι → Type} (r_mk_entries : (∀ i, Option (ρ i)) → (List (Str × V)) → Int → Option (List (Str × Term))) (h_r_mk_entries : ∀ y0 y1, CM (fun G => r_mk_entries G y0 y1)) (r_mk_plain : (∀ i, Option (ρ i)) → V → Int → Option Term) (h_r_mk_plain : ∀ y0 y1, CM (fun G => r_mk_plain G y0 y1)) (a0 : V) (a1 : Int) : CM (fun G : (∀ i, Option (ρ i)) => b_mk_plain (r_mk_entries G) (r_mk_plain G) a0 a1) := by
 simp only [b_mk_plain]
 repeat (first | exact cm_const | exact h_r_mk_entries _ _ | exact h_r_mk_plain _ _ | apply mk_plain_l1_cm | refine cm_cond ?_ ?_ | refine cm_bind ?_ (fun _ => ?_) | intro _ | assumption)
inductive C_mk_entries where
 | k_mk_entries (a0 : (List (Str × V))) (a1 : Int)
 | k_mk_plain (a0 : V) (a1 : Int)
def C_mk_entries.R : C_mk_entries → Type
 | .k_mk_entries _ _ => (List (Str × Term))
 | .k_mk_plain _ _ => Term
noncomputable def C_mk_entries.F (g : ∀ i : C_mk_entries, Option i.R) : ∀ i : C_mk_entries, Option i.R
 | .k_mk_entries a0 a1 => b_mk_entries (fun a0 a1 => g (.k_mk_entries a0 a1)) (fun a0 a1 => g (.k_mk_plain a0 a1)) a0 a1
 | .k_mk_plain a0 a1 => b_mk_plain (fun a0 a1 => g (.k_mk_entries a0 a1)) (fun a0 a1 => g (.k_mk_plain a0 a1)) a0 a1
noncomputable def p_mk_entries (a0 : (List (Str × V))) (a1 : Int) : Option (List (Str × Term)) := fixO C_mk_entries.F (.k_mk_entries a0 a1)
noncomputable def p_mk_plain (a0 : V) (a1 : Int) : Option Term := fixO C_mk_entries.F (.k_mk_plain a0 a1)
theorem C_mk_entries.cm (i : C_mk_entries) : CM (fun g : (∀ i : C_mk_entries, Option i.R) => C_mk_entries.F g i) := by
 cases i with
 | k_mk_entries a0 a1 => exact b_mk_entries_cm (fun (g : ∀ i : C_mk_entries, Option i.R) a0 a1 => g (.k_mk_entries a0 a1)) (fun a0 a1 => cm_app (i := C_mk_entries.k_mk_entries a0 a1)) (fun (g : ∀ i : C_mk_entries, Option i.R) a0 a1 => g (.k_mk_plain a0 a1)) (fun a0 a1 => cm_app (i := C_mk_entries.k_mk_plain a0 a1)) a0 a1
 | k_mk_plain a0 a1 => exact b_mk_plain_cm (fun (g : ∀ i : C_mk_entries, Option i.R) a0 a1 => g (.k_mk_entries a0 a1)) (fun a0 a1 => cm_app (i := C_mk_entries.k_mk_entries a0 a1)) (fun (g : ∀ i : C_mk_entries, Option i.R) a0 a1 => g (.k_mk_plain a0 a1)) (fun a0 a1 => cm_app (i := C_mk_entries.k_mk_plain a0 a1)) a0 a1
theorem e_mk_entries (a0 : (List (Str × V))) (a1 : Int) : p_mk_entries a0 a1 = b_mk_entries p_mk_entries p_mk_plain a0 a1 := fixO_eq C_mk_entries.cm (.k_mk_entries a0 a1)
theorem e_mk_plain (a0 : V) (a1 : Int) : p_mk_plain a0 a1 = b_mk_plain p_mk_entries p_mk_plain a0 a1 := fixO_eq C_mk_entries.cm (.k_mk_plain a0 a1)
def C_mk_entries.Q : ∀ i : C_mk_entries, i.R → Prop
 | .k_mk_entries a0 a1 => fun (r : (List (Str × Term))) => PCalls Try.prog 77 [(PV.sl none 56 2 (List.map ofFld a0)), (I64 a1)] (PV.sl none 66 12 (List.map ofEntry r))
 | .k_mk_plain a0 a1 => fun (r : Term) => PCalls Try.prog 55 [(ofV a0), (I64 a1)] (ofTermX r)
theorem t_mk_entries (r_mk_entries : (List (Str × V)) → Int → Option (List (Str × Term))) (c_mk_entries : ∀ (a0 : (List (Str × V))) (a1 : Int) r, r_mk_entries a0 a1 = some r → PCalls Try.prog 77 [(PV.sl none 56 2 (List.map ofFld a0)), (I64 a1)] (PV.sl none 66 12 (List.map ofEntry r))) (r_mk_plain : V → Int → Option Term) (c_mk_plain : ∀ (a0 : V) (a1 : Int) r, r_mk_plain a0 a1 = some r → PCalls Try.prog 55 [(ofV a0), (I64 a1)] (ofTermX r)) (a0 : (List (Str × V))) (a1 : Int) (r : (List (Str × Term))) (h : b_mk_entries r_mk_entries r_mk_plain a0 a1 = some r) : PCalls Try.prog 77 [(PV.sl none 56 2 (List.map ofFld a0)), (I64 a1)] (PV.sl none 66 12 (List.map ofEntry r)) := by
 unfold b_mk_entries at h
 refine acalls_of Try.func77 rfl Try.ntmps77 Try.results77 rfl (aw_of_bw ?_)
 change BW _ _ _ ⟨[(0, (PV.sl none 56 2 (List.map ofFld a0))), (1, (I64 a1))], [], _⟩ _
 refine bR ?_
 refine sA rfl rfl rfl rfl rfl (ao_nil ?_)
 change BW _ _ _ _ _
 refine bR ?_
 refine sS rfl rfl rfl ((op1_bslice (xs := []) Try.underlying27 inf_66 rfl rfl rfl rfl rfl rfl ⟨Nat.le_of_ble_eq_true rfl, Nat.le_of_ble_eq_true rfl⟩ rfl).cast (y := (PV.sl (some 0) 66 12 (List.map ofEntry ([] : (List (Str × Term)))))) rfl rfl) ?_
 refine sA rfl rfl rfl rfl rfl (ao_nil ?_)
 change BW _ _ _ _ _
 refine bw_seq ?_
 refine bR ?_
 refine sA rfl rfl rfl rfl rfl (ao_nil ?_)
 change BW _ _ _ _ _
 refine bw_block ?_
 change BW _ _ _ _ _
 unfold mk_entries_l1 at h
 refine bw_loop (σ := ((List (Str × Term)) × Nat)) (fun i => [(0, (PV.sl none 56 2 (List.map ofFld a0))), (1, (I64 a1)), (5, (PV.sl (some 0) 66 12 (List.map ofEntry i.1))), (6, (I64 (((i.2 : Nat) : Int))))]) (fun i => [.arr 66 (i.1).length]) (([] : (List (Str × Term))), 0) h ?_ ?_ ?_
 ·intro i; exact ⟨Nat.le_of_ble_eq_true rfl, ⟨(il_nil (ids_slM ids_Fld _)), ⟨(il_nil rfl), ⟨(il_tok rfl (ids_map ids_Entry _)), ⟨(il_nil rfl), trivial⟩⟩⟩⟩, trivial⟩
 ·exact ⟨(.cons .same .nil), (sC rfl (sC rfl (sC rfl (sC rfl sub_nil))))⟩
 ·rintro g1_f ⟨s1, s2⟩ h; replace h : mk_entries_l1b r_mk_plain a0 a1 (fun y0 y1 => g1_f (y0, y1)) s1 s2 = some r := h; unfold mk_entries_l1b at h
  change BW _ _ _ ⟨[(0, (PV.sl none 56 2 (List.map ofFld a0))), (1, (I64 a1)), (5, (PV.sl (some 0) 66 12 (List.map ofEntry s1))), (6, (I64 (((s2 : Nat) : Int))))], [.arr 66 (s1).length], _⟩ _
  refine bw_seq ?_
  refine bR ?_
  refine sM rfl rfl rfl rfl rfl ?_
  refine sM rfl rfl rfl rfl rfl ?_
  refine sS rfl rfl rfl (op1_lenM Try.underlying58 rfl rfl) ?_
  refine sS rfl rfl rfl ((op1_cmp rfl rfl rfl rfl).cast (y := (BO ((decide (((s2 : Nat) : Int) < (((a0).length : Nat) : Int)))))) rfl rfl) (ao_nil ?_)
  change BW _ _ _ _ _
  refine bw_len (t := 9) rfl fun hb4 => ?_
  try rw [List.length_map] at hb4
  refine bw_cond rfl ?_ ?_
  ·intro hc3; replace h := ocond_t hc3 h
   have hc3_ := of_decide_eq_true hc3
   refine bw_skip ?_
   change BW _ _ _ _ _
   refine bw_seq ?_
   refine bw_block ?_
   change BW _ _ _ _ _
   refine bw_tail 16 [15] [] mo (by kernel_rfl) ?_
   refine ac_go rfl rfl rfl rfl (fun H hp => op1_move rfl rfl) ?_
   refine ac_go rfl rfl rfl rfl (fun H hp => op1_move rfl rfl) ?_
   refine ac_go rfl rfl rfl rfl (fun H hp => op1_move rfl rfl) ?_
   obtain ⟨x5, hx5, h⟩ := obind h
   refine ac_go rfl rfl rfl rfl (fun H hp => op1_idxN (i := s2) Try.underlying58 inf_56 rfl rfl rfl hx5 rfl) ?_
   refine ac_go rfl rfl rfl rfl (fun H hp => op1_faP st_56 (i := 0) rfl rfl rfl) ?_
   refine ac_go rfl rfl rfl rfl (fun H hp => op1_ldP (y := (ofStr x5.1)) Try.underlying9 rfl rfl rfl rfl) ?_
   refine ac_go rfl rfl rfl rfl (fun H hp => op1_move rfl rfl) ?_
   refine ac_go rfl rfl rfl rfl (fun H hp => op1_move rfl rfl) ?_
   obtain ⟨x6, hx6, h⟩ := obind h
   refine ac_go rfl rfl rfl rfl (fun H hp => op1_idxN (i := s2) Try.underlying58 inf_56 rfl rfl rfl hx6 rfl) ?_
   refine ac_go rfl rfl rfl rfl (fun H hp => op1_faP st_56 (i := 1) rfl rfl rfl) ?_
   refine ac_go rfl rfl rfl rfl (fun H hp => op1_ldP (y := (ofV x6.2)) Try.underlying20 rfl rfl rfl rfl) ?_
   refine ac_go rfl rfl rfl rfl (fun H hp => op1_move rfl rfl) ?_
   refine ac_go rfl rfl rfl rfl (fun H hp => op1_addW rfl rfl rfl) ?_
   obtain ⟨x7, hx7, h⟩ := obind h
   refine ac_go rfl rfl rfl rfl (fun H hp => op1_pcall rfl en_55 rfl (.cons (Wk.refl _) (.cons (Wk.refl _) .nil)) ⟨(ids_V x6.2), ⟨rfl, trivial⟩⟩ (c_mk_plain x6.2 (IntKind.i64.wrap (a1 + 1)) x7 hx7) (ids_TermX x7)) ?_
   refine ac_go rfl rfl rfl rfl (fun H hp => op1_build (cs := [(ofStr x5.1), (I64 x7.kind), (BO x7.bool), (I64 x7.int), (PV.v (.float .f64 x7.float)), (ofStr x7.text), (PV.sl none 5 1 (List.map ofB x7.bytes)), (PV.v (.int .u64 x7.ref)), (PV.sl none 29 11 (List.map ofTerm x7.list)), (PV.sl none 66 12 (List.map ofEntry x7.fields)), (ofStr x7.cls), (I64 x7.ver)]) st_66 inf_66 rfl rfl rfl rfl) ?_
   refine ac_lgo rfl rfl rfl rfl ((op1_bslice (xs := [(PV.agg [(ofStr x5.1), (I64 x7.kind), (BO x7.bool), (I64 x7.int), (PV.v (.float .f64 x7.float)), (ofStr x7.text), (PV.sl none 5 1 (List.map ofB x7.bytes)), (PV.v (.int .u64 x7.ref)), (PV.sl none 29 11 (List.map ofTerm x7.list)), (PV.sl none 66 12 (List.map ofEntry x7.fields)), (ofStr x7.cls), (I64 x7.ver)])]) Try.underlying27 inf_66 rfl rfl rfl rfl rfl rfl ⟨Nat.le_of_ble_eq_true rfl, Nat.le_of_ble_eq_true rfl⟩ rfl).cast (y := (PV.sl (some 1) 66 12 (List.map ofEntry ([(x5.1, x7)] : (List (Str × Term)))))) (by simp only [List.map_cons, List.map_nil, ofEntry_eq]; try rfl) rfl) trivial ?_
   refine ac_nil ?_
   change AO _ _ _ _ _
   obtain ⟨x8, hx8, h⟩ := obind h
   refine sS rfl rfl rfl (op1_appM Try.underlying27 inf_66 rfl Try.underlying27 rfl rfl rfl rfl csz_Entry call1_Entry hx8 rfl) ?_
   refine sA rfl rfl rfl rfl rfl (ao_nil ?_)
   change BW _ _ _ _ _
   refine bw_region ?_
   refine sM rfl rfl rfl rfl rfl ?_
   refine sS rfl rfl rfl (op1_incN (k := s2) (c := 1) rfl rfl rfl (by omega)) ?_
   refine sA rfl rfl rfl rfl rfl (ao_nil ?_)
   exact ⟨rfl, (x8, (s2 + 1)), h, ⟨(.cons .same .nil), (sC rfl (sC rfl (sC rfl (sC rfl sub_nil))))⟩⟩
  ·intro hc3; replace h := ocond_f hc3 h
   refine bw_exit ?_
   change BW _ _ _ _ _
   refine bR ?_
   refine sM rfl rfl rfl rfl rfl ?_
   refine sA rfl rfl rfl rfl rfl (ao_nil ?_)
   change BW _ _ _ _ _
   refine bw_ret ?_
   change ∃ xs, _ = some xs ∧ EndOk _ _ _ _
   obtain rfl := Option.some.inj h
   exact ⟨_, rfl, endOk0 (y := (PV.sl none 66 12 (List.map ofEntry s1))) Wk.tok (ids_slM ids_Entry s1) ⟨rfl, rfl⟩⟩
theorem t_mk_plain (r_mk_entries : (List (Str × V)) → Int → Option (List (Str × Term))) (c_mk_entries : ∀ (a0 : (List (Str × V))) (a1 : Int) r, r_mk_entries a0 a1 = some r → PCalls Try.prog 77 [(PV.sl none 56 2 (List.map ofFld a0)), (I64 a1)] (PV.sl none 66 12 (List.map ofEntry r))) (r_mk_plain : V → Int → Option Term) (c_mk_plain : ∀ (a0 : V) (a1 : Int) r, r_mk_plain a0 a1 = some r → PCalls Try.prog 55 [(ofV a0), (I64 a1)] (ofTermX r)) (a0 : V) (a1 : Int) (r : Term) (h : b_mk_plain r_mk_entries r_mk_plain a0 a1 = some r) : PCalls Try.prog 55 [(ofV a0), (I64 a1)] (ofTermX r) := by
 unfold b_mk_plain at h
 refine acalls_of Try.func55 rfl Try.ntmps55 Try.results55 rfl (aw_of_bw ?_)
 change BW _ _ _ ⟨[(0, (ofV a0)), (1, (I64 a1))], [], _⟩ _
 refine bR ?_
 refine sS rfl rfl rfl (op1_alloc inf_29 rfl) (ao_nil ?_)
 change BW _ _ _ _ _
 refine bw_seq ?_
 refine bR ?_
 refine sM rfl rfl rfl rfl rfl ?_
 refine sS rfl rfl rfl ((op1_cmp rfl rfl rfl rfl).cast (y := (BO ((decide (a1 > 400))))) rfl rfl) (ao_nil ?_)
 change BW _ _ _ _ _
 refine bw_cond rfl ?_ ?_
 ·intro hc1; replace h := ocond_t hc1 h
  refine bR ?_
  refine sS rfl rfl rfl (op1_build (cs := [(I64 0), (BO false), (I64 0), (PV.v (.float .f64 0)), (ofStr []), (PV.v (.slice none 0 0)), (PV.v (.int .u64 0)), (PV.v (.slice none 0 0)), (PV.v (.slice none 0 0)), (ofStr []), (I64 0)]) st_29 inf_29 rfl rfl rfl rfl) ?_
  refine ao_step0 rfl rfl (op1_store inf_29 rfl rfl rfl rfl rfl rfl (Nat.le_of_ble_eq_true rfl) rfl) ?_
  refine ao_nil ?_
  change BW _ _ _ _ _
  refine bw_ret ?_
  change ∃ xs, _ = some xs ∧ EndOk _ _ _ _
  obtain rfl := Option.some.inj h
  exact ⟨_, rfl, endOk0 (y := (ofTermX (Term.mk 0 false 0 0 [] [] 0 [] [] [] 0))) (Wk.agg (.cons (Wk.refl _) (.cons (Wk.refl _) (.cons (Wk.refl _) (.cons (Wk.refl _) (.cons (Wk.refl _) (.cons Wk.nil (.cons (Wk.refl _) (.cons Wk.nil (.cons Wk.nil (.cons (Wk.refl _) (.cons (Wk.refl _) .nil)))))))))))) (ids_TermX (Term.mk 0 false 0 0 [] [] 0 [] [] [] 0)) ⟨rfl, rfl⟩⟩
 ·intro hc1; replace h := ocond_f hc1 h
  refine bw_skip ?_
  change BW _ _ _ _ _
  refine bw_seq ?_
  refine bR ?_
  refine sM rfl rfl rfl rfl rfl (ao_nil ?_)
  change BW _ _ _ _ _
  refine bw_block ?_
  change BW _ _ _ _ _
  refine bR ?_
  refine sS rfl rfl rfl (op1_vEqNil Try.underlying20 rfl rfl) (ao_nil ?_)
  change BW _ _ _ _ _
  refine bw_cond rfl ?_ ?_
  ·intro hc2; replace h := ocond_t hc2 h
   refine bR ?_
   refine sA rfl rfl rfl rfl rfl (ao_nil ?_)
   change BW _ _ _ _ _
   refine bR ?_
   refine sS rfl rfl rfl (op1_build (cs := [(I64 1), (BO false), (I64 0), (PV.v (.float .f64 0)), (ofStr []), (PV.v (.slice none 0 0)), (PV.v (.int .u64 0)), (PV.v (.slice none 0 0)), (PV.v (.slice none 0 0)), (ofStr []), (I64 0)]) st_29 inf_29 rfl rfl rfl rfl) ?_
   refine ao_step0 rfl rfl (op1_store inf_29 rfl rfl rfl rfl rfl rfl (Nat.le_of_ble_eq_true rfl) rfl) ?_
   refine ao_nil ?_
   change BW _ _ _ _ _
   refine bw_ret ?_
   change ∃ xs, _ = some xs ∧ EndOk _ _ _ _
   obtain rfl := Option.some.inj h
   exact ⟨_, rfl, endOk0 (y := (ofTermX (Term.mk 1 false 0 0 [] [] 0 [] [] [] 0))) (Wk.agg (.cons (Wk.refl _) (.cons (Wk.refl _) (.cons (Wk.refl _) (.cons (Wk.refl _) (.cons (Wk.refl _) (.cons Wk.nil (.cons (Wk.refl _) (.cons Wk.nil (.cons Wk.nil (.cons (Wk.refl _) (.cons (Wk.refl _) .nil)))))))))))) (ids_TermX (Term.mk 1 false 0 0 [] [] 0 [] [] [] 0)) ⟨rfl, rfl⟩⟩
  ·intro hc2; replace h := ocond_f hc2 h
   refine bR ?_
   refine sS rfl rfl rfl (op1_taBool rfl rfl) ?_
   refine sS rfl rfl rfl (op1_ext rfl rfl rfl) ?_
   refine sS rfl rfl rfl (op1_ext rfl rfl rfl) (ao_nil ?_)
   change BW _ _ _ _ _
   refine bw_cond rfl ?_ ?_
   ·intro hc3; replace h := ocond_t hc3 h
    refine bR ?_
    refine sA rfl rfl rfl rfl rfl (ao_nil ?_)
    change BW _ _ _ _ _
    refine bR ?_
    refine sM rfl rfl rfl rfl rfl ?_
    refine sS rfl rfl rfl (op1_build (cs := [(I64 2), (BO ((a0).asBool)), (I64 0), (PV.v (.float .f64 0)), (ofStr []), (PV.v (.slice none 0 0)), (PV.v (.int .u64 0)), (PV.v (.slice none 0 0)), (PV.v (.slice none 0 0)), (ofStr []), (I64 0)]) st_29 inf_29 rfl rfl rfl rfl) ?_
    refine ao_step0 rfl rfl (op1_store inf_29 rfl rfl rfl rfl rfl rfl (Nat.le_of_ble_eq_true rfl) rfl) ?_
    refine ao_nil ?_
    change BW _ _ _ _ _
    refine bw_ret ?_
    change ∃ xs, _ = some xs ∧ EndOk _ _ _ _
    obtain rfl := Option.some.inj h
    exact ⟨_, rfl, endOk0 (y := (ofTermX (Term.mk 2 (a0).asBool 0 0 [] [] 0 [] [] [] 0))) (Wk.agg (.cons (Wk.refl _) (.cons (Wk.refl _) (.cons (Wk.refl _) (.cons (Wk.refl _) (.cons (Wk.refl _) (.cons Wk.nil (.cons (Wk.refl _) (.cons Wk.nil (.cons Wk.nil (.cons (Wk.refl _) (.cons (Wk.refl _) .nil)))))))))))) (ids_TermX (Term.mk 2 (a0).asBool 0 0 [] [] 0 [] [] [] 0)) ⟨rfl, rfl⟩⟩
   ·intro hc3; replace h := ocond_f hc3 h
    refine bR ?_
    refine sS rfl rfl rfl (op1_taInt rfl rfl) ?_
    refine sS rfl rfl rfl (op1_ext rfl rfl rfl) ?_
    refine sS rfl rfl rfl (op1_ext rfl rfl rfl) (ao_nil ?_)
    change BW _ _ _ _ _
    refine bw_cond rfl ?_ ?_
    ·intro hc4; replace h := ocond_t hc4 h
     refine bR ?_
     refine sA rfl rfl rfl rfl rfl (ao_nil ?_)
     change BW _ _ _ _ _
     refine bR ?_
     refine sM rfl rfl rfl rfl rfl ?_
     refine sS rfl rfl rfl (op1_build (cs := [(I64 3), (BO false), (I64 ((a0).asInt)), (PV.v (.float .f64 0)), (ofStr []), (PV.v (.slice none 0 0)), (PV.v (.int .u64 0)), (PV.v (.slice none 0 0)), (PV.v (.slice none 0 0)), (ofStr []), (I64 0)]) st_29 inf_29 rfl rfl rfl rfl) ?_
     refine ao_step0 rfl rfl (op1_store inf_29 rfl rfl rfl rfl rfl rfl (Nat.le_of_ble_eq_true rfl) rfl) ?_
     refine ao_nil ?_
     change BW _ _ _ _ _
     refine bw_ret ?_
     change ∃ xs, _ = some xs ∧ EndOk _ _ _ _
     obtain rfl := Option.some.inj h
     exact ⟨_, rfl, endOk0 (y := (ofTermX (Term.mk 3 false (a0).asInt 0 [] [] 0 [] [] [] 0))) (Wk.agg (.cons (Wk.refl _) (.cons (Wk.refl _) (.cons (Wk.refl _) (.cons (Wk.refl _) (.cons (Wk.refl _) (.cons Wk.nil (.cons (Wk.refl _) (.cons Wk.nil (.cons Wk.nil (.cons (Wk.refl _) (.cons (Wk.refl _) .nil)))))))))))) (ids_TermX (Term.mk 3 false (a0).asInt 0 [] [] 0 [] [] [] 0)) ⟨rfl, rfl⟩⟩
    ·intro hc4; replace h := ocond_f hc4 h
     refine bR ?_
     refine sS rfl rfl rfl (op1_taFloat rfl rfl) ?_
     refine sS rfl rfl rfl (op1_ext rfl rfl rfl) ?_
     refine sS rfl rfl rfl (op1_ext rfl rfl rfl) (ao_nil ?_)
     change BW _ _ _ _ _
     refine bw_cond rfl ?_ ?_
     ·intro hc5; replace h := ocond_t hc5 h
      refine bR ?_
      refine sA rfl rfl rfl rfl rfl (ao_nil ?_)
      change BW _ _ _ _ _
      refine bR ?_
      refine sM rfl rfl rfl rfl rfl ?_
      refine sS rfl rfl rfl (op1_build (cs := [(I64 4), (BO false), (I64 0), (PV.v (.float .f64 (a0).asFloat)), (ofStr []), (PV.v (.slice none 0 0)), (PV.v (.int .u64 0)), (PV.v (.slice none 0 0)), (PV.v (.slice none 0 0)), (ofStr []), (I64 0)]) st_29 inf_29 rfl rfl rfl rfl) ?_
      refine ao_step0 rfl rfl (op1_store inf_29 rfl rfl rfl rfl rfl rfl (Nat.le_of_ble_eq_true rfl) rfl) ?_
      refine ao_nil ?_
      change BW _ _ _ _ _
      refine bw_ret ?_
      change ∃ xs, _ = some xs ∧ EndOk _ _ _ _
      obtain rfl := Option.some.inj h
      exact ⟨_, rfl, endOk0 (y := (ofTermX (Term.mk 4 false 0 (a0).asFloat [] [] 0 [] [] [] 0))) (Wk.agg (.cons (Wk.refl _) (.cons (Wk.refl _) (.cons (Wk.refl _) (.cons (Wk.refl _) (.cons (Wk.refl _) (.cons Wk.nil (.cons (Wk.refl _) (.cons Wk.nil (.cons Wk.nil (.cons (Wk.refl _) (.cons (Wk.refl _) .nil)))))))))))) (ids_TermX (Term.mk 4 false 0 (a0).asFloat [] [] 0 [] [] [] 0)) ⟨rfl, rfl⟩⟩
     ·intro hc5; replace h := ocond_f hc5 h
      refine bR ?_
      refine sS rfl rfl rfl (op1_taText rfl rfl) ?_
      refine sS rfl rfl rfl (op1_ext rfl rfl rfl) ?_
      refine sS rfl rfl rfl (op1_ext rfl rfl rfl) (ao_nil ?_)
      change BW _ _ _ _ _
      refine bw_cond rfl ?_ ?_
      ·intro hc6; replace h := ocond_t hc6 h
       refine bR ?_
       refine sA rfl rfl rfl rfl rfl (ao_nil ?_)
       change BW _ _ _ _ _
       refine bR ?_
       refine sM rfl rfl rfl rfl rfl ?_
       refine sS rfl rfl rfl (op1_build (cs := [(I64 5), (BO false), (I64 0), (PV.v (.float .f64 0)), (ofStr (a0).asText), (PV.v (.slice none 0 0)), (PV.v (.int .u64 0)), (PV.v (.slice none 0 0)), (PV.v (.slice none 0 0)), (ofStr []), (I64 0)]) st_29 inf_29 rfl rfl rfl rfl) ?_
       refine ao_step0 rfl rfl (op1_store inf_29 rfl rfl rfl rfl rfl rfl (Nat.le_of_ble_eq_true rfl) rfl) ?_
       refine ao_nil ?_
       change BW _ _ _ _ _
       refine bw_ret ?_
       change ∃ xs, _ = some xs ∧ EndOk _ _ _ _
       obtain rfl := Option.some.inj h
       exact ⟨_, rfl, endOk0 (y := (ofTermX (Term.mk 5 false 0 0 (a0).asText [] 0 [] [] [] 0))) (Wk.agg (.cons (Wk.refl _) (.cons (Wk.refl _) (.cons (Wk.refl _) (.cons (Wk.refl _) (.cons (Wk.refl _) (.cons Wk.nil (.cons (Wk.refl _) (.cons Wk.nil (.cons Wk.nil (.cons (Wk.refl _) (.cons (Wk.refl _) .nil)))))))))))) (ids_TermX (Term.mk 5 false 0 0 (a0).asText [] 0 [] [] [] 0)) ⟨rfl, rfl⟩⟩
      ·intro hc6; replace h := ocond_f hc6 h
       refine bR ?_
       refine sS rfl rfl rfl (op1_taBytes rfl rfl) ?_
       refine sS rfl rfl rfl (op1_ext rfl rfl rfl) ?_
       refine sS rfl rfl rfl (op1_ext rfl rfl rfl) (ao_nil ?_)
       change BW _ _ _ _ _
       refine bw_cond rfl ?_ ?_
       ·intro hc7; replace h := ocond_t hc7 h
        refine bR ?_
        refine sA rfl rfl rfl rfl rfl (ao_nil ?_)
        change BW _ _ _ _ _
        refine bR ?_
        refine sS rfl rfl rfl ((op1_bslice (xs := []) Try.underlying23 inf_5 rfl rfl rfl rfl rfl rfl ⟨Nat.le_of_ble_eq_true rfl, Nat.le_of_ble_eq_true rfl⟩ rfl).cast (y := (PV.sl (some 1) 5 1 (List.map ofB ([] : Str)))) rfl rfl) ?_
        refine sM rfl rfl rfl rfl rfl ?_
        obtain ⟨x8, hx8, h⟩ := obind h
        refine sS rfl rfl rfl (op1_appM Try.underlying23 inf_5 rfl Try.underlying23 rfl rfl rfl rfl (fun _ => rfl) (fun _ => rfl) hx8 rfl) ?_
        refine sS rfl rfl rfl (op1_build (cs := [(I64 6), (BO false), (I64 0), (PV.v (.float .f64 0)), (ofStr []), (PV.sl (some 1) 5 1 (List.map ofB x8)), (PV.v (.int .u64 0)), (PV.v (.slice none 0 0)), (PV.v (.slice none 0 0)), (ofStr []), (I64 0)]) st_29 inf_29 rfl rfl rfl rfl) ?_
        refine ao_step0 rfl rfl (op1_store inf_29 rfl rfl rfl rfl rfl rfl (Nat.le_of_ble_eq_true rfl) rfl) ?_
        refine ao_nil ?_
        change BW _ _ _ _ _
        refine bw_ret ?_
        change ∃ xs, _ = some xs ∧ EndOk _ _ _ _
        obtain rfl := Option.some.inj h
        exact ⟨_, rfl, endOk0 (y := (ofTermX (Term.mk 6 false 0 0 [] x8 0 [] [] [] 0))) (Wk.agg (.cons (Wk.refl _) (.cons (Wk.refl _) (.cons (Wk.refl _) (.cons (Wk.refl _) (.cons (Wk.refl _) (.cons Wk.tok (.cons (Wk.refl _) (.cons Wk.nil (.cons Wk.nil (.cons (Wk.refl _) (.cons (Wk.refl _) .nil)))))))))))) (ids_TermX (Term.mk 6 false 0 0 [] x8 0 [] [] [] 0)) ⟨rfl, rfl⟩⟩
       ·intro hc7; replace h := ocond_f hc7 h
        refine bR ?_
        refine sS rfl rfl rfl (op1_taRef rfl rfl) ?_
        refine sS rfl rfl rfl (op1_ext rfl rfl rfl) ?_
        refine sS rfl rfl rfl (op1_ext rfl rfl rfl) (ao_nil ?_)
        change BW _ _ _ _ _
        refine bw_cond rfl ?_ ?_
        ·intro hc9; replace h := ocond_t hc9 h
         refine bR ?_
         refine sA rfl rfl rfl rfl rfl (ao_nil ?_)
         change BW _ _ _ _ _
         refine bR ?_
         refine sM rfl rfl rfl rfl rfl ?_
         refine sS rfl rfl rfl (op1_build (cs := [(I64 7), (BO false), (I64 0), (PV.v (.float .f64 0)), (ofStr []), (PV.v (.slice none 0 0)), (PV.v (.int .u64 (a0).asRef)), (PV.v (.slice none 0 0)), (PV.v (.slice none 0 0)), (ofStr []), (I64 0)]) st_29 inf_29 rfl rfl rfl rfl) ?_
         refine ao_step0 rfl rfl (op1_store inf_29 rfl rfl rfl rfl rfl rfl (Nat.le_of_ble_eq_true rfl) rfl) ?_
         refine ao_nil ?_
         change BW _ _ _ _ _
         refine bw_ret ?_
         change ∃ xs, _ = some xs ∧ EndOk _ _ _ _
         obtain rfl := Option.some.inj h
         exact ⟨_, rfl, endOk0 (y := (ofTermX (Term.mk 7 false 0 0 [] [] (a0).asRef [] [] [] 0))) (Wk.agg (.cons (Wk.refl _) (.cons (Wk.refl _) (.cons (Wk.refl _) (.cons (Wk.refl _) (.cons (Wk.refl _) (.cons Wk.nil (.cons (Wk.refl _) (.cons Wk.nil (.cons Wk.nil (.cons (Wk.refl _) (.cons (Wk.refl _) .nil)))))))))))) (ids_TermX (Term.mk 7 false 0 0 [] [] (a0).asRef [] [] [] 0)) ⟨rfl, rfl⟩⟩
        ·intro hc9; replace h := ocond_f hc9 h
         refine bR ?_
         refine sS rfl rfl rfl (op1_taList rfl rfl) ?_
         refine sS rfl rfl rfl (op1_ext rfl rfl rfl) ?_
         refine sS rfl rfl rfl (op1_ext rfl rfl rfl) (ao_nil ?_)
         change BW _ _ _ _ _
         refine bw_cond rfl ?_ ?_
         ·intro hc10; replace h := ocond_t hc10 h
          refine bR ?_
          refine sA rfl rfl rfl rfl rfl (ao_nil ?_)
          change BW _ _ _ _ _
          refine bR ?_
          refine sS rfl rfl rfl (op1_build (cs := [(I64 8), (BO false), (I64 0), (PV.v (.float .f64 0)), (ofStr []), (PV.v (.slice none 0 0)), (PV.v (.int .u64 0)), (PV.v (.slice none 0 0)), (PV.v (.slice none 0 0)), (ofStr []), (I64 0)]) st_29 inf_29 rfl rfl rfl rfl) ?_
          refine sS rfl rfl rfl (op1_alloc inf_29 rfl) ?_
          refine ao_step0 rfl rfl (op1_store inf_29 rfl rfl rfl rfl rfl rfl (Nat.le_of_ble_eq_true rfl) rfl) ?_
          refine ao_nil ?_
          change BW _ _ _ _ _
          refine bw_seq ?_
          refine bR ?_
          refine sA rfl rfl rfl rfl rfl (ao_nil ?_)
          change BW _ _ _ _ _
          refine bw_block ?_
          change BW _ _ _ _ _
          refine bw_ghostB (s := ⟨_, _, _⟩) 1 7 29 (sz := 11) rfl rfl rfl ?_
          unfold mk_plain_l1 at h
          refine bw_loop (σ := (Nat × (List Term))) (fun i => [(1, (I64 a1)), (4, (PV.rf 0 0)), (12, (PV.sl none 20 1 (List.map ofV (a0).asList))), (13, (PV.rf 1 0)), (14, (I64 (((i.1 : Nat) : Int))))]) (fun i => [.box 29 [(I64 0), (BO false), (I64 0), (PV.v (.float .f64 0)), (ofStr []), (PV.v (.slice none 0 0)), (PV.v (.int .u64 0)), (PV.v (.slice none 0 0)), (PV.v (.slice none 0 0)), (ofStr []), (I64 0)], .box 29 [(I64 8), (BO false), (I64 0), (PV.v (.float .f64 0)), (ofStr []), (PV.v (.slice none 0 0)), (PV.v (.int .u64 0)), (PV.sl (some 2) 29 11 (List.map ofTerm i.2)), (PV.v (.slice none 0 0)), (ofStr []), (I64 0)], .arr 29 (i.2).length]) (0, []) h ?_ ?_ ?_
          ·intro i; exact ⟨Nat.le_of_ble_eq_true rfl, ⟨(il_nil rfl), ⟨(il_rf rfl), ⟨(il_nil (ids_slM ids_V _)), ⟨(il_rf rfl), ⟨(il_nil rfl), trivial⟩⟩⟩⟩⟩, ⟨⟨(il_nil rfl), ⟨(il_nil rfl), ⟨(il_nil rfl), ⟨(il_nil rfl), ⟨(il_nil rfl), ⟨(il_nil rfl), ⟨(il_nil rfl), ⟨(il_nil rfl), ⟨(il_nil rfl), ⟨(il_nil rfl), ⟨(il_nil rfl), trivial⟩⟩⟩⟩⟩⟩⟩⟩⟩⟩⟩, ⟨⟨(il_nil rfl), ⟨(il_nil rfl), ⟨(il_nil rfl), ⟨(il_nil rfl), ⟨(il_nil rfl), ⟨(il_nil rfl), ⟨(il_nil rfl), ⟨(il_tok rfl (ids_map ids_Term _)), ⟨(il_nil rfl), ⟨(il_nil rfl), ⟨(il_nil rfl), trivial⟩⟩⟩⟩⟩⟩⟩⟩⟩⟩⟩, trivial⟩⟩⟩
          ·exact ⟨(.cons .same (.cons .same (.cons .same .nil))), (sC rfl (sC rfl (sC rfl (sC rfl (sC rfl sub_nil)))))⟩
          ·rintro g1_f ⟨s11, s12⟩ h; replace h : mk_plain_l1b r_mk_plain a0 a1 (fun y0 y1 => g1_f (y0, y1)) s11 s12 = some r := h; unfold mk_plain_l1b at h
           change BW _ _ _ ⟨[(1, (I64 a1)), (4, (PV.rf 0 0)), (12, (PV.sl none 20 1 (List.map ofV (a0).asList))), (13, (PV.rf 1 0)), (14, (I64 (((s11 : Nat) : Int))))], [.box 29 [(I64 0), (BO false), (I64 0), (PV.v (.float .f64 0)), (ofStr []), (PV.v (.slice none 0 0)), (PV.v (.int .u64 0)), (PV.v (.slice none 0 0)), (PV.v (.slice none 0 0)), (ofStr []), (I64 0)], .box 29 [(I64 8), (BO false), (I64 0), (PV.v (.float .f64 0)), (ofStr []), (PV.v (.slice none 0 0)), (PV.v (.int .u64 0)), (PV.sl (some 2) 29 11 (List.map ofTerm s12)), (PV.v (.slice none 0 0)), (ofStr []), (I64 0)], .arr 29 (s12).length], _⟩ _
           refine bw_seq ?_
           refine bR ?_
           refine sM rfl rfl rfl rfl rfl ?_
           refine sM rfl rfl rfl rfl rfl ?_
           refine sS rfl rfl rfl (op1_lenM Try.underlying60 rfl rfl) ?_
           refine sS rfl rfl rfl ((op1_cmp rfl rfl rfl rfl).cast (y := (BO ((decide (((s11 : Nat) : Int) < ((((a0).asList).length : Nat) : Int)))))) rfl rfl) (ao_nil ?_)
           change BW _ _ _ _ _
           refine bw_len (t := 60) rfl fun hb14 => ?_
           try rw [List.length_map] at hb14
           refine bw_cond rfl ?_ ?_
           ·intro hc13; replace h := ocond_t hc13 h
            have hc13_ := of_decide_eq_true hc13
            refine bw_skip ?_
            change BW _ _ _ _ _
            refine bw_seq ?_
            refine bw_block ?_
            change BW _ _ _ _ _
            refine bw_tail 10 [9] [1] mo (by kernel_rfl) ?_
            refine ac_go rfl rfl rfl rfl (fun H hp => op1_faR st_29 (i := 7) rfl rfl rfl) ?_
            refine ac_go rfl rfl rfl rfl (fun H hp => (op1_ldR Try.underlying26 rfl rfl rfl (hp.at rfl rfl) rfl)) ?_
            refine ac_go rfl rfl rfl rfl (fun H hp => op1_move rfl rfl) ?_
            refine ac_go rfl rfl rfl rfl (fun H hp => op1_move rfl rfl) ?_
            obtain ⟨x15, hx15, h⟩ := obind h
            refine ac_go rfl rfl rfl rfl (fun H hp => op1_idxN (i := s11) Try.underlying60 inf_20 rfl rfl rfl hx15 rfl) ?_
            refine ac_go rfl rfl rfl rfl (fun H hp => op1_ldP (y := (ofV x15)) Try.underlying20 rfl rfl rfl (by rw [cells_V]; rfl)) ?_
            refine ac_go rfl rfl rfl rfl (fun H hp => op1_move rfl rfl) ?_
            refine ac_go rfl rfl rfl rfl (fun H hp => op1_addW rfl rfl rfl) ?_
            obtain ⟨x16, hx16, h⟩ := obind h
            refine ac_go rfl rfl rfl rfl (fun H hp => op1_pcall rfl en_55 rfl (.cons (Wk.refl _) (.cons (Wk.refl _) .nil)) ⟨(ids_V x15), ⟨rfl, trivial⟩⟩ (c_mk_plain x15 (IntKind.i64.wrap (a1 + 1)) x16 hx16) (ids_TermX x16)) ?_
            refine ac_lgo rfl rfl rfl rfl ((op1_bslice (xs := [(ofTermX x16)]) Try.underlying26 inf_29 rfl rfl rfl rfl rfl rfl ⟨Nat.le_of_ble_eq_true rfl, Nat.le_of_ble_eq_true rfl⟩ rfl).cast (y := (PV.sl (some 3) 29 11 (List.map ofTerm ([x16] : (List Term))))) (by simp only [List.map_cons, List.map_nil, ofTerm_eq]; try rfl) rfl) ⟨rfl, trivial⟩ ?_
            refine ac_nil ?_
            change AO _ _ _ _ _
            obtain ⟨x17, hx17, h⟩ := obind h
            refine sS rfl rfl rfl (op1_appM Try.underlying26 inf_29 rfl Try.underlying26 rfl rfl rfl rfl csz_Term call1_Term hx17 rfl) ?_
            refine sS rfl rfl rfl (op1_faR st_29 (i := 7) rfl rfl rfl) ?_
            refine ao_step0 rfl rfl (op1_store inf_26 rfl rfl rfl rfl rfl rfl (Nat.le_of_ble_eq_true rfl) rfl) ?_
            refine ao_nil ?_
            change BW _ _ _ _ _
            refine bw_region ?_
            refine sM rfl rfl rfl rfl rfl ?_
            refine sS rfl rfl rfl (op1_incN (k := s11) (c := 1) rfl rfl rfl (by omega)) ?_
            refine sA rfl rfl rfl rfl rfl (ao_nil ?_)
            exact ⟨rfl, ((s11 + 1), x17), h, ⟨(.cons .same (.cons .same (.cons .same .nil))), (sC rfl (sC rfl (sC rfl (sC rfl (sC rfl sub_nil)))))⟩⟩
           ·intro hc13; replace h := ocond_f hc13 h
            refine bw_exit ?_
            change BW _ _ _ _ _
            refine bR ?_
            refine sS rfl rfl rfl ((op1_ldRA inf_29 Try.underlying29 rfl rfl rfl rfl rfl rfl)) ?_
            refine ao_step0 rfl rfl (op1_store inf_29 rfl rfl rfl rfl rfl rfl (Nat.le_of_ble_eq_true rfl) rfl) ?_
            refine ao_nil ?_
            change BW _ _ _ _ _
            refine bw_ret ?_
            change ∃ xs, _ = some xs ∧ EndOk _ _ _ _
            obtain rfl := Option.some.inj h
            exact ⟨_, rfl, endOk0 (y := (ofTermX (Term.mk 8 false 0 0 [] [] 0 s12 [] [] 0))) (Wk.agg (.cons (Wk.refl _) (.cons (Wk.refl _) (.cons (Wk.refl _) (.cons (Wk.refl _) (.cons (Wk.refl _) (.cons Wk.nil (.cons (Wk.refl _) (.cons Wk.tok (.cons Wk.nil (.cons (Wk.refl _) (.cons (Wk.refl _) .nil)))))))))))) (ids_TermX (Term.mk 8 false 0 0 [] [] 0 s12 [] [] 0)) ⟨rfl, rfl⟩⟩
         ·intro hc10; replace h := ocond_f hc10 h
          refine bR ?_
          refine sS rfl rfl rfl (op1_taDict rfl rfl) ?_
          refine sS rfl rfl rfl (op1_ext rfl rfl rfl) ?_
          refine sS rfl rfl rfl (op1_ext rfl rfl rfl) (ao_nil ?_)
          change BW _ _ _ _ _
          refine bw_cond rfl ?_ ?_
          ·intro hc18; replace h := ocond_t hc18 h
           refine bR ?_
           refine sA rfl rfl rfl rfl rfl (ao_nil ?_)
           change BW _ _ _ _ _
           refine bR ?_
           refine sM rfl rfl rfl rfl rfl ?_
           refine sM rfl rfl rfl rfl rfl ?_
           obtain ⟨x19, hx19, h⟩ := obind h
           refine sS rfl rfl rfl (op1_pcall rfl en_77 rfl (.cons (Wk.refl _) (.cons (Wk.refl _) .nil)) ⟨(ids_slM ids_Fld ((a0).asDict)), ⟨rfl, trivial⟩⟩ (c_mk_entries ((a0).asDict) a1 x19 hx19) (ids_slM ids_Entry x19)) ?_
           refine sS rfl rfl rfl (op1_build (cs := [(I64 9), (BO false), (I64 0), (PV.v (.float .f64 0)), (ofStr []), (PV.v (.slice none 0 0)), (PV.v (.int .u64 0)), (PV.v (.slice none 0 0)), (PV.sl none 66 12 (List.map ofEntry x19)), (ofStr []), (I64 0)]) st_29 inf_29 rfl rfl rfl rfl) ?_
           refine ao_step0 rfl rfl (op1_store inf_29 rfl rfl rfl rfl rfl rfl (Nat.le_of_ble_eq_true rfl) rfl) ?_
           refine ao_nil ?_
           change BW _ _ _ _ _
           refine bw_ret ?_
           change ∃ xs, _ = some xs ∧ EndOk _ _ _ _
           obtain rfl := Option.some.inj h
           exact ⟨_, rfl, endOk0 (y := (ofTermX (Term.mk 9 false 0 0 [] [] 0 [] x19 [] 0))) (Wk.agg (.cons (Wk.refl _) (.cons (Wk.refl _) (.cons (Wk.refl _) (.cons (Wk.refl _) (.cons (Wk.refl _) (.cons Wk.nil (.cons (Wk.refl _) (.cons Wk.nil (.cons (Wk.refl _) (.cons (Wk.refl _) (.cons (Wk.refl _) .nil)))))))))))) (ids_TermX (Term.mk 9 false 0 0 [] [] 0 [] x19 [] 0)) ⟨rfl, rfl⟩⟩
          ·intro hc18; replace h := ocond_f hc18 h
           refine bR ?_
           refine sS rfl rfl rfl (op1_taRec rfl rfl) ?_
           refine sS rfl rfl rfl (op1_ext rfl rfl rfl) ?_
           refine sS rfl rfl rfl (op1_ext rfl rfl rfl) (ao_nil ?_)
           change BW _ _ _ _ _
           refine bw_cond rfl ?_ ?_
           ·intro hc20; replace h := ocond_t hc20 h
            refine bR ?_
            refine sA rfl rfl rfl rfl rfl (ao_nil ?_)
            change BW _ _ _ _ _
            refine bw_seq ?_
            refine bR ?_
            refine sM rfl rfl rfl rfl rfl ?_
            refine sS rfl rfl rfl (op1_pEqNil Try.underlying62 rfl rfl) (ao_nil ?_)
            change BW _ _ _ _ _
            refine bw_cond rfl ?_ ?_
            ·intro hc21; replace h := ocond_t hc21 h
             refine bR ?_
             refine sS rfl rfl rfl (op1_build (cs := [(I64 11), (BO false), (I64 0), (PV.v (.float .f64 0)), (ofStr []), (PV.v (.slice none 0 0)), (PV.v (.int .u64 0)), (PV.v (.slice none 0 0)), (PV.v (.slice none 0 0)), (ofStr []), (I64 0)]) st_29 inf_29 rfl rfl rfl rfl) ?_
             refine ao_step0 rfl rfl (op1_store inf_29 rfl rfl rfl rfl rfl rfl (Nat.le_of_ble_eq_true rfl) rfl) ?_
             refine ao_nil ?_
             change BW _ _ _ _ _
             refine bw_ret ?_
             change ∃ xs, _ = some xs ∧ EndOk _ _ _ _
             obtain rfl := Option.some.inj h
             exact ⟨_, rfl, endOk0 (y := (ofTermX (Term.mk 11 false 0 0 [] [] 0 [] [] [] 0))) (Wk.agg (.cons (Wk.refl _) (.cons (Wk.refl _) (.cons (Wk.refl _) (.cons (Wk.refl _) (.cons (Wk.refl _) (.cons Wk.nil (.cons (Wk.refl _) (.cons Wk.nil (.cons Wk.nil (.cons (Wk.refl _) (.cons (Wk.refl _) .nil)))))))))))) (ids_TermX (Term.mk 11 false 0 0 [] [] 0 [] [] [] 0)) ⟨rfl, rfl⟩⟩
            ·intro hc21; replace h := ocond_f hc21 h
             refine bw_skip ?_
             change BW _ _ _ _ _
             refine bw_seq (bw_tail 14 [] [] mo (by kernel_rfl) ?_)
             refine ac_go rfl rfl rfl rfl (fun H hp => op1_move rfl rfl) ?_
             obtain ⟨x22, hx22, h⟩ := obind h
             refine ac_go rfl rfl rfl rfl (fun H hp => op1_pNil rfl rfl hx22) ?_
             refine ac_go rfl rfl rfl rfl (fun H hp => op1_faP st_70 (i := 0) rfl rfl rfl) ?_
             refine ac_go rfl rfl rfl rfl (fun H hp => op1_ldP (y := (ofStr x22.cls)) Try.underlying9 rfl rfl rfl rfl) ?_
             refine ac_go rfl rfl rfl rfl (fun H hp => op1_move rfl rfl) ?_
             refine ac_go rfl rfl rfl rfl (fun H hp => op1_pNil rfl rfl hx22) ?_
             refine ac_go rfl rfl rfl rfl (fun H hp => op1_faP st_70 (i := 1) rfl rfl rfl) ?_
             refine ac_go rfl rfl rfl rfl (fun H hp => op1_ldP (y := (I64 x22.ver)) Try.underlying3 rfl rfl rfl rfl) ?_
             refine ac_go rfl rfl rfl rfl (fun H hp => op1_move rfl rfl) ?_
             refine ac_go rfl rfl rfl rfl (fun H hp => op1_pNil rfl rfl hx22) ?_
             refine ac_go rfl rfl rfl rfl (fun H hp => op1_faP st_70 (i := 2) rfl rfl rfl) ?_
             refine ac_go rfl rfl rfl rfl (fun H hp => op1_ldP (y := (PV.sl none 56 2 (List.map ofFld x22.fields))) Try.underlying58 rfl rfl rfl rfl) ?_
             refine ac_go rfl rfl rfl rfl (fun H hp => op1_move rfl rfl) ?_
             obtain ⟨x23, hx23, h⟩ := obind h
             refine ac_go rfl rfl rfl rfl (fun H hp => op1_pcall rfl en_77 rfl (.cons (Wk.refl _) (.cons (Wk.refl _) .nil)) ⟨(ids_slM ids_Fld x22.fields), ⟨rfl, trivial⟩⟩ (c_mk_entries x22.fields a1 x23 hx23) (ids_slM ids_Entry x23)) ?_
             refine ac_nil ?_
             change AO _ _ _ _ _
             refine sS rfl rfl rfl (op1_build (cs := [(I64 10), (BO false), (I64 0), (PV.v (.float .f64 0)), (ofStr []), (PV.v (.slice none 0 0)), (PV.v (.int .u64 0)), (PV.v (.slice none 0 0)), (PV.sl none 66 12 (List.map ofEntry x23)), (ofStr x22.cls), (I64 x22.ver)]) st_29 inf_29 rfl rfl rfl rfl) ?_
             refine ao_step0 rfl rfl (op1_store inf_29 rfl rfl rfl rfl rfl rfl (Nat.le_of_ble_eq_true rfl) rfl) ?_
             refine ao_nil ?_
             change BW _ _ _ _ _
             refine bw_ret ?_
             change ∃ xs, _ = some xs ∧ EndOk _ _ _ _
             obtain rfl := Option.some.inj h
             exact ⟨_, rfl, endOk0 (y := (ofTermX (Term.mk 10 false 0 0 [] [] 0 [] x23 x22.cls x22.ver))) (Wk.agg (.cons (Wk.refl _) (.cons (Wk.refl _) (.cons (Wk.refl _) (.cons (Wk.refl _) (.cons (Wk.refl _) (.cons Wk.nil (.cons (Wk.refl _) (.cons Wk.nil (.cons (Wk.refl _) (.cons (Wk.refl _) (.cons (Wk.refl _) .nil)))))))))))) (ids_TermX (Term.mk 10 false 0 0 [] [] 0 [] x23 x22.cls x22.ver)) ⟨rfl, rfl⟩⟩
           ·intro hc20; replace h := ocond_f hc20 h
            refine bw_skip ?_
            change BW _ _ _ _ _
            refine bR ?_
            refine sS rfl rfl rfl (op1_build (cs := [(I64 0), (BO false), (I64 0), (PV.v (.float .f64 0)), (ofStr []), (PV.v (.slice none 0 0)), (PV.v (.int .u64 0)), (PV.v (.slice none 0 0)), (PV.v (.slice none 0 0)), (ofStr []), (I64 0)]) st_29 inf_29 rfl rfl rfl rfl) ?_
            refine ao_step0 rfl rfl (op1_store inf_29 rfl rfl rfl rfl rfl rfl (Nat.le_of_ble_eq_true rfl) rfl) ?_
            refine ao_nil ?_
            change BW _ _ _ _ _
            refine bw_ret ?_
            change ∃ xs, _ = some xs ∧ EndOk _ _ _ _
            obtain rfl := Option.some.inj h
            exact ⟨_, rfl, endOk0 (y := (ofTermX (Term.mk 0 false 0 0 [] [] 0 [] [] [] 0))) (Wk.agg (.cons (Wk.refl _) (.cons (Wk.refl _) (.cons (Wk.refl _) (.cons (Wk.refl _) (.cons (Wk.refl _) (.cons Wk.nil (.cons (Wk.refl _) (.cons Wk.nil (.cons Wk.nil (.cons (Wk.refl _) (.cons (Wk.refl _) .nil)))))))))))) (ids_TermX (Term.mk 0 false 0 0 [] [] 0 [] [] [] 0)) ⟨rfl, rfl⟩⟩
theorem C_mk_entries.sound : ∀ (i : C_mk_entries) (r : i.R), fixO C_mk_entries.F i = some r → C_mk_entries.Q i r := by
 refine fixO_ind (Φ := C_mk_entries.F) (Q := C_mk_entries.Q) ?_
 intro g hg i r h
 cases i with
 | k_mk_entries a0 a1 => exact t_mk_entries (fun a0 a1 => g (.k_mk_entries a0 a1)) (fun a0 a1 r hr => hg (.k_mk_entries a0 a1) r hr) (fun a0 a1 => g (.k_mk_plain a0 a1)) (fun a0 a1 r hr => hg (.k_mk_plain a0 a1) r hr) a0 a1 r h
 | k_mk_plain a0 a1 => exact t_mk_plain (fun a0 a1 => g (.k_mk_entries a0 a1)) (fun a0 a1 r hr => hg (.k_mk_entries a0 a1) r hr) (fun a0 a1 => g (.k_mk_plain a0 a1)) (fun a0 a1 r hr => hg (.k_mk_plain a0 a1) r hr) a0 a1 r h
theorem s_mk_entries (a0 : (List (Str × V))) (a1 : Int) (r : (List (Str × Term))) (h : p_mk_entries a0 a1 = some r) : PCalls Try.prog 77 [(PV.sl none 56 2 (List.map ofFld a0)), (I64 a1)] (PV.sl none 66 12 (List.map ofEntry r)) := C_mk_entries.sound (.k_mk_entries a0 a1) r h
theorem s_mk_plain (a0 : V) (a1 : Int) (r : Term) (h : p_mk_plain a0 a1 = some r) : PCalls Try.prog 55 [(ofV a0), (I64 a1)] (ofTermX r) := C_mk_entries.sound (.k_mk_plain a0 a1) r h
noncomputable def p_mk_Plain (a0 : V) : Option Term :=
 Option.bind (p_mk_plain a0 0) fun x1 =>
 some x1
theorem s_mk_Plain (a0 : V) (r : Term) (h : p_mk_Plain a0 = some r) : PCalls Try.prog 39 [(ofV a0)] (ofTermX r) := by
 unfold p_mk_Plain at h
 refine acalls_of Try.func39 rfl Try.ntmps39 Try.results39 rfl (aw_of_bw ?_)
 change BW _ _ _ ⟨[(0, (ofV a0))], [], _⟩ _
 refine bR ?_
 refine sS rfl rfl rfl (op1_alloc inf_29 rfl) (ao_nil ?_)
 change BW _ _ _ _ _
 refine bR ?_
 refine sM rfl rfl rfl rfl rfl ?_
 obtain ⟨x1, hx1, h⟩ := obind h
 refine sS rfl rfl rfl (op1_pcall rfl en_55 rfl (.cons (Wk.refl _) (.cons (Wk.refl _) .nil)) ⟨(ids_V a0), ⟨rfl, trivial⟩⟩ (s_mk_plain a0 0 x1 hx1) (ids_TermX x1)) ?_
 refine ao_step0 rfl rfl (op1_store inf_29 rfl rfl rfl rfl rfl rfl (Nat.le_of_ble_eq_true rfl) rfl) ?_
 refine ao_nil ?_
 change BW _ _ _ _ _
 refine bw_ret ?_
 change ∃ xs, _ = some xs ∧ EndOk _ _ _ _
 obtain rfl := Option.some.inj h
 exact ⟨_, rfl, endOk0 (y := (ofTermX x1)) (Wk.refl _) (ids_TermX x1) ⟨rfl, rfl⟩⟩
end Go.Proofs.Ythfdpaboekoncaa
