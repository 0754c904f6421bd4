/- Pure functions, and that calls answer as they say. Written by gen.py. -/
import Derived.Test.YtkmhecgagibgjaaGS
namespace Go.Proofs.Ytkmhecgagibgjaa
open Go Aw
set_option linter.unusedVariables false
set_option linter.unusedSimpArgs false
set_option maxRecDepth 20000
set_option maxHeartbeats 2000000
noncomputable def p_value_kind (a0 : V) : Option Int :=
 bif (a0).isNil then (
  some 1
 ) else (
  bif (a0).isBool then (
   some 2
  ) else (
   bif (a0).isInt then (
    some 3
   ) else (
    bif (a0).isFloat then (
     some 4
    ) else (
     bif (a0).isText then (
      some 5
     ) else (
      bif (a0).isBytes then (
       some 6
      ) else (
       bif (a0).isRef then (
        some 7
       ) else (
        bif (a0).isList then (
         some 8
        ) else (
         bif (a0).isDict then (
          some 9
         ) else (
          bif (a0).isRec then (
           bif ((a0).asRec).isNone then (
            some 11
           ) else (
            some 10
           )
          ) else (
           some 0
          )
         )
        )
       )
      )
     )
    )
   )
  )
 )
theorem s_value_kind (a0 : V) (r : Int) (h : p_value_kind a0 = some r) : PCalls Try.prog 33 [(ofV a0)] (I64 r) := by
 unfold p_value_kind at h
 refine acalls_of Try.func33 rfl Try.ntmps33 Try.results33 rfl (aw_of_bw ?_)
 change BW _ _ _ ⟨[(0, (ofV a0))], [], _⟩ _
 refine bR ?_
 refine sA rfl rfl rfl rfl rfl (ao_nil ?_)
 change BW _ _ _ _ _
 refine bw_seq ?_
 refine bR ?_
 refine sM rfl rfl rfl rfl rfl (ao_nil ?_)
 change BW _ _ _ _ _
 refine bw_block ?_
 change BW _ _ _ _ _
 refine bR ?_
 refine sS rfl rfl rfl (op1_vEqNil Try.underlying20 rfl rfl) (ao_nil ?_)
 change BW _ _ _ _ _
 refine bw_cond rfl ?_ ?_
 ·intro hc1; replace h := ocond_t hc1 h
  refine bR ?_
  refine sA rfl rfl rfl rfl rfl (ao_nil ?_)
  change BW _ _ _ _ _
  refine bR ?_
  refine sA rfl rfl rfl rfl rfl (ao_nil ?_)
  change BW _ _ _ _ _
  refine bw_ret ?_
  change ∃ xs, _ = some xs ∧ EndOk _ _ _ _
  obtain rfl := Option.some.inj h
  exact ⟨_, rfl, endOk0 (y := (I64 1)) (Wk.refl _) rfl ⟨rfl, rfl⟩⟩
 ·intro hc1; replace h := ocond_f hc1 h
  refine bR ?_
  refine sS rfl rfl rfl (op1_taBool rfl rfl) ?_
  refine sS rfl rfl rfl (op1_ext rfl rfl rfl) ?_
  refine sS rfl rfl rfl (op1_ext rfl rfl rfl) (ao_nil ?_)
  change BW _ _ _ _ _
  refine bw_cond rfl ?_ ?_
  ·intro hc2; replace h := ocond_t hc2 h
   refine bR ?_
   refine sA rfl rfl rfl rfl rfl (ao_nil ?_)
   change BW _ _ _ _ _
   refine bR ?_
   refine sA rfl rfl rfl rfl rfl (ao_nil ?_)
   change BW _ _ _ _ _
   refine bw_ret ?_
   change ∃ xs, _ = some xs ∧ EndOk _ _ _ _
   obtain rfl := Option.some.inj h
   exact ⟨_, rfl, endOk0 (y := (I64 2)) (Wk.refl _) rfl ⟨rfl, rfl⟩⟩
  ·intro hc2; replace h := ocond_f hc2 h
   refine bR ?_
   refine sS rfl rfl rfl (op1_taInt rfl rfl) ?_
   refine sS rfl rfl rfl (op1_ext rfl rfl rfl) ?_
   refine sS rfl rfl rfl (op1_ext rfl rfl rfl) (ao_nil ?_)
   change BW _ _ _ _ _
   refine bw_cond rfl ?_ ?_
   ·intro hc3; replace h := ocond_t hc3 h
    refine bR ?_
    refine sA rfl rfl rfl rfl rfl (ao_nil ?_)
    change BW _ _ _ _ _
    refine bR ?_
    refine sA rfl rfl rfl rfl rfl (ao_nil ?_)
    change BW _ _ _ _ _
    refine bw_ret ?_
    change ∃ xs, _ = some xs ∧ EndOk _ _ _ _
    obtain rfl := Option.some.inj h
    exact ⟨_, rfl, endOk0 (y := (I64 3)) (Wk.refl _) rfl ⟨rfl, rfl⟩⟩
   ·intro hc3; replace h := ocond_f hc3 h
    refine bR ?_
    refine sS rfl rfl rfl (op1_taFloat rfl rfl) ?_
    refine sS rfl rfl rfl (op1_ext rfl rfl rfl) ?_
    refine sS rfl rfl rfl (op1_ext rfl rfl rfl) (ao_nil ?_)
    change BW _ _ _ _ _
    refine bw_cond rfl ?_ ?_
    ·intro hc4; replace h := ocond_t hc4 h
     refine bR ?_
     refine sA rfl rfl rfl rfl rfl (ao_nil ?_)
     change BW _ _ _ _ _
     refine bR ?_
     refine sA rfl rfl rfl rfl rfl (ao_nil ?_)
     change BW _ _ _ _ _
     refine bw_ret ?_
     change ∃ xs, _ = some xs ∧ EndOk _ _ _ _
     obtain rfl := Option.some.inj h
     exact ⟨_, rfl, endOk0 (y := (I64 4)) (Wk.refl _) rfl ⟨rfl, rfl⟩⟩
    ·intro hc4; replace h := ocond_f hc4 h
     refine bR ?_
     refine sS rfl rfl rfl (op1_taText rfl rfl) ?_
     refine sS rfl rfl rfl (op1_ext rfl rfl rfl) ?_
     refine sS rfl rfl rfl (op1_ext rfl rfl rfl) (ao_nil ?_)
     change BW _ _ _ _ _
     refine bw_cond rfl ?_ ?_
     ·intro hc5; replace h := ocond_t hc5 h
      refine bR ?_
      refine sA rfl rfl rfl rfl rfl (ao_nil ?_)
      change BW _ _ _ _ _
      refine bR ?_
      refine sA rfl rfl rfl rfl rfl (ao_nil ?_)
      change BW _ _ _ _ _
      refine bw_ret ?_
      change ∃ xs, _ = some xs ∧ EndOk _ _ _ _
      obtain rfl := Option.some.inj h
      exact ⟨_, rfl, endOk0 (y := (I64 5)) (Wk.refl _) rfl ⟨rfl, rfl⟩⟩
     ·intro hc5; replace h := ocond_f hc5 h
      refine bR ?_
      refine sS rfl rfl rfl (op1_taBytes rfl rfl) ?_
      refine sS rfl rfl rfl (op1_ext rfl rfl rfl) ?_
      refine sS rfl rfl rfl (op1_ext rfl rfl rfl) (ao_nil ?_)
      change BW _ _ _ _ _
      refine bw_cond rfl ?_ ?_
      ·intro hc6; replace h := ocond_t hc6 h
       refine bR ?_
       refine sA rfl rfl rfl rfl rfl (ao_nil ?_)
       change BW _ _ _ _ _
       refine bR ?_
       refine sA rfl rfl rfl rfl rfl (ao_nil ?_)
       change BW _ _ _ _ _
       refine bw_ret ?_
       change ∃ xs, _ = some xs ∧ EndOk _ _ _ _
       obtain rfl := Option.some.inj h
       exact ⟨_, rfl, endOk0 (y := (I64 6)) (Wk.refl _) rfl ⟨rfl, rfl⟩⟩
      ·intro hc6; replace h := ocond_f hc6 h
       refine bR ?_
       refine sS rfl rfl rfl (op1_taRef rfl rfl) ?_
       refine sS rfl rfl rfl (op1_ext rfl rfl rfl) ?_
       refine sS rfl rfl rfl (op1_ext rfl rfl rfl) (ao_nil ?_)
       change BW _ _ _ _ _
       refine bw_cond rfl ?_ ?_
       ·intro hc7; replace h := ocond_t hc7 h
        refine bR ?_
        refine sA rfl rfl rfl rfl rfl (ao_nil ?_)
        change BW _ _ _ _ _
        refine bR ?_
        refine sA rfl rfl rfl rfl rfl (ao_nil ?_)
        change BW _ _ _ _ _
        refine bw_ret ?_
        change ∃ xs, _ = some xs ∧ EndOk _ _ _ _
        obtain rfl := Option.some.inj h
        exact ⟨_, rfl, endOk0 (y := (I64 7)) (Wk.refl _) rfl ⟨rfl, rfl⟩⟩
       ·intro hc7; replace h := ocond_f hc7 h
        refine bR ?_
        refine sS rfl rfl rfl (op1_taList rfl rfl) ?_
        refine sS rfl rfl rfl (op1_ext rfl rfl rfl) ?_
        refine sS rfl rfl rfl (op1_ext rfl rfl rfl) (ao_nil ?_)
        change BW _ _ _ _ _
        refine bw_cond rfl ?_ ?_
        ·intro hc8; replace h := ocond_t hc8 h
         refine bR ?_
         refine sA rfl rfl rfl rfl rfl (ao_nil ?_)
         change BW _ _ _ _ _
         refine bR ?_
         refine sA rfl rfl rfl rfl rfl (ao_nil ?_)
         change BW _ _ _ _ _
         refine bw_ret ?_
         change ∃ xs, _ = some xs ∧ EndOk _ _ _ _
         obtain rfl := Option.some.inj h
         exact ⟨_, rfl, endOk0 (y := (I64 8)) (Wk.refl _) rfl ⟨rfl, rfl⟩⟩
        ·intro hc8; replace h := ocond_f hc8 h
         refine bR ?_
         refine sS rfl rfl rfl (op1_taDict rfl rfl) ?_
         refine sS rfl rfl rfl (op1_ext rfl rfl rfl) ?_
         refine sS rfl rfl rfl (op1_ext rfl rfl rfl) (ao_nil ?_)
         change BW _ _ _ _ _
         refine bw_cond rfl ?_ ?_
         ·intro hc9; replace h := ocond_t hc9 h
          refine bR ?_
          refine sA rfl rfl rfl rfl rfl (ao_nil ?_)
          change BW _ _ _ _ _
          refine bR ?_
          refine sA rfl rfl rfl rfl rfl (ao_nil ?_)
          change BW _ _ _ _ _
          refine bw_ret ?_
          change ∃ xs, _ = some xs ∧ EndOk _ _ _ _
          obtain rfl := Option.some.inj h
          exact ⟨_, rfl, endOk0 (y := (I64 9)) (Wk.refl _) rfl ⟨rfl, rfl⟩⟩
         ·intro hc9; replace h := ocond_f hc9 h
          refine bR ?_
          refine sS rfl rfl rfl (op1_taRec rfl rfl) ?_
          refine sS rfl rfl rfl (op1_ext rfl rfl rfl) ?_
          refine sS rfl rfl rfl (op1_ext rfl rfl rfl) (ao_nil ?_)
          change BW _ _ _ _ _
          refine bw_cond rfl ?_ ?_
          ·intro hc10; replace h := ocond_t hc10 h
           refine bR ?_
           refine sA rfl rfl rfl rfl rfl (ao_nil ?_)
           change BW _ _ _ _ _
           refine bw_seq ?_
           refine bR ?_
           refine sM rfl rfl rfl rfl rfl ?_
           refine sS rfl rfl rfl (op1_pEqNil Try.underlying50 rfl rfl) (ao_nil ?_)
           change BW _ _ _ _ _
           refine bw_cond rfl ?_ ?_
           ·intro hc11; replace h := ocond_t hc11 h
            refine bR ?_
            refine sA rfl rfl rfl rfl rfl (ao_nil ?_)
            change BW _ _ _ _ _
            refine bw_ret ?_
            change ∃ xs, _ = some xs ∧ EndOk _ _ _ _
            obtain rfl := Option.some.inj h
            exact ⟨_, rfl, endOk0 (y := (I64 11)) (Wk.refl _) rfl ⟨rfl, rfl⟩⟩
           ·intro hc11; replace h := ocond_f hc11 h
            refine bw_skip ?_
            change BW _ _ _ _ _
            refine bR ?_
            refine sA rfl rfl rfl rfl rfl (ao_nil ?_)
            change BW _ _ _ _ _
            refine bw_ret ?_
            change ∃ xs, _ = some xs ∧ EndOk _ _ _ _
            obtain rfl := Option.some.inj h
            exact ⟨_, rfl, endOk0 (y := (I64 10)) (Wk.refl _) rfl ⟨rfl, rfl⟩⟩
          ·intro hc10; replace h := ocond_f hc10 h
           refine bw_skip ?_
           change BW _ _ _ _ _
           refine bR ?_
           refine sA rfl rfl rfl rfl rfl (ao_nil ?_)
           change BW _ _ _ _ _
           refine bw_ret ?_
           change ∃ xs, _ = some xs ∧ EndOk _ _ _ _
           obtain rfl := Option.some.inj h
           exact ⟨_, rfl, endOk0 (y := (I64 0)) (Wk.refl _) rfl ⟨rfl, rfl⟩⟩
noncomputable def value_name_j2 (g1 : Nat → Option Bool) (s4 : Nat) (s8 : Bool) : Option Bool :=
 bif s8 then (
  some false
 ) else (
  g1 (s4 + 1)
 )
theorem value_name_j2_cm {ι : Type} {ρ : ι → Type} (g1 : (∀ i, Option (ρ i)) → Nat → Option Bool) (h_g1 : ∀ y0, CM (fun G => g1 G y0)) (s4 : Nat) (s8 : Bool) : CM (fun G : (∀ i, Option (ρ i)) => value_name_j2 (g1 G) s4 s8) := by
 simp only [value_name_j2]
 repeat (first | exact cm_const | exact h_g1 _ | refine cm_cond ?_ ?_ | refine cm_bind ?_ (fun _ => ?_))
noncomputable def value_name_l1b (a0 : Str) (g1 : Nat → Option Bool) (s4 : Nat) : Option Bool :=
 bif (decide (((s4 : Nat) : Int) < (((a0).length : Nat) : Int))) then (
  Option.bind ((a0)[s4]?) fun x7 =>
  bif (decide (((x7).toNat : Int) < (((97 : UInt8)).toNat : Int))) then (
   bif (decide (((x7).toNat : Int) < (((48 : UInt8)).toNat : Int))) then (
    value_name_j2 g1 s4 (((x7).toNat : Int) != (((95 : UInt8)).toNat : Int))
   ) else (
    bif (decide (((x7).toNat : Int) > (((57 : UInt8)).toNat : Int))) then (
     value_name_j2 g1 s4 (((x7).toNat : Int) != (((95 : UInt8)).toNat : Int))
    ) else (
     value_name_j2 g1 s4 false
    )
   )
  ) else (
   bif (decide (((x7).toNat : Int) > (((122 : UInt8)).toNat : Int))) then (
    bif (decide (((x7).toNat : Int) < (((48 : UInt8)).toNat : Int))) then (
     value_name_j2 g1 s4 (((x7).toNat : Int) != (((95 : UInt8)).toNat : Int))
    ) else (
     bif (decide (((x7).toNat : Int) > (((57 : UInt8)).toNat : Int))) then (
      value_name_j2 g1 s4 (((x7).toNat : Int) != (((95 : UInt8)).toNat : Int))
     ) else (
      value_name_j2 g1 s4 false
     )
    )
   ) else (
    value_name_j2 g1 s4 false
   )
  )
 ) else (
  some true
 )
theorem value_name_l1b_cm {ι : Type} {ρ : ι → Type} (g1 : (∀ i, Option (ρ i)) → Nat → Option Bool) (h_g1 : ∀ y0, CM (fun G => g1 G y0)) (a0 : Str) (s4 : Nat) : CM (fun G : (∀ i, Option (ρ i)) => value_name_l1b a0 (g1 G) s4) := by
 simp only [value_name_l1b]
 repeat (first | exact cm_const | exact h_g1 _ | apply value_name_j2_cm | refine cm_cond ?_ ?_ | refine cm_bind ?_ (fun _ => ?_) | intro _ | assumption)
noncomputable def value_name_l1 (a0 : Str) (s4 : Nat) : Option Bool :=
 fixO (ι := Nat) (ρ := fun _ => Bool) (fun g i => value_name_l1b a0 (fun s4 => g s4) i) s4
theorem value_name_l1_eq (a0 : Str) (s4 : Nat) : value_name_l1 a0 s4 = value_name_l1b a0 (value_name_l1 a0) s4 :=
 fixO_eq (ι := Nat) (ρ := fun _ => Bool) (Φ := fun g i => value_name_l1b a0 (fun s4 => g s4) i) (fun i => value_name_l1b_cm (ι := Nat) (ρ := fun _ => Bool) (fun g => (fun s4 => g s4)) (fun _ => cm_app) a0 i) s4
noncomputable def value_name_j1 (a0 : Str) (s1 : Bool) : Option Bool :=
 bif s1 then (
  some false
 ) else (
  Option.bind (smallO (a0).length) fun x3 =>
  value_name_l1 a0 0
 )
noncomputable def p_value_name (a0 : Str) : Option Bool :=
 bif (a0 == ([] : Str)) then (
  value_name_j1 a0 true
 ) else (
  bif (decide ((((a0).length : Nat) : Int) > 32)) then (
   value_name_j1 a0 true
  ) else (
   Option.bind ((a0)[0]?) fun x18 =>
   bif (decide (((x18).toNat : Int) < (((97 : UInt8)).toNat : Int))) then (
    value_name_j1 a0 true
   ) else (
    Option.bind ((a0)[0]?) fun x20 =>
    value_name_j1 a0 (decide (((x20).toNat : Int) > (((122 : UInt8)).toNat : Int)))
   )
  )
 )
theorem s_value_name (a0 : Str) (r : Bool) (h : p_value_name a0 = some r) : PCalls Try.prog 75 [(ofStr a0)] (BO r) := by
 unfold p_value_name at h
 refine acalls_of Try.func75 rfl Try.ntmps75 Try.results75 rfl (aw_of_bw ?_)
 change BW _ _ _ ⟨[(0, (ofStr a0))], [], _⟩ _
 refine bR ?_
 refine sA rfl rfl rfl rfl rfl (ao_nil ?_)
 change BW _ _ _ _ _
 refine bw_seq ?_
 refine bw_seqJ (ι := Bool) (fun i => value_name_j1 a0 i = some r) (fun i => [(0, (ofStr a0)), (21, (BO i))]) (fun i => []) ?_ ?_ ?_
 ·intro i; exact ⟨Nat.le_of_ble_eq_true rfl, ⟨(il_nil rfl), ⟨(il_nil rfl), trivial⟩⟩, trivial⟩
 ·rintro s1 h; replace h : value_name_j1 a0 s1 = some r := h; unfold value_name_j1 at h
  change BW _ _ _ ⟨[(0, (ofStr a0)), (21, (BO s1))], [], _⟩ _
  refine bw_cond rfl ?_ ?_
  ·intro hc2; replace h := ocond_t hc2 h
   refine bR ?_
   refine sA rfl rfl rfl rfl rfl (ao_nil ?_)
   change BW _ _ _ _ _
   refine bw_ret ?_
   change ∃ xs, _ = some xs ∧ EndOk _ _ _ _
   obtain rfl := Option.some.inj h
   exact ⟨_, rfl, endOk0 (y := (BO false)) (Wk.refl _) rfl ⟨rfl, rfl⟩⟩
  ·intro hc2; replace h := ocond_f hc2 h
   refine bw_skip ?_
   change BW _ _ _ _ _
   refine bw_seq ?_
   refine bR ?_
   refine sM rfl rfl rfl rfl rfl ?_
   obtain ⟨x3, hx3, h⟩ := obind h
   refine sS rfl rfl rfl (op1_fromT Try.underlying9 Try.underlying23 Try.underlying5 rfl rfl hx3) ?_
   refine sS rfl rfl rfl (op1_lenM Try.underlying23 rfl rfl) ?_
   refine sM rfl rfl rfl rfl rfl (ao_nil ?_)
   change BW _ _ _ _ _
   refine bw_block ?_
   change BW _ _ _ _ _
   unfold value_name_l1 at h
   refine bw_loop (σ := Nat) (fun i => [(23, (PV.sl none 5 1 (List.map ofB a0))), (24, (I64 ((((a0).length : Nat) : Int)))), (25, (I64 (((i : Nat) : Int))))]) (fun i => []) 0 h ?_ ?_ ?_
   ·intro i; exact ⟨Nat.le_of_ble_eq_true rfl, ⟨(il_nil (ids_slM (fun _ => rfl) _)), ⟨(il_nil rfl), ⟨(il_nil rfl), trivial⟩⟩⟩, trivial⟩
   ·exact ⟨.nil, (sC rfl (sC rfl (sC rfl sub_nil)))⟩
   ·rintro g1_f s4 h; replace h : value_name_l1b a0 (fun y0 => g1_f y0) s4 = some r := h; unfold value_name_l1b at h
    change BW _ _ _ ⟨[(23, (PV.sl none 5 1 (List.map ofB a0))), (24, (I64 ((((a0).length : Nat) : Int)))), (25, (I64 (((s4 : Nat) : Int))))], [], _⟩ _
    refine bR ?_
    refine sS rfl rfl rfl ((op1_cmp rfl rfl rfl rfl).cast (y := (BO ((decide (((s4 : Nat) : Int) < (((a0).length : Nat) : Int)))))) rfl rfl) (ao_nil ?_)
    change BW _ _ _ _ _
    refine bw_seq ?_
    refine bw_len (t := 23) rfl fun hb6 => ?_
    try rw [List.length_map] at hb6
    refine bw_cond rfl ?_ ?_
    ·intro hc5; replace h := ocond_t hc5 h
     have hc5_ := of_decide_eq_true hc5
     refine bw_skip ?_
     change BW _ _ _ _ _
     refine bw_seq ?_
     refine bw_block ?_
     change BW _ _ _ _ _
     refine bR ?_
     obtain ⟨x7, hx7, h⟩ := obind h
     refine sS rfl rfl rfl (op1_idxN (i := s4) Try.underlying23 inf_5 rfl rfl rfl hx7 rfl) ?_
     refine sS rfl rfl rfl (op1_ldP (y := (ofB x7)) Try.underlying5 rfl rfl rfl rfl) ?_
     refine sA rfl rfl rfl rfl rfl (ao_nil ?_)
     change BW _ _ _ _ _
     refine bw_seqJ (ι := Bool) (fun i => value_name_j2 (fun y0 => g1_f y0) s4 i = some r) (fun i => [(23, (PV.sl none 5 1 (List.map ofB a0))), (24, (I64 ((((a0).length : Nat) : Int)))), (25, (I64 (((s4 : Nat) : Int)))), (46, (BO i))]) (fun i => []) ?_ ?_ ?_
     ·intro i; exact ⟨Nat.le_of_ble_eq_true rfl, ⟨(il_nil (ids_slM (fun _ => rfl) _)), ⟨(il_nil rfl), ⟨(il_nil rfl), ⟨(il_nil rfl), trivial⟩⟩⟩⟩, trivial⟩
     ·rintro s8 h; replace h : value_name_j2 (fun y0 => g1_f y0) s4 s8 = some r := h; unfold value_name_j2 at h
      change BW _ _ _ ⟨[(23, (PV.sl none 5 1 (List.map ofB a0))), (24, (I64 ((((a0).length : Nat) : Int)))), (25, (I64 (((s4 : Nat) : Int)))), (46, (BO s8))], [], _⟩ _
      refine bw_cond rfl ?_ ?_
      ·intro hc9; replace h := ocond_t hc9 h
       refine bR ?_
       refine sA rfl rfl rfl rfl rfl (ao_nil ?_)
       change BW _ _ _ _ _
       refine bw_ret ?_
       change ∃ xs, _ = some xs ∧ EndOk _ _ _ _
       obtain rfl := Option.some.inj h
       exact ⟨_, rfl, endOk0 (y := (BO false)) (Wk.refl _) rfl ⟨rfl, rfl⟩⟩
      ·intro hc9; replace h := ocond_f hc9 h
       refine bw_skip ?_
       change BW _ _ _ _ _
       refine bw_region ?_
       refine sS rfl rfl rfl (op1_incN (k := s4) (c := 1) rfl rfl rfl (by omega)) ?_
       refine sM rfl rfl rfl rfl rfl (ao_nil ?_)
       exact ⟨rfl, (s4 + 1), h, ⟨.nil, (sC rfl (sC rfl (sC rfl sub_nil)))⟩⟩
     ·refine bw_region ?_
      refine sM rfl rfl rfl rfl rfl ?_
      refine sS rfl rfl rfl ((op1_cmp rfl rfl rfl rfl).cast (y := (BO ((decide (((x7).toNat : Int) < (((97 : UInt8)).toNat : Int)))))) rfl rfl) ?_
      refine sM rfl rfl rfl rfl rfl ?_
      refine ao_cases (t := 31) rfl ?_ ?_
      ·intro hb10; replace h := ocond_t hb10 h
       refine ao_no rfl rfl rfl rfl rfl rfl ?_
       refine ao_no rfl rfl rfl rfl rfl rfl ?_
       refine sS rfl rfl rfl (op1_pickT rfl rfl rfl) ?_
       refine sM rfl rfl rfl rfl rfl ?_
       refine ao_yes rfl rfl rfl rfl rfl rfl (op1_move rfl rfl) ?_
       refine ao_yes rfl rfl rfl rfl rfl rfl ((op1_cmp rfl rfl rfl rfl).cast (y := (BO ((decide (((x7).toNat : Int) < (((48 : UInt8)).toNat : Int)))))) rfl rfl) ?_
       refine ao_yes rfl rfl rfl rfl rfl rfl (op1_move rfl rfl) ?_
       refine ao_cases (t := 38) rfl ?_ ?_
       ·intro hb11; replace h := ocond_t hb11 h
        refine ao_no rfl rfl rfl rfl rfl rfl ?_
        refine ao_no rfl rfl rfl rfl rfl rfl ?_
        refine ao_yes rfl rfl rfl rfl rfl rfl (op1_pickT rfl rfl rfl) ?_
        refine sS rfl rfl rfl (op1_pickT rfl rfl rfl) ?_
        refine sM rfl rfl rfl rfl rfl ?_
        refine ao_yes rfl rfl rfl rfl rfl rfl (op1_move rfl rfl) ?_
        refine ao_yes rfl rfl rfl rfl rfl rfl ((op1_cmp rfl rfl rfl rfl).cast (y := (BO ((((x7).toNat : Int) != (((95 : UInt8)).toNat : Int))))) rfl rfl) ?_
        refine sS rfl rfl rfl (op1_pickT rfl rfl rfl) (ao_nil ?_)
        exact ⟨rfl, (((x7).toNat : Int) != (((95 : UInt8)).toNat : Int)), h, ⟨.nil, (sC rfl (sC rfl (sC rfl (sC rfl sub_nil))))⟩⟩
       ·intro hb11; replace h := ocond_f hb11 h
        refine ao_yes rfl rfl rfl rfl rfl rfl (op1_move rfl rfl) ?_
        refine ao_yes rfl rfl rfl rfl rfl rfl ((op1_cmp rfl rfl rfl rfl).cast (y := (BO ((decide (((x7).toNat : Int) > (((57 : UInt8)).toNat : Int)))))) rfl rfl) ?_
        refine ao_yes rfl rfl rfl rfl rfl rfl (op1_pickF rfl rfl rfl) ?_
        refine sS rfl rfl rfl (op1_pickT rfl rfl rfl) ?_
        refine sM rfl rfl rfl rfl rfl ?_
        refine ao_cases (t := 43) rfl ?_ ?_
        ·intro hb12; replace h := ocond_t hb12 h
         refine ao_yes rfl rfl rfl rfl rfl rfl (op1_move rfl rfl) ?_
         refine ao_yes rfl rfl rfl rfl rfl rfl ((op1_cmp rfl rfl rfl rfl).cast (y := (BO ((((x7).toNat : Int) != (((95 : UInt8)).toNat : Int))))) rfl rfl) ?_
         refine sS rfl rfl rfl (op1_pickT rfl rfl rfl) (ao_nil ?_)
         exact ⟨rfl, (((x7).toNat : Int) != (((95 : UInt8)).toNat : Int)), h, ⟨.nil, (sC rfl (sC rfl (sC rfl (sC rfl sub_nil))))⟩⟩
        ·intro hb12; replace h := ocond_f hb12 h
         refine ao_no rfl rfl rfl rfl rfl rfl ?_
         refine ao_no rfl rfl rfl rfl rfl rfl ?_
         refine sS rfl rfl rfl (op1_pickF rfl rfl rfl) (ao_nil ?_)
         exact ⟨rfl, false, h, ⟨.nil, (sC rfl (sC rfl (sC rfl (sC rfl sub_nil))))⟩⟩
      ·intro hb10; replace h := ocond_f hb10 h
       refine ao_yes rfl rfl rfl rfl rfl rfl (op1_move rfl rfl) ?_
       refine ao_yes rfl rfl rfl rfl rfl rfl ((op1_cmp rfl rfl rfl rfl).cast (y := (BO ((decide (((x7).toNat : Int) > (((122 : UInt8)).toNat : Int)))))) rfl rfl) ?_
       refine sS rfl rfl rfl (op1_pickF rfl rfl rfl) ?_
       refine sM rfl rfl rfl rfl rfl ?_
       refine ao_cases (t := 35) rfl ?_ ?_
       ·intro hb13; replace h := ocond_t hb13 h
        refine ao_yes rfl rfl rfl rfl rfl rfl (op1_move rfl rfl) ?_
        refine ao_yes rfl rfl rfl rfl rfl rfl ((op1_cmp rfl rfl rfl rfl).cast (y := (BO ((decide (((x7).toNat : Int) < (((48 : UInt8)).toNat : Int)))))) rfl rfl) ?_
        refine ao_yes rfl rfl rfl rfl rfl rfl (op1_move rfl rfl) ?_
        refine ao_cases (t := 38) rfl ?_ ?_
        ·intro hb14; replace h := ocond_t hb14 h
         refine ao_no rfl rfl rfl rfl rfl rfl ?_
         refine ao_no rfl rfl rfl rfl rfl rfl ?_
         refine ao_yes rfl rfl rfl rfl rfl rfl (op1_pickT rfl rfl rfl) ?_
         refine sS rfl rfl rfl (op1_pickT rfl rfl rfl) ?_
         refine sM rfl rfl rfl rfl rfl ?_
         refine ao_yes rfl rfl rfl rfl rfl rfl (op1_move rfl rfl) ?_
         refine ao_yes rfl rfl rfl rfl rfl rfl ((op1_cmp rfl rfl rfl rfl).cast (y := (BO ((((x7).toNat : Int) != (((95 : UInt8)).toNat : Int))))) rfl rfl) ?_
         refine sS rfl rfl rfl (op1_pickT rfl rfl rfl) (ao_nil ?_)
         exact ⟨rfl, (((x7).toNat : Int) != (((95 : UInt8)).toNat : Int)), h, ⟨.nil, (sC rfl (sC rfl (sC rfl (sC rfl sub_nil))))⟩⟩
        ·intro hb14; replace h := ocond_f hb14 h
         refine ao_yes rfl rfl rfl rfl rfl rfl (op1_move rfl rfl) ?_
         refine ao_yes rfl rfl rfl rfl rfl rfl ((op1_cmp rfl rfl rfl rfl).cast (y := (BO ((decide (((x7).toNat : Int) > (((57 : UInt8)).toNat : Int)))))) rfl rfl) ?_
         refine ao_yes rfl rfl rfl rfl rfl rfl (op1_pickF rfl rfl rfl) ?_
         refine sS rfl rfl rfl (op1_pickT rfl rfl rfl) ?_
         refine sM rfl rfl rfl rfl rfl ?_
         refine ao_cases (t := 43) rfl ?_ ?_
         ·intro hb15; replace h := ocond_t hb15 h
          refine ao_yes rfl rfl rfl rfl rfl rfl (op1_move rfl rfl) ?_
          refine ao_yes rfl rfl rfl rfl rfl rfl ((op1_cmp rfl rfl rfl rfl).cast (y := (BO ((((x7).toNat : Int) != (((95 : UInt8)).toNat : Int))))) rfl rfl) ?_
          refine sS rfl rfl rfl (op1_pickT rfl rfl rfl) (ao_nil ?_)
          exact ⟨rfl, (((x7).toNat : Int) != (((95 : UInt8)).toNat : Int)), h, ⟨.nil, (sC rfl (sC rfl (sC rfl (sC rfl sub_nil))))⟩⟩
         ·intro hb15; replace h := ocond_f hb15 h
          refine ao_no rfl rfl rfl rfl rfl rfl ?_
          refine ao_no rfl rfl rfl rfl rfl rfl ?_
          refine sS rfl rfl rfl (op1_pickF rfl rfl rfl) (ao_nil ?_)
          exact ⟨rfl, false, h, ⟨.nil, (sC rfl (sC rfl (sC rfl (sC rfl sub_nil))))⟩⟩
       ·intro hb13; replace h := ocond_f hb13 h
        refine ao_no rfl rfl rfl rfl rfl rfl ?_
        refine ao_no rfl rfl rfl rfl rfl rfl ?_
        refine ao_no rfl rfl rfl rfl rfl rfl ?_
        refine ao_no rfl rfl rfl rfl rfl rfl ?_
        refine ao_no rfl rfl rfl rfl rfl rfl ?_
        refine ao_no rfl rfl rfl rfl rfl rfl ?_
        refine sS rfl rfl rfl (op1_pickF rfl rfl rfl) ?_
        refine sM rfl rfl rfl rfl rfl ?_
        refine ao_no rfl rfl rfl rfl rfl rfl ?_
        refine ao_no rfl rfl rfl rfl rfl rfl ?_
        refine sS rfl rfl rfl (op1_pickF rfl rfl rfl) (ao_nil ?_)
        exact ⟨rfl, false, h, ⟨.nil, (sC rfl (sC rfl (sC rfl (sC rfl sub_nil))))⟩⟩
    ·intro hc5; replace h := ocond_f hc5 h
     refine bw_exit ?_
     change BW _ _ _ _ _
     refine bR ?_
     refine sA rfl rfl rfl rfl rfl (ao_nil ?_)
     change BW _ _ _ _ _
     refine bw_ret ?_
     change ∃ xs, _ = some xs ∧ EndOk _ _ _ _
     obtain rfl := Option.some.inj h
     exact ⟨_, rfl, endOk0 (y := (BO true)) (Wk.refl _) rfl ⟨rfl, rfl⟩⟩
 ·refine bw_region ?_
  refine sM rfl rfl rfl rfl rfl ?_
  refine sS rfl rfl rfl ((op1_cmpT (a := a0) (b := ([] : Str)) rfl rfl rfl rfl).cast (y := (BO ((a0 == ([] : Str))))) rfl rfl) ?_
  refine sM rfl rfl rfl rfl rfl ?_
  refine ao_cases (t := 7) rfl ?_ ?_
  ·intro hb16; replace h := ocond_t hb16 h
   refine ao_no rfl rfl rfl rfl rfl rfl ?_
   refine ao_no rfl rfl rfl rfl rfl rfl ?_
   refine ao_no rfl rfl rfl rfl rfl rfl ?_
   refine sS rfl rfl rfl (op1_pickT rfl rfl rfl) ?_
   refine sM rfl rfl rfl rfl rfl ?_
   refine ao_no rfl rfl rfl rfl rfl rfl ?_
   refine ao_no rfl rfl rfl rfl rfl rfl ?_
   refine ao_no rfl rfl rfl rfl rfl rfl ?_
   refine sS rfl rfl rfl (op1_pickT rfl rfl rfl) ?_
   refine sM rfl rfl rfl rfl rfl ?_
   refine ao_no rfl rfl rfl rfl rfl rfl ?_
   refine ao_no rfl rfl rfl rfl rfl rfl ?_
   refine ao_no rfl rfl rfl rfl rfl rfl ?_
   refine sS rfl rfl rfl (op1_pickT rfl rfl rfl) (ao_nil ?_)
   exact ⟨rfl, true, h, ⟨.nil, (sC rfl (sC rfl sub_nil))⟩⟩
  ·intro hb16; replace h := ocond_f hb16 h
   refine ao_yes rfl rfl rfl rfl rfl rfl (op1_move rfl rfl) ?_
   refine ao_yes rfl rfl rfl rfl rfl rfl (op1_lenT (s := a0) Try.underlying9 rfl rfl) ?_
   refine ao_yes rfl rfl rfl rfl rfl rfl ((op1_cmp rfl rfl rfl rfl).cast (y := (BO ((decide ((((a0).length : Nat) : Int) > 32))))) rfl rfl) ?_
   refine sS rfl rfl rfl (op1_pickF rfl rfl rfl) ?_
   refine sM rfl rfl rfl rfl rfl ?_
   refine ao_cases (t := 12) rfl ?_ ?_
   ·intro hb17; replace h := ocond_t hb17 h
    refine ao_no rfl rfl rfl rfl rfl rfl ?_
    refine ao_no rfl rfl rfl rfl rfl rfl ?_
    refine ao_no rfl rfl rfl rfl rfl rfl ?_
    refine sS rfl rfl rfl (op1_pickT rfl rfl rfl) ?_
    refine sM rfl rfl rfl rfl rfl ?_
    refine ao_no rfl rfl rfl rfl rfl rfl ?_
    refine ao_no rfl rfl rfl rfl rfl rfl ?_
    refine ao_no rfl rfl rfl rfl rfl rfl ?_
    refine sS rfl rfl rfl (op1_pickT rfl rfl rfl) (ao_nil ?_)
    exact ⟨rfl, true, h, ⟨.nil, (sC rfl (sC rfl sub_nil))⟩⟩
   ·intro hb17; replace h := ocond_f hb17 h
    refine ao_yes rfl rfl rfl rfl rfl rfl (op1_move rfl rfl) ?_
    obtain ⟨x18, hx18, h⟩ := obind h
    refine ao_yes rfl rfl rfl rfl rfl rfl (op1_idxTN (s := a0) (i := 0) Try.underlying9 rfl rfl rfl hx18) ?_
    refine ao_yes rfl rfl rfl rfl rfl rfl ((op1_cmp rfl rfl rfl rfl).cast (y := (BO ((decide (((x18).toNat : Int) < (((97 : UInt8)).toNat : Int)))))) rfl rfl) ?_
    refine sS rfl rfl rfl (op1_pickF rfl rfl rfl) ?_
    refine sM rfl rfl rfl rfl rfl ?_
    refine ao_cases (t := 17) rfl ?_ ?_
    ·intro hb19; replace h := ocond_t hb19 h
     refine ao_no rfl rfl rfl rfl rfl rfl ?_
     refine ao_no rfl rfl rfl rfl rfl rfl ?_
     refine ao_no rfl rfl rfl rfl rfl rfl ?_
     refine sS rfl rfl rfl (op1_pickT rfl rfl rfl) (ao_nil ?_)
     exact ⟨rfl, true, h, ⟨.nil, (sC rfl (sC rfl sub_nil))⟩⟩
    ·intro hb19; replace h := ocond_f hb19 h
     refine ao_yes rfl rfl rfl rfl rfl rfl (op1_move rfl rfl) ?_
     obtain ⟨x20, hx20, h⟩ := obind h
     refine ao_yes rfl rfl rfl rfl rfl rfl (op1_idxTN (s := a0) (i := 0) Try.underlying9 rfl rfl rfl hx20) ?_
     refine ao_yes rfl rfl rfl rfl rfl rfl ((op1_cmp rfl rfl rfl rfl).cast (y := (BO ((decide (((x20).toNat : Int) > (((122 : UInt8)).toNat : Int)))))) rfl rfl) ?_
     refine sS rfl rfl rfl (op1_pickF rfl rfl rfl) (ao_nil ?_)
     exact ⟨rfl, (decide (((x20).toNat : Int) > (((122 : UInt8)).toNat : Int))), h, ⟨.nil, (sC rfl (sC rfl sub_nil))⟩⟩
noncomputable def value_fields_j1 (g1 : Nat → Option Int) (s2 : Nat) (s6 : Bool) : Option Int :=
 bif s6 then (
  some 8
 ) else (
  g1 (s2 + 1)
 )
theorem value_fields_j1_cm {ι : Type} {ρ : ι → Type} (g1 : (∀ i, Option (ρ i)) → Nat → Option Int) (h_g1 : ∀ y0, CM (fun G => g1 G y0)) (s2 : Nat) (s6 : Bool) : CM (fun G : (∀ i, Option (ρ i)) => value_fields_j1 (g1 G) s2 s6) := by
 simp only [value_fields_j1]
 repeat (first | exact cm_const | exact h_g1 _ | refine cm_cond ?_ ?_ | refine cm_bind ?_ (fun _ => ?_))
noncomputable def value_fields_l1b (a0 : (List (Str × V))) (g1 : Nat → Option Int) (s2 : Nat) : Option Int :=
 bif (decide (((s2 : Nat) : Int) < (((a0).length : Nat) : Int))) then (
  Option.bind ((a0)[s2]?) fun x5 =>
  Option.bind (p_value_name x5.1) fun x8 =>
  bif (!x8) then (
   value_fields_j1 g1 s2 true
  ) else (
   bif (decide (((s2 : Nat) : Int) > 0)) then (
    Option.bind (idxI a0 (IntKind.i64.wrap (((s2 : Nat) : Int) - 1))) fun x11 =>
    value_fields_j1 g1 s2 (Op.bytesLess x5.1 x11.1 || x5.1 == x11.1)
   ) else (
    value_fields_j1 g1 s2 false
   )
  )
 ) else (
  some 0
 )
theorem value_fields_l1b_cm {ι : Type} {ρ : ι → Type} (g1 : (∀ i, Option (ρ i)) → Nat → Option Int) (h_g1 : ∀ y0, CM (fun G => g1 G y0)) (a0 : (List (Str × V))) (s2 : Nat) : CM (fun G : (∀ i, Option (ρ i)) => value_fields_l1b a0 (g1 G) s2) := by
 simp only [value_fields_l1b]
 repeat (first | exact cm_const | exact h_g1 _ | apply value_fields_j1_cm | refine cm_cond ?_ ?_ | refine cm_bind ?_ (fun _ => ?_) | intro _ | assumption)
noncomputable def value_fields_l1 (a0 : (List (Str × V))) (s2 : Nat) : Option Int :=
 fixO (ι := Nat) (ρ := fun _ => Int) (fun g i => value_fields_l1b a0 (fun s2 => g s2) i) s2
theorem value_fields_l1_eq (a0 : (List (Str × V))) (s2 : Nat) : value_fields_l1 a0 s2 = value_fields_l1b a0 (value_fields_l1 a0) s2 :=
 fixO_eq (ι := Nat) (ρ := fun _ => Int) (Φ := fun g i => value_fields_l1b a0 (fun s2 => g s2) i) (fun i => value_fields_l1b_cm (ι := Nat) (ρ := fun _ => Int) (fun g => (fun s2 => g s2)) (fun _ => cm_app) a0 i) s2
noncomputable def p_value_fields (a0 : (List (Str × V))) : Option Int :=
 bif (decide ((((a0).length : Nat) : Int) > 4096)) then (
  some 2
 ) else (
  value_fields_l1 a0 0
 )
theorem s_value_fields (a0 : (List (Str × V))) (r : Int) (h : p_value_fields a0 = some r) : PCalls Try.prog 74 [(PV.sl none 55 2 (List.map ofFld a0))] (I64 r) := by
 unfold p_value_fields at h
 refine acalls_of Try.func74 rfl Try.ntmps74 Try.results74 rfl (aw_of_bw ?_)
 change BW _ _ _ ⟨[(0, (PV.sl none 55 2 (List.map ofFld a0)))], [], _⟩ _
 refine bR ?_
 refine sA rfl rfl rfl rfl rfl (ao_nil ?_)
 change BW _ _ _ _ _
 refine bw_seq ?_
 refine bR ?_
 refine sM rfl rfl rfl rfl rfl ?_
 refine sS rfl rfl rfl (op1_lenM Try.underlying49 rfl rfl) ?_
 refine sS rfl rfl rfl ((op1_cmp rfl rfl rfl rfl).cast (y := (BO ((decide ((((a0).length : Nat) : Int) > 4096))))) rfl rfl) (ao_nil ?_)
 change BW _ _ _ _ _
 refine bw_cond rfl ?_ ?_
 ·intro hc1; replace h := ocond_t hc1 h
  refine bR ?_
  refine sA rfl rfl rfl rfl rfl (ao_nil ?_)
  change BW _ _ _ _ _
  refine bw_ret ?_
  change ∃ xs, _ = some xs ∧ EndOk _ _ _ _
  obtain rfl := Option.some.inj h
  exact ⟨_, rfl, endOk0 (y := (I64 2)) (Wk.refl _) rfl ⟨rfl, rfl⟩⟩
 ·intro hc1; replace h := ocond_f hc1 h
  refine bw_skip ?_
  change BW _ _ _ _ _
  refine bw_seq ?_
  refine bR ?_
  refine sM rfl rfl rfl rfl rfl ?_
  refine sS rfl rfl rfl (op1_lenM Try.underlying49 rfl rfl) ?_
  refine sM rfl rfl rfl rfl rfl (ao_nil ?_)
  change BW _ _ _ _ _
  refine bw_block ?_
  change BW _ _ _ _ _
  unfold value_fields_l1 at h
  refine bw_loop (σ := Nat) (fun i => [(0, (PV.sl none 55 2 (List.map ofFld a0))), (8, (PV.sl none 55 2 (List.map ofFld a0))), (9, (I64 ((((a0).length : Nat) : Int)))), (10, (I64 (((i : Nat) : Int))))]) (fun i => []) 0 h ?_ ?_ ?_
  ·intro i; exact ⟨Nat.le_of_ble_eq_true rfl, ⟨(il_nil (ids_slM ids_Fld _)), ⟨(il_nil (ids_slM ids_Fld _)), ⟨(il_nil rfl), ⟨(il_nil rfl), trivial⟩⟩⟩⟩, trivial⟩
  ·exact ⟨.nil, (sC rfl (sC rfl (sC rfl (sC rfl sub_nil))))⟩
  ·rintro g1_f s2 h; replace h : value_fields_l1b a0 (fun y0 => g1_f y0) s2 = some r := h; unfold value_fields_l1b at h
   change BW _ _ _ ⟨[(0, (PV.sl none 55 2 (List.map ofFld a0))), (8, (PV.sl none 55 2 (List.map ofFld a0))), (9, (I64 ((((a0).length : Nat) : Int)))), (10, (I64 (((s2 : Nat) : Int))))], [], _⟩ _
   refine bR ?_
   refine sS rfl rfl rfl ((op1_cmp rfl rfl rfl rfl).cast (y := (BO ((decide (((s2 : Nat) : Int) < (((a0).length : Nat) : Int)))))) rfl rfl) (ao_nil ?_)
   change BW _ _ _ _ _
   refine bw_seq ?_
   refine bw_len (t := 8) rfl fun hb4 => ?_
   try rw [List.length_map] at hb4
   refine bw_cond rfl ?_ ?_
   ·intro hc3; replace h := ocond_t hc3 h
    have hc3_ := of_decide_eq_true hc3
    refine bw_skip ?_
    change BW _ _ _ _ _
    refine bw_seq ?_
    refine bw_block ?_
    change BW _ _ _ _ _
    refine bR ?_
    refine sM rfl rfl rfl rfl rfl ?_
    obtain ⟨x5, hx5, h⟩ := obind h
    refine sS rfl rfl rfl (op1_idxN (i := s2) Try.underlying49 inf_55 rfl rfl rfl hx5 rfl) ?_
    refine sS rfl rfl rfl (op1_ldPW inf_55 Try.underlying55 rfl rfl rfl rfl rfl) ?_
    refine sS rfl rfl rfl ((op1_alloc inf_55 rfl).cast (H'' := [.box 55 [(ofStr []), (ofV V.nil)]]) rfl (by simp only [mk_nil]; rfl)) ?_
    refine sA rfl rfl rfl rfl rfl ?_
    refine ao_step0 rfl rfl (op1_store inf_55 rfl rfl rfl rfl rfl rfl (Nat.le_of_ble_eq_true rfl) (by show List.all [(ofStr x5.1), (ofV x5.2)] one1 = true; simp only [List.all_cons, List.all_nil, one_V, one_RecP, Bool.and_true, Bool.true_and]; try rfl)) ?_
    refine ao_nil ?_
    change BW _ _ _ _ _
    refine bw_seqJ (ι := Bool) (fun i => value_fields_j1 (fun y0 => g1_f y0) s2 i = some r) (fun i => [(0, (PV.sl none 55 2 (List.map ofFld a0))), (8, (PV.sl none 55 2 (List.map ofFld a0))), (9, (I64 ((((a0).length : Nat) : Int)))), (10, (I64 (((s2 : Nat) : Int)))), (33, (BO i))]) (fun i => []) ?_ ?_ ?_
    ·intro i; exact ⟨Nat.le_of_ble_eq_true rfl, ⟨(il_nil (ids_slM ids_Fld _)), ⟨(il_nil (ids_slM ids_Fld _)), ⟨(il_nil rfl), ⟨(il_nil rfl), ⟨(il_nil rfl), trivial⟩⟩⟩⟩⟩, trivial⟩
    ·rintro s6 h; replace h : value_fields_j1 (fun y0 => g1_f y0) s2 s6 = some r := h; unfold value_fields_j1 at h
     change BW _ _ _ ⟨[(0, (PV.sl none 55 2 (List.map ofFld a0))), (8, (PV.sl none 55 2 (List.map ofFld a0))), (9, (I64 ((((a0).length : Nat) : Int)))), (10, (I64 (((s2 : Nat) : Int)))), (33, (BO s6))], [], _⟩ _
     refine bw_cond rfl ?_ ?_
     ·intro hc7; replace h := ocond_t hc7 h
      refine bR ?_
      refine sA rfl rfl rfl rfl rfl (ao_nil ?_)
      change BW _ _ _ _ _
      refine bw_ret ?_
      change ∃ xs, _ = some xs ∧ EndOk _ _ _ _
      obtain rfl := Option.some.inj h
      exact ⟨_, rfl, endOk0 (y := (I64 8)) (Wk.refl _) rfl ⟨rfl, rfl⟩⟩
     ·intro hc7; replace h := ocond_f hc7 h
      refine bw_skip ?_
      change BW _ _ _ _ _
      refine bw_region ?_
      refine sS rfl rfl rfl (op1_incN (k := s2) (c := 1) rfl rfl rfl (by omega)) ?_
      refine sM rfl rfl rfl rfl rfl (ao_nil ?_)
      exact ⟨rfl, (s2 + 1), h, ⟨.nil, (sC rfl (sC rfl (sC rfl (sC rfl sub_nil))))⟩⟩
    ·refine bw_tail 16 [] [0] mo (by kernel_rfl) ?_
     refine ac_go rfl rfl rfl rfl (fun H hp => op1_faR st_55 (i := 0) rfl rfl rfl) ?_
     refine ac_go rfl rfl rfl rfl (fun H hp => (op1_ldR Try.underlying9 rfl rfl rfl (hp.at rfl rfl) rfl)) ?_
     obtain ⟨x8, hx8, h⟩ := obind h
     refine ac_go rfl rfl rfl rfl (fun H hp => op1_pcall rfl en_75 rfl (.cons (Wk.refl _) .nil) ⟨rfl, trivial⟩ (s_value_name x5.1 x8 hx8) rfl) ?_
     refine ac_go rfl rfl rfl rfl (fun H hp => op1_not rfl rfl) ?_
     refine ac_go rfl rfl rfl rfl (fun H hp => op1_move rfl rfl) ?_
     refine ac_cases 19 rfl ?_ ?_
     ·intro hb9; replace h := ocond_t hb9 h
      refine ac_no rfl rfl rfl rfl rfl rfl rfl ?_
      refine ac_no rfl rfl rfl rfl rfl rfl rfl ?_
      refine ac_no rfl rfl rfl rfl rfl rfl rfl ?_
      refine ac_no rfl rfl rfl rfl rfl rfl rfl ?_
      refine ac_no rfl rfl rfl rfl rfl rfl rfl ?_
      refine ac_no rfl rfl rfl rfl rfl rfl rfl ?_
      refine ac_no rfl rfl rfl rfl rfl rfl rfl ?_
      refine ac_no rfl rfl rfl rfl rfl rfl rfl ?_
      refine ac_no rfl rfl rfl rfl rfl rfl rfl ?_
      refine ac_no rfl rfl rfl rfl rfl rfl rfl ?_
      refine ac_no rfl rfl rfl rfl rfl rfl rfl ?_
      refine ac_nil ?_
      change AO _ _ _ _ _
      refine ao_no rfl rfl rfl rfl rfl rfl ?_
      refine ao_no rfl rfl rfl rfl rfl rfl ?_
      refine sS rfl rfl rfl (op1_pickT rfl rfl rfl) (ao_nil ?_)
      exact ⟨rfl, true, h, ⟨.nil, (sC rfl (sC rfl (sC rfl (sC rfl (sC rfl sub_nil)))))⟩⟩
     ·intro hb9; replace h := ocond_f hb9 h
      refine ac_yes rfl rfl rfl rfl rfl rfl rfl (fun H hp => op1_move rfl rfl) ?_
      refine ac_yes rfl rfl rfl rfl rfl rfl rfl (fun H hp => (op1_cmp rfl rfl rfl rfl).cast (y := (BO ((decide (((s2 : Nat) : Int) > 0))))) rfl rfl) ?_
      refine ac_yes rfl rfl rfl rfl rfl rfl rfl (fun H hp => op1_move rfl rfl) ?_
      refine ac_cases 22 rfl ?_ ?_
      ·intro hb10; replace h := ocond_t hb10 h
       refine ac_yes rfl rfl rfl rfl rfl rfl rfl (fun H hp => op1_faR st_55 (i := 0) rfl rfl rfl) ?_
       refine ac_yes rfl rfl rfl rfl rfl rfl rfl (fun H hp => (op1_ldR Try.underlying9 rfl rfl rfl (hp.at rfl rfl) rfl)) ?_
       refine ac_yes rfl rfl rfl rfl rfl rfl rfl (fun H hp => op1_move rfl rfl) ?_
       refine ac_yes rfl rfl rfl rfl rfl rfl rfl (fun H hp => op1_move rfl rfl) ?_
       refine ac_yes rfl rfl rfl rfl rfl rfl rfl (fun H hp => op1_subW rfl rfl rfl) ?_
       obtain ⟨x11, hx11, h⟩ := obind h
       refine ac_yes rfl rfl rfl rfl rfl rfl rfl (fun H hp => op1_idxM Try.underlying49 inf_55 rfl rfl rfl hx11 rfl) ?_
       refine ac_yes rfl rfl rfl rfl rfl rfl rfl (fun H hp => op1_faP st_55 (i := 0) rfl rfl rfl) ?_
       refine ac_yes rfl rfl rfl rfl rfl rfl rfl (fun H hp => op1_ldP (y := (ofStr x11.1)) Try.underlying9 rfl rfl rfl rfl) ?_
       refine ac_nil ?_
       change AO _ _ _ _ _
       refine ao_yes rfl rfl rfl rfl rfl rfl ((op1_cmpT (a := x5.1) (b := x11.1) rfl rfl rfl rfl).cast (y := (BO ((Op.bytesLess x5.1 x11.1 || x5.1 == x11.1)))) rfl rfl) ?_
       refine ao_yes rfl rfl rfl rfl rfl rfl (op1_pickT rfl rfl rfl) ?_
       refine sS rfl rfl rfl (op1_pickF rfl rfl rfl) (ao_nil ?_)
       exact ⟨rfl, (Op.bytesLess x5.1 x11.1 || x5.1 == x11.1), h, ⟨.nil, (sC rfl (sC rfl (sC rfl (sC rfl (sC rfl sub_nil)))))⟩⟩
      ·intro hb10; replace h := ocond_f hb10 h
       refine ac_no rfl rfl rfl rfl rfl rfl rfl ?_
       refine ac_no rfl rfl rfl rfl rfl rfl rfl ?_
       refine ac_no rfl rfl rfl rfl rfl rfl rfl ?_
       refine ac_no rfl rfl rfl rfl rfl rfl rfl ?_
       refine ac_no rfl rfl rfl rfl rfl rfl rfl ?_
       refine ac_no rfl rfl rfl rfl rfl rfl rfl ?_
       refine ac_no rfl rfl rfl rfl rfl rfl rfl ?_
       refine ac_no rfl rfl rfl rfl rfl rfl rfl ?_
       refine ac_nil ?_
       change AO _ _ _ _ _
       refine ao_no rfl rfl rfl rfl rfl rfl ?_
       refine ao_yes rfl rfl rfl rfl rfl rfl (op1_pickF rfl rfl rfl) ?_
       refine sS rfl rfl rfl (op1_pickF rfl rfl rfl) (ao_nil ?_)
       exact ⟨rfl, false, h, ⟨.nil, (sC rfl (sC rfl (sC rfl (sC rfl (sC rfl sub_nil)))))⟩⟩
   ·intro hc3; replace h := ocond_f hc3 h
    refine bw_exit ?_
    change BW _ _ _ _ _
    refine bR ?_
    refine sA rfl rfl rfl rfl rfl (ao_nil ?_)
    change BW _ _ _ _ _
    refine bw_ret ?_
    change ∃ xs, _ = some xs ∧ EndOk _ _ _ _
    obtain rfl := Option.some.inj h
    exact ⟨_, rfl, endOk0 (y := (I64 0)) (Wk.refl _) rfl ⟨rfl, rfl⟩⟩
noncomputable def value_own_j2 : Option Int :=
 some 0
noncomputable def value_own_j3 (x16 : Rec) (s19 : Bool) : Option Int :=
 bif s19 then (
  some 1
 ) else (
  Option.bind (p_value_fields x16.fields) fun x21 =>
  some x21
 )
noncomputable def value_own_j1 (a0 : V) (s1 : Bool) : Option Int :=
 bif s1 then (
  Option.bind (p_value_kind a0) fun x3 =>
  bif (x3 == 11) then (
   some 7
  ) else (
   bif (x3 == 0) then (
    some 6
   ) else (
    some 2
   )
  )
 ) else (
  bif (a0).isText then (
   bif (decide (((((a0).asText).length : Nat) : Int) > 65536)) then (
    some 2
   ) else (
    value_own_j2
   )
  ) else (
   bif (a0).isBytes then (
    bif (decide (((((a0).asBytes).length : Nat) : Int) > 65536)) then (
     some 2
    ) else (
     value_own_j2
    )
   ) else (
    bif (a0).isList then (
     bif (decide (((((a0).asList).length : Nat) : Int) > 4096)) then (
      some 2
     ) else (
      value_own_j2
     )
    ) else (
     bif (a0).isDict then (
      Option.bind (p_value_fields ((a0).asDict)) fun x13 =>
      some x13
     ) else (
      bif (a0).isRec then (
       bif ((a0).asRec).isNone then (
        some 7
       ) else (
        Option.bind ((a0).asRec) fun x16 =>
        Option.bind (p_value_name x16.cls) fun x17 =>
        bif (!x17) then (
         some 8
        ) else (
         bif (decide (x16.ver < 1)) then (
          value_own_j3 x16 true
         ) else (
          value_own_j3 x16 (decide (x16.ver > 1000))
         )
        )
       )
      ) else (
       Option.bind (p_value_kind a0) fun x23 =>
       bif (x23 == 0) then (
        some 6
       ) else (
        value_own_j2
       )
      )
     )
    )
   )
  )
 )
noncomputable def p_value_own (a0 : V) (a1 : Int) (a2 : Int) : Option Int :=
 bif (decide (a1 ≥ 16384)) then (
  value_own_j1 a0 true
 ) else (
  value_own_j1 a0 (decide (a2 > 64))
 )
theorem s_value_own (a0 : V) (a1 : Int) (a2 : Int) (r : Int) (h : p_value_own a0 a1 a2 = some r) : PCalls Try.prog 58 [(ofV a0), (I64 a1), (I64 a2)] (I64 r) := by
 unfold p_value_own at h
 refine acalls_of Try.func58 rfl Try.ntmps58 Try.results58 rfl (aw_of_bw ?_)
 change BW _ _ _ ⟨[(0, (ofV a0)), (1, (I64 a1)), (2, (I64 a2))], [], _⟩ _
 refine bR ?_
 refine sA rfl rfl rfl rfl rfl (ao_nil ?_)
 change BW _ _ _ _ _
 refine bw_seq ?_
 refine bw_seqJ (ι := Bool) (fun i => value_own_j1 a0 i = some r) (fun i => [(0, (ofV a0)), (18, (BO i))]) (fun i => []) ?_ ?_ ?_
 ·intro i; exact ⟨Nat.le_of_ble_eq_true rfl, ⟨(il_nil (ids_V _)), ⟨(il_nil rfl), trivial⟩⟩, trivial⟩
 ·rintro s1 h; replace h : value_own_j1 a0 s1 = some r := h; unfold value_own_j1 at h
  change BW _ _ _ ⟨[(0, (ofV a0)), (18, (BO s1))], [], _⟩ _
  refine bw_cond rfl ?_ ?_
  ·intro hc2; replace h := ocond_t hc2 h
   refine bw_seq ?_
   refine bR ?_
   refine sM rfl rfl rfl rfl rfl ?_
   obtain ⟨x3, hx3, h⟩ := obind h
   refine sS rfl rfl rfl (op1_pcall rfl en_33 rfl (.cons (Wk.refl _) .nil) ⟨(ids_V a0), trivial⟩ (s_value_kind a0 x3 hx3) rfl) (ao_nil ?_)
   change BW _ _ _ _ _
   refine bw_block ?_
   change BW _ _ _ _ _
   refine bR ?_
   refine sS rfl rfl rfl ((op1_cmp rfl rfl rfl rfl).cast (y := (BO ((x3 == 11)))) rfl rfl) ?_
   refine sA rfl rfl rfl rfl rfl (ao_nil ?_)
   change BW _ _ _ _ _
   refine bw_cond rfl ?_ ?_
   ·intro hc4; replace h := ocond_t hc4 h
    refine bR ?_
    refine sA rfl rfl rfl rfl rfl (ao_nil ?_)
    change BW _ _ _ _ _
    refine bw_ret ?_
    change ∃ xs, _ = some xs ∧ EndOk _ _ _ _
    obtain rfl := Option.some.inj h
    exact ⟨_, rfl, endOk0 (y := (I64 7)) (Wk.refl _) rfl ⟨rfl, rfl⟩⟩
   ·intro hc4; replace h := ocond_f hc4 h
    refine bR ?_
    refine sS rfl rfl rfl ((op1_cmp rfl rfl rfl rfl).cast (y := (BO ((x3 == 0)))) rfl rfl) ?_
    refine sA rfl rfl rfl rfl rfl (ao_nil ?_)
    change BW _ _ _ _ _
    refine bw_cond rfl ?_ ?_
    ·intro hc5; replace h := ocond_t hc5 h
     refine bR ?_
     refine sA rfl rfl rfl rfl rfl (ao_nil ?_)
     change BW _ _ _ _ _
     refine bw_ret ?_
     change ∃ xs, _ = some xs ∧ EndOk _ _ _ _
     obtain rfl := Option.some.inj h
     exact ⟨_, rfl, endOk0 (y := (I64 6)) (Wk.refl _) rfl ⟨rfl, rfl⟩⟩
    ·intro hc5; replace h := ocond_f hc5 h
     refine bw_skip ?_
     change BW _ _ _ _ _
     refine bR ?_
     refine sA rfl rfl rfl rfl rfl (ao_nil ?_)
     change BW _ _ _ _ _
     refine bw_ret ?_
     change ∃ xs, _ = some xs ∧ EndOk _ _ _ _
     obtain rfl := Option.some.inj h
     exact ⟨_, rfl, endOk0 (y := (I64 2)) (Wk.refl _) rfl ⟨rfl, rfl⟩⟩
  ·intro hc2; replace h := ocond_f hc2 h
   refine bw_skip ?_
   change BW _ _ _ _ _
   refine bw_seqJ (ι := Unit) (fun i => value_own_j2 = some r) (fun i => []) (fun i => []) ?_ ?_ ?_
   ·intro i; exact ⟨Nat.le_of_ble_eq_true rfl, trivial, trivial⟩
   ·rintro ⟨⟩ h; replace h : value_own_j2 = some r := h; unfold value_own_j2 at h
    change BW _ _ _ ⟨[], [], _⟩ _
    refine bR ?_
    refine sA rfl rfl rfl rfl rfl (ao_nil ?_)
    change BW _ _ _ _ _
    refine bw_ret ?_
    change ∃ xs, _ = some xs ∧ EndOk _ _ _ _
    obtain rfl := Option.some.inj h
    exact ⟨_, rfl, endOk0 (y := (I64 0)) (Wk.refl _) rfl ⟨rfl, rfl⟩⟩
   ·refine bR ?_
    refine sM rfl rfl rfl rfl rfl (ao_nil ?_)
    change BW _ _ _ _ _
    refine bw_block ?_
    change BW _ _ _ _ _
    refine bR ?_
    refine sS rfl rfl rfl (op1_taText rfl rfl) ?_
    refine sS rfl rfl rfl (op1_ext rfl rfl rfl) ?_
    refine sS rfl rfl rfl (op1_ext rfl rfl rfl) (ao_nil ?_)
    change BW _ _ _ _ _
    refine bw_cond rfl ?_ ?_
    ·intro hc6; replace h := ocond_t hc6 h
     refine bR ?_
     refine sA rfl rfl rfl rfl rfl (ao_nil ?_)
     change BW _ _ _ _ _
     refine bR ?_
     refine sM rfl rfl rfl rfl rfl ?_
     refine sS rfl rfl rfl (op1_lenT (s := ((a0).asText)) Try.underlying9 rfl rfl) ?_
     refine sS rfl rfl rfl ((op1_cmp rfl rfl rfl rfl).cast (y := (BO ((decide (((((a0).asText).length : Nat) : Int) > 65536))))) rfl rfl) (ao_nil ?_)
     change BW _ _ _ _ _
     refine bw_cond rfl ?_ ?_
     ·intro hc7; replace h := ocond_t hc7 h
      refine bR ?_
      refine sA rfl rfl rfl rfl rfl (ao_nil ?_)
      change BW _ _ _ _ _
      refine bw_ret ?_
      change ∃ xs, _ = some xs ∧ EndOk _ _ _ _
      obtain rfl := Option.some.inj h
      exact ⟨_, rfl, endOk0 (y := (I64 2)) (Wk.refl _) rfl ⟨rfl, rfl⟩⟩
     ·intro hc7; replace h := ocond_f hc7 h
      refine bw_skip ?_
      exact ⟨rfl, (), h, ⟨.nil, sub_nil⟩⟩
    ·intro hc6; replace h := ocond_f hc6 h
     refine bR ?_
     refine sS rfl rfl rfl (op1_taBytes rfl rfl) ?_
     refine sS rfl rfl rfl (op1_ext rfl rfl rfl) ?_
     refine sS rfl rfl rfl (op1_ext rfl rfl rfl) (ao_nil ?_)
     change BW _ _ _ _ _
     refine bw_cond rfl ?_ ?_
     ·intro hc8; replace h := ocond_t hc8 h
      refine bR ?_
      refine sA rfl rfl rfl rfl rfl (ao_nil ?_)
      change BW _ _ _ _ _
      refine bR ?_
      refine sM rfl rfl rfl rfl rfl ?_
      refine sS rfl rfl rfl (op1_lenM Try.underlying23 rfl rfl) ?_
      refine sS rfl rfl rfl ((op1_cmp rfl rfl rfl rfl).cast (y := (BO ((decide (((((a0).asBytes).length : Nat) : Int) > 65536))))) rfl rfl) (ao_nil ?_)
      change BW _ _ _ _ _
      refine bw_cond rfl ?_ ?_
      ·intro hc9; replace h := ocond_t hc9 h
       refine bR ?_
       refine sA rfl rfl rfl rfl rfl (ao_nil ?_)
       change BW _ _ _ _ _
       refine bw_ret ?_
       change ∃ xs, _ = some xs ∧ EndOk _ _ _ _
       obtain rfl := Option.some.inj h
       exact ⟨_, rfl, endOk0 (y := (I64 2)) (Wk.refl _) rfl ⟨rfl, rfl⟩⟩
      ·intro hc9; replace h := ocond_f hc9 h
       refine bw_skip ?_
       exact ⟨rfl, (), h, ⟨.nil, sub_nil⟩⟩
     ·intro hc8; replace h := ocond_f hc8 h
      refine bR ?_
      refine sS rfl rfl rfl (op1_taList rfl rfl) ?_
      refine sS rfl rfl rfl (op1_ext rfl rfl rfl) ?_
      refine sS rfl rfl rfl (op1_ext rfl rfl rfl) (ao_nil ?_)
      change BW _ _ _ _ _
      refine bw_cond rfl ?_ ?_
      ·intro hc10; replace h := ocond_t hc10 h
       refine bR ?_
       refine sA rfl rfl rfl rfl rfl (ao_nil ?_)
       change BW _ _ _ _ _
       refine bR ?_
       refine sM rfl rfl rfl rfl rfl ?_
       refine sS rfl rfl rfl (op1_lenM Try.underlying47 rfl rfl) ?_
       refine sS rfl rfl rfl ((op1_cmp rfl rfl rfl rfl).cast (y := (BO ((decide (((((a0).asList).length : Nat) : Int) > 4096))))) rfl rfl) (ao_nil ?_)
       change BW _ _ _ _ _
       refine bw_cond rfl ?_ ?_
       ·intro hc11; replace h := ocond_t hc11 h
        refine bR ?_
        refine sA rfl rfl rfl rfl rfl (ao_nil ?_)
        change BW _ _ _ _ _
        refine bw_ret ?_
        change ∃ xs, _ = some xs ∧ EndOk _ _ _ _
        obtain rfl := Option.some.inj h
        exact ⟨_, rfl, endOk0 (y := (I64 2)) (Wk.refl _) rfl ⟨rfl, rfl⟩⟩
       ·intro hc11; replace h := ocond_f hc11 h
        refine bw_skip ?_
        exact ⟨rfl, (), h, ⟨.nil, sub_nil⟩⟩
      ·intro hc10; replace h := ocond_f hc10 h
       refine bR ?_
       refine sS rfl rfl rfl (op1_taDict rfl rfl) ?_
       refine sS rfl rfl rfl (op1_ext rfl rfl rfl) ?_
       refine sS rfl rfl rfl (op1_ext rfl rfl rfl) (ao_nil ?_)
       change BW _ _ _ _ _
       refine bw_cond rfl ?_ ?_
       ·intro hc12; replace h := ocond_t hc12 h
        refine bR ?_
        refine sA rfl rfl rfl rfl rfl (ao_nil ?_)
        change BW _ _ _ _ _
        refine bR ?_
        refine sM rfl rfl rfl rfl rfl ?_
        obtain ⟨x13, hx13, h⟩ := obind h
        refine sS rfl rfl rfl (op1_pcall rfl en_74 rfl (.cons (Wk.refl _) .nil) ⟨(ids_slM ids_Fld ((a0).asDict)), trivial⟩ (s_value_fields ((a0).asDict) x13 hx13) rfl) ?_
        refine sA rfl rfl rfl rfl rfl (ao_nil ?_)
        change BW _ _ _ _ _
        refine bw_ret ?_
        change ∃ xs, _ = some xs ∧ EndOk _ _ _ _
        obtain rfl := Option.some.inj h
        exact ⟨_, rfl, endOk0 (y := (I64 x13)) (Wk.refl _) rfl ⟨rfl, rfl⟩⟩
       ·intro hc12; replace h := ocond_f hc12 h
        refine bR ?_
        refine sS rfl rfl rfl (op1_taRec rfl rfl) ?_
        refine sS rfl rfl rfl (op1_ext rfl rfl rfl) ?_
        refine sS rfl rfl rfl (op1_ext rfl rfl rfl) (ao_nil ?_)
        change BW _ _ _ _ _
        refine bw_cond rfl ?_ ?_
        ·intro hc14; replace h := ocond_t hc14 h
         refine bR ?_
         refine sA rfl rfl rfl rfl rfl (ao_nil ?_)
         change BW _ _ _ _ _
         refine bw_seq ?_
         refine bw_block ?_
         change BW _ _ _ _ _
         refine bR ?_
         refine sM rfl rfl rfl rfl rfl ?_
         refine sS rfl rfl rfl (op1_pEqNil Try.underlying50 rfl rfl) ?_
         refine sA rfl rfl rfl rfl rfl (ao_nil ?_)
         change BW _ _ _ _ _
         refine bw_cond rfl ?_ ?_
         ·intro hc15; replace h := ocond_t hc15 h
          refine bR ?_
          refine sA rfl rfl rfl rfl rfl (ao_nil ?_)
          change BW _ _ _ _ _
          refine bw_ret ?_
          change ∃ xs, _ = some xs ∧ EndOk _ _ _ _
          obtain rfl := Option.some.inj h
          exact ⟨_, rfl, endOk0 (y := (I64 7)) (Wk.refl _) rfl ⟨rfl, rfl⟩⟩
         ·intro hc15; replace h := ocond_f hc15 h
          refine bR ?_
          refine sM rfl rfl rfl rfl rfl ?_
          obtain ⟨x16, hx16, h⟩ := obind h
          refine sS rfl rfl rfl (op1_pNil rfl rfl hx16) ?_
          refine sS rfl rfl rfl (op1_faP st_60 (i := 0) rfl rfl rfl) ?_
          refine sS rfl rfl rfl (op1_ldP (y := (ofStr x16.cls)) Try.underlying9 rfl rfl rfl rfl) ?_
          obtain ⟨x17, hx17, h⟩ := obind h
          refine sS rfl rfl rfl (op1_pcall rfl en_75 rfl (.cons (Wk.refl _) .nil) ⟨rfl, trivial⟩ (s_value_name x16.cls x17 hx17) rfl) ?_
          refine sS rfl rfl rfl (op1_not rfl rfl) ?_
          refine sA rfl rfl rfl rfl rfl (ao_nil ?_)
          change BW _ _ _ _ _
          refine bw_cond rfl ?_ ?_
          ·intro hc18; replace h := ocond_t hc18 h
           refine bR ?_
           refine sA rfl rfl rfl rfl rfl (ao_nil ?_)
           change BW _ _ _ _ _
           refine bw_ret ?_
           change ∃ xs, _ = some xs ∧ EndOk _ _ _ _
           obtain rfl := Option.some.inj h
           exact ⟨_, rfl, endOk0 (y := (I64 8)) (Wk.refl _) rfl ⟨rfl, rfl⟩⟩
          ·intro hc18; replace h := ocond_f hc18 h
           refine bw_seqJ (ι := Bool) (fun i => value_own_j3 x16 i = some r) (fun i => [(11, (ofRecP (a0).asRec)), (65, (BO i))]) (fun i => []) ?_ ?_ ?_
           ·intro i; exact ⟨Nat.le_of_ble_eq_true rfl, ⟨(il_nil (ids_RecP _)), ⟨(il_nil rfl), trivial⟩⟩, trivial⟩
           ·rintro s19 h; replace h : value_own_j3 x16 s19 = some r := h; unfold value_own_j3 at h
            change BW _ _ _ ⟨[(11, (ofRecP (a0).asRec)), (65, (BO s19))], [], _⟩ _
            refine bw_cond rfl ?_ ?_
            ·intro hc20; replace h := ocond_t hc20 h
             refine bR ?_
             refine sA rfl rfl rfl rfl rfl (ao_nil ?_)
             change BW _ _ _ _ _
             refine bw_ret ?_
             change ∃ xs, _ = some xs ∧ EndOk _ _ _ _
             obtain rfl := Option.some.inj h
             exact ⟨_, rfl, endOk0 (y := (I64 1)) (Wk.refl _) rfl ⟨rfl, rfl⟩⟩
            ·intro hc20; replace h := ocond_f hc20 h
             refine bw_skip ?_
             change BW _ _ _ _ _
             refine bR ?_
             refine sM rfl rfl rfl rfl rfl ?_
             refine sS rfl rfl rfl (op1_pNil rfl rfl hx16) ?_
             refine sS rfl rfl rfl (op1_faP st_60 (i := 2) rfl rfl rfl) ?_
             refine sS rfl rfl rfl (op1_ldP (y := (PV.sl none 55 2 (List.map ofFld x16.fields))) Try.underlying49 rfl rfl rfl rfl) ?_
             obtain ⟨x21, hx21, h⟩ := obind h
             refine sS rfl rfl rfl (op1_pcall rfl en_74 rfl (.cons (Wk.refl _) .nil) ⟨(ids_slM ids_Fld x16.fields), trivial⟩ (s_value_fields x16.fields x21 hx21) rfl) ?_
             refine sA rfl rfl rfl rfl rfl (ao_nil ?_)
             change BW _ _ _ _ _
             refine bw_ret ?_
             change ∃ xs, _ = some xs ∧ EndOk _ _ _ _
             obtain rfl := Option.some.inj h
             exact ⟨_, rfl, endOk0 (y := (I64 x21)) (Wk.refl _) rfl ⟨rfl, rfl⟩⟩
           ·refine bw_region ?_
            refine sM rfl rfl rfl rfl rfl ?_
            refine sS rfl rfl rfl (op1_pNil rfl rfl hx16) ?_
            refine sS rfl rfl rfl (op1_faP st_60 (i := 1) rfl rfl rfl) ?_
            refine sS rfl rfl rfl (op1_ldP (y := (I64 x16.ver)) Try.underlying3 rfl rfl rfl rfl) ?_
            refine sS rfl rfl rfl ((op1_cmp rfl rfl rfl rfl).cast (y := (BO ((decide (x16.ver < 1))))) rfl rfl) ?_
            refine sM rfl rfl rfl rfl rfl ?_
            refine ao_cases (t := 71) rfl ?_ ?_
            ·intro hb22; replace h := ocond_t hb22 h
             refine ao_no rfl rfl rfl rfl rfl rfl ?_
             refine ao_no rfl rfl rfl rfl rfl rfl ?_
             refine ao_no rfl rfl rfl rfl rfl rfl ?_
             refine ao_no rfl rfl rfl rfl rfl rfl ?_
             refine ao_no rfl rfl rfl rfl rfl rfl ?_
             refine sS rfl rfl rfl (op1_pickT rfl rfl rfl) ?_
             refine sA rfl rfl rfl rfl rfl (ao_nil ?_)
             exact ⟨rfl, true, h, ⟨.nil, (sC rfl (sC rfl sub_nil))⟩⟩
            ·intro hb22; replace h := ocond_f hb22 h
             refine ao_yes rfl rfl rfl rfl rfl rfl (op1_move rfl rfl) ?_
             refine ao_yes rfl rfl rfl rfl rfl rfl (op1_pNil rfl rfl hx16) ?_
             refine ao_yes rfl rfl rfl rfl rfl rfl (op1_faP st_60 (i := 1) rfl rfl rfl) ?_
             refine ao_yes rfl rfl rfl rfl rfl rfl (op1_ldP (y := (I64 x16.ver)) Try.underlying3 rfl rfl rfl rfl) ?_
             refine ao_yes rfl rfl rfl rfl rfl rfl ((op1_cmp rfl rfl rfl rfl).cast (y := (BO ((decide (x16.ver > 1000))))) rfl rfl) ?_
             refine sS rfl rfl rfl (op1_pickF rfl rfl rfl) ?_
             refine sA rfl rfl rfl rfl rfl (ao_nil ?_)
             exact ⟨rfl, (decide (x16.ver > 1000)), h, ⟨.nil, (sC rfl (sC rfl sub_nil))⟩⟩
        ·intro hc14; replace h := ocond_f hc14 h
         refine bR ?_
         refine sA rfl rfl rfl rfl rfl (ao_nil ?_)
         change BW _ _ _ _ _
         refine bR ?_
         refine sM rfl rfl rfl rfl rfl ?_
         obtain ⟨x23, hx23, h⟩ := obind h
         refine sS rfl rfl rfl (op1_pcall rfl en_33 rfl (.cons (Wk.refl _) .nil) ⟨(ids_V a0), trivial⟩ (s_value_kind a0 x23 hx23) rfl) ?_
         refine sS rfl rfl rfl ((op1_cmp rfl rfl rfl rfl).cast (y := (BO ((x23 == 0)))) rfl rfl) (ao_nil ?_)
         change BW _ _ _ _ _
         refine bw_cond rfl ?_ ?_
         ·intro hc24; replace h := ocond_t hc24 h
          refine bR ?_
          refine sA rfl rfl rfl rfl rfl (ao_nil ?_)
          change BW _ _ _ _ _
          refine bw_ret ?_
          change ∃ xs, _ = some xs ∧ EndOk _ _ _ _
          obtain rfl := Option.some.inj h
          exact ⟨_, rfl, endOk0 (y := (I64 6)) (Wk.refl _) rfl ⟨rfl, rfl⟩⟩
         ·intro hc24; replace h := ocond_f hc24 h
          refine bw_skip ?_
          exact ⟨rfl, (), h, ⟨.nil, sub_nil⟩⟩
 ·refine bw_region ?_
  refine sM rfl rfl rfl rfl rfl ?_
  refine sS rfl rfl rfl ((op1_cmp rfl rfl rfl rfl).cast (y := (BO ((decide (a1 ≥ 16384))))) rfl rfl) ?_
  refine sM rfl rfl rfl rfl rfl ?_
  refine ao_cases (t := 15) rfl ?_ ?_
  ·intro hb25; replace h := ocond_t hb25 h
   refine ao_no rfl rfl rfl rfl rfl rfl ?_
   refine ao_no rfl rfl rfl rfl rfl rfl ?_
   refine sS rfl rfl rfl (op1_pickT rfl rfl rfl) (ao_nil ?_)
   exact ⟨rfl, true, h, ⟨.nil, (sC rfl (sC rfl sub_nil))⟩⟩
  ·intro hb25; replace h := ocond_f hb25 h
   refine ao_yes rfl rfl rfl rfl rfl rfl (op1_move rfl rfl) ?_
   refine ao_yes rfl rfl rfl rfl rfl rfl ((op1_cmp rfl rfl rfl rfl).cast (y := (BO ((decide (a2 > 64))))) rfl rfl) ?_
   refine sS rfl rfl rfl (op1_pickF rfl rfl rfl) (ao_nil ?_)
   exact ⟨rfl, (decide (a2 > 64)), h, ⟨.nil, (sC rfl (sC rfl sub_nil))⟩⟩
noncomputable def value_count_all_l1b (r_value_count_part : S_value_count → V → Int → Option (Bool × S_value_count)) (a1 : (List (Str × V))) (a2 : Int) (g1 : Nat → Int → Int → Int → Option (Bool × S_value_count)) (s1 : Nat) (s2 : Int) (s3 : Int) (s4 : Int) : Option (Bool × S_value_count) :=
 bif (decide (((s1 : Nat) : Int) < (((a1).length : Nat) : Int))) then (
  Option.bind ((a1)[s1]?) fun x7 =>
  Option.bind (r_value_count_part (S_value_count.mk s2 s3 s4) x7.2 (IntKind.i64.wrap (a2 + 1))) fun x8 =>
  bif (!x8.1) then (
   some (false, (x8.2))
  ) else (
   g1 (s1 + 1) ((x8.2).f_n) ((x8.2).f_deep) ((x8.2).f_why)
  )
 ) else (
  some (true, (S_value_count.mk s2 s3 s4))
 )
theorem value_count_all_l1b_cm {ι : Type} {ρ : ι → Type} (r_value_count_part : (∀ i, Option (ρ i)) → S_value_count → V → Int → Option (Bool × S_value_count)) (h_r_value_count_part : ∀ y0 y1 y2, CM (fun G => r_value_count_part G y0 y1 y2)) (g1 : (∀ i, Option (ρ i)) → Nat → Int → Int → Int → Option (Bool × S_value_count)) (h_g1 : ∀ y0 y1 y2 y3, CM (fun G => g1 G y0 y1 y2 y3)) (a1 : (List (Str × V))) (a2 : Int) (s1 : Nat) (s2 : Int) (s3 : Int) (s4 : Int) : CM (fun G : (∀ i, Option (ρ i)) => value_count_all_l1b (r_value_count_part G) a1 a2 (g1 G) s1 s2 s3 s4) := by
 simp only [value_count_all_l1b]
 repeat (first | exact cm_const | exact h_r_value_count_part _ _ _ | exact h_g1 _ _ _ _ | refine cm_cond ?_ ?_ | refine cm_bind ?_ (fun _ => ?_))
noncomputable def value_count_all_l1 (r_value_count_part : S_value_count → V → Int → Option (Bool × S_value_count)) (a1 : (List (Str × V))) (a2 : Int) (s1 : Nat) (s2 : Int) (s3 : Int) (s4 : Int) : Option (Bool × S_value_count) :=
 fixO (ι := (Nat × Int × Int × Int)) (ρ := fun _ => (Bool × S_value_count)) (fun g i => value_count_all_l1b r_value_count_part a1 a2 (fun s1 s2 s3 s4 => g (s1, s2, s3, s4)) i.1 i.2.1 i.2.2.1 i.2.2.2) (s1, s2, s3, s4)
theorem value_count_all_l1_eq (r_value_count_part : S_value_count → V → Int → Option (Bool × S_value_count)) (a1 : (List (Str × V))) (a2 : Int) (s1 : Nat) (s2 : Int) (s3 : Int) (s4 : Int) : value_count_all_l1 r_value_count_part a1 a2 s1 s2 s3 s4 = value_count_all_l1b r_value_count_part a1 a2 (value_count_all_l1 r_value_count_part a1 a2) s1 s2 s3 s4 :=
 fixO_eq (ι := (Nat × Int × Int × Int)) (ρ := fun _ => (Bool × S_value_count)) (Φ := fun g i => value_count_all_l1b r_value_count_part a1 a2 (fun s1 s2 s3 s4 => g (s1, s2, s3, s4)) i.1 i.2.1 i.2.2.1 i.2.2.2) (fun i => value_count_all_l1b_cm (ι := (Nat × Int × Int × Int)) (ρ := fun _ => (Bool × S_value_count)) (fun _ => r_value_count_part) (fun _ _ _ => cm_const) (fun g => (fun s1 s2 s3 s4 => g (s1, s2, s3, s4))) (fun _ _ _ _ => cm_app) a1 a2 i.1 i.2.1 i.2.2.1 i.2.2.2) (s1, s2, s3, s4)
theorem value_count_all_l1_cm {ι : Type} {ρ : ι → Type} (r_value_count_part : (∀ i, Option (ρ i)) → S_value_count → V → Int → Option (Bool × S_value_count)) (h_r_value_count_part : ∀ y0 y1 y2, CM (fun G => r_value_count_part G y0 y1 y2)) (a1 : (List (Str × V))) (a2 : Int) (s1 : Nat) (s2 : Int) (s3 : Int) (s4 : Int) : CM (fun G : (∀ i, Option (ρ i)) => value_count_all_l1 (r_value_count_part G) a1 a2 s1 s2 s3 s4) :=
 cm_fix (κ := (Nat × Int × Int × Int)) (τ := fun _ => (Bool × S_value_count)) (Φ := fun G g i => value_count_all_l1b (r_value_count_part G) a1 a2 (fun s1 s2 s3 s4 => g (s1, s2, s3, s4)) i.1 i.2.1 i.2.2.1 i.2.2.2) (fun g i => value_count_all_l1b_cm r_value_count_part h_r_value_count_part (fun _ => (fun s1 s2 s3 s4 => g (s1, s2, s3, s4))) (fun _ _ _ _ => cm_const) a1 a2 i.1 i.2.1 i.2.2.1 i.2.2.2) (fun G i => value_count_all_l1b_cm (ι := (Nat × Int × Int × Int)) (ρ := fun _ => (Bool × S_value_count)) (fun _ => r_value_count_part G) (fun _ _ _ => cm_const) (fun g => (fun s1 s2 s3 s4 => g (s1, s2, s3, s4))) (fun _ _ _ _ => cm_app) a1 a2 i.1 i.2.1 i.2.2.1 i.2.2.2) (s1, s2, s3, s4)
noncomputable def b_value_count_all (r_value_count_all : S_value_count → (List (Str × V)) → Int → Option (Bool × S_value_count)) (r_value_count_part : S_value_count → V → Int → Option (Bool × S_value_count)) (a0 : S_value_count) (a1 : (List (Str × V))) (a2 : Int) : Option (Bool × S_value_count) :=
 value_count_all_l1 r_value_count_part a1 a2 0 a0.f_n a0.f_deep a0.f_why
theorem b_value_count_all_cm {ι : Type} {ρ : ι → Type} (r_value_count_all : (∀ i, Option (ρ i)) → S_value_count → (List (Str × V)) → Int → Option (Bool × S_value_count)) (h_r_value_count_all : ∀ y0 y1 y2, CM (fun G => r_value_count_all G y0 y1 y2)) (r_value_count_part : (∀ i, Option (ρ i)) → S_value_count → V → Int → Option (Bool × S_value_count)) (h_r_value_count_part : ∀ y0 y1 y2, CM (fun G => r_value_count_part G y0 y1 y2)) (a0 : S_value_count) (a1 : (List (Str × V))) (a2 : Int) : CM (fun G : (∀ i, Option (ρ i)) => b_value_count_all (r_value_count_all G) (r_value_count_part G) a0 a1 a2) := by
 simp only [b_value_count_all]
 repeat (first | exact cm_const | exact h_r_value_count_all _ _ _ | exact h_r_value_count_part _ _ _ | apply value_count_all_l1_cm | refine cm_cond ?_ ?_ | refine cm_bind ?_ (fun _ => ?_) | intro _ | assumption)
noncomputable def value_count_part_j1 (s3 : Int) (s4 : Int) (s5 : Int) : Option (Bool × S_value_count) :=
 some (true, (S_value_count.mk s3 s4 s5))
noncomputable def value_count_part_l1b (r_value_count_part : S_value_count → V → Int → Option (Bool × S_value_count)) (a1 : V) (a2 : Int) (g1 : Nat → Int → Int → Int → Option (Bool × S_value_count)) (s7 : Nat) (s8 : Int) (s9 : Int) (s10 : Int) : Option (Bool × S_value_count) :=
 bif (decide (((s7 : Nat) : Int) < ((((a1).asList).length : Nat) : Int))) then (
  Option.bind (((a1).asList)[s7]?) fun x13 =>
  Option.bind (r_value_count_part (S_value_count.mk s8 s9 s10) x13 (IntKind.i64.wrap (a2 + 1))) fun x14 =>
  bif (!x14.1) then (
   some (false, (x14.2))
  ) else (
   g1 (s7 + 1) ((x14.2).f_n) ((x14.2).f_deep) ((x14.2).f_why)
  )
 ) else (
  value_count_part_j1 s8 s9 s10
 )
theorem value_count_part_l1b_cm {ι : Type} {ρ : ι → Type} (r_value_count_part : (∀ i, Option (ρ i)) → S_value_count → V → Int → Option (Bool × S_value_count)) (h_r_value_count_part : ∀ y0 y1 y2, CM (fun G => r_value_count_part G y0 y1 y2)) (g1 : (∀ i, Option (ρ i)) → Nat → Int → Int → Int → Option (Bool × S_value_count)) (h_g1 : ∀ y0 y1 y2 y3, CM (fun G => g1 G y0 y1 y2 y3)) (a1 : V) (a2 : Int) (s7 : Nat) (s8 : Int) (s9 : Int) (s10 : Int) : CM (fun G : (∀ i, Option (ρ i)) => value_count_part_l1b (r_value_count_part G) a1 a2 (g1 G) s7 s8 s9 s10) := by
 simp only [value_count_part_l1b]
 repeat (first | exact cm_const | exact h_r_value_count_part _ _ _ | exact h_g1 _ _ _ _ | apply value_count_part_j1_cm | refine cm_cond ?_ ?_ | refine cm_bind ?_ (fun _ => ?_) | intro _ | assumption)
noncomputable def value_count_part_l1 (r_value_count_part : S_value_count → V → Int → Option (Bool × S_value_count)) (a1 : V) (a2 : Int) (s7 : Nat) (s8 : Int) (s9 : Int) (s10 : Int) : Option (Bool × S_value_count) :=
 fixO (ι := (Nat × Int × Int × Int)) (ρ := fun _ => (Bool × S_value_count)) (fun g i => value_count_part_l1b r_value_count_part a1 a2 (fun s7 s8 s9 s10 => g (s7, s8, s9, s10)) i.1 i.2.1 i.2.2.1 i.2.2.2) (s7, s8, s9, s10)
theorem value_count_part_l1_eq (r_value_count_part : S_value_count → V → Int → Option (Bool × S_value_count)) (a1 : V) (a2 : Int) (s7 : Nat) (s8 : Int) (s9 : Int) (s10 : Int) : value_count_part_l1 r_value_count_part a1 a2 s7 s8 s9 s10 = value_count_part_l1b r_value_count_part a1 a2 (value_count_part_l1 r_value_count_part a1 a2) s7 s8 s9 s10 :=
 fixO_eq (ι := (Nat × Int × Int × Int)) (ρ := fun _ => (Bool × S_value_count)) (Φ := fun g i => value_count_part_l1b r_value_count_part a1 a2 (fun s7 s8 s9 s10 => g (s7, s8, s9, s10)) i.1 i.2.1 i.2.2.1 i.2.2.2) (fun i => value_count_part_l1b_cm (ι := (Nat × Int × Int × Int)) (ρ := fun _ => (Bool × S_value_count)) (fun _ => r_value_count_part) (fun _ _ _ => cm_const) (fun g => (fun s7 s8 s9 s10 => g (s7, s8, s9, s10))) (fun _ _ _ _ => cm_app) a1 a2 i.1 i.2.1 i.2.2.1 i.2.2.2) (s7, s8, s9, s10)
theorem value_count_part_l1_cm {ι : Type} {ρ : ι → Type} (r_value_count_part : (∀ i, Option (ρ i)) → S_value_count → V → Int → Option (Bool × S_value_count)) (h_r_value_count_part : ∀ y0 y1 y2, CM (fun G => r_value_count_part G y0 y1 y2)) (a1 : V) (a2 : Int) (s7 : Nat) (s8 : Int) (s9 : Int) (s10 : Int) : CM (fun G : (∀ i, Option (ρ i)) => value_count_part_l1 (r_value_count_part G) a1 a2 s7 s8 s9 s10) :=
 cm_fix (κ := (Nat × Int × Int × Int)) (τ := fun _ => (Bool × S_value_count)) (Φ := fun G g i => value_count_part_l1b (r_value_count_part G) a1 a2 (fun s7 s8 s9 s10 => g (s7, s8, s9, s10)) i.1 i.2.1 i.2.2.1 i.2.2.2) (fun g i => value_count_part_l1b_cm r_value_count_part h_r_value_count_part (fun _ => (fun s7 s8 s9 s10 => g (s7, s8, s9, s10))) (fun _ _ _ _ => cm_const) a1 a2 i.1 i.2.1 i.2.2.1 i.2.2.2) (fun G i => value_count_part_l1b_cm (ι := (Nat × Int × Int × Int)) (ρ := fun _ => (Bool × S_value_count)) (fun _ => r_value_count_part G) (fun _ _ _ => cm_const) (fun g => (fun s7 s8 s9 s10 => g (s7, s8, s9, s10))) (fun _ _ _ _ => cm_app) a1 a2 i.1 i.2.1 i.2.2.1 i.2.2.2) (s7, s8, s9, s10)
noncomputable def b_value_count_part (r_value_count_all : S_value_count → (List (Str × V)) → Int → Option (Bool × S_value_count)) (r_value_count_part : S_value_count → V → Int → Option (Bool × S_value_count)) (a0 : S_value_count) (a1 : V) (a2 : Int) : Option (Bool × S_value_count) :=
 Option.bind (p_value_own a1 a0.f_n a2) fun x1 =>
 bif (x1 != 0) then (
  some (false, (S_value_count.mk a0.f_n a0.f_deep x1))
 ) else (
  bif (a1).isList then (
   value_count_part_l1 r_value_count_part a1 a2 0 (IntKind.i64.wrap (a0.f_n + 1)) (if a2 > a0.f_deep then a2 else a0.f_deep) x1
  ) else (
   bif (a1).isDict then (
    Option.bind (r_value_count_all (S_value_count.mk (IntKind.i64.wrap (a0.f_n + 1)) (if a2 > a0.f_deep then a2 else a0.f_deep) x1) ((a1).asDict) a2) fun x17 =>
    some (x17.1, (x17.2))
   ) else (
    bif (a1).isRec then (
     Option.bind ((a1).asRec) fun x19 =>
     Option.bind (r_value_count_all (S_value_count.mk (IntKind.i64.wrap (a0.f_n + 1)) (if a2 > a0.f_deep then a2 else a0.f_deep) x1) x19.fields a2) fun x20 =>
     some (x20.1, (x20.2))
    ) else (
     value_count_part_j1 (IntKind.i64.wrap (a0.f_n + 1)) (if a2 > a0.f_deep then a2 else a0.f_deep) x1
    )
   )
  )
 )
theorem b_value_count_part_cm {ι : Type} {ρ : ι → Type} (r_value_count_all : (∀ i, Option (ρ i)) → S_value_count → (List (Str × V)) → Int → Option (Bool × S_value_count)) (h_r_value_count_all : ∀ y0 y1 y2, CM (fun G => r_value_count_all G y0 y1 y2)) (r_value_count_part : (∀ i, Option (ρ i)) → S_value_count → V → Int → Option (Bool × S_value_count)) (h_r_value_count_part : ∀ y0 y1 y2, CM (fun G => r_value_count_part G y0 y1 y2)) (a0 : S_value_count) (a1 : V) (a2 : Int) : CM (fun G : (∀ i, Option (ρ i)) => b_value_count_part (r_value_count_all G) (r_value_count_part G) a0 a1 a2) := by
 simp only [b_value_count_part]
 repeat (first | exact cm_const | exact h_r_value_count_all _ _ _ | exact h_r_value_count_part _ _ _ | apply value_count_part_j1_cm | apply value_count_part_l1_cm | refine cm_cond ?_ ?_ | refine cm_bind ?_ (fun _ => ?_) | intro _ | assumption)
inductive C_value_count_all where
 | k_value_count_all (a0 : S_value_count) (a1 : (List (Str × V))) (a2 : Int)
 | k_value_count_part (a0 : S_value_count) (a1 : V) (a2 : Int)
def C_value_count_all.R : C_value_count_all → Type
 | .k_value_count_all _ _ _ => (Bool × S_value_count)
 | .k_value_count_part _ _ _ => (Bool × S_value_count)
noncomputable def C_value_count_all.F (g : ∀ i : C_value_count_all, Option i.R) : ∀ i : C_value_count_all, Option i.R
 | .k_value_count_all a0 a1 a2 => b_value_count_all (fun a0 a1 a2 => g (.k_value_count_all a0 a1 a2)) (fun a0 a1 a2 => g (.k_value_count_part a0 a1 a2)) a0 a1 a2
 | .k_value_count_part a0 a1 a2 => b_value_count_part (fun a0 a1 a2 => g (.k_value_count_all a0 a1 a2)) (fun a0 a1 a2 => g (.k_value_count_part a0 a1 a2)) a0 a1 a2
noncomputable def p_value_count_all (a0 : S_value_count) (a1 : (List (Str × V))) (a2 : Int) : Option (Bool × S_value_count) := fixO C_value_count_all.F (.k_value_count_all a0 a1 a2)
noncomputable def p_value_count_part (a0 : S_value_count) (a1 : V) (a2 : Int) : Option (Bool × S_value_count) := fixO C_value_count_all.F (.k_value_count_part a0 a1 a2)
theorem C_value_count_all.cm (i : C_value_count_all) : CM (fun g : (∀ i : C_value_count_all, Option i.R) => C_value_count_all.F g i) := by
 cases i with
 | k_value_count_all a0 a1 a2 => exact b_value_count_all_cm (fun (g : ∀ i : C_value_count_all, Option i.R) a0 a1 a2 => g (.k_value_count_all a0 a1 a2)) (fun a0 a1 a2 => cm_app (i := C_value_count_all.k_value_count_all a0 a1 a2)) (fun (g : ∀ i : C_value_count_all, Option i.R) a0 a1 a2 => g (.k_value_count_part a0 a1 a2)) (fun a0 a1 a2 => cm_app (i := C_value_count_all.k_value_count_part a0 a1 a2)) a0 a1 a2
 | k_value_count_part a0 a1 a2 => exact b_value_count_part_cm (fun (g : ∀ i : C_value_count_all, Option i.R) a0 a1 a2 => g (.k_value_count_all a0 a1 a2)) (fun a0 a1 a2 => cm_app (i := C_value_count_all.k_value_count_all a0 a1 a2)) (fun (g : ∀ i : C_value_count_all, Option i.R) a0 a1 a2 => g (.k_value_count_part a0 a1 a2)) (fun a0 a1 a2 => cm_app (i := C_value_count_all.k_value_count_part a0 a1 a2)) a0 a1 a2
theorem e_value_count_all (a0 : S_value_count) (a1 : (List (Str × V))) (a2 : Int) : p_value_count_all a0 a1 a2 = b_value_count_all p_value_count_all p_value_count_part a0 a1 a2 := fixO_eq C_value_count_all.cm (.k_value_count_all a0 a1 a2)
theorem e_value_count_part (a0 : S_value_count) (a1 : V) (a2 : Int) : p_value_count_part a0 a1 a2 = b_value_count_part p_value_count_all p_value_count_part a0 a1 a2 := fixO_eq C_value_count_all.cm (.k_value_count_part a0 a1 a2)
def C_value_count_all.Q : ∀ i : C_value_count_all, i.R → Prop
 | .k_value_count_all a0 a1 a2 => fun (r : (Bool × S_value_count)) => BCalls Try.prog 59 [(PV.rf 0 0), (PV.sl none 55 2 (List.map ofFld a1)), (I64 a2)] (.box 91 [(I64 a0.f_n), (I64 a0.f_deep), (I64 a0.f_why)]) (BO r.1) (.box 91 [(I64 ((r.2).f_n)), (I64 ((r.2).f_deep)), (I64 ((r.2).f_why))])
 | .k_value_count_part a0 a1 a2 => fun (r : (Bool × S_value_count)) => BCalls Try.prog 31 [(PV.rf 0 0), (ofV a1), (I64 a2)] (.box 91 [(I64 a0.f_n), (I64 a0.f_deep), (I64 a0.f_why)]) (BO r.1) (.box 91 [(I64 ((r.2).f_n)), (I64 ((r.2).f_deep)), (I64 ((r.2).f_why))])
theorem t_value_count_all (r_value_count_all : S_value_count → (List (Str × V)) → Int → Option (Bool × S_value_count)) (c_value_count_all : ∀ (a0 : S_value_count) (a1 : (List (Str × V))) (a2 : Int) r, r_value_count_all a0 a1 a2 = some r → BCalls Try.prog 59 [(PV.rf 0 0), (PV.sl none 55 2 (List.map ofFld a1)), (I64 a2)] (.box 91 [(I64 a0.f_n), (I64 a0.f_deep), (I64 a0.f_why)]) (BO r.1) (.box 91 [(I64 ((r.2).f_n)), (I64 ((r.2).f_deep)), (I64 ((r.2).f_why))])) (r_value_count_part : S_value_count → V → Int → Option (Bool × S_value_count)) (c_value_count_part : ∀ (a0 : S_value_count) (a1 : V) (a2 : Int) r, r_value_count_part a0 a1 a2 = some r → BCalls Try.prog 31 [(PV.rf 0 0), (ofV a1), (I64 a2)] (.box 91 [(I64 a0.f_n), (I64 a0.f_deep), (I64 a0.f_why)]) (BO r.1) (.box 91 [(I64 ((r.2).f_n)), (I64 ((r.2).f_deep)), (I64 ((r.2).f_why))])) (a0 : S_value_count) (a1 : (List (Str × V))) (a2 : Int) (r : (Bool × S_value_count)) (h : b_value_count_all r_value_count_all r_value_count_part a0 a1 a2 = some r) : BCalls Try.prog 59 [(PV.rf 0 0), (PV.sl none 55 2 (List.map ofFld a1)), (I64 a2)] (.box 91 [(I64 a0.f_n), (I64 a0.f_deep), (I64 a0.f_why)]) (BO r.1) (.box 91 [(I64 ((r.2).f_n)), (I64 ((r.2).f_deep)), (I64 ((r.2).f_why))]) := by
 unfold b_value_count_all at h
 refine acalls_of Try.func59 rfl Try.ntmps59 Try.results59 rfl (aw_of_bw ?_)
 change BW _ _ _ ⟨[(0, (PV.rf 0 0)), (1, (PV.sl none 55 2 (List.map ofFld a1))), (2, (I64 a2))], [.box 91 [(I64 a0.f_n), (I64 a0.f_deep), (I64 a0.f_why)]], _⟩ _
 refine bR ?_
 refine sA rfl rfl rfl rfl rfl (ao_nil ?_)
 change BW _ _ _ _ _
 refine bw_seq ?_
 refine bR ?_
 refine sM rfl rfl rfl rfl rfl ?_
 refine sS rfl rfl rfl (op1_lenM Try.underlying49 rfl rfl) ?_
 refine sM rfl rfl rfl rfl rfl (ao_nil ?_)
 change BW _ _ _ _ _
 refine bw_block ?_
 change BW _ _ _ _ _
 unfold value_count_all_l1 at h
 refine bw_loop (σ := (Nat × Int × Int × Int)) (fun i => [(0, (PV.rf 0 0)), (2, (I64 a2)), (9, (PV.sl none 55 2 (List.map ofFld a1))), (10, (I64 ((((a1).length : Nat) : Int)))), (11, (I64 (((i.1 : Nat) : Int))))]) (fun i => [.box 91 [(I64 i.2.1), (I64 i.2.2.1), (I64 i.2.2.2)]]) (0, a0.f_n, a0.f_deep, a0.f_why) h ?_ ?_ ?_
 ·intro i; exact ⟨Nat.le_of_ble_eq_true rfl, ⟨(il_rf rfl), ⟨(il_nil rfl), ⟨(il_nil (ids_slM ids_Fld _)), ⟨(il_nil rfl), ⟨(il_nil rfl), trivial⟩⟩⟩⟩⟩, ⟨⟨(il_nil rfl), ⟨(il_nil rfl), ⟨(il_nil rfl), trivial⟩⟩⟩, trivial⟩⟩
 ·exact ⟨(.cons .same .nil), (sC rfl (sC rfl (sC rfl (sC rfl (sC rfl sub_nil)))))⟩
 ·rintro g1_f ⟨s1, s2, s3, s4⟩ h; replace h : value_count_all_l1b r_value_count_part a1 a2 (fun y0 y1 y2 y3 => g1_f (y0, y1, y2, y3)) s1 s2 s3 s4 = some r := h; unfold value_count_all_l1b at h
  change BW _ _ _ ⟨[(0, (PV.rf 0 0)), (2, (I64 a2)), (9, (PV.sl none 55 2 (List.map ofFld a1))), (10, (I64 ((((a1).length : Nat) : Int)))), (11, (I64 (((s1 : Nat) : Int))))], [.box 91 [(I64 s2), (I64 s3), (I64 s4)]], _⟩ _
  refine bR ?_
  refine sS rfl rfl rfl ((op1_cmp rfl rfl rfl rfl).cast (y := (BO ((decide (((s1 : Nat) : Int) < (((a1).length : Nat) : Int)))))) rfl rfl) (ao_nil ?_)
  change BW _ _ _ _ _
  refine bw_seq ?_
  refine bw_len (t := 9) rfl fun hb6 => ?_
  try rw [List.length_map] at hb6
  refine bw_cond rfl ?_ ?_
  ·intro hc5; replace h := ocond_t hc5 h
   have hc5_ := of_decide_eq_true hc5
   refine bw_skip ?_
   change BW _ _ _ _ _
   refine bw_seq ?_
   refine bw_block ?_
   change BW _ _ _ _ _
   refine bR ?_
   obtain ⟨x7, hx7, h⟩ := obind h
   refine sS rfl rfl rfl (op1_idxN (i := s1) Try.underlying49 inf_55 rfl rfl rfl hx7 rfl) ?_
   refine sS rfl rfl rfl (op1_ldPW inf_55 Try.underlying55 rfl rfl rfl rfl rfl) ?_
   refine sS rfl rfl rfl ((op1_alloc inf_55 rfl).cast (H'' := [.box 91 [(I64 s2), (I64 s3), (I64 s4)], .box 55 [(ofStr []), (ofV V.nil)]]) rfl (by simp only [mk_nil]; rfl)) ?_
   refine ao_step0 rfl rfl (op1_store inf_55 rfl rfl rfl rfl rfl rfl (Nat.le_of_ble_eq_true rfl) (by show List.all [(ofStr x7.1), (ofV x7.2)] one1 = true; simp only [List.all_cons, List.all_nil, one_V, one_RecP, Bool.and_true, Bool.true_and]; try rfl)) ?_
   refine ao_nil ?_
   change BW _ _ _ _ _
   refine bR ?_
   refine sM rfl rfl rfl rfl rfl ?_
   refine sS rfl rfl rfl (op1_faR st_55 (i := 1) rfl rfl rfl) ?_
   refine sS rfl rfl rfl ((op1_ldR Try.underlying20 rfl rfl rfl rfl rfl)) ?_
   refine sM rfl rfl rfl rfl rfl ?_
   refine sS rfl rfl rfl (op1_addW rfl rfl rfl) ?_
   obtain ⟨x8, hx8, h⟩ := obind h
   refine sS rfl rfl rfl (op1_bcall 0 rfl en_31 rfl (.cons (Wk.refl _) (.cons (Wk.refl _) (.cons (Wk.refl _) .nil))) (.box (.val (ids_V x7.2) (.val rfl .nil))) rfl (idsL_cons rfl (idsL_cons rfl (idsL_cons rfl rfl))) (c_value_count_part (S_value_count.mk s2 s3 s4) x7.2 (IntKind.i64.wrap (a2 + 1)) x8 hx8) rfl (idsL_cons rfl (idsL_cons rfl (idsL_cons rfl rfl)))) ?_
   refine sS rfl rfl rfl (op1_not rfl rfl) (ao_nil ?_)
   change BW _ _ _ _ _
   refine bw_cond rfl ?_ ?_
   ·intro hc9; replace h := ocond_t hc9 h
    refine bR ?_
    refine sA rfl rfl rfl rfl rfl (ao_nil ?_)
    change BW _ _ _ _ _
    refine bw_ret ?_
    change ∃ xs, _ = some xs ∧ EndOk _ _ _ _
    obtain rfl := Option.some.inj h
    exact ⟨_, rfl, endOk1 (y := (BO false)) (e := .box 91 [(I64 (((x8.2)).f_n)), (I64 (((x8.2)).f_deep)), (I64 (((x8.2)).f_why))]) (Wk.refl _) rfl rfl (idsL_cons rfl (idsL_cons rfl (idsL_cons rfl rfl))) ⟨rfl, rfl⟩⟩
   ·intro hc9; replace h := ocond_f hc9 h
    refine bw_skip ?_
    change BW _ _ _ _ _
    refine bw_region ?_
    refine sS rfl rfl rfl (op1_incN (k := s1) (c := 1) rfl rfl rfl (by omega)) ?_
    refine sM rfl rfl rfl rfl rfl (ao_nil ?_)
    exact ⟨rfl, ((s1 + 1), (x8.2).f_n, (x8.2).f_deep, (x8.2).f_why), h, ⟨(.cons .same .nil), (sC rfl (sC rfl (sC rfl (sC rfl (sC rfl sub_nil)))))⟩⟩
  ·intro hc5; replace h := ocond_f hc5 h
   refine bw_exit ?_
   change BW _ _ _ _ _
   refine bR ?_
   refine sA rfl rfl rfl rfl rfl (ao_nil ?_)
   change BW _ _ _ _ _
   refine bw_ret ?_
   change ∃ xs, _ = some xs ∧ EndOk _ _ _ _
   obtain rfl := Option.some.inj h
   exact ⟨_, rfl, endOk1 (y := (BO true)) (e := .box 91 [(I64 (((S_value_count.mk s2 s3 s4)).f_n)), (I64 (((S_value_count.mk s2 s3 s4)).f_deep)), (I64 (((S_value_count.mk s2 s3 s4)).f_why))]) (Wk.refl _) rfl rfl (idsL_cons rfl (idsL_cons rfl (idsL_cons rfl rfl))) ⟨rfl, rfl⟩⟩
theorem t_value_count_part (r_value_count_all : S_value_count → (List (Str × V)) → Int → Option (Bool × S_value_count)) (c_value_count_all : ∀ (a0 : S_value_count) (a1 : (List (Str × V))) (a2 : Int) r, r_value_count_all a0 a1 a2 = some r → BCalls Try.prog 59 [(PV.rf 0 0), (PV.sl none 55 2 (List.map ofFld a1)), (I64 a2)] (.box 91 [(I64 a0.f_n), (I64 a0.f_deep), (I64 a0.f_why)]) (BO r.1) (.box 91 [(I64 ((r.2).f_n)), (I64 ((r.2).f_deep)), (I64 ((r.2).f_why))])) (r_value_count_part : S_value_count → V → Int → Option (Bool × S_value_count)) (c_value_count_part : ∀ (a0 : S_value_count) (a1 : V) (a2 : Int) r, r_value_count_part a0 a1 a2 = some r → BCalls Try.prog 31 [(PV.rf 0 0), (ofV a1), (I64 a2)] (.box 91 [(I64 a0.f_n), (I64 a0.f_deep), (I64 a0.f_why)]) (BO r.1) (.box 91 [(I64 ((r.2).f_n)), (I64 ((r.2).f_deep)), (I64 ((r.2).f_why))])) (a0 : S_value_count) (a1 : V) (a2 : Int) (r : (Bool × S_value_count)) (h : b_value_count_part r_value_count_all r_value_count_part a0 a1 a2 = some r) : BCalls Try.prog 31 [(PV.rf 0 0), (ofV a1), (I64 a2)] (.box 91 [(I64 a0.f_n), (I64 a0.f_deep), (I64 a0.f_why)]) (BO r.1) (.box 91 [(I64 ((r.2).f_n)), (I64 ((r.2).f_deep)), (I64 ((r.2).f_why))]) := by
 unfold b_value_count_part at h
 refine acalls_of Try.func31 rfl Try.ntmps31 Try.results31 rfl (aw_of_bw ?_)
 change BW _ _ _ ⟨[(0, (PV.rf 0 0)), (1, (ofV a1)), (2, (I64 a2))], [.box 91 [(I64 a0.f_n), (I64 a0.f_deep), (I64 a0.f_why)]], _⟩ _
 refine bR ?_
 refine sA rfl rfl rfl rfl rfl (ao_nil ?_)
 change BW _ _ _ _ _
 refine bw_seq ?_
 refine bR ?_
 refine sM rfl rfl rfl rfl rfl ?_
 refine sM rfl rfl rfl rfl rfl ?_
 refine sM rfl rfl rfl rfl rfl ?_
 refine sS rfl rfl rfl (op1_nilR rfl rfl) ?_
 refine sS rfl rfl rfl (op1_faR st_91 (i := 0) rfl rfl rfl) ?_
 refine sS rfl rfl rfl ((op1_ldR Try.underlying3 rfl rfl rfl rfl rfl)) ?_
 refine sM rfl rfl rfl rfl rfl ?_
 obtain ⟨x1, hx1, h⟩ := obind h
 refine sS rfl rfl rfl (op1_pcall rfl en_58 rfl (.cons (Wk.refl _) (.cons (Wk.refl _) (.cons (Wk.refl _) .nil))) ⟨(ids_V a1), ⟨rfl, ⟨rfl, trivial⟩⟩⟩ (s_value_own a1 a0.f_n a2 x1 hx1) rfl) ?_
 refine sS rfl rfl rfl (op1_nilR rfl rfl) ?_
 refine sS rfl rfl rfl (op1_faR st_91 (i := 2) rfl rfl rfl) ?_
 refine ao_step0 rfl rfl (op1_store inf_33 rfl rfl rfl rfl rfl rfl (Nat.le_of_ble_eq_true rfl) rfl) ?_
 refine ao_nil ?_
 change BW _ _ _ _ _
 refine bR ?_
 refine sM rfl rfl rfl rfl rfl ?_
 refine sS rfl rfl rfl (op1_nilR rfl rfl) ?_
 refine sS rfl rfl rfl (op1_faR st_91 (i := 2) rfl rfl rfl) ?_
 refine sS rfl rfl rfl ((op1_ldR Try.underlying33 rfl rfl rfl rfl rfl)) ?_
 refine sS rfl rfl rfl ((op1_cmp rfl rfl rfl rfl).cast (y := (BO ((x1 != 0)))) rfl rfl) (ao_nil ?_)
 change BW _ _ _ _ _
 refine bw_cond rfl ?_ ?_
 ·intro hc2; replace h := ocond_t hc2 h
  refine bR ?_
  refine sA rfl rfl rfl rfl rfl (ao_nil ?_)
  change BW _ _ _ _ _
  refine bw_ret ?_
  change ∃ xs, _ = some xs ∧ EndOk _ _ _ _
  obtain rfl := Option.some.inj h
  exact ⟨_, rfl, endOk1 (y := (BO false)) (e := .box 91 [(I64 (((S_value_count.mk a0.f_n a0.f_deep x1)).f_n)), (I64 (((S_value_count.mk a0.f_n a0.f_deep x1)).f_deep)), (I64 (((S_value_count.mk a0.f_n a0.f_deep x1)).f_why))]) (Wk.refl _) rfl rfl (idsL_cons rfl (idsL_cons rfl (idsL_cons rfl rfl))) ⟨rfl, rfl⟩⟩
 ·intro hc2; replace h := ocond_f hc2 h
  refine bw_skip ?_
  change BW _ _ _ _ _
  refine bR ?_
  refine sM rfl rfl rfl rfl rfl ?_
  refine sS rfl rfl rfl (op1_nilR rfl rfl) ?_
  refine sS rfl rfl rfl (op1_faR st_91 (i := 0) rfl rfl rfl) ?_
  refine sS rfl rfl rfl ((op1_ldR Try.underlying3 rfl rfl rfl rfl rfl)) ?_
  refine sS rfl rfl rfl (op1_addW rfl rfl rfl) ?_
  refine sS rfl rfl rfl (op1_nilR rfl rfl) ?_
  refine sS rfl rfl rfl (op1_faR st_91 (i := 0) rfl rfl rfl) ?_
  refine ao_step0 rfl rfl (op1_store inf_3 rfl rfl rfl rfl rfl rfl (Nat.le_of_ble_eq_true rfl) rfl) ?_
  refine ao_nil ?_
  change BW _ _ _ _ _
  refine bR ?_
  refine sM rfl rfl rfl rfl rfl ?_
  refine sM rfl rfl rfl rfl rfl ?_
  refine sS rfl rfl rfl (op1_nilR rfl rfl) ?_
  refine sS rfl rfl rfl (op1_faR st_91 (i := 1) rfl rfl rfl) ?_
  refine sS rfl rfl rfl ((op1_ldR Try.underlying3 rfl rfl rfl rfl rfl)) ?_
  refine sM rfl rfl rfl rfl rfl ?_
  refine sS rfl rfl rfl (op1_maxI (args := []) rfl rfl rfl) ?_
  refine sS rfl rfl rfl (op1_nilR rfl rfl) ?_
  refine sS rfl rfl rfl (op1_faR st_91 (i := 1) rfl rfl rfl) ?_
  refine ao_step0 rfl rfl (op1_store inf_3 rfl rfl rfl rfl rfl rfl (Nat.le_of_ble_eq_true rfl) rfl) ?_
  refine ao_nil ?_
  change BW _ _ _ _ _
  refine bw_seqJ (ι := (Int × Int × Int)) (fun i => value_count_part_j1 i.1 i.2.1 i.2.2 = some r) (fun i => [(0, (PV.rf 0 0))]) (fun i => [.box 91 [(I64 i.1), (I64 i.2.1), (I64 i.2.2)]]) ?_ ?_ ?_
  ·intro i; exact ⟨Nat.le_of_ble_eq_true rfl, ⟨(il_rf rfl), trivial⟩, ⟨⟨(il_nil rfl), ⟨(il_nil rfl), ⟨(il_nil rfl), trivial⟩⟩⟩, trivial⟩⟩
  ·rintro ⟨s3, s4, s5⟩ h; replace h : value_count_part_j1 s3 s4 s5 = some r := h; unfold value_count_part_j1 at h
   change BW _ _ _ ⟨[(0, (PV.rf 0 0))], [.box 91 [(I64 s3), (I64 s4), (I64 s5)]], _⟩ _
   refine bR ?_
   refine sA rfl rfl rfl rfl rfl (ao_nil ?_)
   change BW _ _ _ _ _
   refine bw_ret ?_
   change ∃ xs, _ = some xs ∧ EndOk _ _ _ _
   obtain rfl := Option.some.inj h
   exact ⟨_, rfl, endOk1 (y := (BO true)) (e := .box 91 [(I64 (((S_value_count.mk s3 s4 s5)).f_n)), (I64 (((S_value_count.mk s3 s4 s5)).f_deep)), (I64 (((S_value_count.mk s3 s4 s5)).f_why))]) (Wk.refl _) rfl rfl (idsL_cons rfl (idsL_cons rfl (idsL_cons rfl rfl))) ⟨rfl, rfl⟩⟩
  ·refine bR ?_
   refine sM rfl rfl rfl rfl rfl (ao_nil ?_)
   change BW _ _ _ _ _
   refine bw_block ?_
   change BW _ _ _ _ _
   refine bR ?_
   refine sS rfl rfl rfl (op1_taList rfl rfl) ?_
   refine sS rfl rfl rfl (op1_ext rfl rfl rfl) ?_
   refine sS rfl rfl rfl (op1_ext rfl rfl rfl) (ao_nil ?_)
   change BW _ _ _ _ _
   refine bw_cond rfl ?_ ?_
   ·intro hc6; replace h := ocond_t hc6 h
    refine bR ?_
    refine sA rfl rfl rfl rfl rfl (ao_nil ?_)
    change BW _ _ _ _ _
    refine bR ?_
    refine sM rfl rfl rfl rfl rfl ?_
    refine sS rfl rfl rfl (op1_lenM Try.underlying47 rfl rfl) ?_
    refine sM rfl rfl rfl rfl rfl (ao_nil ?_)
    change BW _ _ _ _ _
    refine bw_block ?_
    change BW _ _ _ _ _
    unfold value_count_part_l1 at h
    refine bw_loop (σ := (Nat × Int × Int × Int)) (fun i => [(0, (PV.rf 0 0)), (2, (I64 a2)), (47, (PV.sl none 20 1 (List.map ofV (a1).asList))), (48, (I64 (((((a1).asList).length : Nat) : Int)))), (49, (I64 (((i.1 : Nat) : Int))))]) (fun i => [.box 91 [(I64 i.2.1), (I64 i.2.2.1), (I64 i.2.2.2)]]) (0, (IntKind.i64.wrap (a0.f_n + 1)), (if a2 > a0.f_deep then a2 else a0.f_deep), x1) h ?_ ?_ ?_
    ·intro i; exact ⟨Nat.le_of_ble_eq_true rfl, ⟨(il_rf rfl), ⟨(il_nil rfl), ⟨(il_nil (ids_slM ids_V _)), ⟨(il_nil rfl), ⟨(il_nil rfl), trivial⟩⟩⟩⟩⟩, ⟨⟨(il_nil rfl), ⟨(il_nil rfl), ⟨(il_nil rfl), trivial⟩⟩⟩, trivial⟩⟩
    ·exact ⟨(.cons .same .nil), (sC rfl (sC rfl (sC rfl (sC rfl (sC rfl sub_nil)))))⟩
    ·rintro g1_f ⟨s7, s8, s9, s10⟩ h; replace h : value_count_part_l1b r_value_count_part a1 a2 (fun y0 y1 y2 y3 => g1_f (y0, y1, y2, y3)) s7 s8 s9 s10 = some r := h; unfold value_count_part_l1b at h
     change BW _ _ _ ⟨[(0, (PV.rf 0 0)), (2, (I64 a2)), (47, (PV.sl none 20 1 (List.map ofV (a1).asList))), (48, (I64 (((((a1).asList).length : Nat) : Int)))), (49, (I64 (((s7 : Nat) : Int))))], [.box 91 [(I64 s8), (I64 s9), (I64 s10)]], _⟩ _
     refine bR ?_
     refine sS rfl rfl rfl ((op1_cmp rfl rfl rfl rfl).cast (y := (BO ((decide (((s7 : Nat) : Int) < ((((a1).asList).length : Nat) : Int)))))) rfl rfl) (ao_nil ?_)
     change BW _ _ _ _ _
     refine bw_seq ?_
     refine bw_len (t := 47) rfl fun hb12 => ?_
     try rw [List.length_map] at hb12
     refine bw_cond rfl ?_ ?_
     ·intro hc11; replace h := ocond_t hc11 h
      have hc11_ := of_decide_eq_true hc11
      refine bw_skip ?_
      change BW _ _ _ _ _
      refine bw_seq ?_
      refine bw_block ?_
      change BW _ _ _ _ _
      refine bR ?_
      obtain ⟨x13, hx13, h⟩ := obind h
      refine sS rfl rfl rfl (op1_idxN (i := s7) Try.underlying47 inf_20 rfl rfl rfl hx13 rfl) ?_
      refine sS rfl rfl rfl (op1_ldP (y := (ofV x13)) Try.underlying20 rfl rfl rfl (by rw [cells_V]; rfl)) ?_
      refine sA rfl rfl rfl rfl rfl (ao_nil ?_)
      change BW _ _ _ _ _
      refine bR ?_
      refine sM rfl rfl rfl rfl rfl ?_
      refine sM rfl rfl rfl rfl rfl ?_
      refine sM rfl rfl rfl rfl rfl ?_
      refine sS rfl rfl rfl (op1_addW rfl rfl rfl) ?_
      obtain ⟨x14, hx14, h⟩ := obind h
      refine sS rfl rfl rfl (op1_bcall 0 rfl en_31 rfl (.cons (Wk.refl _) (.cons (Wk.refl _) (.cons (Wk.refl _) .nil))) (.box (.val (ids_V x13) (.val rfl .nil))) rfl (idsL_cons rfl (idsL_cons rfl (idsL_cons rfl rfl))) (c_value_count_part (S_value_count.mk s8 s9 s10) x13 (IntKind.i64.wrap (a2 + 1)) x14 hx14) rfl (idsL_cons rfl (idsL_cons rfl (idsL_cons rfl rfl)))) ?_
      refine sS rfl rfl rfl (op1_not rfl rfl) (ao_nil ?_)
      change BW _ _ _ _ _
      refine bw_cond rfl ?_ ?_
      ·intro hc15; replace h := ocond_t hc15 h
       refine bR ?_
       refine sA rfl rfl rfl rfl rfl (ao_nil ?_)
       change BW _ _ _ _ _
       refine bw_ret ?_
       change ∃ xs, _ = some xs ∧ EndOk _ _ _ _
       obtain rfl := Option.some.inj h
       exact ⟨_, rfl, endOk1 (y := (BO false)) (e := .box 91 [(I64 (((x14.2)).f_n)), (I64 (((x14.2)).f_deep)), (I64 (((x14.2)).f_why))]) (Wk.refl _) rfl rfl (idsL_cons rfl (idsL_cons rfl (idsL_cons rfl rfl))) ⟨rfl, rfl⟩⟩
      ·intro hc15; replace h := ocond_f hc15 h
       refine bw_skip ?_
       change BW _ _ _ _ _
       refine bw_region ?_
       refine sS rfl rfl rfl (op1_incN (k := s7) (c := 1) rfl rfl rfl (by omega)) ?_
       refine sM rfl rfl rfl rfl rfl (ao_nil ?_)
       exact ⟨rfl, ((s7 + 1), (x14.2).f_n, (x14.2).f_deep, (x14.2).f_why), h, ⟨(.cons .same .nil), (sC rfl (sC rfl (sC rfl (sC rfl (sC rfl sub_nil)))))⟩⟩
     ·intro hc11; replace h := ocond_f hc11 h
      refine bw_exit ?_
      exact ⟨rfl, (s8, s9, s10), h, ⟨(.cons .same .nil), (sC rfl sub_nil)⟩⟩
   ·intro hc6; replace h := ocond_f hc6 h
    refine bR ?_
    refine sS rfl rfl rfl (op1_taDict rfl rfl) ?_
    refine sS rfl rfl rfl (op1_ext rfl rfl rfl) ?_
    refine sS rfl rfl rfl (op1_ext rfl rfl rfl) (ao_nil ?_)
    change BW _ _ _ _ _
    refine bw_cond rfl ?_ ?_
    ·intro hc16; replace h := ocond_t hc16 h
     refine bR ?_
     refine sA rfl rfl rfl rfl rfl (ao_nil ?_)
     change BW _ _ _ _ _
     refine bR ?_
     refine sM rfl rfl rfl rfl rfl ?_
     refine sM rfl rfl rfl rfl rfl ?_
     refine sM rfl rfl rfl rfl rfl ?_
     obtain ⟨x17, hx17, h⟩ := obind h
     refine sS rfl rfl rfl (op1_bcall 0 rfl en_59 rfl (.cons (Wk.refl _) (.cons (Wk.refl _) (.cons (Wk.refl _) .nil))) (.box (.val (ids_slM ids_Fld ((a1).asDict)) (.val rfl .nil))) rfl (idsL_cons rfl (idsL_cons rfl (idsL_cons rfl rfl))) (c_value_count_all (S_value_count.mk (IntKind.i64.wrap (a0.f_n + 1)) (if a2 > a0.f_deep then a2 else a0.f_deep) x1) ((a1).asDict) a2 x17 hx17) rfl (idsL_cons rfl (idsL_cons rfl (idsL_cons rfl rfl)))) ?_
     refine sA rfl rfl rfl rfl rfl (ao_nil ?_)
     change BW _ _ _ _ _
     refine bw_ret ?_
     change ∃ xs, _ = some xs ∧ EndOk _ _ _ _
     obtain rfl := Option.some.inj h
     exact ⟨_, rfl, endOk1 (y := (BO x17.1)) (e := .box 91 [(I64 (((x17.2)).f_n)), (I64 (((x17.2)).f_deep)), (I64 (((x17.2)).f_why))]) (Wk.refl _) rfl rfl (idsL_cons rfl (idsL_cons rfl (idsL_cons rfl rfl))) ⟨rfl, rfl⟩⟩
    ·intro hc16; replace h := ocond_f hc16 h
     refine bR ?_
     refine sS rfl rfl rfl (op1_taRec rfl rfl) ?_
     refine sS rfl rfl rfl (op1_ext rfl rfl rfl) ?_
     refine sS rfl rfl rfl (op1_ext rfl rfl rfl) (ao_nil ?_)
     change BW _ _ _ _ _
     refine bw_cond rfl ?_ ?_
     ·intro hc18; replace h := ocond_t hc18 h
      refine bR ?_
      refine sA rfl rfl rfl rfl rfl (ao_nil ?_)
      change BW _ _ _ _ _
      refine bR ?_
      refine sM rfl rfl rfl rfl rfl ?_
      refine sM rfl rfl rfl rfl rfl ?_
      obtain ⟨x19, hx19, h⟩ := obind h
      refine sS rfl rfl rfl (op1_pNil rfl rfl hx19) ?_
      refine sS rfl rfl rfl (op1_faP st_60 (i := 2) rfl rfl rfl) ?_
      refine sS rfl rfl rfl (op1_ldP (y := (PV.sl none 55 2 (List.map ofFld x19.fields))) Try.underlying49 rfl rfl rfl rfl) ?_
      refine sM rfl rfl rfl rfl rfl ?_
      obtain ⟨x20, hx20, h⟩ := obind h
      refine sS rfl rfl rfl (op1_bcall 0 rfl en_59 rfl (.cons (Wk.refl _) (.cons (Wk.refl _) (.cons (Wk.refl _) .nil))) (.box (.val (ids_slM ids_Fld x19.fields) (.val rfl .nil))) rfl (idsL_cons rfl (idsL_cons rfl (idsL_cons rfl rfl))) (c_value_count_all (S_value_count.mk (IntKind.i64.wrap (a0.f_n + 1)) (if a2 > a0.f_deep then a2 else a0.f_deep) x1) x19.fields a2 x20 hx20) rfl (idsL_cons rfl (idsL_cons rfl (idsL_cons rfl rfl)))) ?_
      refine sA rfl rfl rfl rfl rfl (ao_nil ?_)
      change BW _ _ _ _ _
      refine bw_ret ?_
      change ∃ xs, _ = some xs ∧ EndOk _ _ _ _
      obtain rfl := Option.some.inj h
      exact ⟨_, rfl, endOk1 (y := (BO x20.1)) (e := .box 91 [(I64 (((x20.2)).f_n)), (I64 (((x20.2)).f_deep)), (I64 (((x20.2)).f_why))]) (Wk.refl _) rfl rfl (idsL_cons rfl (idsL_cons rfl (idsL_cons rfl rfl))) ⟨rfl, rfl⟩⟩
     ·intro hc18; replace h := ocond_f hc18 h
      refine bw_skip ?_
      exact ⟨rfl, ((IntKind.i64.wrap (a0.f_n + 1)), (if a2 > a0.f_deep then a2 else a0.f_deep), x1), h, ⟨(.cons .same .nil), (sC rfl sub_nil)⟩⟩
theorem C_value_count_all.sound : ∀ (i : C_value_count_all) (r : i.R), fixO C_value_count_all.F i = some r → C_value_count_all.Q i r := by
 refine fixO_ind (Φ := C_value_count_all.F) (Q := C_value_count_all.Q) ?_
 intro g hg i r h
 cases i with
 | k_value_count_all a0 a1 a2 => exact t_value_count_all (fun a0 a1 a2 => g (.k_value_count_all a0 a1 a2)) (fun a0 a1 a2 r hr => hg (.k_value_count_all a0 a1 a2) r hr) (fun a0 a1 a2 => g (.k_value_count_part a0 a1 a2)) (fun a0 a1 a2 r hr => hg (.k_value_count_part a0 a1 a2) r hr) a0 a1 a2 r h
 | k_value_count_part a0 a1 a2 => exact t_value_count_part (fun a0 a1 a2 => g (.k_value_count_all a0 a1 a2)) (fun a0 a1 a2 r hr => hg (.k_value_count_all a0 a1 a2) r hr) (fun a0 a1 a2 => g (.k_value_count_part a0 a1 a2)) (fun a0 a1 a2 r hr => hg (.k_value_count_part a0 a1 a2) r hr) a0 a1 a2 r h
theorem s_value_count_part (a0 : S_value_count) (a1 : V) (a2 : Int) (r : (Bool × S_value_count)) (h : p_value_count_part a0 a1 a2 = some r) : BCalls Try.prog 31 [(PV.rf 0 0), (ofV a1), (I64 a2)] (.box 91 [(I64 a0.f_n), (I64 a0.f_deep), (I64 a0.f_why)]) (BO r.1) (.box 91 [(I64 ((r.2).f_n)), (I64 ((r.2).f_deep)), (I64 ((r.2).f_why))]) := C_value_count_all.sound (.k_value_count_part a0 a1 a2) r h
noncomputable def p_value_check (a0 : V) : Option (Int × Int) :=
 Option.bind (p_value_count_part (S_value_count.mk 0 0 0) a0 1) fun x1 =>
 bif (!x1.1) then (
  some ((x1.2).f_n, (x1.2).f_why)
 ) else (
  some (0, 0)
 )
theorem s_value_check (a0 : V) (r : (Int × Int)) (h : p_value_check a0 = some r) : PCalls Try.prog 19 [(ofV a0)] (PV.tup [(I64 r.1), (I64 r.2)]) := by
 unfold p_value_check at h
 refine acalls_of Try.func19 rfl Try.ntmps19 Try.results19 rfl (aw_of_bw ?_)
 change BW _ _ _ ⟨[(0, (ofV a0))], [], _⟩ _
 refine bR ?_
 refine sA rfl rfl rfl rfl rfl ?_
 refine sA rfl rfl rfl rfl rfl (ao_nil ?_)
 change BW _ _ _ _ _
 refine bR ?_
 refine sS rfl rfl rfl (op1_alloc inf_91 rfl) (ao_nil ?_)
 change BW _ _ _ _ _
 refine bw_seq ?_
 refine bR ?_
 refine sM rfl rfl rfl rfl rfl ?_
 obtain ⟨x1, hx1, h⟩ := obind h
 refine sS rfl rfl rfl (op1_bcall 0 rfl en_31 rfl (.cons (Wk.refl _) (.cons (Wk.refl _) (.cons (Wk.refl _) .nil))) (.box (.val (ids_V a0) (.val rfl .nil))) rfl (idsL_cons rfl (idsL_cons rfl (idsL_cons rfl rfl))) (s_value_count_part (S_value_count.mk 0 0 0) a0 1 x1 hx1) rfl (idsL_cons rfl (idsL_cons rfl (idsL_cons rfl rfl)))) ?_
 refine sS rfl rfl rfl (op1_not rfl rfl) (ao_nil ?_)
 change BW _ _ _ _ _
 refine bw_cond rfl ?_ ?_
 ·intro hc2; replace h := ocond_t hc2 h
  refine bw_seq (bw_tail 5 [] [0] mo (by kernel_rfl) ?_)
  refine ac_go rfl rfl rfl rfl (fun H hp => op1_faR st_91 (i := 0) rfl rfl rfl) ?_
  refine ac_go rfl rfl rfl rfl (fun H hp => (op1_ldR Try.underlying3 rfl rfl rfl (hp.at rfl rfl) rfl)) ?_
  refine ac_go rfl rfl rfl rfl (fun H hp => op1_faR st_91 (i := 2) rfl rfl rfl) ?_
  refine ac_go rfl rfl rfl rfl (fun H hp => (op1_ldR Try.underlying33 rfl rfl rfl (hp.at rfl rfl) rfl)) ?_
  refine ac_go rfl rfl rfl rfl (fun H hp => op1_assign rfl rfl) ?_
  refine ac_nil ?_
  change AO _ _ _ _ _
  refine sA rfl rfl rfl rfl rfl (ao_nil ?_)
  change BW _ _ _ _ _
  refine bw_ret ?_
  change ∃ xs, _ = some xs ∧ EndOk _ _ _ _
  obtain rfl := Option.some.inj h
  exact ⟨_, rfl, endOk0 (y := (PV.tup [(I64 ((x1.2).f_n)), (I64 ((x1.2).f_why))])) (Wk.refl _) (ids_tup_cons rfl (ids_tup_cons rfl ids_tup_nil)) ⟨rfl, rfl⟩⟩
 ·intro hc2; replace h := ocond_f hc2 h
  refine bw_skip ?_
  change BW _ _ _ _ _
  refine bR ?_
  refine sA rfl rfl rfl rfl rfl ?_
  refine sA rfl rfl rfl rfl rfl (ao_nil ?_)
  change BW _ _ _ _ _
  refine bw_ret ?_
  change ∃ xs, _ = some xs ∧ EndOk _ _ _ _
  obtain rfl := Option.some.inj h
  exact ⟨_, rfl, endOk0 (y := (PV.tup [(I64 0), (I64 0)])) (Wk.refl _) (ids_tup_cons rfl (ids_tup_cons rfl ids_tup_nil)) ⟨rfl, rfl⟩⟩
noncomputable def p_value_Check (a0 : V) : Option (Int × Int) :=
 Option.bind (p_value_check a0) fun x1 =>
 some (x1.1, x1.2)
theorem s_value_Check (a0 : V) (r : (Int × Int)) (h : p_value_Check a0 = some r) : PCalls Try.prog 22 [(ofV a0)] (PV.tup [(I64 r.1), (I64 r.2)]) := by
 unfold p_value_Check at h
 refine acalls_of Try.func22 rfl Try.ntmps22 Try.results22 rfl (aw_of_bw ?_)
 change BW _ _ _ ⟨[(0, (ofV a0))], [], _⟩ _
 refine bR ?_
 refine sA rfl rfl rfl rfl rfl ?_
 refine sA rfl rfl rfl rfl rfl (ao_nil ?_)
 change BW _ _ _ _ _
 refine bR ?_
 refine sM rfl rfl rfl rfl rfl ?_
 obtain ⟨x1, hx1, h⟩ := obind h
 refine sS rfl rfl rfl (op1_pcall rfl en_19 rfl (.cons (Wk.refl _) .nil) ⟨(ids_V a0), trivial⟩ (s_value_check a0 x1 hx1) (ids_tup_cons rfl (ids_tup_cons rfl ids_tup_nil))) ?_
 refine sS rfl rfl rfl (op1_ext rfl rfl rfl) ?_
 refine sS rfl rfl rfl (op1_ext rfl rfl rfl) ?_
 refine sA rfl rfl rfl rfl rfl ?_
 refine sA rfl rfl rfl rfl rfl (ao_nil ?_)
 change BW _ _ _ _ _
 refine bw_ret ?_
 change ∃ xs, _ = some xs ∧ EndOk _ _ _ _
 obtain rfl := Option.some.inj h
 exact ⟨_, rfl, endOk0 (y := (PV.tup [(I64 x1.1), (I64 x1.2)])) (Wk.refl _) (ids_tup_cons rfl (ids_tup_cons rfl ids_tup_nil)) ⟨rfl, rfl⟩⟩
end Go.Proofs.Ytkmhecgagibgjaa
