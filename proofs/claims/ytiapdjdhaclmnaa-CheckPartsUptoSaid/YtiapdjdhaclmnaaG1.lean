/- Pure functions, and that calls answer as they say. Written by gen.py. -/
import Derived.Test.YtiapdjdhaclmnaaG0
namespace Go.Proofs.Ytiapdjdhaclmnaa
open Go Aw
set_option linter.unusedVariables false
set_option linter.unusedSimpArgs false
set_option maxRecDepth 20000
set_option maxHeartbeats 2000000
noncomputable def value_own_j2 : Option Int :=
 some 0
noncomputable def value_own_j3 (x16 : Rec) (s19 : Bool) : Option Int :=
 bif s19 then (
  some 1
 ) else (
  Option.bind (p_value_fields x16.fields) fun x21 =>
  some x21
 )
noncomputable def value_own_j1 (a0 : V) (s1 : Bool) : Option Int :=
 bif s1 then (
  Option.bind (p_value_kind a0) fun x3 =>
  bif (x3 == 11) then (
   some 7
  ) else (
   bif (x3 == 0) then (
    some 6
   ) else (
    some 2
   )
  )
 ) else (
  bif (a0).isText then (
   bif (decide (((((a0).asText).length : Nat) : Int) > 65536)) then (
    some 2
   ) else (
    value_own_j2
   )
  ) else (
   bif (a0).isBytes then (
    bif (decide (((((a0).asBytes).length : Nat) : Int) > 65536)) then (
     some 2
    ) else (
     value_own_j2
    )
   ) else (
    bif (a0).isList then (
     bif (decide (((((a0).asList).length : Nat) : Int) > 4096)) then (
      some 2
     ) else (
      value_own_j2
     )
    ) else (
     bif (a0).isDict then (
      Option.bind (p_value_fields ((a0).asDict)) fun x13 =>
      some x13
     ) else (
      bif (a0).isRec then (
       bif ((a0).asRec).isNone then (
        some 7
       ) else (
        Option.bind ((a0).asRec) fun x16 =>
        Option.bind (p_value_name x16.cls) fun x17 =>
        bif (!x17) then (
         some 8
        ) else (
         bif (decide (x16.ver < 1)) then (
          value_own_j3 x16 true
         ) else (
          value_own_j3 x16 (decide (x16.ver > 1000))
         )
        )
       )
      ) else (
       Option.bind (p_value_kind a0) fun x23 =>
       bif (x23 == 0) then (
        some 6
       ) else (
        value_own_j2
       )
      )
     )
    )
   )
  )
 )
noncomputable def p_value_own (a0 : V) (a1 : Int) (a2 : Int) : Option Int :=
 bif (decide (a1 ≥ 16384)) then (
  value_own_j1 a0 true
 ) else (
  value_own_j1 a0 (decide (a2 > 64))
 )
theorem s_value_own (a0 : V) (a1 : Int) (a2 : Int) (r : Int) (h : p_value_own a0 a1 a2 = some r) : PCalls Try.prog 117 [(ofV a0), (I64 a1), (I64 a2)] (I64 r) := by
 unfold p_value_own at h
 refine acalls_of Try.func117 rfl Try.ntmps117 Try.results117 rfl (aw_of_bw ?_)
 change BW _ _ _ ⟨[(0, (ofV a0)), (1, (I64 a1)), (2, (I64 a2))], [], _⟩ _
 refine bR ?_
 refine sA rfl rfl rfl rfl rfl (ao_nil ?_)
 change BW _ _ _ _ _
 refine bw_seq ?_
 refine bw_seqJ (ι := Bool) (fun i => value_own_j1 a0 i = some r) (fun i => [(0, (ofV a0)), (18, (BO i))]) (fun i => []) ?_ ?_ ?_
 ·intro i; exact ⟨Nat.le_of_ble_eq_true rfl, ⟨(il_nil (ids_V _)), ⟨(il_nil rfl), trivial⟩⟩, trivial⟩
 ·rintro s1 h; replace h : value_own_j1 a0 s1 = some r := h; unfold value_own_j1 at h
  change BW _ _ _ ⟨[(0, (ofV a0)), (18, (BO s1))], [], _⟩ _
  refine bw_cond rfl ?_ ?_
  ·intro hc2; replace h := ocond_t hc2 h
   refine bw_seq ?_
   refine bR ?_
   refine sM rfl rfl rfl rfl rfl ?_
   obtain ⟨x3, hx3, h⟩ := obind h
   refine sS rfl rfl rfl (op1_pcall rfl en_86 rfl (.cons (Wk.refl _) .nil) ⟨(ids_V a0), trivial⟩ (s_value_kind a0 x3 hx3) rfl) (ao_nil ?_)
   change BW _ _ _ _ _
   refine bw_block ?_
   change BW _ _ _ _ _
   refine bR ?_
   refine sS rfl rfl rfl ((op1_cmp rfl rfl rfl rfl).cast (y := (BO ((x3 == 11)))) rfl rfl) ?_
   refine sA rfl rfl rfl rfl rfl (ao_nil ?_)
   change BW _ _ _ _ _
   refine bw_cond rfl ?_ ?_
   ·intro hc4; replace h := ocond_t hc4 h
    refine bR ?_
    refine sA rfl rfl rfl rfl rfl (ao_nil ?_)
    change BW _ _ _ _ _
    refine bw_ret ?_
    change ∃ xs, _ = some xs ∧ EndOk _ _ _ _
    obtain rfl := Option.some.inj h
    exact ⟨_, rfl, endOk0 (y := (I64 7)) (Wk.refl _) rfl ⟨rfl, rfl⟩⟩
   ·intro hc4; replace h := ocond_f hc4 h
    refine bR ?_
    refine sS rfl rfl rfl ((op1_cmp rfl rfl rfl rfl).cast (y := (BO ((x3 == 0)))) rfl rfl) ?_
    refine sA rfl rfl rfl rfl rfl (ao_nil ?_)
    change BW _ _ _ _ _
    refine bw_cond rfl ?_ ?_
    ·intro hc5; replace h := ocond_t hc5 h
     refine bR ?_
     refine sA rfl rfl rfl rfl rfl (ao_nil ?_)
     change BW _ _ _ _ _
     refine bw_ret ?_
     change ∃ xs, _ = some xs ∧ EndOk _ _ _ _
     obtain rfl := Option.some.inj h
     exact ⟨_, rfl, endOk0 (y := (I64 6)) (Wk.refl _) rfl ⟨rfl, rfl⟩⟩
    ·intro hc5; replace h := ocond_f hc5 h
     refine bw_skip ?_
     change BW _ _ _ _ _
     refine bR ?_
     refine sA rfl rfl rfl rfl rfl (ao_nil ?_)
     change BW _ _ _ _ _
     refine bw_ret ?_
     change ∃ xs, _ = some xs ∧ EndOk _ _ _ _
     obtain rfl := Option.some.inj h
     exact ⟨_, rfl, endOk0 (y := (I64 2)) (Wk.refl _) rfl ⟨rfl, rfl⟩⟩
  ·intro hc2; replace h := ocond_f hc2 h
   refine bw_skip ?_
   change BW _ _ _ _ _
   refine bw_seqJ (ι := Unit) (fun i => value_own_j2 = some r) (fun i => []) (fun i => []) ?_ ?_ ?_
   ·intro i; exact ⟨Nat.le_of_ble_eq_true rfl, trivial, trivial⟩
   ·rintro ⟨⟩ h; replace h : value_own_j2 = some r := h; unfold value_own_j2 at h
    change BW _ _ _ ⟨[], [], _⟩ _
    refine bR ?_
    refine sA rfl rfl rfl rfl rfl (ao_nil ?_)
    change BW _ _ _ _ _
    refine bw_ret ?_
    change ∃ xs, _ = some xs ∧ EndOk _ _ _ _
    obtain rfl := Option.some.inj h
    exact ⟨_, rfl, endOk0 (y := (I64 0)) (Wk.refl _) rfl ⟨rfl, rfl⟩⟩
   ·refine bR ?_
    refine sM rfl rfl rfl rfl rfl (ao_nil ?_)
    change BW _ _ _ _ _
    refine bw_block ?_
    change BW _ _ _ _ _
    refine bR ?_
    refine sS rfl rfl rfl (op1_taText rfl rfl) ?_
    refine sS rfl rfl rfl (op1_ext rfl rfl rfl) ?_
    refine sS rfl rfl rfl (op1_ext rfl rfl rfl) (ao_nil ?_)
    change BW _ _ _ _ _
    refine bw_cond rfl ?_ ?_
    ·intro hc6; replace h := ocond_t hc6 h
     refine bR ?_
     refine sA rfl rfl rfl rfl rfl (ao_nil ?_)
     change BW _ _ _ _ _
     refine bR ?_
     refine sM rfl rfl rfl rfl rfl ?_
     refine sS rfl rfl rfl (op1_lenT (s := ((a0).asText)) Try.underlying9 rfl rfl) ?_
     refine sS rfl rfl rfl ((op1_cmp rfl rfl rfl rfl).cast (y := (BO ((decide (((((a0).asText).length : Nat) : Int) > 65536))))) rfl rfl) (ao_nil ?_)
     change BW _ _ _ _ _
     refine bw_cond rfl ?_ ?_
     ·intro hc7; replace h := ocond_t hc7 h
      refine bR ?_
      refine sA rfl rfl rfl rfl rfl (ao_nil ?_)
      change BW _ _ _ _ _
      refine bw_ret ?_
      change ∃ xs, _ = some xs ∧ EndOk _ _ _ _
      obtain rfl := Option.some.inj h
      exact ⟨_, rfl, endOk0 (y := (I64 2)) (Wk.refl _) rfl ⟨rfl, rfl⟩⟩
     ·intro hc7; replace h := ocond_f hc7 h
      refine bw_skip ?_
      exact ⟨rfl, (), h, ⟨.nil, sub_nil⟩⟩
    ·intro hc6; replace h := ocond_f hc6 h
     refine bR ?_
     refine sS rfl rfl rfl (op1_taBytes rfl rfl) ?_
     refine sS rfl rfl rfl (op1_ext rfl rfl rfl) ?_
     refine sS rfl rfl rfl (op1_ext rfl rfl rfl) (ao_nil ?_)
     change BW _ _ _ _ _
     refine bw_cond rfl ?_ ?_
     ·intro hc8; replace h := ocond_t hc8 h
      refine bR ?_
      refine sA rfl rfl rfl rfl rfl (ao_nil ?_)
      change BW _ _ _ _ _
      refine bR ?_
      refine sM rfl rfl rfl rfl rfl ?_
      refine sS rfl rfl rfl (op1_lenM Try.underlying23 rfl rfl) ?_
      refine sS rfl rfl rfl ((op1_cmp rfl rfl rfl rfl).cast (y := (BO ((decide (((((a0).asBytes).length : Nat) : Int) > 65536))))) rfl rfl) (ao_nil ?_)
      change BW _ _ _ _ _
      refine bw_cond rfl ?_ ?_
      ·intro hc9; replace h := ocond_t hc9 h
       refine bR ?_
       refine sA rfl rfl rfl rfl rfl (ao_nil ?_)
       change BW _ _ _ _ _
       refine bw_ret ?_
       change ∃ xs, _ = some xs ∧ EndOk _ _ _ _
       obtain rfl := Option.some.inj h
       exact ⟨_, rfl, endOk0 (y := (I64 2)) (Wk.refl _) rfl ⟨rfl, rfl⟩⟩
      ·intro hc9; replace h := ocond_f hc9 h
       refine bw_skip ?_
       exact ⟨rfl, (), h, ⟨.nil, sub_nil⟩⟩
     ·intro hc8; replace h := ocond_f hc8 h
      refine bR ?_
      refine sS rfl rfl rfl (op1_taList rfl rfl) ?_
      refine sS rfl rfl rfl (op1_ext rfl rfl rfl) ?_
      refine sS rfl rfl rfl (op1_ext rfl rfl rfl) (ao_nil ?_)
      change BW _ _ _ _ _
      refine bw_cond rfl ?_ ?_
      ·intro hc10; replace h := ocond_t hc10 h
       refine bR ?_
       refine sA rfl rfl rfl rfl rfl (ao_nil ?_)
       change BW _ _ _ _ _
       refine bR ?_
       refine sM rfl rfl rfl rfl rfl ?_
       refine sS rfl rfl rfl (op1_lenM Try.underlying37 rfl rfl) ?_
       refine sS rfl rfl rfl ((op1_cmp rfl rfl rfl rfl).cast (y := (BO ((decide (((((a0).asList).length : Nat) : Int) > 4096))))) rfl rfl) (ao_nil ?_)
       change BW _ _ _ _ _
       refine bw_cond rfl ?_ ?_
       ·intro hc11; replace h := ocond_t hc11 h
        refine bR ?_
        refine sA rfl rfl rfl rfl rfl (ao_nil ?_)
        change BW _ _ _ _ _
        refine bw_ret ?_
        change ∃ xs, _ = some xs ∧ EndOk _ _ _ _
        obtain rfl := Option.some.inj h
        exact ⟨_, rfl, endOk0 (y := (I64 2)) (Wk.refl _) rfl ⟨rfl, rfl⟩⟩
       ·intro hc11; replace h := ocond_f hc11 h
        refine bw_skip ?_
        exact ⟨rfl, (), h, ⟨.nil, sub_nil⟩⟩
      ·intro hc10; replace h := ocond_f hc10 h
       refine bR ?_
       refine sS rfl rfl rfl (op1_taDict rfl rfl) ?_
       refine sS rfl rfl rfl (op1_ext rfl rfl rfl) ?_
       refine sS rfl rfl rfl (op1_ext rfl rfl rfl) (ao_nil ?_)
       change BW _ _ _ _ _
       refine bw_cond rfl ?_ ?_
       ·intro hc12; replace h := ocond_t hc12 h
        refine bR ?_
        refine sA rfl rfl rfl rfl rfl (ao_nil ?_)
        change BW _ _ _ _ _
        refine bR ?_
        refine sM rfl rfl rfl rfl rfl ?_
        obtain ⟨x13, hx13, h⟩ := obind h
        refine sS rfl rfl rfl (op1_pcall rfl en_121 rfl (.cons (Wk.refl _) .nil) ⟨(ids_slM ids_Fld ((a0).asDict)), trivial⟩ (s_value_fields ((a0).asDict) x13 hx13) rfl) ?_
        refine sA rfl rfl rfl rfl rfl (ao_nil ?_)
        change BW _ _ _ _ _
        refine bw_ret ?_
        change ∃ xs, _ = some xs ∧ EndOk _ _ _ _
        obtain rfl := Option.some.inj h
        exact ⟨_, rfl, endOk0 (y := (I64 x13)) (Wk.refl _) rfl ⟨rfl, rfl⟩⟩
       ·intro hc12; replace h := ocond_f hc12 h
        refine bR ?_
        refine sS rfl rfl rfl (op1_taRec rfl rfl) ?_
        refine sS rfl rfl rfl (op1_ext rfl rfl rfl) ?_
        refine sS rfl rfl rfl (op1_ext rfl rfl rfl) (ao_nil ?_)
        change BW _ _ _ _ _
        refine bw_cond rfl ?_ ?_
        ·intro hc14; replace h := ocond_t hc14 h
         refine bR ?_
         refine sA rfl rfl rfl rfl rfl (ao_nil ?_)
         change BW _ _ _ _ _
         refine bw_seq ?_
         refine bw_block ?_
         change BW _ _ _ _ _
         refine bR ?_
         refine sM rfl rfl rfl rfl rfl ?_
         refine sS rfl rfl rfl (op1_pEqNil Try.underlying70 rfl rfl) ?_
         refine sA rfl rfl rfl rfl rfl (ao_nil ?_)
         change BW _ _ _ _ _
         refine bw_cond rfl ?_ ?_
         ·intro hc15; replace h := ocond_t hc15 h
          refine bR ?_
          refine sA rfl rfl rfl rfl rfl (ao_nil ?_)
          change BW _ _ _ _ _
          refine bw_ret ?_
          change ∃ xs, _ = some xs ∧ EndOk _ _ _ _
          obtain rfl := Option.some.inj h
          exact ⟨_, rfl, endOk0 (y := (I64 7)) (Wk.refl _) rfl ⟨rfl, rfl⟩⟩
         ·intro hc15; replace h := ocond_f hc15 h
          refine bR ?_
          refine sM rfl rfl rfl rfl rfl ?_
          obtain ⟨x16, hx16, h⟩ := obind h
          refine sS rfl rfl rfl (op1_pNil rfl rfl hx16) ?_
          refine sS rfl rfl rfl (op1_faP st_72 (i := 0) rfl rfl rfl) ?_
          refine sS rfl rfl rfl (op1_ldP (y := (ofStr x16.cls)) Try.underlying9 rfl rfl rfl rfl) ?_
          obtain ⟨x17, hx17, h⟩ := obind h
          refine sS rfl rfl rfl (op1_pcall rfl en_122 rfl (.cons (Wk.refl _) .nil) ⟨rfl, trivial⟩ (s_value_name x16.cls x17 hx17) rfl) ?_
          refine sS rfl rfl rfl (op1_not rfl rfl) ?_
          refine sA rfl rfl rfl rfl rfl (ao_nil ?_)
          change BW _ _ _ _ _
          refine bw_cond rfl ?_ ?_
          ·intro hc18; replace h := ocond_t hc18 h
           refine bR ?_
           refine sA rfl rfl rfl rfl rfl (ao_nil ?_)
           change BW _ _ _ _ _
           refine bw_ret ?_
           change ∃ xs, _ = some xs ∧ EndOk _ _ _ _
           obtain rfl := Option.some.inj h
           exact ⟨_, rfl, endOk0 (y := (I64 8)) (Wk.refl _) rfl ⟨rfl, rfl⟩⟩
          ·intro hc18; replace h := ocond_f hc18 h
           refine bw_seqJ (ι := Bool) (fun i => value_own_j3 x16 i = some r) (fun i => [(11, (ofRecP (a0).asRec)), (65, (BO i))]) (fun i => []) ?_ ?_ ?_
           ·intro i; exact ⟨Nat.le_of_ble_eq_true rfl, ⟨(il_nil (ids_RecP _)), ⟨(il_nil rfl), trivial⟩⟩, trivial⟩
           ·rintro s19 h; replace h : value_own_j3 x16 s19 = some r := h; unfold value_own_j3 at h
            change BW _ _ _ ⟨[(11, (ofRecP (a0).asRec)), (65, (BO s19))], [], _⟩ _
            refine bw_cond rfl ?_ ?_
            ·intro hc20; replace h := ocond_t hc20 h
             refine bR ?_
             refine sA rfl rfl rfl rfl rfl (ao_nil ?_)
             change BW _ _ _ _ _
             refine bw_ret ?_
             change ∃ xs, _ = some xs ∧ EndOk _ _ _ _
             obtain rfl := Option.some.inj h
             exact ⟨_, rfl, endOk0 (y := (I64 1)) (Wk.refl _) rfl ⟨rfl, rfl⟩⟩
            ·intro hc20; replace h := ocond_f hc20 h
             refine bw_skip ?_
             change BW _ _ _ _ _
             refine bR ?_
             refine sM rfl rfl rfl rfl rfl ?_
             refine sS rfl rfl rfl (op1_pNil rfl rfl hx16) ?_
             refine sS rfl rfl rfl (op1_faP st_72 (i := 2) rfl rfl rfl) ?_
             refine sS rfl rfl rfl (op1_ldP (y := (PV.sl none 2 (List.map ofFld x16.fields))) Try.underlying45 rfl rfl rfl rfl) ?_
             obtain ⟨x21, hx21, h⟩ := obind h
             refine sS rfl rfl rfl (op1_pcall rfl en_121 rfl (.cons (Wk.refl _) .nil) ⟨(ids_slM ids_Fld x16.fields), trivial⟩ (s_value_fields x16.fields x21 hx21) rfl) ?_
             refine sA rfl rfl rfl rfl rfl (ao_nil ?_)
             change BW _ _ _ _ _
             refine bw_ret ?_
             change ∃ xs, _ = some xs ∧ EndOk _ _ _ _
             obtain rfl := Option.some.inj h
             exact ⟨_, rfl, endOk0 (y := (I64 x21)) (Wk.refl _) rfl ⟨rfl, rfl⟩⟩
           ·refine bw_region ?_
            refine sM rfl rfl rfl rfl rfl ?_
            refine sS rfl rfl rfl (op1_pNil rfl rfl hx16) ?_
            refine sS rfl rfl rfl (op1_faP st_72 (i := 1) rfl rfl rfl) ?_
            refine sS rfl rfl rfl (op1_ldP (y := (I64 x16.ver)) Try.underlying3 rfl rfl rfl rfl) ?_
            refine sS rfl rfl rfl ((op1_cmp rfl rfl rfl rfl).cast (y := (BO ((decide (x16.ver < 1))))) rfl rfl) ?_
            refine sM rfl rfl rfl rfl rfl ?_
            refine ao_cases (t := 71) rfl ?_ ?_
            ·intro hb22; replace h := ocond_t hb22 h
             refine ao_no rfl rfl rfl rfl rfl rfl ?_
             refine ao_no rfl rfl rfl rfl rfl rfl ?_
             refine ao_no rfl rfl rfl rfl rfl rfl ?_
             refine ao_no rfl rfl rfl rfl rfl rfl ?_
             refine ao_no rfl rfl rfl rfl rfl rfl ?_
             refine sS rfl rfl rfl (op1_pickT rfl rfl rfl) ?_
             refine sA rfl rfl rfl rfl rfl (ao_nil ?_)
             exact ⟨rfl, true, h, ⟨.nil, (sC rfl (sC rfl sub_nil))⟩⟩
            ·intro hb22; replace h := ocond_f hb22 h
             refine ao_yes rfl rfl rfl rfl rfl rfl (op1_move rfl rfl) ?_
             refine ao_yes rfl rfl rfl rfl rfl rfl (op1_pNil rfl rfl hx16) ?_
             refine ao_yes rfl rfl rfl rfl rfl rfl (op1_faP st_72 (i := 1) rfl rfl rfl) ?_
             refine ao_yes rfl rfl rfl rfl rfl rfl (op1_ldP (y := (I64 x16.ver)) Try.underlying3 rfl rfl rfl rfl) ?_
             refine ao_yes rfl rfl rfl rfl rfl rfl ((op1_cmp rfl rfl rfl rfl).cast (y := (BO ((decide (x16.ver > 1000))))) rfl rfl) ?_
             refine sS rfl rfl rfl (op1_pickF rfl rfl rfl) ?_
             refine sA rfl rfl rfl rfl rfl (ao_nil ?_)
             exact ⟨rfl, (decide (x16.ver > 1000)), h, ⟨.nil, (sC rfl (sC rfl sub_nil))⟩⟩
        ·intro hc14; replace h := ocond_f hc14 h
         refine bR ?_
         refine sA rfl rfl rfl rfl rfl (ao_nil ?_)
         change BW _ _ _ _ _
         refine bR ?_
         refine sM rfl rfl rfl rfl rfl ?_
         obtain ⟨x23, hx23, h⟩ := obind h
         refine sS rfl rfl rfl (op1_pcall rfl en_86 rfl (.cons (Wk.refl _) .nil) ⟨(ids_V a0), trivial⟩ (s_value_kind a0 x23 hx23) rfl) ?_
         refine sS rfl rfl rfl ((op1_cmp rfl rfl rfl rfl).cast (y := (BO ((x23 == 0)))) rfl rfl) (ao_nil ?_)
         change BW _ _ _ _ _
         refine bw_cond rfl ?_ ?_
         ·intro hc24; replace h := ocond_t hc24 h
          refine bR ?_
          refine sA rfl rfl rfl rfl rfl (ao_nil ?_)
          change BW _ _ _ _ _
          refine bw_ret ?_
          change ∃ xs, _ = some xs ∧ EndOk _ _ _ _
          obtain rfl := Option.some.inj h
          exact ⟨_, rfl, endOk0 (y := (I64 6)) (Wk.refl _) rfl ⟨rfl, rfl⟩⟩
         ·intro hc24; replace h := ocond_f hc24 h
          refine bw_skip ?_
          exact ⟨rfl, (), h, ⟨.nil, sub_nil⟩⟩
 ·refine bw_region ?_
  refine sM rfl rfl rfl rfl rfl ?_
  refine sS rfl rfl rfl ((op1_cmp rfl rfl rfl rfl).cast (y := (BO ((decide (a1 ≥ 16384))))) rfl rfl) ?_
  refine sM rfl rfl rfl rfl rfl ?_
  refine ao_cases (t := 15) rfl ?_ ?_
  ·intro hb25; replace h := ocond_t hb25 h
   refine ao_no rfl rfl rfl rfl rfl rfl ?_
   refine ao_no rfl rfl rfl rfl rfl rfl ?_
   refine sS rfl rfl rfl (op1_pickT rfl rfl rfl) (ao_nil ?_)
   exact ⟨rfl, true, h, ⟨.nil, (sC rfl (sC rfl sub_nil))⟩⟩
  ·intro hb25; replace h := ocond_f hb25 h
   refine ao_yes rfl rfl rfl rfl rfl rfl (op1_move rfl rfl) ?_
   refine ao_yes rfl rfl rfl rfl rfl rfl ((op1_cmp rfl rfl rfl rfl).cast (y := (BO ((decide (a2 > 64))))) rfl rfl) ?_
   refine sS rfl rfl rfl (op1_pickF rfl rfl rfl) (ao_nil ?_)
   exact ⟨rfl, (decide (a2 > 64)), h, ⟨.nil, (sC rfl (sC rfl sub_nil))⟩⟩
noncomputable def value_count_all_l1b (r_value_count_part : S_value_count → V → Int → Option (Bool × S_value_count)) (a1 : (List (Str × V))) (a2 : Int) (g1 : Nat → Int → Int → Int → Option (Bool × S_value_count)) (s1 : Nat) (s2 : Int) (s3 : Int) (s4 : Int) : Option (Bool × S_value_count) :=
 bif (decide (((s1 : Nat) : Int) < (((a1).length : Nat) : Int))) then (
  Option.bind ((a1)[s1]?) fun x7 =>
  Option.bind (r_value_count_part (S_value_count.mk s2 s3 s4) x7.2 (IntKind.i64.wrap (a2 + 1))) fun x8 =>
  bif (!x8.1) then (
   some (false, (x8.2))
  ) else (
   g1 (s1 + 1) ((x8.2).f_n) ((x8.2).f_deep) ((x8.2).f_why)
  )
 ) else (
  some (true, (S_value_count.mk s2 s3 s4))
 )
theorem value_count_all_l1b_cm {ι : Type} {ρ : ι → Type} (r_value_count_part : (∀ i, Option (ρ i)) → S_value_count → V → Int → Option (Bool × S_value_count)) (h_r_value_count_part : ∀ y0 y1 y2, CM (fun G => r_value_count_part G y0 y1 y2)) (g1 : (∀ i, Option (ρ i)) → Nat → Int → Int → Int → Option (Bool × S_value_count)) (h_g1 : ∀ y0 y1 y2 y3, CM (fun G => g1 G y0 y1 y2 y3)) (a1 : (List (Str × V))) (a2 : Int) (s1 : Nat) (s2 : Int) (s3 : Int) (s4 : Int) : CM (fun G : (∀ i, Option (ρ i)) => value_count_all_l1b (r_value_count_part G) a1 a2 (g1 G) s1 s2 s3 s4) := by
 simp only [value_count_all_l1b]
 repeat (first | exact cm_const | exact h_r_value_count_part _ _ _ | exact h_g1 _ _ _ _ | refine cm_cond ?_ ?_ | refine cm_bind ?_ (fun _ => ?_))
noncomputable def value_count_all_l1 (r_value_count_part : S_value_count → V → Int → Option (Bool × S_value_count)) (a1 : (List (Str × V))) (a2 : Int) (s1 : Nat) (s2 : Int) (s3 : Int) (s4 : Int) : Option (Bool × S_value_count) :=
 fixO (ι := (Nat × Int × Int × Int)) (ρ := fun _ => (Bool × S_value_count)) (fun g i => value_count_all_l1b r_value_count_part a1 a2 (fun s1 s2 s3 s4 => g (s1, s2, s3, s4)) i.1 i.2.1 i.2.2.1 i.2.2.2) (s1, s2, s3, s4)
theorem value_count_all_l1_eq (r_value_count_part : S_value_count → V → Int → Option (Bool × S_value_count)) (a1 : (List (Str × V))) (a2 : Int) (s1 : Nat) (s2 : Int) (s3 : Int) (s4 : Int) : value_count_all_l1 r_value_count_part a1 a2 s1 s2 s3 s4 = value_count_all_l1b r_value_count_part a1 a2 (value_count_all_l1 r_value_count_part a1 a2) s1 s2 s3 s4 :=
 fixO_eq (ι := (Nat × Int × Int × Int)) (ρ := fun _ => (Bool × S_value_count)) (Φ := fun g i => value_count_all_l1b r_value_count_part a1 a2 (fun s1 s2 s3 s4 => g (s1, s2, s3, s4)) i.1 i.2.1 i.2.2.1 i.2.2.2) (fun i => value_count_all_l1b_cm (ι := (Nat × Int × Int × Int)) (ρ := fun _ => (Bool × S_value_count)) (fun _ => r_value_count_part) (fun _ _ _ => cm_const) (fun g => (fun s1 s2 s3 s4 => g (s1, s2, s3, s4))) (fun _ _ _ _ => cm_app) a1 a2 i.1 i.2.1 i.2.2.1 i.2.2.2) (s1, s2, s3, s4)
theorem value_count_all_l1_cm {ι : Type} {ρ : ι → Type} (r_value_count_part : (∀ i, Option (ρ i)) → S_value_count → V → Int → Option (Bool × S_value_count)) (h_r_value_count_part : ∀ y0 y1 y2, CM (fun G => r_value_count_part G y0 y1 y2)) (a1 : (List (Str × V))) (a2 : Int) (s1 : Nat) (s2 : Int) (s3 : Int) (s4 : Int) : CM (fun G : (∀ i, Option (ρ i)) => value_count_all_l1 (r_value_count_part G) a1 a2 s1 s2 s3 s4) :=
 cm_fix (κ := (Nat × Int × Int × Int)) (τ := fun _ => (Bool × S_value_count)) (Φ := fun G g i => value_count_all_l1b (r_value_count_part G) a1 a2 (fun s1 s2 s3 s4 => g (s1, s2, s3, s4)) i.1 i.2.1 i.2.2.1 i.2.2.2) (fun g i => value_count_all_l1b_cm r_value_count_part h_r_value_count_part (fun _ => (fun s1 s2 s3 s4 => g (s1, s2, s3, s4))) (fun _ _ _ _ => cm_const) a1 a2 i.1 i.2.1 i.2.2.1 i.2.2.2) (fun G i => value_count_all_l1b_cm (ι := (Nat × Int × Int × Int)) (ρ := fun _ => (Bool × S_value_count)) (fun _ => r_value_count_part G) (fun _ _ _ => cm_const) (fun g => (fun s1 s2 s3 s4 => g (s1, s2, s3, s4))) (fun _ _ _ _ => cm_app) a1 a2 i.1 i.2.1 i.2.2.1 i.2.2.2) (s1, s2, s3, s4)
noncomputable def b_value_count_all (r_value_count_all : S_value_count → (List (Str × V)) → Int → Option (Bool × S_value_count)) (r_value_count_part : S_value_count → V → Int → Option (Bool × S_value_count)) (a0 : S_value_count) (a1 : (List (Str × V))) (a2 : Int) : Option (Bool × S_value_count) :=
 value_count_all_l1 r_value_count_part a1 a2 0 a0.f_n a0.f_deep a0.f_why
theorem b_value_count_all_cm {ι : Type} {ρ : ι → Type} (r_value_count_all : (∀ i, Option (ρ i)) → S_value_count → (List (Str × V)) → Int → Option (Bool × S_value_count)) (h_r_value_count_all : ∀ y0 y1 y2, CM (fun G => r_value_count_all G y0 y1 y2)) (r_value_count_part : (∀ i, Option (ρ i)) → S_value_count → V → Int → Option (Bool × S_value_count)) (h_r_value_count_part : ∀ y0 y1 y2, CM (fun G => r_value_count_part G y0 y1 y2)) (a0 : S_value_count) (a1 : (List (Str × V))) (a2 : Int) : CM (fun G : (∀ i, Option (ρ i)) => b_value_count_all (r_value_count_all G) (r_value_count_part G) a0 a1 a2) := by
 simp only [b_value_count_all]
 repeat (first | exact cm_const | exact h_r_value_count_all _ _ _ | exact h_r_value_count_part _ _ _ | apply value_count_all_l1_cm | refine cm_cond ?_ ?_ | refine cm_bind ?_ (fun _ => ?_) | intro _ | assumption)
noncomputable def value_count_part_j1 (s3 : Int) (s4 : Int) (s5 : Int) : Option (Bool × S_value_count) :=
 some (true, (S_value_count.mk s3 s4 s5))
noncomputable def value_count_part_l1b (r_value_count_part : S_value_count → V → Int → Option (Bool × S_value_count)) (a1 : V) (a2 : Int) (g1 : Nat → Int → Int → Int → Option (Bool × S_value_count)) (s7 : Nat) (s8 : Int) (s9 : Int) (s10 : Int) : Option (Bool × S_value_count) :=
 bif (decide (((s7 : Nat) : Int) < ((((a1).asList).length : Nat) : Int))) then (
  Option.bind (((a1).asList)[s7]?) fun x13 =>
  Option.bind (r_value_count_part (S_value_count.mk s8 s9 s10) x13 (IntKind.i64.wrap (a2 + 1))) fun x14 =>
  bif (!x14.1) then (
   some (false, (x14.2))
  ) else (
   g1 (s7 + 1) ((x14.2).f_n) ((x14.2).f_deep) ((x14.2).f_why)
  )
 ) else (
  value_count_part_j1 s8 s9 s10
 )
theorem value_count_part_l1b_cm {ι : Type} {ρ : ι → Type} (r_value_count_part : (∀ i, Option (ρ i)) → S_value_count → V → Int → Option (Bool × S_value_count)) (h_r_value_count_part : ∀ y0 y1 y2, CM (fun G => r_value_count_part G y0 y1 y2)) (g1 : (∀ i, Option (ρ i)) → Nat → Int → Int → Int → Option (Bool × S_value_count)) (h_g1 : ∀ y0 y1 y2 y3, CM (fun G => g1 G y0 y1 y2 y3)) (a1 : V) (a2 : Int) (s7 : Nat) (s8 : Int) (s9 : Int) (s10 : Int) : CM (fun G : (∀ i, Option (ρ i)) => value_count_part_l1b (r_value_count_part G) a1 a2 (g1 G) s7 s8 s9 s10) := by
 simp only [value_count_part_l1b]
 repeat (first | exact cm_const | exact h_r_value_count_part _ _ _ | exact h_g1 _ _ _ _ | apply value_count_part_j1_cm | refine cm_cond ?_ ?_ | refine cm_bind ?_ (fun _ => ?_) | intro _ | assumption)
noncomputable def value_count_part_l1 (r_value_count_part : S_value_count → V → Int → Option (Bool × S_value_count)) (a1 : V) (a2 : Int) (s7 : Nat) (s8 : Int) (s9 : Int) (s10 : Int) : Option (Bool × S_value_count) :=
 fixO (ι := (Nat × Int × Int × Int)) (ρ := fun _ => (Bool × S_value_count)) (fun g i => value_count_part_l1b r_value_count_part a1 a2 (fun s7 s8 s9 s10 => g (s7, s8, s9, s10)) i.1 i.2.1 i.2.2.1 i.2.2.2) (s7, s8, s9, s10)
theorem value_count_part_l1_eq (r_value_count_part : S_value_count → V → Int → Option (Bool × S_value_count)) (a1 : V) (a2 : Int) (s7 : Nat) (s8 : Int) (s9 : Int) (s10 : Int) : value_count_part_l1 r_value_count_part a1 a2 s7 s8 s9 s10 = value_count_part_l1b r_value_count_part a1 a2 (value_count_part_l1 r_value_count_part a1 a2) s7 s8 s9 s10 :=
 fixO_eq (ι := (Nat × Int × Int × Int)) (ρ := fun _ => (Bool × S_value_count)) (Φ := fun g i => value_count_part_l1b r_value_count_part a1 a2 (fun s7 s8 s9 s10 => g (s7, s8, s9, s10)) i.1 i.2.1 i.2.2.1 i.2.2.2) (fun i => value_count_part_l1b_cm (ι := (Nat × Int × Int × Int)) (ρ := fun _ => (Bool × S_value_count)) (fun _ => r_value_count_part) (fun _ _ _ => cm_const) (fun g => (fun s7 s8 s9 s10 => g (s7, s8, s9, s10))) (fun _ _ _ _ => cm_app) a1 a2 i.1 i.2.1 i.2.2.1 i.2.2.2) (s7, s8, s9, s10)
theorem value_count_part_l1_cm {ι : Type} {ρ : ι → Type} (r_value_count_part : (∀ i, Option (ρ i)) → S_value_count → V → Int → Option (Bool × S_value_count)) (h_r_value_count_part : ∀ y0 y1 y2, CM (fun G => r_value_count_part G y0 y1 y2)) (a1 : V) (a2 : Int) (s7 : Nat) (s8 : Int) (s9 : Int) (s10 : Int) : CM (fun G : (∀ i, Option (ρ i)) => value_count_part_l1 (r_value_count_part G) a1 a2 s7 s8 s9 s10) :=
 cm_fix (κ := (Nat × Int × Int × Int)) (τ := fun _ => (Bool × S_value_count)) (Φ := fun G g i => value_count_part_l1b (r_value_count_part G) a1 a2 (fun s7 s8 s9 s10 => g (s7, s8, s9, s10)) i.1 i.2.1 i.2.2.1 i.2.2.2) (fun g i => value_count_part_l1b_cm r_value_count_part h_r_value_count_part (fun _ => (fun s7 s8 s9 s10 => g (s7, s8, s9, s10))) (fun _ _ _ _ => cm_const) a1 a2 i.1 i.2.1 i.2.2.1 i.2.2.2) (fun G i => value_count_part_l1b_cm (ι := (Nat × Int × Int × Int)) (ρ := fun _ => (Bool × S_value_count)) (fun _ => r_value_count_part G) (fun _ _ _ => cm_const) (fun g => (fun s7 s8 s9 s10 => g (s7, s8, s9, s10))) (fun _ _ _ _ => cm_app) a1 a2 i.1 i.2.1 i.2.2.1 i.2.2.2) (s7, s8, s9, s10)
noncomputable def b_value_count_part (r_value_count_all : S_value_count → (List (Str × V)) → Int → Option (Bool × S_value_count)) (r_value_count_part : S_value_count → V → Int → Option (Bool × S_value_count)) (a0 : S_value_count) (a1 : V) (a2 : Int) : Option (Bool × S_value_count) :=
 Option.bind (p_value_own a1 a0.f_n a2) fun x1 =>
 bif (x1 != 0) then (
  some (false, (S_value_count.mk a0.f_n a0.f_deep x1))
 ) else (
  bif (a1).isList then (
   value_count_part_l1 r_value_count_part a1 a2 0 (IntKind.i64.wrap (a0.f_n + 1)) (if a2 > a0.f_deep then a2 else a0.f_deep) x1
  ) else (
   bif (a1).isDict then (
    Option.bind (r_value_count_all (S_value_count.mk (IntKind.i64.wrap (a0.f_n + 1)) (if a2 > a0.f_deep then a2 else a0.f_deep) x1) ((a1).asDict) a2) fun x17 =>
    some (x17.1, (x17.2))
   ) else (
    bif (a1).isRec then (
     Option.bind ((a1).asRec) fun x19 =>
     Option.bind (r_value_count_all (S_value_count.mk (IntKind.i64.wrap (a0.f_n + 1)) (if a2 > a0.f_deep then a2 else a0.f_deep) x1) x19.fields a2) fun x20 =>
     some (x20.1, (x20.2))
    ) else (
     value_count_part_j1 (IntKind.i64.wrap (a0.f_n + 1)) (if a2 > a0.f_deep then a2 else a0.f_deep) x1
    )
   )
  )
 )
theorem b_value_count_part_cm {ι : Type} {ρ : ι → Type} (r_value_count_all : (∀ i, Option (ρ i)) → S_value_count → (List (Str × V)) → Int → Option (Bool × S_value_count)) (h_r_value_count_all : ∀ y0 y1 y2, CM (fun G => r_value_count_all G y0 y1 y2)) (r_value_count_part : (∀ i, Option (ρ i)) → S_value_count → V → Int → Option (Bool × S_value_count)) (h_r_value_count_part : ∀ y0 y1 y2, CM (fun G => r_value_count_part G y0 y1 y2)) (a0 : S_value_count) (a1 : V) (a2 : Int) : CM (fun G : (∀ i, Option (ρ i)) => b_value_count_part (r_value_count_all G) (r_value_count_part G) a0 a1 a2) := by
 simp only [b_value_count_part]
 repeat (first | exact cm_const | exact h_r_value_count_all _ _ _ | exact h_r_value_count_part _ _ _ | apply value_count_part_j1_cm | apply value_count_part_l1_cm | refine cm_cond ?_ ?_ | refine cm_bind ?_ (fun _ => ?_) | intro _ | assumption)
inductive C_value_count_all where
 | k_value_count_all (a0 : S_value_count) (a1 : (List (Str × V))) (a2 : Int)
 | k_value_count_part (a0 : S_value_count) (a1 : V) (a2 : Int)
def C_value_count_all.R : C_value_count_all → Type
 | .k_value_count_all _ _ _ => (Bool × S_value_count)
 | .k_value_count_part _ _ _ => (Bool × S_value_count)
noncomputable def C_value_count_all.F (g : ∀ i : C_value_count_all, Option i.R) : ∀ i : C_value_count_all, Option i.R
 | .k_value_count_all a0 a1 a2 => b_value_count_all (fun a0 a1 a2 => g (.k_value_count_all a0 a1 a2)) (fun a0 a1 a2 => g (.k_value_count_part a0 a1 a2)) a0 a1 a2
 | .k_value_count_part a0 a1 a2 => b_value_count_part (fun a0 a1 a2 => g (.k_value_count_all a0 a1 a2)) (fun a0 a1 a2 => g (.k_value_count_part a0 a1 a2)) a0 a1 a2
noncomputable def p_value_count_all (a0 : S_value_count) (a1 : (List (Str × V))) (a2 : Int) : Option (Bool × S_value_count) := fixO C_value_count_all.F (.k_value_count_all a0 a1 a2)
noncomputable def p_value_count_part (a0 : S_value_count) (a1 : V) (a2 : Int) : Option (Bool × S_value_count) := fixO C_value_count_all.F (.k_value_count_part a0 a1 a2)
theorem C_value_count_all.cm (i : C_value_count_all) : CM (fun g : (∀ i : C_value_count_all, Option i.R) => C_value_count_all.F g i) := by
 cases i with
 | k_value_count_all a0 a1 a2 => exact b_value_count_all_cm (fun (g : ∀ i : C_value_count_all, Option i.R) a0 a1 a2 => g (.k_value_count_all a0 a1 a2)) (fun a0 a1 a2 => cm_app (i := C_value_count_all.k_value_count_all a0 a1 a2)) (fun (g : ∀ i : C_value_count_all, Option i.R) a0 a1 a2 => g (.k_value_count_part a0 a1 a2)) (fun a0 a1 a2 => cm_app (i := C_value_count_all.k_value_count_part a0 a1 a2)) a0 a1 a2
 | k_value_count_part a0 a1 a2 => exact b_value_count_part_cm (fun (g : ∀ i : C_value_count_all, Option i.R) a0 a1 a2 => g (.k_value_count_all a0 a1 a2)) (fun a0 a1 a2 => cm_app (i := C_value_count_all.k_value_count_all a0 a1 a2)) (fun (g : ∀ i : C_value_count_all, Option i.R) a0 a1 a2 => g (.k_value_count_part a0 a1 a2)) (fun a0 a1 a2 => cm_app (i := C_value_count_all.k_value_count_part a0 a1 a2)) a0 a1 a2
theorem e_value_count_all (a0 : S_value_count) (a1 : (List (Str × V))) (a2 : Int) : p_value_count_all a0 a1 a2 = b_value_count_all p_value_count_all p_value_count_part a0 a1 a2 := fixO_eq C_value_count_all.cm (.k_value_count_all a0 a1 a2)
theorem e_value_count_part (a0 : S_value_count) (a1 : V) (a2 : Int) : p_value_count_part a0 a1 a2 = b_value_count_part p_value_count_all p_value_count_part a0 a1 a2 := fixO_eq C_value_count_all.cm (.k_value_count_part a0 a1 a2)
def C_value_count_all.Q : ∀ i : C_value_count_all, i.R → Prop
 | .k_value_count_all a0 a1 a2 => fun (r : (Bool × S_value_count)) => BCalls Try.prog 118 [(PV.rf 0 0), (PV.sl none 2 (List.map ofFld a1)), (I64 a2)] (.box 148 [(I64 a0.f_n), (I64 a0.f_deep), (I64 a0.f_why)]) (BO r.1) (.box 148 [(I64 ((r.2).f_n)), (I64 ((r.2).f_deep)), (I64 ((r.2).f_why))])
 | .k_value_count_part a0 a1 a2 => fun (r : (Bool × S_value_count)) => BCalls Try.prog 98 [(PV.rf 0 0), (ofV a1), (I64 a2)] (.box 148 [(I64 a0.f_n), (I64 a0.f_deep), (I64 a0.f_why)]) (BO r.1) (.box 148 [(I64 ((r.2).f_n)), (I64 ((r.2).f_deep)), (I64 ((r.2).f_why))])
theorem t_value_count_all (r_value_count_all : S_value_count → (List (Str × V)) → Int → Option (Bool × S_value_count)) (c_value_count_all : ∀ (a0 : S_value_count) (a1 : (List (Str × V))) (a2 : Int) r, r_value_count_all a0 a1 a2 = some r → BCalls Try.prog 118 [(PV.rf 0 0), (PV.sl none 2 (List.map ofFld a1)), (I64 a2)] (.box 148 [(I64 a0.f_n), (I64 a0.f_deep), (I64 a0.f_why)]) (BO r.1) (.box 148 [(I64 ((r.2).f_n)), (I64 ((r.2).f_deep)), (I64 ((r.2).f_why))])) (r_value_count_part : S_value_count → V → Int → Option (Bool × S_value_count)) (c_value_count_part : ∀ (a0 : S_value_count) (a1 : V) (a2 : Int) r, r_value_count_part a0 a1 a2 = some r → BCalls Try.prog 98 [(PV.rf 0 0), (ofV a1), (I64 a2)] (.box 148 [(I64 a0.f_n), (I64 a0.f_deep), (I64 a0.f_why)]) (BO r.1) (.box 148 [(I64 ((r.2).f_n)), (I64 ((r.2).f_deep)), (I64 ((r.2).f_why))])) (a0 : S_value_count) (a1 : (List (Str × V))) (a2 : Int) (r : (Bool × S_value_count)) (h : b_value_count_all r_value_count_all r_value_count_part a0 a1 a2 = some r) : BCalls Try.prog 118 [(PV.rf 0 0), (PV.sl none 2 (List.map ofFld a1)), (I64 a2)] (.box 148 [(I64 a0.f_n), (I64 a0.f_deep), (I64 a0.f_why)]) (BO r.1) (.box 148 [(I64 ((r.2).f_n)), (I64 ((r.2).f_deep)), (I64 ((r.2).f_why))]) := by
 unfold b_value_count_all at h
 refine acalls_of Try.func118 rfl Try.ntmps118 Try.results118 rfl (aw_of_bw ?_)
 change BW _ _ _ ⟨[(0, (PV.rf 0 0)), (1, (PV.sl none 2 (List.map ofFld a1))), (2, (I64 a2))], [.box 148 [(I64 a0.f_n), (I64 a0.f_deep), (I64 a0.f_why)]], _⟩ _
 refine bR ?_
 refine sA rfl rfl rfl rfl rfl (ao_nil ?_)
 change BW _ _ _ _ _
 refine bw_seq ?_
 refine bR ?_
 refine sM rfl rfl rfl rfl rfl ?_
 refine sS rfl rfl rfl (op1_lenM Try.underlying45 rfl rfl) ?_
 refine sM rfl rfl rfl rfl rfl (ao_nil ?_)
 change BW _ _ _ _ _
 refine bw_block ?_
 change BW _ _ _ _ _
 unfold value_count_all_l1 at h
 refine bw_loop (σ := (Nat × Int × Int × Int)) (fun i => [(0, (PV.rf 0 0)), (2, (I64 a2)), (9, (PV.sl none 2 (List.map ofFld a1))), (10, (I64 ((((a1).length : Nat) : Int)))), (11, (I64 (((i.1 : Nat) : Int))))]) (fun i => [.box 148 [(I64 i.2.1), (I64 i.2.2.1), (I64 i.2.2.2)]]) (0, a0.f_n, a0.f_deep, a0.f_why) h ?_ ?_ ?_
 ·intro i; exact ⟨Nat.le_of_ble_eq_true rfl, ⟨(il_rf rfl), ⟨(il_nil rfl), ⟨(il_nil (ids_slM ids_Fld _)), ⟨(il_nil rfl), ⟨(il_nil rfl), trivial⟩⟩⟩⟩⟩, ⟨⟨(il_nil rfl), ⟨(il_nil rfl), ⟨(il_nil rfl), trivial⟩⟩⟩, trivial⟩⟩
 ·exact ⟨(.cons .same .nil), (sC rfl (sC rfl (sC rfl (sC rfl (sC rfl sub_nil)))))⟩
 ·rintro g1_f ⟨s1, s2, s3, s4⟩ h; replace h : value_count_all_l1b r_value_count_part a1 a2 (fun y0 y1 y2 y3 => g1_f (y0, y1, y2, y3)) s1 s2 s3 s4 = some r := h; unfold value_count_all_l1b at h
  change BW _ _ _ ⟨[(0, (PV.rf 0 0)), (2, (I64 a2)), (9, (PV.sl none 2 (List.map ofFld a1))), (10, (I64 ((((a1).length : Nat) : Int)))), (11, (I64 (((s1 : Nat) : Int))))], [.box 148 [(I64 s2), (I64 s3), (I64 s4)]], _⟩ _
  refine bR ?_
  refine sS rfl rfl rfl ((op1_cmp rfl rfl rfl rfl).cast (y := (BO ((decide (((s1 : Nat) : Int) < (((a1).length : Nat) : Int)))))) rfl rfl) (ao_nil ?_)
  change BW _ _ _ _ _
  refine bw_seq ?_
  refine bw_len (t := 9) rfl fun hb6 => ?_
  try rw [List.length_map] at hb6
  refine bw_cond rfl ?_ ?_
  ·intro hc5; replace h := ocond_t hc5 h
   have hc5_ := of_decide_eq_true hc5
   refine bw_skip ?_
   change BW _ _ _ _ _
   refine bw_seq ?_
   refine bw_block ?_
   change BW _ _ _ _ _
   refine bR ?_
   obtain ⟨x7, hx7, h⟩ := obind h
   refine sS rfl rfl rfl (op1_idxN (i := s1) Try.underlying45 inf_43 rfl rfl rfl hx7 rfl) ?_
   refine sS rfl rfl rfl (op1_ldPW inf_43 Try.underlying43 rfl rfl rfl rfl rfl) ?_
   refine sS rfl rfl rfl (op1_alloc inf_43 rfl) ?_
   refine ao_step0 rfl rfl (op1_store inf_43 rfl rfl rfl rfl rfl rfl (Nat.le_of_ble_eq_true rfl) (by show List.all [(ofStr x7.1), (ofV x7.2)] one1 = true; simp only [List.all_cons, List.all_nil, one_V, one_RecP, Bool.and_true, Bool.true_and]; try rfl)) ?_
   refine ao_nil ?_
   change BW _ _ _ _ _
   refine bR ?_
   refine sM rfl rfl rfl rfl rfl ?_
   refine sS rfl rfl rfl (op1_faR st_43 (i := 1) rfl rfl rfl) ?_
   refine sS rfl rfl rfl ((op1_ldR Try.underlying20 rfl rfl rfl rfl rfl)) ?_
   refine sM rfl rfl rfl rfl rfl ?_
   refine sS rfl rfl rfl (op1_addW rfl rfl rfl) ?_
   obtain ⟨x8, hx8, h⟩ := obind h
   refine sS rfl rfl rfl (op1_bcall 0 rfl en_98 rfl (.cons (Wk.refl _) (.cons (Wk.refl _) (.cons (Wk.refl _) .nil))) (.box (.val (ids_V x7.2) (.val rfl .nil))) rfl (idsL_cons rfl (idsL_cons rfl (idsL_cons rfl rfl))) (c_value_count_part (S_value_count.mk s2 s3 s4) x7.2 (IntKind.i64.wrap (a2 + 1)) x8 hx8) rfl (idsL_cons rfl (idsL_cons rfl (idsL_cons rfl rfl)))) ?_
   refine sS rfl rfl rfl (op1_not rfl rfl) (ao_nil ?_)
   change BW _ _ _ _ _
   refine bw_cond rfl ?_ ?_
   ·intro hc9; replace h := ocond_t hc9 h
    refine bR ?_
    refine sA rfl rfl rfl rfl rfl (ao_nil ?_)
    change BW _ _ _ _ _
    refine bw_ret ?_
    change ∃ xs, _ = some xs ∧ EndOk _ _ _ _
    obtain rfl := Option.some.inj h
    exact ⟨_, rfl, endOk1 (y := (BO false)) (e := .box 148 [(I64 (((x8.2)).f_n)), (I64 (((x8.2)).f_deep)), (I64 (((x8.2)).f_why))]) (Wk.refl _) rfl rfl (idsL_cons rfl (idsL_cons rfl (idsL_cons rfl rfl))) ⟨rfl, rfl⟩⟩
   ·intro hc9; replace h := ocond_f hc9 h
    refine bw_skip ?_
    change BW _ _ _ _ _
    refine bw_region ?_
    refine sS rfl rfl rfl (op1_incN (k := s1) (c := 1) rfl rfl rfl (by omega)) ?_
    refine sM rfl rfl rfl rfl rfl (ao_nil ?_)
    exact ⟨rfl, ((s1 + 1), (x8.2).f_n, (x8.2).f_deep, (x8.2).f_why), h, ⟨(.cons .same .nil), (sC rfl (sC rfl (sC rfl (sC rfl (sC rfl sub_nil)))))⟩⟩
  ·intro hc5; replace h := ocond_f hc5 h
   refine bw_exit ?_
   change BW _ _ _ _ _
   refine bR ?_
   refine sA rfl rfl rfl rfl rfl (ao_nil ?_)
   change BW _ _ _ _ _
   refine bw_ret ?_
   change ∃ xs, _ = some xs ∧ EndOk _ _ _ _
   obtain rfl := Option.some.inj h
   exact ⟨_, rfl, endOk1 (y := (BO true)) (e := .box 148 [(I64 (((S_value_count.mk s2 s3 s4)).f_n)), (I64 (((S_value_count.mk s2 s3 s4)).f_deep)), (I64 (((S_value_count.mk s2 s3 s4)).f_why))]) (Wk.refl _) rfl rfl (idsL_cons rfl (idsL_cons rfl (idsL_cons rfl rfl))) ⟨rfl, rfl⟩⟩
theorem t_value_count_part (r_value_count_all : S_value_count → (List (Str × V)) → Int → Option (Bool × S_value_count)) (c_value_count_all : ∀ (a0 : S_value_count) (a1 : (List (Str × V))) (a2 : Int) r, r_value_count_all a0 a1 a2 = some r → BCalls Try.prog 118 [(PV.rf 0 0), (PV.sl none 2 (List.map ofFld a1)), (I64 a2)] (.box 148 [(I64 a0.f_n), (I64 a0.f_deep), (I64 a0.f_why)]) (BO r.1) (.box 148 [(I64 ((r.2).f_n)), (I64 ((r.2).f_deep)), (I64 ((r.2).f_why))])) (r_value_count_part : S_value_count → V → Int → Option (Bool × S_value_count)) (c_value_count_part : ∀ (a0 : S_value_count) (a1 : V) (a2 : Int) r, r_value_count_part a0 a1 a2 = some r → BCalls Try.prog 98 [(PV.rf 0 0), (ofV a1), (I64 a2)] (.box 148 [(I64 a0.f_n), (I64 a0.f_deep), (I64 a0.f_why)]) (BO r.1) (.box 148 [(I64 ((r.2).f_n)), (I64 ((r.2).f_deep)), (I64 ((r.2).f_why))])) (a0 : S_value_count) (a1 : V) (a2 : Int) (r : (Bool × S_value_count)) (h : b_value_count_part r_value_count_all r_value_count_part a0 a1 a2 = some r) : BCalls Try.prog 98 [(PV.rf 0 0), (ofV a1), (I64 a2)] (.box 148 [(I64 a0.f_n), (I64 a0.f_deep), (I64 a0.f_why)]) (BO r.1) (.box 148 [(I64 ((r.2).f_n)), (I64 ((r.2).f_deep)), (I64 ((r.2).f_why))]) := by
 unfold b_value_count_part at h
 refine acalls_of Try.func98 rfl Try.ntmps98 Try.results98 rfl (aw_of_bw ?_)
 change BW _ _ _ ⟨[(0, (PV.rf 0 0)), (1, (ofV a1)), (2, (I64 a2))], [.box 148 [(I64 a0.f_n), (I64 a0.f_deep), (I64 a0.f_why)]], _⟩ _
 refine bR ?_
 refine sA rfl rfl rfl rfl rfl (ao_nil ?_)
 change BW _ _ _ _ _
 refine bw_seq ?_
 refine bR ?_
 refine sM rfl rfl rfl rfl rfl ?_
 refine sM rfl rfl rfl rfl rfl ?_
 refine sM rfl rfl rfl rfl rfl ?_
 refine sS rfl rfl rfl (op1_nilR rfl rfl) ?_
 refine sS rfl rfl rfl (op1_faR st_148 (i := 0) rfl rfl rfl) ?_
 refine sS rfl rfl rfl ((op1_ldR Try.underlying3 rfl rfl rfl rfl rfl)) ?_
 refine sM rfl rfl rfl rfl rfl ?_
 obtain ⟨x1, hx1, h⟩ := obind h
 refine sS rfl rfl rfl (op1_pcall rfl en_117 rfl (.cons (Wk.refl _) (.cons (Wk.refl _) (.cons (Wk.refl _) .nil))) ⟨(ids_V a1), ⟨rfl, ⟨rfl, trivial⟩⟩⟩ (s_value_own a1 a0.f_n a2 x1 hx1) rfl) ?_
 refine sS rfl rfl rfl (op1_nilR rfl rfl) ?_
 refine sS rfl rfl rfl (op1_faR st_148 (i := 2) rfl rfl rfl) ?_
 refine ao_step0 rfl rfl (op1_store inf_39 rfl rfl rfl rfl rfl rfl (Nat.le_of_ble_eq_true rfl) rfl) ?_
 refine ao_nil ?_
 change BW _ _ _ _ _
 refine bR ?_
 refine sM rfl rfl rfl rfl rfl ?_
 refine sS rfl rfl rfl (op1_nilR rfl rfl) ?_
 refine sS rfl rfl rfl (op1_faR st_148 (i := 2) rfl rfl rfl) ?_
 refine sS rfl rfl rfl ((op1_ldR Try.underlying39 rfl rfl rfl rfl rfl)) ?_
 refine sS rfl rfl rfl ((op1_cmp rfl rfl rfl rfl).cast (y := (BO ((x1 != 0)))) rfl rfl) (ao_nil ?_)
 change BW _ _ _ _ _
 refine bw_cond rfl ?_ ?_
 ·intro hc2; replace h := ocond_t hc2 h
  refine bR ?_
  refine sA rfl rfl rfl rfl rfl (ao_nil ?_)
  change BW _ _ _ _ _
  refine bw_ret ?_
  change ∃ xs, _ = some xs ∧ EndOk _ _ _ _
  obtain rfl := Option.some.inj h
  exact ⟨_, rfl, endOk1 (y := (BO false)) (e := .box 148 [(I64 (((S_value_count.mk a0.f_n a0.f_deep x1)).f_n)), (I64 (((S_value_count.mk a0.f_n a0.f_deep x1)).f_deep)), (I64 (((S_value_count.mk a0.f_n a0.f_deep x1)).f_why))]) (Wk.refl _) rfl rfl (idsL_cons rfl (idsL_cons rfl (idsL_cons rfl rfl))) ⟨rfl, rfl⟩⟩
 ·intro hc2; replace h := ocond_f hc2 h
  refine bw_skip ?_
  change BW _ _ _ _ _
  refine bR ?_
  refine sM rfl rfl rfl rfl rfl ?_
  refine sS rfl rfl rfl (op1_nilR rfl rfl) ?_
  refine sS rfl rfl rfl (op1_faR st_148 (i := 0) rfl rfl rfl) ?_
  refine sS rfl rfl rfl ((op1_ldR Try.underlying3 rfl rfl rfl rfl rfl)) ?_
  refine sS rfl rfl rfl (op1_addW rfl rfl rfl) ?_
  refine sS rfl rfl rfl (op1_nilR rfl rfl) ?_
  refine sS rfl rfl rfl (op1_faR st_148 (i := 0) rfl rfl rfl) ?_
  refine ao_step0 rfl rfl (op1_store inf_3 rfl rfl rfl rfl rfl rfl (Nat.le_of_ble_eq_true rfl) rfl) ?_
  refine ao_nil ?_
  change BW _ _ _ _ _
  refine bR ?_
  refine sM rfl rfl rfl rfl rfl ?_
  refine sM rfl rfl rfl rfl rfl ?_
  refine sS rfl rfl rfl (op1_nilR rfl rfl) ?_
  refine sS rfl rfl rfl (op1_faR st_148 (i := 1) rfl rfl rfl) ?_
  refine sS rfl rfl rfl ((op1_ldR Try.underlying3 rfl rfl rfl rfl rfl)) ?_
  refine sM rfl rfl rfl rfl rfl ?_
  refine sS rfl rfl rfl (op1_maxI (args := []) rfl rfl rfl) ?_
  refine sS rfl rfl rfl (op1_nilR rfl rfl) ?_
  refine sS rfl rfl rfl (op1_faR st_148 (i := 1) rfl rfl rfl) ?_
  refine ao_step0 rfl rfl (op1_store inf_3 rfl rfl rfl rfl rfl rfl (Nat.le_of_ble_eq_true rfl) rfl) ?_
  refine ao_nil ?_
  change BW _ _ _ _ _
  refine bw_seqJ (ι := (Int × Int × Int)) (fun i => value_count_part_j1 i.1 i.2.1 i.2.2 = some r) (fun i => [(0, (PV.rf 0 0))]) (fun i => [.box 148 [(I64 i.1), (I64 i.2.1), (I64 i.2.2)]]) ?_ ?_ ?_
  ·intro i; exact ⟨Nat.le_of_ble_eq_true rfl, ⟨(il_rf rfl), trivial⟩, ⟨⟨(il_nil rfl), ⟨(il_nil rfl), ⟨(il_nil rfl), trivial⟩⟩⟩, trivial⟩⟩
  ·rintro ⟨s3, s4, s5⟩ h; replace h : value_count_part_j1 s3 s4 s5 = some r := h; unfold value_count_part_j1 at h
   change BW _ _ _ ⟨[(0, (PV.rf 0 0))], [.box 148 [(I64 s3), (I64 s4), (I64 s5)]], _⟩ _
   refine bR ?_
   refine sA rfl rfl rfl rfl rfl (ao_nil ?_)
   change BW _ _ _ _ _
   refine bw_ret ?_
   change ∃ xs, _ = some xs ∧ EndOk _ _ _ _
   obtain rfl := Option.some.inj h
   exact ⟨_, rfl, endOk1 (y := (BO true)) (e := .box 148 [(I64 (((S_value_count.mk s3 s4 s5)).f_n)), (I64 (((S_value_count.mk s3 s4 s5)).f_deep)), (I64 (((S_value_count.mk s3 s4 s5)).f_why))]) (Wk.refl _) rfl rfl (idsL_cons rfl (idsL_cons rfl (idsL_cons rfl rfl))) ⟨rfl, rfl⟩⟩
  ·refine bR ?_
   refine sM rfl rfl rfl rfl rfl (ao_nil ?_)
   change BW _ _ _ _ _
   refine bw_block ?_
   change BW _ _ _ _ _
   refine bR ?_
   refine sS rfl rfl rfl (op1_taList rfl rfl) ?_
   refine sS rfl rfl rfl (op1_ext rfl rfl rfl) ?_
   refine sS rfl rfl rfl (op1_ext rfl rfl rfl) (ao_nil ?_)
   change BW _ _ _ _ _
   refine bw_cond rfl ?_ ?_
   ·intro hc6; replace h := ocond_t hc6 h
    refine bR ?_
    refine sA rfl rfl rfl rfl rfl (ao_nil ?_)
    change BW _ _ _ _ _
    refine bR ?_
    refine sM rfl rfl rfl rfl rfl ?_
    refine sS rfl rfl rfl (op1_lenM Try.underlying37 rfl rfl) ?_
    refine sM rfl rfl rfl rfl rfl (ao_nil ?_)
    change BW _ _ _ _ _
    refine bw_block ?_
    change BW _ _ _ _ _
    unfold value_count_part_l1 at h
    refine bw_loop (σ := (Nat × Int × Int × Int)) (fun i => [(0, (PV.rf 0 0)), (2, (I64 a2)), (47, (PV.sl none 1 (List.map ofV (a1).asList))), (48, (I64 (((((a1).asList).length : Nat) : Int)))), (49, (I64 (((i.1 : Nat) : Int))))]) (fun i => [.box 148 [(I64 i.2.1), (I64 i.2.2.1), (I64 i.2.2.2)]]) (0, (IntKind.i64.wrap (a0.f_n + 1)), (if a2 > a0.f_deep then a2 else a0.f_deep), x1) h ?_ ?_ ?_
    ·intro i; exact ⟨Nat.le_of_ble_eq_true rfl, ⟨(il_rf rfl), ⟨(il_nil rfl), ⟨(il_nil (ids_slM ids_V _)), ⟨(il_nil rfl), ⟨(il_nil rfl), trivial⟩⟩⟩⟩⟩, ⟨⟨(il_nil rfl), ⟨(il_nil rfl), ⟨(il_nil rfl), trivial⟩⟩⟩, trivial⟩⟩
    ·exact ⟨(.cons .same .nil), (sC rfl (sC rfl (sC rfl (sC rfl (sC rfl sub_nil)))))⟩
    ·rintro g1_f ⟨s7, s8, s9, s10⟩ h; replace h : value_count_part_l1b r_value_count_part a1 a2 (fun y0 y1 y2 y3 => g1_f (y0, y1, y2, y3)) s7 s8 s9 s10 = some r := h; unfold value_count_part_l1b at h
     change BW _ _ _ ⟨[(0, (PV.rf 0 0)), (2, (I64 a2)), (47, (PV.sl none 1 (List.map ofV (a1).asList))), (48, (I64 (((((a1).asList).length : Nat) : Int)))), (49, (I64 (((s7 : Nat) : Int))))], [.box 148 [(I64 s8), (I64 s9), (I64 s10)]], _⟩ _
     refine bR ?_
     refine sS rfl rfl rfl ((op1_cmp rfl rfl rfl rfl).cast (y := (BO ((decide (((s7 : Nat) : Int) < ((((a1).asList).length : Nat) : Int)))))) rfl rfl) (ao_nil ?_)
     change BW _ _ _ _ _
     refine bw_seq ?_
     refine bw_len (t := 47) rfl fun hb12 => ?_
     try rw [List.length_map] at hb12
     refine bw_cond rfl ?_ ?_
     ·intro hc11; replace h := ocond_t hc11 h
      have hc11_ := of_decide_eq_true hc11
      refine bw_skip ?_
      change BW _ _ _ _ _
      refine bw_seq ?_
      refine bw_block ?_
      change BW _ _ _ _ _
      refine bR ?_
      obtain ⟨x13, hx13, h⟩ := obind h
      refine sS rfl rfl rfl (op1_idxN (i := s7) Try.underlying37 inf_20 rfl rfl rfl hx13 rfl) ?_
      refine sS rfl rfl rfl (op1_ldP (y := (ofV x13)) Try.underlying20 rfl rfl rfl (by rw [cells_V]; rfl)) ?_
      refine sA rfl rfl rfl rfl rfl (ao_nil ?_)
      change BW _ _ _ _ _
      refine bR ?_
      refine sM rfl rfl rfl rfl rfl ?_
      refine sM rfl rfl rfl rfl rfl ?_
      refine sM rfl rfl rfl rfl rfl ?_
      refine sS rfl rfl rfl (op1_addW rfl rfl rfl) ?_
      obtain ⟨x14, hx14, h⟩ := obind h
      refine sS rfl rfl rfl (op1_bcall 0 rfl en_98 rfl (.cons (Wk.refl _) (.cons (Wk.refl _) (.cons (Wk.refl _) .nil))) (.box (.val (ids_V x13) (.val rfl .nil))) rfl (idsL_cons rfl (idsL_cons rfl (idsL_cons rfl rfl))) (c_value_count_part (S_value_count.mk s8 s9 s10) x13 (IntKind.i64.wrap (a2 + 1)) x14 hx14) rfl (idsL_cons rfl (idsL_cons rfl (idsL_cons rfl rfl)))) ?_
      refine sS rfl rfl rfl (op1_not rfl rfl) (ao_nil ?_)
      change BW _ _ _ _ _
      refine bw_cond rfl ?_ ?_
      ·intro hc15; replace h := ocond_t hc15 h
       refine bR ?_
       refine sA rfl rfl rfl rfl rfl (ao_nil ?_)
       change BW _ _ _ _ _
       refine bw_ret ?_
       change ∃ xs, _ = some xs ∧ EndOk _ _ _ _
       obtain rfl := Option.some.inj h
       exact ⟨_, rfl, endOk1 (y := (BO false)) (e := .box 148 [(I64 (((x14.2)).f_n)), (I64 (((x14.2)).f_deep)), (I64 (((x14.2)).f_why))]) (Wk.refl _) rfl rfl (idsL_cons rfl (idsL_cons rfl (idsL_cons rfl rfl))) ⟨rfl, rfl⟩⟩
      ·intro hc15; replace h := ocond_f hc15 h
       refine bw_skip ?_
       change BW _ _ _ _ _
       refine bw_region ?_
       refine sS rfl rfl rfl (op1_incN (k := s7) (c := 1) rfl rfl rfl (by omega)) ?_
       refine sM rfl rfl rfl rfl rfl (ao_nil ?_)
       exact ⟨rfl, ((s7 + 1), (x14.2).f_n, (x14.2).f_deep, (x14.2).f_why), h, ⟨(.cons .same .nil), (sC rfl (sC rfl (sC rfl (sC rfl (sC rfl sub_nil)))))⟩⟩
     ·intro hc11; replace h := ocond_f hc11 h
      refine bw_exit ?_
      exact ⟨rfl, (s8, s9, s10), h, ⟨(.cons .same .nil), (sC rfl sub_nil)⟩⟩
   ·intro hc6; replace h := ocond_f hc6 h
    refine bR ?_
    refine sS rfl rfl rfl (op1_taDict rfl rfl) ?_
    refine sS rfl rfl rfl (op1_ext rfl rfl rfl) ?_
    refine sS rfl rfl rfl (op1_ext rfl rfl rfl) (ao_nil ?_)
    change BW _ _ _ _ _
    refine bw_cond rfl ?_ ?_
    ·intro hc16; replace h := ocond_t hc16 h
     refine bR ?_
     refine sA rfl rfl rfl rfl rfl (ao_nil ?_)
     change BW _ _ _ _ _
     refine bR ?_
     refine sM rfl rfl rfl rfl rfl ?_
     refine sM rfl rfl rfl rfl rfl ?_
     refine sM rfl rfl rfl rfl rfl ?_
     obtain ⟨x17, hx17, h⟩ := obind h
     refine sS rfl rfl rfl (op1_bcall 0 rfl en_118 rfl (.cons (Wk.refl _) (.cons (Wk.refl _) (.cons (Wk.refl _) .nil))) (.box (.val (ids_slM ids_Fld ((a1).asDict)) (.val rfl .nil))) rfl (idsL_cons rfl (idsL_cons rfl (idsL_cons rfl rfl))) (c_value_count_all (S_value_count.mk (IntKind.i64.wrap (a0.f_n + 1)) (if a2 > a0.f_deep then a2 else a0.f_deep) x1) ((a1).asDict) a2 x17 hx17) rfl (idsL_cons rfl (idsL_cons rfl (idsL_cons rfl rfl)))) ?_
     refine sA rfl rfl rfl rfl rfl (ao_nil ?_)
     change BW _ _ _ _ _
     refine bw_ret ?_
     change ∃ xs, _ = some xs ∧ EndOk _ _ _ _
     obtain rfl := Option.some.inj h
     exact ⟨_, rfl, endOk1 (y := (BO x17.1)) (e := .box 148 [(I64 (((x17.2)).f_n)), (I64 (((x17.2)).f_deep)), (I64 (((x17.2)).f_why))]) (Wk.refl _) rfl rfl (idsL_cons rfl (idsL_cons rfl (idsL_cons rfl rfl))) ⟨rfl, rfl⟩⟩
    ·intro hc16; replace h := ocond_f hc16 h
     refine bR ?_
     refine sS rfl rfl rfl (op1_taRec rfl rfl) ?_
     refine sS rfl rfl rfl (op1_ext rfl rfl rfl) ?_
     refine sS rfl rfl rfl (op1_ext rfl rfl rfl) (ao_nil ?_)
     change BW _ _ _ _ _
     refine bw_cond rfl ?_ ?_
     ·intro hc18; replace h := ocond_t hc18 h
      refine bR ?_
      refine sA rfl rfl rfl rfl rfl (ao_nil ?_)
      change BW _ _ _ _ _
      refine bR ?_
      refine sM rfl rfl rfl rfl rfl ?_
      refine sM rfl rfl rfl rfl rfl ?_
      obtain ⟨x19, hx19, h⟩ := obind h
      refine sS rfl rfl rfl (op1_pNil rfl rfl hx19) ?_
      refine sS rfl rfl rfl (op1_faP st_72 (i := 2) rfl rfl rfl) ?_
      refine sS rfl rfl rfl (op1_ldP (y := (PV.sl none 2 (List.map ofFld x19.fields))) Try.underlying45 rfl rfl rfl rfl) ?_
      refine sM rfl rfl rfl rfl rfl ?_
      obtain ⟨x20, hx20, h⟩ := obind h
      refine sS rfl rfl rfl (op1_bcall 0 rfl en_118 rfl (.cons (Wk.refl _) (.cons (Wk.refl _) (.cons (Wk.refl _) .nil))) (.box (.val (ids_slM ids_Fld x19.fields) (.val rfl .nil))) rfl (idsL_cons rfl (idsL_cons rfl (idsL_cons rfl rfl))) (c_value_count_all (S_value_count.mk (IntKind.i64.wrap (a0.f_n + 1)) (if a2 > a0.f_deep then a2 else a0.f_deep) x1) x19.fields a2 x20 hx20) rfl (idsL_cons rfl (idsL_cons rfl (idsL_cons rfl rfl)))) ?_
      refine sA rfl rfl rfl rfl rfl (ao_nil ?_)
      change BW _ _ _ _ _
      refine bw_ret ?_
      change ∃ xs, _ = some xs ∧ EndOk _ _ _ _
      obtain rfl := Option.some.inj h
      exact ⟨_, rfl, endOk1 (y := (BO x20.1)) (e := .box 148 [(I64 (((x20.2)).f_n)), (I64 (((x20.2)).f_deep)), (I64 (((x20.2)).f_why))]) (Wk.refl _) rfl rfl (idsL_cons rfl (idsL_cons rfl (idsL_cons rfl rfl))) ⟨rfl, rfl⟩⟩
     ·intro hc18; replace h := ocond_f hc18 h
      refine bw_skip ?_
      exact ⟨rfl, ((IntKind.i64.wrap (a0.f_n + 1)), (if a2 > a0.f_deep then a2 else a0.f_deep), x1), h, ⟨(.cons .same .nil), (sC rfl sub_nil)⟩⟩
theorem C_value_count_all.sound : ∀ (i : C_value_count_all) (r : i.R), fixO C_value_count_all.F i = some r → C_value_count_all.Q i r := by
 refine fixO_ind (Φ := C_value_count_all.F) (Q := C_value_count_all.Q) ?_
 intro g hg i r h
 cases i with
 | k_value_count_all a0 a1 a2 => exact t_value_count_all (fun a0 a1 a2 => g (.k_value_count_all a0 a1 a2)) (fun a0 a1 a2 r hr => hg (.k_value_count_all a0 a1 a2) r hr) (fun a0 a1 a2 => g (.k_value_count_part a0 a1 a2)) (fun a0 a1 a2 r hr => hg (.k_value_count_part a0 a1 a2) r hr) a0 a1 a2 r h
 | k_value_count_part a0 a1 a2 => exact t_value_count_part (fun a0 a1 a2 => g (.k_value_count_all a0 a1 a2)) (fun a0 a1 a2 r hr => hg (.k_value_count_all a0 a1 a2) r hr) (fun a0 a1 a2 => g (.k_value_count_part a0 a1 a2)) (fun a0 a1 a2 r hr => hg (.k_value_count_part a0 a1 a2) r hr) a0 a1 a2 r h
theorem s_value_count_all (a0 : S_value_count) (a1 : (List (Str × V))) (a2 : Int) (r : (Bool × S_value_count)) (h : p_value_count_all a0 a1 a2 = some r) : BCalls Try.prog 118 [(PV.rf 0 0), (PV.sl none 2 (List.map ofFld a1)), (I64 a2)] (.box 148 [(I64 a0.f_n), (I64 a0.f_deep), (I64 a0.f_why)]) (BO r.1) (.box 148 [(I64 ((r.2).f_n)), (I64 ((r.2).f_deep)), (I64 ((r.2).f_why))]) := C_value_count_all.sound (.k_value_count_all a0 a1 a2) r h
theorem s_value_count_part (a0 : S_value_count) (a1 : V) (a2 : Int) (r : (Bool × S_value_count)) (h : p_value_count_part a0 a1 a2 = some r) : BCalls Try.prog 98 [(PV.rf 0 0), (ofV a1), (I64 a2)] (.box 148 [(I64 a0.f_n), (I64 a0.f_deep), (I64 a0.f_why)]) (BO r.1) (.box 148 [(I64 ((r.2).f_n)), (I64 ((r.2).f_deep)), (I64 ((r.2).f_why))]) := C_value_count_all.sound (.k_value_count_part a0 a1 a2) r h
noncomputable def p_value_check (a0 : V) : Option (Int × Int) :=
 Option.bind (p_value_count_part (S_value_count.mk 0 0 0) a0 1) fun x1 =>
 bif (!x1.1) then (
  some ((x1.2).f_n, (x1.2).f_why)
 ) else (
  some (0, 0)
 )
theorem s_value_check (a0 : V) (r : (Int × Int)) (h : p_value_check a0 = some r) : PCalls Try.prog 68 [(ofV a0)] (PV.tup [(I64 r.1), (I64 r.2)]) := by
 unfold p_value_check at h
 refine acalls_of Try.func68 rfl Try.ntmps68 Try.results68 rfl (aw_of_bw ?_)
 change BW _ _ _ ⟨[(0, (ofV a0))], [], _⟩ _
 refine bR ?_
 refine sA rfl rfl rfl rfl rfl ?_
 refine sA rfl rfl rfl rfl rfl (ao_nil ?_)
 change BW _ _ _ _ _
 refine bR ?_
 refine sS rfl rfl rfl (op1_alloc inf_148 rfl) (ao_nil ?_)
 change BW _ _ _ _ _
 refine bw_seq ?_
 refine bR ?_
 refine sM rfl rfl rfl rfl rfl ?_
 obtain ⟨x1, hx1, h⟩ := obind h
 refine sS rfl rfl rfl (op1_bcall 0 rfl en_98 rfl (.cons (Wk.refl _) (.cons (Wk.refl _) (.cons (Wk.refl _) .nil))) (.box (.val (ids_V a0) (.val rfl .nil))) rfl (idsL_cons rfl (idsL_cons rfl (idsL_cons rfl rfl))) (s_value_count_part (S_value_count.mk 0 0 0) a0 1 x1 hx1) rfl (idsL_cons rfl (idsL_cons rfl (idsL_cons rfl rfl)))) ?_
 refine sS rfl rfl rfl (op1_not rfl rfl) (ao_nil ?_)
 change BW _ _ _ _ _
 refine bw_cond rfl ?_ ?_
 ·intro hc2; replace h := ocond_t hc2 h
  refine bw_seq (bw_tail 5 [] [0] mo (by kernel_rfl) ?_)
  refine ac_go rfl rfl rfl rfl (fun H hp => op1_faR st_148 (i := 0) rfl rfl rfl) ?_
  refine ac_go rfl rfl rfl rfl (fun H hp => (op1_ldR Try.underlying3 rfl rfl rfl (hp.at rfl rfl) rfl)) ?_
  refine ac_go rfl rfl rfl rfl (fun H hp => op1_faR st_148 (i := 2) rfl rfl rfl) ?_
  refine ac_go rfl rfl rfl rfl (fun H hp => (op1_ldR Try.underlying39 rfl rfl rfl (hp.at rfl rfl) rfl)) ?_
  refine ac_go rfl rfl rfl rfl (fun H hp => op1_assign rfl rfl) ?_
  refine ac_nil ?_
  change AO _ _ _ _ _
  refine sA rfl rfl rfl rfl rfl (ao_nil ?_)
  change BW _ _ _ _ _
  refine bw_ret ?_
  change ∃ xs, _ = some xs ∧ EndOk _ _ _ _
  obtain rfl := Option.some.inj h
  exact ⟨_, rfl, endOk0 (y := (PV.tup [(I64 ((x1.2).f_n)), (I64 ((x1.2).f_why))])) (Wk.refl _) (ids_tup_cons rfl (ids_tup_cons rfl ids_tup_nil)) ⟨rfl, rfl⟩⟩
 ·intro hc2; replace h := ocond_f hc2 h
  refine bw_skip ?_
  change BW _ _ _ _ _
  refine bR ?_
  refine sA rfl rfl rfl rfl rfl ?_
  refine sA rfl rfl rfl rfl rfl (ao_nil ?_)
  change BW _ _ _ _ _
  refine bw_ret ?_
  change ∃ xs, _ = some xs ∧ EndOk _ _ _ _
  obtain rfl := Option.some.inj h
  exact ⟨_, rfl, endOk0 (y := (PV.tup [(I64 0), (I64 0)])) (Wk.refl _) (ids_tup_cons rfl (ids_tup_cons rfl ids_tup_nil)) ⟨rfl, rfl⟩⟩
noncomputable def p_value_Check (a0 : V) : Option (Int × Int) :=
 Option.bind (p_value_check a0) fun x1 =>
 some (x1.1, x1.2)
theorem s_value_Check (a0 : V) (r : (Int × Int)) (h : p_value_Check a0 = some r) : PCalls Try.prog 48 [(ofV a0)] (PV.tup [(I64 r.1), (I64 r.2)]) := by
 unfold p_value_Check at h
 refine acalls_of Try.func48 rfl Try.ntmps48 Try.results48 rfl (aw_of_bw ?_)
 change BW _ _ _ ⟨[(0, (ofV a0))], [], _⟩ _
 refine bR ?_
 refine sA rfl rfl rfl rfl rfl ?_
 refine sA rfl rfl rfl rfl rfl (ao_nil ?_)
 change BW _ _ _ _ _
 refine bR ?_
 refine sM rfl rfl rfl rfl rfl ?_
 obtain ⟨x1, hx1, h⟩ := obind h
 refine sS rfl rfl rfl (op1_pcall rfl en_68 rfl (.cons (Wk.refl _) .nil) ⟨(ids_V a0), trivial⟩ (s_value_check a0 x1 hx1) (ids_tup_cons rfl (ids_tup_cons rfl ids_tup_nil))) ?_
 refine sS rfl rfl rfl (op1_ext rfl rfl rfl) ?_
 refine sS rfl rfl rfl (op1_ext rfl rfl rfl) ?_
 refine sA rfl rfl rfl rfl rfl ?_
 refine sA rfl rfl rfl rfl rfl (ao_nil ?_)
 change BW _ _ _ _ _
 refine bw_ret ?_
 change ∃ xs, _ = some xs ∧ EndOk _ _ _ _
 obtain rfl := Option.some.inj h
 exact ⟨_, rfl, endOk0 (y := (PV.tup [(I64 x1.1), (I64 x1.2)])) (Wk.refl _) (ids_tup_cons rfl (ids_tup_cons rfl ids_tup_nil)) ⟨rfl, rfl⟩⟩
noncomputable def value_dict_l1b (r_value_loose : Term → Option V) (a0 : (List (Str × Term))) (g1 : (List (Str × V)) → Nat → Option (List (Str × V))) (s2 : (List (Str × V))) (s3 : Nat) : Option (List (Str × V)) :=
 bif (decide (((s3 : Nat) : Int) < (((a0).length : Nat) : Int))) then (
  Option.bind ((a0)[s3]?) fun x6 =>
  Option.bind (r_value_loose (x6.2)) fun x7 =>
  Option.bind (appO 32 s2 ([(x6.1, x7)] : (List (Str × V)))) fun x8 =>
  g1 x8 (s3 + 1)
 ) else (
  some s2
 )
theorem value_dict_l1b_cm {ι : Type} {ρ : ι → Type} (r_value_loose : (∀ i, Option (ρ i)) → Term → Option V) (h_r_value_loose : ∀ y0, CM (fun G => r_value_loose G y0)) (g1 : (∀ i, Option (ρ i)) → (List (Str × V)) → Nat → Option (List (Str × V))) (h_g1 : ∀ y0 y1, CM (fun G => g1 G y0 y1)) (a0 : (List (Str × Term))) (s2 : (List (Str × V))) (s3 : Nat) : CM (fun G : (∀ i, Option (ρ i)) => value_dict_l1b (r_value_loose G) a0 (g1 G) s2 s3) := by
 simp only [value_dict_l1b]
 repeat (first | exact cm_const | exact h_r_value_loose _ | exact h_g1 _ _ | refine cm_cond ?_ ?_ | refine cm_bind ?_ (fun _ => ?_))
noncomputable def value_dict_l1 (r_value_loose : Term → Option V) (a0 : (List (Str × Term))) (s2 : (List (Str × V))) (s3 : Nat) : Option (List (Str × V)) :=
 fixO (ι := ((List (Str × V)) × Nat)) (ρ := fun _ => (List (Str × V))) (fun g i => value_dict_l1b r_value_loose a0 (fun s2 s3 => g (s2, s3)) i.1 i.2) (s2, s3)
theorem value_dict_l1_eq (r_value_loose : Term → Option V) (a0 : (List (Str × Term))) (s2 : (List (Str × V))) (s3 : Nat) : value_dict_l1 r_value_loose a0 s2 s3 = value_dict_l1b r_value_loose a0 (value_dict_l1 r_value_loose a0) s2 s3 :=
 fixO_eq (ι := ((List (Str × V)) × Nat)) (ρ := fun _ => (List (Str × V))) (Φ := fun g i => value_dict_l1b r_value_loose a0 (fun s2 s3 => g (s2, s3)) i.1 i.2) (fun i => value_dict_l1b_cm (ι := ((List (Str × V)) × Nat)) (ρ := fun _ => (List (Str × V))) (fun _ => r_value_loose) (fun _ => cm_const) (fun g => (fun s2 s3 => g (s2, s3))) (fun _ _ => cm_app) a0 i.1 i.2) (s2, s3)
theorem value_dict_l1_cm {ι : Type} {ρ : ι → Type} (r_value_loose : (∀ i, Option (ρ i)) → Term → Option V) (h_r_value_loose : ∀ y0, CM (fun G => r_value_loose G y0)) (a0 : (List (Str × Term))) (s2 : (List (Str × V))) (s3 : Nat) : CM (fun G : (∀ i, Option (ρ i)) => value_dict_l1 (r_value_loose G) a0 s2 s3) :=
 cm_fix (κ := ((List (Str × V)) × Nat)) (τ := fun _ => (List (Str × V))) (Φ := fun G g i => value_dict_l1b (r_value_loose G) a0 (fun s2 s3 => g (s2, s3)) i.1 i.2) (fun g i => value_dict_l1b_cm r_value_loose h_r_value_loose (fun _ => (fun s2 s3 => g (s2, s3))) (fun _ _ => cm_const) a0 i.1 i.2) (fun G i => value_dict_l1b_cm (ι := ((List (Str × V)) × Nat)) (ρ := fun _ => (List (Str × V))) (fun _ => r_value_loose G) (fun _ => cm_const) (fun g => (fun s2 s3 => g (s2, s3))) (fun _ _ => cm_app) a0 i.1 i.2) (s2, s3)
noncomputable def b_value_dict (r_value_dict : (List (Str × Term)) → Option (List (Str × V))) (r_value_loose : Term → Option V) (a0 : (List (Str × Term))) : Option (List (Str × V)) :=
 Option.bind (roomO ((a0).length) 32) fun x1 =>
 value_dict_l1 r_value_loose a0 ([] : (List (Str × V))) 0
theorem b_value_dict_cm {ι : Type} {ρ : ι → Type} (r_value_dict : (∀ i, Option (ρ i)) → (List (Str × Term)) → Option (List (Str × V))) (h_r_value_dict : ∀ y0, CM (fun G => r_value_dict G y0)) (r_value_loose : (∀ i, Option (ρ i)) → Term → Option V) (h_r_value_loose : ∀ y0, CM (fun G => r_value_loose G y0)) (a0 : (List (Str × Term))) : CM (fun G : (∀ i, Option (ρ i)) => b_value_dict (r_value_dict G) (r_value_loose G) a0) := by
 simp only [b_value_dict]
 repeat (first | exact cm_const | exact h_r_value_dict _ | exact h_r_value_loose _ | apply value_dict_l1_cm | refine cm_cond ?_ ?_ | refine cm_bind ?_ (fun _ => ?_) | intro _ | assumption)
noncomputable def value_loose_l1b (r_value_loose : Term → Option V) (a0 : Term) (g1 : (List V) → Nat → Option V) (s11 : (List V)) (s12 : Nat) : Option V :=
 bif (decide (((s12 : Nat) : Int) < (((a0.list).length : Nat) : Int))) then (
  Option.bind ((a0.list)[s12]?) fun x15 =>
  Option.bind (r_value_loose x15) fun x16 =>
  Option.bind (appO 16 s11 ([x16] : (List V))) fun x17 =>
  g1 x17 (s12 + 1)
 ) else (
  some (V.list s11)
 )
theorem value_loose_l1b_cm {ι : Type} {ρ : ι → Type} (r_value_loose : (∀ i, Option (ρ i)) → Term → Option V) (h_r_value_loose : ∀ y0, CM (fun G => r_value_loose G y0)) (g1 : (∀ i, Option (ρ i)) → (List V) → Nat → Option V) (h_g1 : ∀ y0 y1, CM (fun G => g1 G y0 y1)) (a0 : Term) (s11 : (List V)) (s12 : Nat) : CM (fun G : (∀ i, Option (ρ i)) => value_loose_l1b (r_value_loose G) a0 (g1 G) s11 s12) := by
 simp only [value_loose_l1b]
 repeat (first | exact cm_const | exact h_r_value_loose _ | exact h_g1 _ _ | refine cm_cond ?_ ?_ | refine cm_bind ?_ (fun _ => ?_))
noncomputable def value_loose_l1 (r_value_loose : Term → Option V) (a0 : Term) (s11 : (List V)) (s12 : Nat) : Option V :=
 fixO (ι := ((List V) × Nat)) (ρ := fun _ => V) (fun g i => value_loose_l1b r_value_loose a0 (fun s11 s12 => g (s11, s12)) i.1 i.2) (s11, s12)
theorem value_loose_l1_eq (r_value_loose : Term → Option V) (a0 : Term) (s11 : (List V)) (s12 : Nat) : value_loose_l1 r_value_loose a0 s11 s12 = value_loose_l1b r_value_loose a0 (value_loose_l1 r_value_loose a0) s11 s12 :=
 fixO_eq (ι := ((List V) × Nat)) (ρ := fun _ => V) (Φ := fun g i => value_loose_l1b r_value_loose a0 (fun s11 s12 => g (s11, s12)) i.1 i.2) (fun i => value_loose_l1b_cm (ι := ((List V) × Nat)) (ρ := fun _ => V) (fun _ => r_value_loose) (fun _ => cm_const) (fun g => (fun s11 s12 => g (s11, s12))) (fun _ _ => cm_app) a0 i.1 i.2) (s11, s12)
theorem value_loose_l1_cm {ι : Type} {ρ : ι → Type} (r_value_loose : (∀ i, Option (ρ i)) → Term → Option V) (h_r_value_loose : ∀ y0, CM (fun G => r_value_loose G y0)) (a0 : Term) (s11 : (List V)) (s12 : Nat) : CM (fun G : (∀ i, Option (ρ i)) => value_loose_l1 (r_value_loose G) a0 s11 s12) :=
 cm_fix (κ := ((List V) × Nat)) (τ := fun _ => V) (Φ := fun G g i => value_loose_l1b (r_value_loose G) a0 (fun s11 s12 => g (s11, s12)) i.1 i.2) (fun g i => value_loose_l1b_cm r_value_loose h_r_value_loose (fun _ => (fun s11 s12 => g (s11, s12))) (fun _ _ => cm_const) a0 i.1 i.2) (fun G i => value_loose_l1b_cm (ι := ((List V) × Nat)) (ρ := fun _ => V) (fun _ => r_value_loose G) (fun _ => cm_const) (fun g => (fun s11 s12 => g (s11, s12))) (fun _ _ => cm_app) a0 i.1 i.2) (s11, s12)
noncomputable def b_value_loose (r_value_dict : (List (Str × Term)) → Option (List (Str × V))) (r_value_loose : Term → Option V) (a0 : Term) : Option V :=
 bif (a0.kind == 1) then (
  some V.nil
 ) else (
  bif (a0.kind == 2) then (
   some (V.bool a0.bool)
  ) else (
   bif (a0.kind == 3) then (
    some (V.int a0.int)
   ) else (
    bif (a0.kind == 4) then (
     some (V.float a0.float)
    ) else (
     bif (a0.kind == 5) then (
      some (V.text a0.text)
     ) else (
      bif (a0.kind == 6) then (
       Option.bind (appO 1 ([] : Str) a0.bytes) fun x7 =>
       some (V.bytes x7)
      ) else (
       bif (a0.kind == 7) then (
        some (V.ref a0.ref)
       ) else (
        bif (a0.kind == 8) then (
         Option.bind (roomO ((a0.list).length) 16) fun x10 =>
         value_loose_l1 r_value_loose a0 ([] : (List V)) 0
        ) else (
         bif (a0.kind == 9) then (
          Option.bind (r_value_dict a0.fields) fun x19 =>
          some (V.dict x19)
         ) else (
          bif (a0.kind == 10) then (
           Option.bind (r_value_dict a0.fields) fun x21 =>
           some (V.record a0.cls a0.ver x21)
          ) else (
           bif (a0.kind == 11) then (
            some V.nothing
           ) else (
            some (V.alien ⟨153, rfl⟩)
           )
          )
         )
        )
       )
      )
     )
    )
   )
  )
 )
theorem b_value_loose_cm {ι : Type} {ρ : ι → Type} (r_value_dict : (∀ i, Option (ρ i)) → (List (Str × Term)) → Option (List (Str × V))) (h_r_value_dict : ∀ y0, CM (fun G => r_value_dict G y0)) (r_value_loose : (∀ i, Option (ρ i)) → Term → Option V) (h_r_value_loose : ∀ y0, CM (fun G => r_value_loose G y0)) (a0 : Term) : CM (fun G : (∀ i, Option (ρ i)) => b_value_loose (r_value_dict G) (r_value_loose G) a0) := by
 simp only [b_value_loose]
 repeat (first | exact cm_const | exact h_r_value_dict _ | exact h_r_value_loose _ | apply value_loose_l1_cm | refine cm_cond ?_ ?_ | refine cm_bind ?_ (fun _ => ?_) | intro _ | assumption)
inductive C_value_dict where
 | k_value_dict (a0 : (List (Str × Term)))
 | k_value_loose (a0 : Term)
def C_value_dict.R : C_value_dict → Type
 | .k_value_dict _ => (List (Str × V))
 | .k_value_loose _ => V
noncomputable def C_value_dict.F (g : ∀ i : C_value_dict, Option i.R) : ∀ i : C_value_dict, Option i.R
 | .k_value_dict a0 => b_value_dict (fun a0 => g (.k_value_dict a0)) (fun a0 => g (.k_value_loose a0)) a0
 | .k_value_loose a0 => b_value_loose (fun a0 => g (.k_value_dict a0)) (fun a0 => g (.k_value_loose a0)) a0
noncomputable def p_value_dict (a0 : (List (Str × Term))) : Option (List (Str × V)) := fixO C_value_dict.F (.k_value_dict a0)
noncomputable def p_value_loose (a0 : Term) : Option V := fixO C_value_dict.F (.k_value_loose a0)
theorem C_value_dict.cm (i : C_value_dict) : CM (fun g : (∀ i : C_value_dict, Option i.R) => C_value_dict.F g i) := by
 cases i with
 | k_value_dict a0 => exact b_value_dict_cm (fun (g : ∀ i : C_value_dict, Option i.R) a0 => g (.k_value_dict a0)) (fun a0 => cm_app (i := C_value_dict.k_value_dict a0)) (fun (g : ∀ i : C_value_dict, Option i.R) a0 => g (.k_value_loose a0)) (fun a0 => cm_app (i := C_value_dict.k_value_loose a0)) a0
 | k_value_loose a0 => exact b_value_loose_cm (fun (g : ∀ i : C_value_dict, Option i.R) a0 => g (.k_value_dict a0)) (fun a0 => cm_app (i := C_value_dict.k_value_dict a0)) (fun (g : ∀ i : C_value_dict, Option i.R) a0 => g (.k_value_loose a0)) (fun a0 => cm_app (i := C_value_dict.k_value_loose a0)) a0
theorem e_value_dict (a0 : (List (Str × Term))) : p_value_dict a0 = b_value_dict p_value_dict p_value_loose a0 := fixO_eq C_value_dict.cm (.k_value_dict a0)
theorem e_value_loose (a0 : Term) : p_value_loose a0 = b_value_loose p_value_dict p_value_loose a0 := fixO_eq C_value_dict.cm (.k_value_loose a0)
def C_value_dict.Q : ∀ i : C_value_dict, i.R → Prop
 | .k_value_dict a0 => fun (r : (List (Str × V))) => PCalls Try.prog 103 [(PV.sl none 12 (List.map ofEntry a0))] (PV.sl none 2 (List.map ofFld r))
 | .k_value_loose a0 => fun (r : V) => PCalls Try.prog 87 [(ofTermX a0)] (ofV r)
theorem t_value_dict (r_value_dict : (List (Str × Term)) → Option (List (Str × V))) (c_value_dict : ∀ (a0 : (List (Str × Term))) r, r_value_dict a0 = some r → PCalls Try.prog 103 [(PV.sl none 12 (List.map ofEntry a0))] (PV.sl none 2 (List.map ofFld r))) (r_value_loose : Term → Option V) (c_value_loose : ∀ (a0 : Term) r, r_value_loose a0 = some r → PCalls Try.prog 87 [(ofTermX a0)] (ofV r)) (a0 : (List (Str × Term))) (r : (List (Str × V))) (h : b_value_dict r_value_dict r_value_loose a0 = some r) : PCalls Try.prog 103 [(PV.sl none 12 (List.map ofEntry a0))] (PV.sl none 2 (List.map ofFld r)) := by
 unfold b_value_dict at h
 refine acalls_of Try.func103 rfl Try.ntmps103 Try.results103 rfl (aw_of_bw ?_)
 change BW _ _ _ ⟨[(0, (PV.sl none 12 (List.map ofEntry a0)))], [], _⟩ _
 refine bR ?_
 refine sA rfl rfl rfl rfl rfl (ao_nil ?_)
 change BW _ _ _ _ _
 refine bR ?_
 refine sM rfl rfl rfl rfl rfl ?_
 refine sS rfl rfl rfl (op1_lenM Try.underlying27 rfl rfl) ?_
 obtain ⟨x1, hx1, h⟩ := obind h
 refine sS rfl rfl rfl ((op1_mkM (f := ofFld) (c := ((a0).length)) Try.underlying45 inf_43 rfl rfl rfl rfl hx1 (p := (PV.agg [(ofStr []), (PV.v .nilIface)])) rfl).cast (y := (PV.sl (some 0) 2 (List.map ofFld ([] : (List (Str × V)))))) rfl rfl) ?_
 refine sA rfl rfl rfl rfl rfl (ao_nil ?_)
 change BW _ _ _ _ _
 refine bw_seq ?_
 refine bR ?_
 refine sM rfl rfl rfl rfl rfl ?_
 refine sS rfl rfl rfl (op1_lenM Try.underlying27 rfl rfl) ?_
 refine sM rfl rfl rfl rfl rfl (ao_nil ?_)
 change BW _ _ _ _ _
 refine bw_block ?_
 change BW _ _ _ _ _
 unfold value_dict_l1 at h
 refine bw_loop (σ := ((List (Str × V)) × Nat)) (fun i => [(3, (PV.sl (some 0) 2 (List.map ofFld i.1))), (9, (PV.sl none 12 (List.map ofEntry a0))), (10, (I64 ((((a0).length : Nat) : Int)))), (11, (I64 (((i.2 : Nat) : Int))))]) (fun i => [.arr 43 (i.1).length]) (([] : (List (Str × V))), 0) h ?_ ?_ ?_
 ·intro i; exact ⟨Nat.le_of_ble_eq_true rfl, ⟨(il_tok rfl (ids_map ids_Fld _)), ⟨(il_nil (ids_slM ids_Entry _)), ⟨(il_nil rfl), ⟨(il_nil rfl), trivial⟩⟩⟩⟩, trivial⟩
 ·exact ⟨(.cons .same .nil), (sC rfl (sC rfl (sC rfl (sC rfl sub_nil))))⟩
 ·rintro g1_f ⟨s2, s3⟩ h; replace h : value_dict_l1b r_value_loose a0 (fun y0 y1 => g1_f (y0, y1)) s2 s3 = some r := h; unfold value_dict_l1b at h
  change BW _ _ _ ⟨[(3, (PV.sl (some 0) 2 (List.map ofFld s2))), (9, (PV.sl none 12 (List.map ofEntry a0))), (10, (I64 ((((a0).length : Nat) : Int)))), (11, (I64 (((s3 : Nat) : Int))))], [.arr 43 (s2).length], _⟩ _
  refine bR ?_
  refine sS rfl rfl rfl ((op1_cmp rfl rfl rfl rfl).cast (y := (BO ((decide (((s3 : Nat) : Int) < (((a0).length : Nat) : Int)))))) rfl rfl) (ao_nil ?_)
  change BW _ _ _ _ _
  refine bw_seq ?_
  refine bw_len (t := 9) rfl fun hb5 => ?_
  try rw [List.length_map] at hb5
  refine bw_cond rfl ?_ ?_
  ·intro hc4; replace h := ocond_t hc4 h
   have hc4_ := of_decide_eq_true hc4
   refine bw_skip ?_
   change BW _ _ _ _ _
   refine bw_seq ?_
   refine bw_block ?_
   change BW _ _ _ _ _
   refine bR ?_
   obtain ⟨x6, hx6, h⟩ := obind h
   refine sS rfl rfl rfl (op1_idxN (i := s3) Try.underlying27 inf_101 rfl rfl rfl hx6 (ofEntry_eq _)) ?_
   refine sS rfl rfl rfl (op1_ldPW inf_101 Try.underlying101 rfl rfl rfl rfl rfl) ?_
   refine sS rfl rfl rfl (op1_alloc inf_101 rfl) ?_
   refine ao_step0 rfl rfl (op1_store inf_101 rfl rfl rfl rfl rfl rfl (Nat.le_of_ble_eq_true rfl) rfl) ?_
   refine ao_nil ?_
   change BW _ _ _ _ _
   refine bw_tail 8 [7] [1] mo (by kernel_rfl) ?_
   refine ac_go rfl rfl rfl rfl (fun H hp => op1_move rfl rfl) ?_
   refine ac_go rfl rfl rfl rfl (fun H hp => op1_faR st_101 (i := 0) rfl rfl rfl) ?_
   refine ac_go rfl rfl rfl rfl (fun H hp => (op1_ldR Try.underlying9 rfl rfl rfl (hp.at rfl rfl) rfl)) ?_
   refine ac_go rfl rfl rfl rfl (fun H hp => op1_faR st_101 (i := 1) rfl rfl rfl) ?_
   refine ac_go rfl rfl rfl rfl (fun H hp => (op1_ldRA inf_29 Try.underlying29 rfl rfl rfl (hp.at rfl rfl) rfl rfl)) ?_
   obtain ⟨x7, hx7, h⟩ := obind h
   refine ac_go rfl rfl rfl rfl (fun H hp => op1_pcall rfl en_87 rfl (.cons (Wk.refl _) .nil) ⟨(ids_TermX (x6.2)), trivial⟩ (c_value_loose (x6.2) x7 hx7) (ids_V x7)) ?_
   refine ac_go rfl rfl rfl rfl (fun H hp => op1_build (cs := [(ofStr x6.1), (ofV x7)]) st_43 inf_43 rfl rfl (by simp only [List.all_cons, List.all_nil, cok_V, cok_RecP, Bool.and_true, Bool.true_and]; try rfl) (by simp only [afill, List.getElem?_cons_zero, List.getElem?_cons_succ, cells_V, cells_RecP]; rfl)) ?_
   refine ac_lgo rfl rfl rfl rfl ((op1_bslice (xs := [(PV.agg [(ofStr x6.1), (ofV x7)])]) Try.underlying45 inf_43 rfl rfl rfl (by simp only [List.all_cons, List.all_nil, cok_V, cok_RecP, Bool.and_true, Bool.true_and]; try rfl) (by simp only [List.all_cons, List.all_nil, csz_V, csz_RecP, cells_V, cells_RecP]; try rfl) rfl ⟨Nat.le_of_ble_eq_true rfl, Nat.le_of_ble_eq_true rfl⟩ (by simp only [zipN, afill, List.flatMap_cons, List.flatMap_nil, cells_V, cells_RecP]; try rfl)).cast (y := (PV.sl (some 2) 2 (List.map ofFld ([(x6.1, x7)] : (List (Str × V)))))) rfl rfl) ⟨rfl, trivial⟩ ?_
   refine ac_nil ?_
   change AO _ _ _ _ _
   obtain ⟨x8, hx8, h⟩ := obind h
   refine sS rfl rfl rfl (op1_appM Try.underlying45 inf_43 rfl Try.underlying45 rfl rfl rfl rfl csz_Fld call1_Fld hx8 rfl) ?_
   refine sA rfl rfl rfl rfl rfl (ao_nil ?_)
   change BW _ _ _ _ _
   refine bw_region ?_
   refine sS rfl rfl rfl (op1_incN (k := s3) (c := 1) rfl rfl rfl (by omega)) ?_
   refine sM rfl rfl rfl rfl rfl (ao_nil ?_)
   exact ⟨rfl, (x8, (s3 + 1)), h, ⟨(.cons .same .nil), (sC rfl (sC rfl (sC rfl (sC rfl sub_nil))))⟩⟩
  ·intro hc4; replace h := ocond_f hc4 h
   refine bw_exit ?_
   change BW _ _ _ _ _
   refine bR ?_
   refine sM rfl rfl rfl rfl rfl ?_
   refine sA rfl rfl rfl rfl rfl (ao_nil ?_)
   change BW _ _ _ _ _
   refine bw_ret ?_
   change ∃ xs, _ = some xs ∧ EndOk _ _ _ _
   obtain rfl := Option.some.inj h
   exact ⟨_, rfl, endOk0 (y := (PV.sl none 2 (List.map ofFld s2))) Wk.tok (ids_slM ids_Fld s2) ⟨rfl, rfl⟩⟩
theorem t_value_loose (r_value_dict : (List (Str × Term)) → Option (List (Str × V))) (c_value_dict : ∀ (a0 : (List (Str × Term))) r, r_value_dict a0 = some r → PCalls Try.prog 103 [(PV.sl none 12 (List.map ofEntry a0))] (PV.sl none 2 (List.map ofFld r))) (r_value_loose : Term → Option V) (c_value_loose : ∀ (a0 : Term) r, r_value_loose a0 = some r → PCalls Try.prog 87 [(ofTermX a0)] (ofV r)) (a0 : Term) (r : V) (h : b_value_loose r_value_dict r_value_loose a0 = some r) : PCalls Try.prog 87 [(ofTermX a0)] (ofV r) := by
 unfold b_value_loose at h
 refine acalls_of Try.func87 rfl Try.ntmps87 Try.results87 rfl (aw_of_bw ?_)
 change BW _ _ _ ⟨[(0, (ofTermX a0))], [], _⟩ _
 refine bR ?_
 refine sS rfl rfl rfl (op1_box rfl rfl rfl) ?_
 refine sA rfl rfl rfl rfl rfl (ao_nil ?_)
 change BW _ _ _ _ _
 refine bw_seq ?_
 refine bR ?_
 refine sS rfl rfl rfl (op1_faR st_29 (i := 0) rfl rfl rfl) ?_
 refine sS rfl rfl rfl ((op1_ldR Try.underlying3 rfl rfl rfl rfl rfl)) (ao_nil ?_)
 change BW _ _ _ _ _
 refine bw_block ?_
 change BW _ _ _ _ _
 refine bR ?_
 refine sS rfl rfl rfl ((op1_cmp rfl rfl rfl rfl).cast (y := (BO ((a0.kind == 1)))) rfl rfl) ?_
 refine sA rfl rfl rfl rfl rfl (ao_nil ?_)
 change BW _ _ _ _ _
 refine bw_cond rfl ?_ ?_
 ·intro hc1; replace h := ocond_t hc1 h
  refine bR ?_
  refine sA rfl rfl rfl rfl rfl (ao_nil ?_)
  change BW _ _ _ _ _
  refine bw_ret ?_
  change ∃ xs, _ = some xs ∧ EndOk _ _ _ _
  obtain rfl := Option.some.inj h
  exact ⟨_, rfl, endOk0 (y := (ofV V.nil)) (Wk.eq mk_nil.symm) (ids_V V.nil) ⟨rfl, rfl⟩⟩
 ·intro hc1; replace h := ocond_f hc1 h
  refine bR ?_
  refine sS rfl rfl rfl ((op1_cmp rfl rfl rfl rfl).cast (y := (BO ((a0.kind == 2)))) rfl rfl) ?_
  refine sA rfl rfl rfl rfl rfl (ao_nil ?_)
  change BW _ _ _ _ _
  refine bw_cond rfl ?_ ?_
  ·intro hc2; replace h := ocond_t hc2 h
   refine bR ?_
   refine sS rfl rfl rfl (op1_faR st_29 (i := 1) rfl rfl rfl) ?_
   refine sS rfl rfl rfl ((op1_ldR Try.underlying4 rfl rfl rfl rfl rfl)) ?_
   refine sS rfl rfl rfl ((op1_mkI Try.underlying4 rfl rfl rfl).wk ((Wk.iface (Wk.refl _)).trans (Wk.eq (mk_bool _).symm))) ?_
   refine sA rfl rfl rfl rfl rfl (ao_nil ?_)
   change BW _ _ _ _ _
   refine bw_ret ?_
   change ∃ xs, _ = some xs ∧ EndOk _ _ _ _
   obtain rfl := Option.some.inj h
   exact ⟨_, rfl, endOk0 (y := (ofV (V.bool a0.bool))) (Wk.refl _) (ids_V (V.bool a0.bool)) ⟨rfl, rfl⟩⟩
  ·intro hc2; replace h := ocond_f hc2 h
   refine bR ?_
   refine sS rfl rfl rfl ((op1_cmp rfl rfl rfl rfl).cast (y := (BO ((a0.kind == 3)))) rfl rfl) ?_
   refine sA rfl rfl rfl rfl rfl (ao_nil ?_)
   change BW _ _ _ _ _
   refine bw_cond rfl ?_ ?_
   ·intro hc3; replace h := ocond_t hc3 h
    refine bR ?_
    refine sS rfl rfl rfl (op1_faR st_29 (i := 2) rfl rfl rfl) ?_
    refine sS rfl rfl rfl ((op1_ldR Try.underlying2 rfl rfl rfl rfl rfl)) ?_
    refine sS rfl rfl rfl ((op1_mkI Try.underlying2 rfl rfl rfl).wk ((Wk.iface (Wk.refl _)).trans (Wk.eq (mk_int _).symm))) ?_
    refine sA rfl rfl rfl rfl rfl (ao_nil ?_)
    change BW _ _ _ _ _
    refine bw_ret ?_
    change ∃ xs, _ = some xs ∧ EndOk _ _ _ _
    obtain rfl := Option.some.inj h
    exact ⟨_, rfl, endOk0 (y := (ofV (V.int a0.int))) (Wk.refl _) (ids_V (V.int a0.int)) ⟨rfl, rfl⟩⟩
   ·intro hc3; replace h := ocond_f hc3 h
    refine bR ?_
    refine sS rfl rfl rfl ((op1_cmp rfl rfl rfl rfl).cast (y := (BO ((a0.kind == 4)))) rfl rfl) ?_
    refine sA rfl rfl rfl rfl rfl (ao_nil ?_)
    change BW _ _ _ _ _
    refine bw_cond rfl ?_ ?_
    ·intro hc4; replace h := ocond_t hc4 h
     refine bR ?_
     refine sS rfl rfl rfl (op1_faR st_29 (i := 3) rfl rfl rfl) ?_
     refine sS rfl rfl rfl ((op1_ldR Try.underlying22 rfl rfl rfl rfl rfl)) ?_
     refine sS rfl rfl rfl ((op1_mkI Try.underlying22 rfl rfl rfl).wk ((Wk.iface (Wk.refl _)).trans (Wk.eq (mk_float _).symm))) ?_
     refine sA rfl rfl rfl rfl rfl (ao_nil ?_)
     change BW _ _ _ _ _
     refine bw_ret ?_
     change ∃ xs, _ = some xs ∧ EndOk _ _ _ _
     obtain rfl := Option.some.inj h
     exact ⟨_, rfl, endOk0 (y := (ofV (V.float a0.float))) (Wk.refl _) (ids_V (V.float a0.float)) ⟨rfl, rfl⟩⟩
    ·intro hc4; replace h := ocond_f hc4 h
     refine bR ?_
     refine sS rfl rfl rfl ((op1_cmp rfl rfl rfl rfl).cast (y := (BO ((a0.kind == 5)))) rfl rfl) ?_
     refine sA rfl rfl rfl rfl rfl (ao_nil ?_)
     change BW _ _ _ _ _
     refine bw_cond rfl ?_ ?_
     ·intro hc5; replace h := ocond_t hc5 h
      refine bR ?_
      refine sS rfl rfl rfl (op1_faR st_29 (i := 4) rfl rfl rfl) ?_
      refine sS rfl rfl rfl ((op1_ldR Try.underlying9 rfl rfl rfl rfl rfl)) ?_
      refine sS rfl rfl rfl ((op1_mkI Try.underlying9 rfl rfl rfl).wk ((Wk.iface (Wk.refl _)).trans (Wk.eq (mk_text _).symm))) ?_
      refine sA rfl rfl rfl rfl rfl (ao_nil ?_)
      change BW _ _ _ _ _
      refine bw_ret ?_
      change ∃ xs, _ = some xs ∧ EndOk _ _ _ _
      obtain rfl := Option.some.inj h
      exact ⟨_, rfl, endOk0 (y := (ofV (V.text a0.text))) (Wk.refl _) (ids_V (V.text a0.text)) ⟨rfl, rfl⟩⟩
     ·intro hc5; replace h := ocond_f hc5 h
      refine bR ?_
      refine sS rfl rfl rfl ((op1_cmp rfl rfl rfl rfl).cast (y := (BO ((a0.kind == 6)))) rfl rfl) ?_
      refine sA rfl rfl rfl rfl rfl (ao_nil ?_)
      change BW _ _ _ _ _
      refine bw_cond rfl ?_ ?_
      ·intro hc6; replace h := ocond_t hc6 h
       refine bR ?_
       refine sS rfl rfl rfl ((op1_bslice (xs := []) Try.underlying23 inf_5 rfl rfl rfl rfl rfl rfl ⟨Nat.le_of_ble_eq_true rfl, Nat.le_of_ble_eq_true rfl⟩ rfl).cast (y := (PV.sl (some 1) 1 (List.map ofB ([] : Str)))) rfl rfl) ?_
       refine sS rfl rfl rfl (op1_faR st_29 (i := 5) rfl rfl rfl) ?_
       refine sS rfl rfl rfl ((op1_ldR Try.underlying23 rfl rfl rfl rfl rfl)) ?_
       obtain ⟨x7, hx7, h⟩ := obind h
       refine sS rfl rfl rfl (op1_appM Try.underlying23 inf_5 rfl Try.underlying23 rfl rfl rfl rfl (fun _ => rfl) (fun _ => rfl) hx7 rfl) ?_
       refine sS rfl rfl rfl ((op1_mkI Try.underlying23 rfl rfl rfl).wk ((Wk.iface Wk.tok).trans (Wk.eq (mk_bytes _).symm))) ?_
       refine sA rfl rfl rfl rfl rfl (ao_nil ?_)
       change BW _ _ _ _ _
       refine bw_ret ?_
       change ∃ xs, _ = some xs ∧ EndOk _ _ _ _
       obtain rfl := Option.some.inj h
       exact ⟨_, rfl, endOk0 (y := (ofV (V.bytes x7))) (Wk.refl _) (ids_V (V.bytes x7)) ⟨rfl, rfl⟩⟩
      ·intro hc6; replace h := ocond_f hc6 h
       refine bR ?_
       refine sS rfl rfl rfl ((op1_cmp rfl rfl rfl rfl).cast (y := (BO ((a0.kind == 7)))) rfl rfl) ?_
       refine sA rfl rfl rfl rfl rfl (ao_nil ?_)
       change BW _ _ _ _ _
       refine bw_cond rfl ?_ ?_
       ·intro hc8; replace h := ocond_t hc8 h
        refine bR ?_
        refine sS rfl rfl rfl (op1_faR st_29 (i := 6) rfl rfl rfl) ?_
        refine sS rfl rfl rfl ((op1_ldR Try.underlying25 rfl rfl rfl rfl rfl)) ?_
        refine sS rfl rfl rfl ((op1_mkI Try.underlying25 rfl rfl rfl).wk ((Wk.iface (Wk.refl _)).trans (Wk.eq (mk_ref _).symm))) ?_
        refine sA rfl rfl rfl rfl rfl (ao_nil ?_)
        change BW _ _ _ _ _
        refine bw_ret ?_
        change ∃ xs, _ = some xs ∧ EndOk _ _ _ _
        obtain rfl := Option.some.inj h
        exact ⟨_, rfl, endOk0 (y := (ofV (V.ref a0.ref))) (Wk.refl _) (ids_V (V.ref a0.ref)) ⟨rfl, rfl⟩⟩
       ·intro hc8; replace h := ocond_f hc8 h
        refine bR ?_
        refine sS rfl rfl rfl ((op1_cmp rfl rfl rfl rfl).cast (y := (BO ((a0.kind == 8)))) rfl rfl) ?_
        refine sA rfl rfl rfl rfl rfl (ao_nil ?_)
        change BW _ _ _ _ _
        refine bw_cond rfl ?_ ?_
        ·intro hc9; replace h := ocond_t hc9 h
         refine bR ?_
         refine sS rfl rfl rfl (op1_faR st_29 (i := 7) rfl rfl rfl) ?_
         refine sS rfl rfl rfl ((op1_ldR Try.underlying26 rfl rfl rfl rfl rfl)) ?_
         refine sS rfl rfl rfl (op1_lenM Try.underlying26 rfl rfl) ?_
         obtain ⟨x10, hx10, h⟩ := obind h
         refine sS rfl rfl rfl ((op1_mkM (f := ofV) (c := ((a0.list).length)) Try.underlying37 inf_20 rfl rfl rfl rfl hx10 (p := (PV.v .nilIface)) rfl).cast (y := (PV.sl (some 1) 1 (List.map ofV ([] : (List V))))) rfl rfl) ?_
         refine sA rfl rfl rfl rfl rfl (ao_nil ?_)
         change BW _ _ _ _ _
         refine bw_seq ?_
         refine bR ?_
         refine sS rfl rfl rfl (op1_faR st_29 (i := 7) rfl rfl rfl) ?_
         refine sS rfl rfl rfl ((op1_ldR Try.underlying26 rfl rfl rfl rfl rfl)) ?_
         refine sS rfl rfl rfl (op1_lenM Try.underlying26 rfl rfl) ?_
         refine sM rfl rfl rfl rfl rfl (ao_nil ?_)
         change BW _ _ _ _ _
         refine bw_block ?_
         change BW _ _ _ _ _
         unfold value_loose_l1 at h
         refine bw_loop (σ := ((List V) × Nat)) (fun i => [(3, (PV.sl (some 1) 1 (List.map ofV i.1))), (49, (PV.sl none 11 (List.map ofTerm a0.list))), (50, (I64 ((((a0.list).length : Nat) : Int)))), (51, (I64 (((i.2 : Nat) : Int))))]) (fun i => [.dead, .arr 20 (i.1).length]) (([] : (List V)), 0) h ?_ ?_ ?_
         ·intro i; exact ⟨Nat.le_of_ble_eq_true rfl, ⟨(il_tok rfl (ids_map ids_V _)), ⟨(il_nil (ids_slM ids_Term _)), ⟨(il_nil rfl), ⟨(il_nil rfl), trivial⟩⟩⟩⟩, trivial⟩
         ·exact ⟨(.cons .dead (.cons .same .nil)), (sC rfl (sC rfl (sC rfl (sC rfl sub_nil))))⟩
         ·rintro g1_f ⟨s11, s12⟩ h; replace h : value_loose_l1b r_value_loose a0 (fun y0 y1 => g1_f (y0, y1)) s11 s12 = some r := h; unfold value_loose_l1b at h
          change BW _ _ _ ⟨[(3, (PV.sl (some 1) 1 (List.map ofV s11))), (49, (PV.sl none 11 (List.map ofTerm a0.list))), (50, (I64 ((((a0.list).length : Nat) : Int)))), (51, (I64 (((s12 : Nat) : Int))))], [.dead, .arr 20 (s11).length], _⟩ _
          refine bR ?_
          refine sS rfl rfl rfl ((op1_cmp rfl rfl rfl rfl).cast (y := (BO ((decide (((s12 : Nat) : Int) < (((a0.list).length : Nat) : Int)))))) rfl rfl) (ao_nil ?_)
          change BW _ _ _ _ _
          refine bw_seq ?_
          refine bw_len (t := 49) rfl fun hb14 => ?_
          try rw [List.length_map] at hb14
          refine bw_cond rfl ?_ ?_
          ·intro hc13; replace h := ocond_t hc13 h
           have hc13_ := of_decide_eq_true hc13
           refine bw_skip ?_
           change BW _ _ _ _ _
           refine bw_seq ?_
           refine bw_block ?_
           change BW _ _ _ _ _
           refine bR ?_
           obtain ⟨x15, hx15, h⟩ := obind h
           refine sS rfl rfl rfl (op1_idxN (i := s12) Try.underlying26 inf_29 rfl rfl rfl hx15 (ofTerm_eq _)) ?_
           refine sS rfl rfl rfl (op1_ldPW inf_29 Try.underlying29 rfl rfl rfl rfl rfl) ?_
           refine sS rfl rfl rfl (op1_alloc inf_29 rfl) ?_
           refine ao_step0 rfl rfl (op1_store inf_29 rfl rfl rfl rfl rfl rfl (Nat.le_of_ble_eq_true rfl) rfl) ?_
           refine ao_nil ?_
           change BW _ _ _ _ _
           refine bw_region ?_
           refine sM rfl rfl rfl rfl rfl ?_
           refine sS rfl rfl rfl ((op1_ldRA inf_29 Try.underlying29 rfl rfl rfl rfl rfl rfl)) ?_
           obtain ⟨x16, hx16, h⟩ := obind h
           refine sS rfl rfl rfl (op1_pcall rfl en_87 rfl (.cons (Wk.refl _) .nil) ⟨(ids_TermX x15), trivial⟩ (c_value_loose x15 x16 hx16) (ids_V x16)) ?_
           refine sS rfl rfl rfl ((op1_bslice (xs := [(ofV x16)]) Try.underlying37 inf_20 rfl rfl rfl (by simp only [List.all_cons, List.all_nil, cok_V, cok_RecP, Bool.and_true, Bool.true_and]; try rfl) (by simp only [List.all_cons, List.all_nil, csz_V, csz_RecP, cells_V, cells_RecP]; try rfl) rfl ⟨Nat.le_of_ble_eq_true rfl, Nat.le_of_ble_eq_true rfl⟩ (by simp only [zipN, afill, List.flatMap_cons, List.flatMap_nil, cells_V, cells_RecP]; try rfl)).cast (y := (PV.sl (some 3) 1 (List.map ofV ([x16] : (List V))))) rfl rfl) ?_
           obtain ⟨x17, hx17, h⟩ := obind h
           refine sS rfl rfl rfl (op1_appM Try.underlying37 inf_20 rfl Try.underlying37 rfl rfl rfl rfl csz_V call1_V hx17 rfl) ?_
           refine sA rfl rfl rfl rfl rfl (ao_nil ?_)
           change BW _ _ _ _ _
           refine bw_region ?_
           refine sS rfl rfl rfl (op1_incN (k := s12) (c := 1) rfl rfl rfl (by omega)) ?_
           refine sM rfl rfl rfl rfl rfl (ao_nil ?_)
           exact ⟨rfl, (x17, (s12 + 1)), h, ⟨(.cons .dead (.cons .same .nil)), (sC rfl (sC rfl (sC rfl (sC rfl sub_nil))))⟩⟩
          ·intro hc13; replace h := ocond_f hc13 h
           refine bw_exit ?_
           change BW _ _ _ _ _
           refine bR ?_
           refine sM rfl rfl rfl rfl rfl ?_
           refine sS rfl rfl rfl ((op1_mkI Try.underlying37 rfl rfl rfl).wk ((Wk.iface Wk.tok).trans (Wk.eq (mk_list _).symm))) ?_
           refine sA rfl rfl rfl rfl rfl (ao_nil ?_)
           change BW _ _ _ _ _
           refine bw_ret ?_
           change ∃ xs, _ = some xs ∧ EndOk _ _ _ _
           obtain rfl := Option.some.inj h
           exact ⟨_, rfl, endOk0 (y := (ofV (V.list s11))) (Wk.refl _) (ids_V (V.list s11)) ⟨rfl, rfl⟩⟩
        ·intro hc9; replace h := ocond_f hc9 h
         refine bR ?_
         refine sS rfl rfl rfl ((op1_cmp rfl rfl rfl rfl).cast (y := (BO ((a0.kind == 9)))) rfl rfl) ?_
         refine sA rfl rfl rfl rfl rfl (ao_nil ?_)
         change BW _ _ _ _ _
         refine bw_cond rfl ?_ ?_
         ·intro hc18; replace h := ocond_t hc18 h
          refine bR ?_
          refine sS rfl rfl rfl (op1_faR st_29 (i := 8) rfl rfl rfl) ?_
          refine sS rfl rfl rfl ((op1_ldR Try.underlying27 rfl rfl rfl rfl rfl)) ?_
          obtain ⟨x19, hx19, h⟩ := obind h
          refine sS rfl rfl rfl (op1_pcall rfl en_103 rfl (.cons (Wk.refl _) .nil) ⟨(ids_slM ids_Entry a0.fields), trivial⟩ (c_value_dict a0.fields x19 hx19) (ids_slM ids_Fld x19)) ?_
          refine sS rfl rfl rfl ((op1_mkI Try.underlying45 rfl rfl rfl).wk ((Wk.iface (Wk.refl _)).trans (Wk.eq (mk_dict _).symm))) ?_
          refine sA rfl rfl rfl rfl rfl (ao_nil ?_)
          change BW _ _ _ _ _
          refine bw_ret ?_
          change ∃ xs, _ = some xs ∧ EndOk _ _ _ _
          obtain rfl := Option.some.inj h
          exact ⟨_, rfl, endOk0 (y := (ofV (V.dict x19))) (Wk.refl _) (ids_V (V.dict x19)) ⟨rfl, rfl⟩⟩
         ·intro hc18; replace h := ocond_f hc18 h
          refine bR ?_
          refine sS rfl rfl rfl ((op1_cmp rfl rfl rfl rfl).cast (y := (BO ((a0.kind == 10)))) rfl rfl) ?_
          refine sA rfl rfl rfl rfl rfl (ao_nil ?_)
          change BW _ _ _ _ _
          refine bw_cond rfl ?_ ?_
          ·intro hc20; replace h := ocond_t hc20 h
           refine bw_seq (bw_tail 7 [] [0] mo (by kernel_rfl) ?_)
           refine ac_go rfl rfl rfl rfl (fun H hp => op1_faR st_29 (i := 9) rfl rfl rfl) ?_
           refine ac_go rfl rfl rfl rfl (fun H hp => (op1_ldR Try.underlying9 rfl rfl rfl (hp.at rfl rfl) rfl)) ?_
           refine ac_go rfl rfl rfl rfl (fun H hp => op1_faR st_29 (i := 10) rfl rfl rfl) ?_
           refine ac_go rfl rfl rfl rfl (fun H hp => (op1_ldR Try.underlying3 rfl rfl rfl (hp.at rfl rfl) rfl)) ?_
           refine ac_go rfl rfl rfl rfl (fun H hp => op1_faR st_29 (i := 8) rfl rfl rfl) ?_
           refine ac_go rfl rfl rfl rfl (fun H hp => (op1_ldR Try.underlying27 rfl rfl rfl (hp.at rfl rfl) rfl)) ?_
           obtain ⟨x21, hx21, h⟩ := obind h
           refine ac_go rfl rfl rfl rfl (fun H hp => op1_pcall rfl en_103 rfl (.cons (Wk.refl _) .nil) ⟨(ids_slM ids_Entry a0.fields), trivial⟩ (c_value_dict a0.fields x21 hx21) (ids_slM ids_Fld x21)) ?_
           refine ac_nil ?_
           change AO _ _ _ _ _
           refine sS rfl rfl rfl (op1_build (cs := [(ofStr a0.cls), (I64 a0.ver), (PV.sl none 2 (List.map ofFld x21))]) st_72 inf_72 rfl rfl rfl rfl) ?_
           refine sS rfl rfl rfl (op1_box rfl rfl rfl) ?_
           refine sS rfl rfl rfl (op1_mkI Try.underlying70 rfl rfl rfl) ?_
           refine sA rfl rfl rfl rfl rfl (ao_nil ?_)
           change BW _ _ _ _ _
           refine bw_thaw 1 2 (y := (ofV (V.record a0.cls a0.ver x21))) rfl rfl ((Wk.iface (Wk.pt (x := .agg [(ofStr a0.cls), (I64 a0.ver), (PV.sl none 2 (List.map ofFld x21))]) (y := ofRec (Rec.mk a0.cls a0.ver x21)) (.cons (Wk.refl _) (.cons (Wk.refl _) (.cons (Wk.refl _) .nil))))).trans (Wk.eq (mk_rec (some (Rec.mk a0.cls a0.ver x21))).symm)) ?_
           refine bw_ret ?_
           change ∃ xs, _ = some xs ∧ EndOk _ _ _ _
           obtain rfl := Option.some.inj h
           exact ⟨_, rfl, endOk0 (y := (ofV (V.record a0.cls a0.ver x21))) (Wk.refl _) (ids_V (V.record a0.cls a0.ver x21)) ⟨rfl, rfl⟩⟩
          ·intro hc20; replace h := ocond_f hc20 h
           refine bR ?_
           refine sS rfl rfl rfl ((op1_cmp rfl rfl rfl rfl).cast (y := (BO ((a0.kind == 11)))) rfl rfl) ?_
           refine sA rfl rfl rfl rfl rfl (ao_nil ?_)
           change BW _ _ _ _ _
           refine bw_cond rfl ?_ ?_
           ·intro hc22; replace h := ocond_t hc22 h
            refine bR ?_
            refine sS rfl rfl rfl ((op1_mkI Try.underlying70 rfl rfl rfl).wk (Wk.eq (mk_rec none).symm)) ?_
            refine sA rfl rfl rfl rfl rfl (ao_nil ?_)
            change BW _ _ _ _ _
            refine bw_ret ?_
            change ∃ xs, _ = some xs ∧ EndOk _ _ _ _
            obtain rfl := Option.some.inj h
            exact ⟨_, rfl, endOk0 (y := (ofV V.nothing)) (Wk.refl _) (ids_V V.nothing) ⟨rfl, rfl⟩⟩
           ·intro hc22; replace h := ocond_f hc22 h
            refine bw_skip ?_
            change BW _ _ _ _ _
            refine bR ?_
            refine sS rfl rfl rfl (op1_build (cs := []) st_153 inf_153 rfl rfl rfl rfl) ?_
            refine sS rfl rfl rfl ((op1_mkI Try.underlying153 rfl rfl rfl).wk ((Wk.iface Wk.junk).trans (Wk.eq (mk_alien ⟨153, rfl⟩).symm))) ?_
            refine sA rfl rfl rfl rfl rfl (ao_nil ?_)
            change BW _ _ _ _ _
            refine bw_ret ?_
            change ∃ xs, _ = some xs ∧ EndOk _ _ _ _
            obtain rfl := Option.some.inj h
            exact ⟨_, rfl, endOk0 (y := (ofV (V.alien ⟨153, rfl⟩))) (Wk.refl _) (ids_V (V.alien ⟨153, rfl⟩)) ⟨rfl, rfl⟩⟩
theorem C_value_dict.sound : ∀ (i : C_value_dict) (r : i.R), fixO C_value_dict.F i = some r → C_value_dict.Q i r := by
 refine fixO_ind (Φ := C_value_dict.F) (Q := C_value_dict.Q) ?_
 intro g hg i r h
 cases i with
 | k_value_dict a0 => exact t_value_dict (fun a0 => g (.k_value_dict a0)) (fun a0 r hr => hg (.k_value_dict a0) r hr) (fun a0 => g (.k_value_loose a0)) (fun a0 r hr => hg (.k_value_loose a0) r hr) a0 r h
 | k_value_loose a0 => exact t_value_loose (fun a0 => g (.k_value_dict a0)) (fun a0 r hr => hg (.k_value_dict a0) r hr) (fun a0 => g (.k_value_loose a0)) (fun a0 r hr => hg (.k_value_loose a0) r hr) a0 r h
theorem s_value_dict (a0 : (List (Str × Term))) (r : (List (Str × V))) (h : p_value_dict a0 = some r) : PCalls Try.prog 103 [(PV.sl none 12 (List.map ofEntry a0))] (PV.sl none 2 (List.map ofFld r)) := C_value_dict.sound (.k_value_dict a0) r h
theorem s_value_loose (a0 : Term) (r : V) (h : p_value_loose a0 = some r) : PCalls Try.prog 87 [(ofTermX a0)] (ofV r) := C_value_dict.sound (.k_value_loose a0) r h
noncomputable def p_value_Of (a0 : Term) : Option (V × Int) :=
 Option.bind (p_value_loose a0) fun x1 =>
 Option.bind (p_value_check x1) fun x2 =>
 bif (x2.2 != 0) then (
  some (V.nil, x2.2)
 ) else (
  some (x1, 0)
 )
theorem s_value_Of (a0 : Term) (r : (V × Int)) (h : p_value_Of a0 = some r) : PCalls Try.prog 53 [(ofTermX a0)] (PV.tup [(ofV r.1), (I64 r.2)]) := by
 unfold p_value_Of at h
 refine acalls_of Try.func53 rfl Try.ntmps53 Try.results53 rfl (aw_of_bw ?_)
 change BW _ _ _ ⟨[(0, (ofTermX a0))], [], _⟩ _
 refine bR ?_
 refine sS rfl rfl rfl (op1_box rfl rfl rfl) ?_
 refine sA rfl rfl rfl rfl rfl ?_
 refine sA rfl rfl rfl rfl rfl (ao_nil ?_)
 change BW _ _ _ _ _
 refine bR ?_
 refine sS rfl rfl rfl ((op1_ldRA inf_29 Try.underlying29 rfl rfl rfl rfl rfl rfl)) ?_
 obtain ⟨x1, hx1, h⟩ := obind h
 refine sS rfl rfl rfl (op1_pcall rfl en_87 rfl (.cons (Wk.refl _) .nil) ⟨(ids_TermX a0), trivial⟩ (s_value_loose a0 x1 hx1) (ids_V x1)) ?_
 refine sA rfl rfl rfl rfl rfl (ao_nil ?_)
 change BW _ _ _ _ _
 refine bw_seq ?_
 refine bR ?_
 refine sM rfl rfl rfl rfl rfl ?_
 obtain ⟨x2, hx2, h⟩ := obind h
 refine sS rfl rfl rfl (op1_pcall rfl en_68 rfl (.cons (Wk.refl _) .nil) ⟨(ids_V x1), trivial⟩ (s_value_check x1 x2 hx2) (ids_tup_cons rfl (ids_tup_cons rfl ids_tup_nil))) ?_
 refine sM rfl rfl rfl rfl rfl ?_
 refine sS rfl rfl rfl (op1_ext rfl rfl rfl) ?_
 refine sS rfl rfl rfl (op1_ext rfl rfl rfl) ?_
 refine sA rfl rfl rfl rfl rfl ?_
 refine sA rfl rfl rfl rfl rfl (ao_nil ?_)
 change BW _ _ _ _ _
 refine bR ?_
 refine sM rfl rfl rfl rfl rfl ?_
 refine sS rfl rfl rfl ((op1_cmp rfl rfl rfl rfl).cast (y := (BO ((x2.2 != 0)))) rfl rfl) (ao_nil ?_)
 change BW _ _ _ _ _
 refine bw_cond rfl ?_ ?_
 ·intro hc3; replace h := ocond_t hc3 h
  refine bR ?_
  refine sM rfl rfl rfl rfl rfl ?_
  refine sA rfl rfl rfl rfl rfl ?_
  refine sA rfl rfl rfl rfl rfl (ao_nil ?_)
  change BW _ _ _ _ _
  refine bw_ret ?_
  change ∃ xs, _ = some xs ∧ EndOk _ _ _ _
  obtain rfl := Option.some.inj h
  exact ⟨_, rfl, endOk0 (y := (PV.tup [(ofV V.nil), (I64 x2.2)])) (Wk.tup (.cons (Wk.eq mk_nil.symm) (.cons (Wk.refl _) .nil))) (ids_tup_cons (ids_V V.nil) (ids_tup_cons rfl ids_tup_nil)) ⟨rfl, rfl⟩⟩
 ·intro hc3; replace h := ocond_f hc3 h
  refine bw_skip ?_
  change BW _ _ _ _ _
  refine bR ?_
  refine sM rfl rfl rfl rfl rfl ?_
  refine sA rfl rfl rfl rfl rfl ?_
  refine sA rfl rfl rfl rfl rfl (ao_nil ?_)
  change BW _ _ _ _ _
  refine bw_ret ?_
  change ∃ xs, _ = some xs ∧ EndOk _ _ _ _
  obtain rfl := Option.some.inj h
  exact ⟨_, rfl, endOk0 (y := (PV.tup [(ofV x1), (I64 0)])) (Wk.refl _) (ids_tup_cons (ids_V x1) (ids_tup_cons rfl ids_tup_nil)) ⟨rfl, rfl⟩⟩
noncomputable def p_check_name (a0 : Str) : Option Bool :=
 Option.bind (p_value_Check (V.dict ([(a0, V.nil)] : (List (Str × V))))) fun x1 =>
 some (x1.2 == 0)
theorem s_check_name (a0 : Str) (r : Bool) (h : p_check_name a0 = some r) : PCalls Try.prog 91 [(ofStr a0)] (BO r) := by
 unfold p_check_name at h
 refine acalls_of Try.func91 rfl Try.ntmps91 Try.results91 rfl (aw_of_bw ?_)
 change BW _ _ _ ⟨[(0, (ofStr a0))], [], _⟩ _
 refine bR ?_
 refine sA rfl rfl rfl rfl rfl (ao_nil ?_)
 change BW _ _ _ _ _
 refine bR ?_
 refine sM rfl rfl rfl rfl rfl ?_
 refine sS rfl rfl rfl (op1_build (cs := [(ofStr a0), (PV.v .nilIface)]) st_43 inf_43 rfl rfl rfl rfl) ?_
 refine sS rfl rfl rfl (((op1_bslice (xs := [(PV.agg [(ofStr a0), (PV.v .nilIface)])]) Try.underlying45 inf_43 rfl rfl rfl (by simp only [List.all_cons, List.all_nil, cok_V, cok_RecP, Bool.and_true, Bool.true_and]; try rfl) (by simp only [List.all_cons, List.all_nil, csz_V, csz_RecP, cells_V, cells_RecP]; try rfl) rfl ⟨Nat.le_of_ble_eq_true rfl, Nat.le_of_ble_eq_true rfl⟩ (by simp only [zipN, afill, List.flatMap_cons, List.flatMap_nil, cells_V, cells_RecP]; try rfl)).wk (Wk.sl (.cons (y := (ofFld (a0, V.nil))) (.cons (Wk.refl _) (.cons (Wk.eq mk_nil.symm) .nil)) .nil))).cast (y := (PV.sl (some 0) 2 (List.map ofFld ([(a0, V.nil)] : (List (Str × V)))))) rfl rfl) ?_
 refine sS rfl rfl rfl ((op1_mkI Try.underlying45 rfl rfl rfl).wk ((Wk.iface Wk.tok).trans (Wk.eq (mk_dict _).symm))) ?_
 obtain ⟨x1, hx1, h⟩ := obind h
 refine sS rfl rfl rfl (op1_pcall rfl en_48 rfl (.cons (Wk.refl _) .nil) ⟨(ids_V (V.dict ([(a0, V.nil)] : (List (Str × V))))), trivial⟩ (s_value_Check (V.dict ([(a0, V.nil)] : (List (Str × V)))) x1 hx1) (ids_tup_cons rfl (ids_tup_cons rfl ids_tup_nil))) ?_
 refine sM rfl rfl rfl rfl rfl ?_
 refine sS rfl rfl rfl (op1_ext rfl rfl rfl) ?_
 refine sS rfl rfl rfl (op1_ext rfl rfl rfl) ?_
 refine sA rfl rfl rfl rfl rfl ?_
 refine sA rfl rfl rfl rfl rfl (ao_nil ?_)
 change BW _ _ _ _ _
 refine bR ?_
 refine sM rfl rfl rfl rfl rfl ?_
 refine sS rfl rfl rfl ((op1_cmp rfl rfl rfl rfl).cast (y := (BO ((x1.2 == 0)))) rfl rfl) ?_
 refine sA rfl rfl rfl rfl rfl (ao_nil ?_)
 change BW _ _ _ _ _
 refine bw_ret ?_
 change ∃ xs, _ = some xs ∧ EndOk _ _ _ _
 obtain rfl := Option.some.inj h
 exact ⟨_, rfl, endOk0 (y := (BO ((x1.2 == 0)))) (Wk.refl _) rfl ⟨rfl, rfl⟩⟩
end Go.Proofs.Ytiapdjdhaclmnaa
