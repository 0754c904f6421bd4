/- Pure functions, and that calls answer as they say. Written by gen.py. -/
import Derived.Test.YtigadhiciinicaaGS
namespace Go.Proofs.Ytigadhiciinicaa
open Go Aw
set_option linter.unusedVariables false
set_option linter.unusedSimpArgs false
set_option maxRecDepth 20000
set_option maxHeartbeats 2000000
noncomputable def p_value_kind (a0 : V) : Option Int :=
 bif (a0).isNil then (
  some 1
 ) else (
  bif (a0).isBool then (
   some 2
  ) else (
   bif (a0).isInt then (
    some 3
   ) else (
    bif (a0).isFloat then (
     some 4
    ) else (
     bif (a0).isText then (
      some 5
     ) else (
      bif (a0).isBytes then (
       some 6
      ) else (
       bif (a0).isRef then (
        some 7
       ) else (
        bif (a0).isList then (
         some 8
        ) else (
         bif (a0).isDict then (
          some 9
         ) else (
          bif (a0).isRec then (
           bif ((a0).asRec).isNone then (
            some 11
           ) else (
            some 10
           )
          ) else (
           some 0
          )
         )
        )
       )
      )
     )
    )
   )
  )
 )
theorem s_value_kind (a0 : V) (r : Int) (h : p_value_kind a0 = some r) : PCalls Try.prog 59 [(ofV a0)] (I64 r) := by
 unfold p_value_kind at h
 refine acalls_of Try.func59 rfl Try.ntmps59 Try.results59 rfl (aw_of_bw ?_)
 change BW _ _ _ ⟨[(0, (ofV a0))], [], _⟩ _
 refine bR ?_
 refine sA rfl rfl rfl rfl rfl (ao_nil ?_)
 change BW _ _ _ _ _
 refine bw_seq ?_
 refine bR ?_
 refine sM rfl rfl rfl rfl rfl (ao_nil ?_)
 change BW _ _ _ _ _
 refine bw_block ?_
 change BW _ _ _ _ _
 refine bR ?_
 refine sS rfl rfl rfl (op1_vEqNil Try.underlying20 rfl rfl) (ao_nil ?_)
 change BW _ _ _ _ _
 refine bw_cond rfl ?_ ?_
 ·intro hc1; replace h := ocond_t hc1 h
  refine bR ?_
  refine sA rfl rfl rfl rfl rfl (ao_nil ?_)
  change BW _ _ _ _ _
  refine bR ?_
  refine sA rfl rfl rfl rfl rfl (ao_nil ?_)
  change BW _ _ _ _ _
  refine bw_ret ?_
  change ∃ xs, _ = some xs ∧ EndOk _ _ _ _
  obtain rfl := Option.some.inj h
  exact ⟨_, rfl, endOk0 (y := (I64 1)) (Wk.refl _) rfl ⟨rfl, rfl⟩⟩
 ·intro hc1; replace h := ocond_f hc1 h
  refine bR ?_
  refine sS rfl rfl rfl (op1_taBool rfl rfl) ?_
  refine sS rfl rfl rfl (op1_ext rfl rfl rfl) ?_
  refine sS rfl rfl rfl (op1_ext rfl rfl rfl) (ao_nil ?_)
  change BW _ _ _ _ _
  refine bw_cond rfl ?_ ?_
  ·intro hc2; replace h := ocond_t hc2 h
   refine bR ?_
   refine sA rfl rfl rfl rfl rfl (ao_nil ?_)
   change BW _ _ _ _ _
   refine bR ?_
   refine sA rfl rfl rfl rfl rfl (ao_nil ?_)
   change BW _ _ _ _ _
   refine bw_ret ?_
   change ∃ xs, _ = some xs ∧ EndOk _ _ _ _
   obtain rfl := Option.some.inj h
   exact ⟨_, rfl, endOk0 (y := (I64 2)) (Wk.refl _) rfl ⟨rfl, rfl⟩⟩
  ·intro hc2; replace h := ocond_f hc2 h
   refine bR ?_
   refine sS rfl rfl rfl (op1_taInt rfl rfl) ?_
   refine sS rfl rfl rfl (op1_ext rfl rfl rfl) ?_
   refine sS rfl rfl rfl (op1_ext rfl rfl rfl) (ao_nil ?_)
   change BW _ _ _ _ _
   refine bw_cond rfl ?_ ?_
   ·intro hc3; replace h := ocond_t hc3 h
    refine bR ?_
    refine sA rfl rfl rfl rfl rfl (ao_nil ?_)
    change BW _ _ _ _ _
    refine bR ?_
    refine sA rfl rfl rfl rfl rfl (ao_nil ?_)
    change BW _ _ _ _ _
    refine bw_ret ?_
    change ∃ xs, _ = some xs ∧ EndOk _ _ _ _
    obtain rfl := Option.some.inj h
    exact ⟨_, rfl, endOk0 (y := (I64 3)) (Wk.refl _) rfl ⟨rfl, rfl⟩⟩
   ·intro hc3; replace h := ocond_f hc3 h
    refine bR ?_
    refine sS rfl rfl rfl (op1_taFloat rfl rfl) ?_
    refine sS rfl rfl rfl (op1_ext rfl rfl rfl) ?_
    refine sS rfl rfl rfl (op1_ext rfl rfl rfl) (ao_nil ?_)
    change BW _ _ _ _ _
    refine bw_cond rfl ?_ ?_
    ·intro hc4; replace h := ocond_t hc4 h
     refine bR ?_
     refine sA rfl rfl rfl rfl rfl (ao_nil ?_)
     change BW _ _ _ _ _
     refine bR ?_
     refine sA rfl rfl rfl rfl rfl (ao_nil ?_)
     change BW _ _ _ _ _
     refine bw_ret ?_
     change ∃ xs, _ = some xs ∧ EndOk _ _ _ _
     obtain rfl := Option.some.inj h
     exact ⟨_, rfl, endOk0 (y := (I64 4)) (Wk.refl _) rfl ⟨rfl, rfl⟩⟩
    ·intro hc4; replace h := ocond_f hc4 h
     refine bR ?_
     refine sS rfl rfl rfl (op1_taText rfl rfl) ?_
     refine sS rfl rfl rfl (op1_ext rfl rfl rfl) ?_
     refine sS rfl rfl rfl (op1_ext rfl rfl rfl) (ao_nil ?_)
     change BW _ _ _ _ _
     refine bw_cond rfl ?_ ?_
     ·intro hc5; replace h := ocond_t hc5 h
      refine bR ?_
      refine sA rfl rfl rfl rfl rfl (ao_nil ?_)
      change BW _ _ _ _ _
      refine bR ?_
      refine sA rfl rfl rfl rfl rfl (ao_nil ?_)
      change BW _ _ _ _ _
      refine bw_ret ?_
      change ∃ xs, _ = some xs ∧ EndOk _ _ _ _
      obtain rfl := Option.some.inj h
      exact ⟨_, rfl, endOk0 (y := (I64 5)) (Wk.refl _) rfl ⟨rfl, rfl⟩⟩
     ·intro hc5; replace h := ocond_f hc5 h
      refine bR ?_
      refine sS rfl rfl rfl (op1_taBytes rfl rfl) ?_
      refine sS rfl rfl rfl (op1_ext rfl rfl rfl) ?_
      refine sS rfl rfl rfl (op1_ext rfl rfl rfl) (ao_nil ?_)
      change BW _ _ _ _ _
      refine bw_cond rfl ?_ ?_
      ·intro hc6; replace h := ocond_t hc6 h
       refine bR ?_
       refine sA rfl rfl rfl rfl rfl (ao_nil ?_)
       change BW _ _ _ _ _
       refine bR ?_
       refine sA rfl rfl rfl rfl rfl (ao_nil ?_)
       change BW _ _ _ _ _
       refine bw_ret ?_
       change ∃ xs, _ = some xs ∧ EndOk _ _ _ _
       obtain rfl := Option.some.inj h
       exact ⟨_, rfl, endOk0 (y := (I64 6)) (Wk.refl _) rfl ⟨rfl, rfl⟩⟩
      ·intro hc6; replace h := ocond_f hc6 h
       refine bR ?_
       refine sS rfl rfl rfl (op1_taRef rfl rfl) ?_
       refine sS rfl rfl rfl (op1_ext rfl rfl rfl) ?_
       refine sS rfl rfl rfl (op1_ext rfl rfl rfl) (ao_nil ?_)
       change BW _ _ _ _ _
       refine bw_cond rfl ?_ ?_
       ·intro hc7; replace h := ocond_t hc7 h
        refine bR ?_
        refine sA rfl rfl rfl rfl rfl (ao_nil ?_)
        change BW _ _ _ _ _
        refine bR ?_
        refine sA rfl rfl rfl rfl rfl (ao_nil ?_)
        change BW _ _ _ _ _
        refine bw_ret ?_
        change ∃ xs, _ = some xs ∧ EndOk _ _ _ _
        obtain rfl := Option.some.inj h
        exact ⟨_, rfl, endOk0 (y := (I64 7)) (Wk.refl _) rfl ⟨rfl, rfl⟩⟩
       ·intro hc7; replace h := ocond_f hc7 h
        refine bR ?_
        refine sS rfl rfl rfl (op1_taList rfl rfl) ?_
        refine sS rfl rfl rfl (op1_ext rfl rfl rfl) ?_
        refine sS rfl rfl rfl (op1_ext rfl rfl rfl) (ao_nil ?_)
        change BW _ _ _ _ _
        refine bw_cond rfl ?_ ?_
        ·intro hc8; replace h := ocond_t hc8 h
         refine bR ?_
         refine sA rfl rfl rfl rfl rfl (ao_nil ?_)
         change BW _ _ _ _ _
         refine bR ?_
         refine sA rfl rfl rfl rfl rfl (ao_nil ?_)
         change BW _ _ _ _ _
         refine bw_ret ?_
         change ∃ xs, _ = some xs ∧ EndOk _ _ _ _
         obtain rfl := Option.some.inj h
         exact ⟨_, rfl, endOk0 (y := (I64 8)) (Wk.refl _) rfl ⟨rfl, rfl⟩⟩
        ·intro hc8; replace h := ocond_f hc8 h
         refine bR ?_
         refine sS rfl rfl rfl (op1_taDict rfl rfl) ?_
         refine sS rfl rfl rfl (op1_ext rfl rfl rfl) ?_
         refine sS rfl rfl rfl (op1_ext rfl rfl rfl) (ao_nil ?_)
         change BW _ _ _ _ _
         refine bw_cond rfl ?_ ?_
         ·intro hc9; replace h := ocond_t hc9 h
          refine bR ?_
          refine sA rfl rfl rfl rfl rfl (ao_nil ?_)
          change BW _ _ _ _ _
          refine bR ?_
          refine sA rfl rfl rfl rfl rfl (ao_nil ?_)
          change BW _ _ _ _ _
          refine bw_ret ?_
          change ∃ xs, _ = some xs ∧ EndOk _ _ _ _
          obtain rfl := Option.some.inj h
          exact ⟨_, rfl, endOk0 (y := (I64 9)) (Wk.refl _) rfl ⟨rfl, rfl⟩⟩
         ·intro hc9; replace h := ocond_f hc9 h
          refine bR ?_
          refine sS rfl rfl rfl (op1_taRec rfl rfl) ?_
          refine sS rfl rfl rfl (op1_ext rfl rfl rfl) ?_
          refine sS rfl rfl rfl (op1_ext rfl rfl rfl) (ao_nil ?_)
          change BW _ _ _ _ _
          refine bw_cond rfl ?_ ?_
          ·intro hc10; replace h := ocond_t hc10 h
           refine bR ?_
           refine sA rfl rfl rfl rfl rfl (ao_nil ?_)
           change BW _ _ _ _ _
           refine bw_seq ?_
           refine bR ?_
           refine sM rfl rfl rfl rfl rfl ?_
           refine sS rfl rfl rfl (op1_pEqNil Try.underlying65 rfl rfl) (ao_nil ?_)
           change BW _ _ _ _ _
           refine bw_cond rfl ?_ ?_
           ·intro hc11; replace h := ocond_t hc11 h
            refine bR ?_
            refine sA rfl rfl rfl rfl rfl (ao_nil ?_)
            change BW _ _ _ _ _
            refine bw_ret ?_
            change ∃ xs, _ = some xs ∧ EndOk _ _ _ _
            obtain rfl := Option.some.inj h
            exact ⟨_, rfl, endOk0 (y := (I64 11)) (Wk.refl _) rfl ⟨rfl, rfl⟩⟩
           ·intro hc11; replace h := ocond_f hc11 h
            refine bw_skip ?_
            change BW _ _ _ _ _
            refine bR ?_
            refine sA rfl rfl rfl rfl rfl (ao_nil ?_)
            change BW _ _ _ _ _
            refine bw_ret ?_
            change ∃ xs, _ = some xs ∧ EndOk _ _ _ _
            obtain rfl := Option.some.inj h
            exact ⟨_, rfl, endOk0 (y := (I64 10)) (Wk.refl _) rfl ⟨rfl, rfl⟩⟩
          ·intro hc10; replace h := ocond_f hc10 h
           refine bw_skip ?_
           change BW _ _ _ _ _
           refine bR ?_
           refine sA rfl rfl rfl rfl rfl (ao_nil ?_)
           change BW _ _ _ _ _
           refine bw_ret ?_
           change ∃ xs, _ = some xs ∧ EndOk _ _ _ _
           obtain rfl := Option.some.inj h
           exact ⟨_, rfl, endOk0 (y := (I64 0)) (Wk.refl _) rfl ⟨rfl, rfl⟩⟩
noncomputable def p_mk_Alien (a0 : Int) : Option V :=
 bif ((Int.tmod a0 14) == 0) then (
  some (V.alien ⟨3, rfl⟩)
 ) else (
  bif ((Int.tmod a0 14) == 1) then (
   some (V.alien ⟨5, rfl⟩)
  ) else (
   bif ((Int.tmod a0 14) == 2) then (
    some (V.alien ⟨89, rfl⟩)
   ) else (
    bif ((Int.tmod a0 14) == 3) then (
     some (V.alien ⟨1, rfl⟩)
    ) else (
     bif ((Int.tmod a0 14) == 4) then (
      some (V.alien ⟨92, rfl⟩)
     ) else (
      bif ((Int.tmod a0 14) == 5) then (
       some (V.alien ⟨51, rfl⟩)
      ) else (
       bif ((Int.tmod a0 14) == 6) then (
        some (V.alien ⟨93, rfl⟩)
       ) else (
        bif ((Int.tmod a0 14) == 7) then (
         some (V.alien ⟨94, rfl⟩)
        ) else (
         bif ((Int.tmod a0 14) == 8) then (
          some (V.alien ⟨67, rfl⟩)
         ) else (
          bif ((Int.tmod a0 14) == 9) then (
           some (V.alien ⟨62, rfl⟩)
          ) else (
           bif ((Int.tmod a0 14) == 10) then (
            some (V.alien ⟨95, rfl⟩)
           ) else (
            bif ((Int.tmod a0 14) == 11) then (
             some (V.alien ⟨31, rfl⟩)
            ) else (
             bif ((Int.tmod a0 14) == 12) then (
              some (V.alien ⟨96, rfl⟩)
             ) else (
              some (V.alien ⟨97, rfl⟩)
             )
            )
           )
          )
         )
        )
       )
      )
     )
    )
   )
  )
 )
noncomputable def law03_lent_l1b (a0 : Str) (g1 : Str → Int → Option (Str × Str)) (s4 : Str) (s5 : Int) : Option (Str × Str) :=
 bif (decide (s5 < 32)) then (
  Option.bind (appO 1 s4 ([(UInt8.ofInt (IntKind.i64.wrap (171 + s5)))] : Str)) fun x7 =>
  g1 x7 (IntKind.i64.wrap (s5 + 1))
 ) else (
  Option.bind (cutO s4 0 (((a0).length : Nat) : Int)) fun x8 =>
  some (x8, s4)
 )
theorem law03_lent_l1b_cm {ι : Type} {ρ : ι → Type} (g1 : (∀ i, Option (ρ i)) → Str → Int → Option (Str × Str)) (h_g1 : ∀ y0 y1, CM (fun G => g1 G y0 y1)) (a0 : Str) (s4 : Str) (s5 : Int) : CM (fun G : (∀ i, Option (ρ i)) => law03_lent_l1b a0 (g1 G) s4 s5) := by
 simp only [law03_lent_l1b]
 repeat (first | exact cm_const | exact h_g1 _ _ | refine cm_cond ?_ ?_ | refine cm_bind ?_ (fun _ => ?_))
noncomputable def law03_lent_l1 (a0 : Str) (s4 : Str) (s5 : Int) : Option (Str × Str) :=
 fixO (ι := (Str × Int)) (ρ := fun _ => (Str × Str)) (fun g i => law03_lent_l1b a0 (fun s4 s5 => g (s4, s5)) i.1 i.2) (s4, s5)
theorem law03_lent_l1_eq (a0 : Str) (s4 : Str) (s5 : Int) : law03_lent_l1 a0 s4 s5 = law03_lent_l1b a0 (law03_lent_l1 a0) s4 s5 :=
 fixO_eq (ι := (Str × Int)) (ρ := fun _ => (Str × Str)) (Φ := fun g i => law03_lent_l1b a0 (fun s4 s5 => g (s4, s5)) i.1 i.2) (fun i => law03_lent_l1b_cm (ι := (Str × Int)) (ρ := fun _ => (Str × Str)) (fun g => (fun s4 s5 => g (s4, s5))) (fun _ _ => cm_app) a0 i.1 i.2) (s4, s5)
noncomputable def p_law03_lent (a0 : Str) : Option (Str × Str) :=
 Option.bind (natO (IntKind.i64.wrap ((((a0).length : Nat) : Int) + 32))) fun x1 =>
 Option.bind (roomO x1 1) fun x2 =>
 Option.bind (appO 1 ([] : Str) a0) fun x3 =>
 law03_lent_l1 a0 x3 0
theorem s_law03_lent (a0 : Str) (r : (Str × Str)) (h : p_law03_lent a0 = some r) : PCalls Try.prog 17 [(PV.old (PV.sl none 5 1 (List.map ofB a0)))] (PV.tup [(PV.sl none 5 1 (List.map ofB r.1)), (PV.sl none 5 1 (List.map ofB r.2))]) := by
 unfold p_law03_lent at h
 refine acalls_of Try.func17 rfl Try.ntmps17 Try.results17 rfl (aw_of_bw ?_)
 change BW _ _ _ ⟨[(0, (PV.old (PV.sl none 5 1 (List.map ofB a0))))], [], _⟩ _
 refine bR ?_
 refine sA rfl rfl rfl rfl rfl ?_
 refine sA rfl rfl rfl rfl rfl (ao_nil ?_)
 change BW _ _ _ _ _
 refine bR ?_
 refine sM rfl rfl rfl rfl rfl ?_
 refine sS rfl rfl rfl (op1_oldS (op1_lenM Try.underlying23 rfl rfl) Sc.v) ?_
 refine sS rfl rfl rfl (op1_addW rfl rfl rfl) ?_
 obtain ⟨x1, hx1, h⟩ := obind h
 obtain ⟨x2, hx2, h⟩ := obind h
 refine sS rfl rfl rfl ((op1_mkMI (f := ofB) (c := x1) hx1 Try.underlying23 inf_5 rfl rfl rfl rfl hx2 (p := (ofB 0)) rfl).cast (y := (PV.sl (some 0) 5 1 (List.map ofB ([] : Str)))) rfl rfl) ?_
 refine sA rfl rfl rfl rfl rfl (ao_nil ?_)
 change BW _ _ _ _ _
 refine bR ?_
 refine sM rfl rfl rfl rfl rfl ?_
 refine sM rfl rfl rfl rfl rfl ?_
 obtain ⟨x3, hx3, h⟩ := obind h
 refine sS rfl rfl rfl (op1_appMO Try.underlying23 inf_5 rfl Try.underlying23 rfl rfl rfl rfl (fun _ => rfl) (fun _ => rfl) hx3 rfl (fun _ => (sc_cons Sc.v sc_nil))) ?_
 refine sA rfl rfl rfl rfl rfl (ao_nil ?_)
 change BW _ _ _ _ _
 refine bw_seq ?_
 refine bR ?_
 refine sA rfl rfl rfl rfl rfl (ao_nil ?_)
 change BW _ _ _ _ _
 refine bw_block ?_
 change BW _ _ _ _ _
 unfold law03_lent_l1 at h
 refine bw_loop (σ := (Str × Int)) (fun i => [(0, (PV.old (PV.sl none 5 1 (List.map ofB a0)))), (4, (PV.sl (some 0) 5 1 (List.map ofB i.1))), (5, (I64 i.2))]) (fun i => [.arr 5 (i.1).length]) (x3, 0) h ?_ ?_ ?_
 ·intro i; exact ⟨Nat.le_of_ble_eq_true rfl, ⟨(il_nil (ids_old (ids_slM (fun _ => rfl) _))), ⟨(il_tok rfl (ids_map (fun _ => rfl) _)), ⟨(il_nil rfl), trivial⟩⟩⟩, trivial⟩
 ·exact ⟨(.cons .same .nil), (sC rfl (sC rfl (sC rfl sub_nil)))⟩
 ·rintro g1_f ⟨s4, s5⟩ h; replace h : law03_lent_l1b a0 (fun y0 y1 => g1_f (y0, y1)) s4 s5 = some r := h; unfold law03_lent_l1b at h
  change BW _ _ _ ⟨[(0, (PV.old (PV.sl none 5 1 (List.map ofB a0)))), (4, (PV.sl (some 0) 5 1 (List.map ofB s4))), (5, (I64 s5))], [.arr 5 (s4).length], _⟩ _
  refine bw_seq ?_
  refine bR ?_
  refine sM rfl rfl rfl rfl rfl ?_
  refine sS rfl rfl rfl ((op1_cmp rfl rfl rfl rfl).cast (y := (BO ((decide (s5 < 32))))) rfl rfl) (ao_nil ?_)
  change BW _ _ _ _ _
  refine bw_cond rfl ?_ ?_
  ·intro hc6; replace h := ocond_t hc6 h
   refine bw_skip ?_
   change BW _ _ _ _ _
   refine bw_seq ?_
   refine bw_block ?_
   change BW _ _ _ _ _
   refine bw_region ?_
   refine sM rfl rfl rfl rfl rfl ?_
   refine sM rfl rfl rfl rfl rfl ?_
   refine sS rfl rfl rfl (op1_addW rfl rfl rfl) ?_
   refine sS rfl rfl rfl (op1_toU8 Try.underlying3 Try.underlying5 rfl rfl) ?_
   refine sS rfl rfl rfl ((op1_bslice (xs := [(ofB (UInt8.ofInt (IntKind.i64.wrap (171 + s5))))]) Try.underlying23 inf_5 rfl rfl rfl rfl rfl rfl ⟨Nat.le_of_ble_eq_true rfl, Nat.le_of_ble_eq_true rfl⟩ rfl).cast (y := (PV.sl (some 1) 5 1 (List.map ofB ([(UInt8.ofInt (IntKind.i64.wrap (171 + s5)))] : Str)))) rfl rfl) ?_
   obtain ⟨x7, hx7, h⟩ := obind h
   refine sS rfl rfl rfl (op1_appM Try.underlying23 inf_5 rfl Try.underlying23 rfl rfl rfl rfl (fun _ => rfl) (fun _ => rfl) hx7 rfl) ?_
   refine sA rfl rfl rfl rfl rfl (ao_nil ?_)
   change BW _ _ _ _ _
   refine bw_region ?_
   refine sM rfl rfl rfl rfl rfl ?_
   refine sS rfl rfl rfl (op1_addW rfl rfl rfl) ?_
   refine sA rfl rfl rfl rfl rfl (ao_nil ?_)
   exact ⟨rfl, (x7, (IntKind.i64.wrap (s5 + 1))), h, ⟨(.cons .same .nil), (sC rfl (sC rfl (sC rfl sub_nil)))⟩⟩
  ·intro hc6; replace h := ocond_f hc6 h
   refine bw_exit ?_
   change BW _ _ _ _ _
   refine bR ?_
   refine sM rfl rfl rfl rfl rfl ?_
   refine sM rfl rfl rfl rfl rfl ?_
   refine sS rfl rfl rfl (op1_oldS (op1_lenM Try.underlying23 rfl rfl) Sc.v) ?_
   obtain ⟨x8, hx8, h⟩ := obind h
   refine sS rfl rfl rfl (op1_cutM (a := 0) (b := (((a0).length : Nat) : Int)) Try.underlying23 inf_5 rfl rfl rfl rfl rfl rfl hx8) ?_
   refine sM rfl rfl rfl rfl rfl ?_
   refine sA rfl rfl rfl rfl rfl ?_
   refine sA rfl rfl rfl rfl rfl (ao_nil ?_)
   change BW _ _ _ _ _
   refine bw_ret ?_
   change ∃ xs, _ = some xs ∧ EndOk _ _ _ _
   obtain rfl := Option.some.inj h
   exact ⟨_, rfl, endOk0 (y := (PV.tup [(PV.sl none 5 1 (List.map ofB x8)), (PV.sl none 5 1 (List.map ofB s4))])) (Wk.tup (.cons (Wk.refl _) (.cons Wk.tok .nil))) (ids_tup_cons (ids_slM (fun _ => rfl) x8) (ids_tup_cons (ids_slM (fun _ => rfl) s4) ids_tup_nil)) ⟨rfl, rfl⟩⟩
noncomputable def p_wire_reader_fail (a0 : S_wire_reader) (a1 : Int) (a2 : Int) : Option (Xr (S_wire_fault × S_wire_reader) S_wire_reader) :=
 some (.pan ((S_wire_fault.mk a1 a2), a0))
theorem s_wire_reader_fail (a0 : S_wire_reader) (a1 : Int) (a2 : Int) (r : (Xr (S_wire_fault × S_wire_reader) S_wire_reader)) (h : p_wire_reader_fail a0 a1 a2 = some r) : ACalls Try.prog 60 [(PV.rf 0 0), (I64 a1), (I64 a2)] [.box 110 [(PV.old (PV.sl none 5 1 (List.map ofB a0.f_b))), (I64 a0.f_at), (I64 a0.f_n), (BO a0.f_making)]] (XQ r (fun r => (PV.tup [])) (fun r => [.box 110 [(PV.old (PV.sl none 5 1 (List.map ofB r.f_b))), (I64 r.f_at), (I64 r.f_n), (BO r.f_making)]]) (fun r => (PV.iface 112 (of_wire_fault r.1))) (fun r => [.box 110 [(PV.old (PV.sl none 5 1 (List.map ofB (r.2).f_b))), (I64 ((r.2).f_at)), (I64 ((r.2).f_n)), (BO ((r.2).f_making))]])) := by
 unfold p_wire_reader_fail at h
 refine acalls_of Try.func60 rfl Try.ntmps60 Try.results60 rfl (aw_of_bw ?_)
 change BW _ _ _ ⟨[(0, (PV.rf 0 0)), (1, (I64 a1)), (2, (I64 a2))], [.box 110 [(PV.old (PV.sl none 5 1 (List.map ofB a0.f_b))), (I64 a0.f_at), (I64 a0.f_n), (BO a0.f_making)]], _⟩ _
 refine bw_region ?_
 refine sM rfl rfl rfl rfl rfl ?_
 refine sM rfl rfl rfl rfl rfl ?_
 refine sS rfl rfl rfl (op1_build (cs := [(I64 a1), (I64 a2)]) st_112 inf_112 rfl rfl rfl rfl) ?_
 refine sS rfl rfl rfl ((op1_mkI Try.underlying112 rfl rfl rfl).wk (Wk.iface (Wk.refl _))) ?_
 refine ao_panic rfl rfl rfl ?_
 obtain rfl := Option.some.inj h
 repeat (first | refine seqB_pan ?_ | refine blockK_pan ?_ | refine jumpK_pan ?_)
 exact endK_pan (endR (y := (PV.iface 112 (of_wire_fault (S_wire_fault.mk a1 a2)))) 1 (Wk.refl _) rfl rfl (.same rfl) (.cons (.box (.cons (.same (ids_old (ids_slM (fun _ => rfl) a0.f_b))) (.cons (.same rfl) (.cons (.same rfl) (.cons (.same rfl) .nil))))) .nil) (xq_pan rfl rfl))
noncomputable def p_wire_reader_byte (a0 : S_wire_reader) : Option (Xr (S_wire_fault × S_wire_reader) (UInt8 × S_wire_reader)) :=
 bif (a0.f_at == (((a0.f_b).length : Nat) : Int)) then (
  xbind (p_wire_reader_fail a0 a0.f_at 4) (fun s => (s.1, (s.2))) fun x2 => none
 ) else (
  Option.bind (idxI a0.f_b a0.f_at) fun x4 =>
  some (.ret (x4, (S_wire_reader.mk a0.f_b (IntKind.i64.wrap (a0.f_at + 1)) a0.f_n a0.f_making)))
 )
theorem s_wire_reader_byte (a0 : S_wire_reader) (r : (Xr (S_wire_fault × S_wire_reader) (UInt8 × S_wire_reader))) (h : p_wire_reader_byte a0 = some r) : ACalls Try.prog 61 [(PV.rf 0 0)] [.box 110 [(PV.old (PV.sl none 5 1 (List.map ofB a0.f_b))), (I64 a0.f_at), (I64 a0.f_n), (BO a0.f_making)]] (XQ r (fun r => (ofB r.1)) (fun r => [.box 110 [(PV.old (PV.sl none 5 1 (List.map ofB (r.2).f_b))), (I64 ((r.2).f_at)), (I64 ((r.2).f_n)), (BO ((r.2).f_making))]]) (fun r => (PV.iface 112 (of_wire_fault r.1))) (fun r => [.box 110 [(PV.old (PV.sl none 5 1 (List.map ofB (r.2).f_b))), (I64 ((r.2).f_at)), (I64 ((r.2).f_n)), (BO ((r.2).f_making))]])) := by
 unfold p_wire_reader_byte at h
 refine acalls_of Try.func61 rfl Try.ntmps61 Try.results61 rfl (aw_of_bw ?_)
 change BW _ _ _ ⟨[(0, (PV.rf 0 0))], [.box 110 [(PV.old (PV.sl none 5 1 (List.map ofB a0.f_b))), (I64 a0.f_at), (I64 a0.f_n), (BO a0.f_making)]], _⟩ _
 refine bR ?_
 refine sA rfl rfl rfl rfl rfl (ao_nil ?_)
 change BW _ _ _ _ _
 refine bw_seq ?_
 refine bw_seq (bw_tail 9 [] [0] mo (by kernel_rfl) ?_)
 refine ac_go rfl rfl rfl rfl (fun H hp => op1_move rfl rfl) ?_
 refine ac_go rfl rfl rfl rfl (fun H hp => op1_nilR rfl rfl) ?_
 refine ac_go rfl rfl rfl rfl (fun H hp => op1_faR st_110 (i := 1) rfl rfl rfl) ?_
 refine ac_go rfl rfl rfl rfl (fun H hp => (op1_ldR Try.underlying3 rfl rfl rfl (hp.at rfl rfl) rfl)) ?_
 refine ac_go rfl rfl rfl rfl (fun H hp => op1_move rfl rfl) ?_
 refine ac_go rfl rfl rfl rfl (fun H hp => op1_nilR rfl rfl) ?_
 refine ac_go rfl rfl rfl rfl (fun H hp => op1_faR st_110 (i := 0) rfl rfl rfl) ?_
 refine ac_go rfl rfl rfl rfl (fun H hp => (op1_ldR Try.underlying23 rfl rfl rfl (hp.at rfl rfl) rfl)) ?_
 refine ac_go rfl rfl rfl rfl (fun H hp => op1_oldS (op1_lenM Try.underlying23 rfl rfl) Sc.v) ?_
 refine ac_nil ?_
 change AO _ _ _ _ _
 refine sS rfl rfl rfl ((op1_cmp rfl rfl rfl rfl).cast (y := (BO ((a0.f_at == (((a0.f_b).length : Nat) : Int))))) rfl rfl) (ao_nil ?_)
 change BW _ _ _ _ _
 refine bw_cond rfl ?_ ?_
 ·intro hc1; replace h := ocond_t hc1 h
  refine bw_region ?_
  refine sM rfl rfl rfl rfl rfl ?_
  refine sM rfl rfl rfl rfl rfl ?_
  refine sS rfl rfl rfl (op1_nilR rfl rfl) ?_
  refine sS rfl rfl rfl (op1_faR st_110 (i := 1) rfl rfl rfl) ?_
  refine sS rfl rfl rfl ((op1_ldR Try.underlying3 rfl rfl rfl rfl rfl)) ?_
  obtain ⟨x3, hx3, rfl⟩ | ⟨x2, hx2, h⟩ := xbind_some h
  ·refine ao_ncall [0] (.func rfl) rfl en_60 rfl (.cons (Wk.refl _) (.cons (Wk.refl _) (.cons (Wk.refl _) .nil))) rfl (.cons rfl (.box (.cons (.same (ids_old (ids_slM (fun _ => rfl) a0.f_b))) (.cons (.same rfl) (.cons (.same rfl) (.cons (.same rfl) .nil))))) .nil) (.cons (.rf rfl) (.cons (.same rfl) (.cons (.same rfl) .nil))) (s_wire_reader_fail a0 a0.f_at 4 (.pan x3) hx3) (.same rfl) (.cons (.box (.cons (.same (ids_old (ids_slM (fun _ => rfl) ((x3.2).f_b)))) (.cons (.same rfl) (.cons (.same rfl) (.cons (.same rfl) .nil))))) .nil) rfl ?_
   repeat (first | refine seqB_pan ?_ | refine blockK_pan ?_ | refine jumpK_pan ?_)
   exact endK_pan (endR (y := (PV.iface 112 (of_wire_fault x3.1))) 1 (Wk.refl _) rfl rfl (.same rfl) (.cons (.box (.cons (.same (ids_old (ids_slM (fun _ => rfl) (((x3.2)).f_b)))) (.cons (.same rfl) (.cons (.same rfl) (.cons (.same rfl) .nil))))) .nil) (xq_pan rfl rfl))
  cases h
 ·intro hc1; replace h := ocond_f hc1 h
  refine bw_skip ?_
  change BW _ _ _ _ _
  refine bw_seq (bw_tail 8 [] [0] mo (by kernel_rfl) ?_)
  refine ac_go rfl rfl rfl rfl (fun H hp => op1_move rfl rfl) ?_
  refine ac_go rfl rfl rfl rfl (fun H hp => op1_nilR rfl rfl) ?_
  refine ac_go rfl rfl rfl rfl (fun H hp => op1_faR st_110 (i := 0) rfl rfl rfl) ?_
  refine ac_go rfl rfl rfl rfl (fun H hp => (op1_ldR Try.underlying23 rfl rfl rfl (hp.at rfl rfl) rfl)) ?_
  refine ac_go rfl rfl rfl rfl (fun H hp => op1_move rfl rfl) ?_
  refine ac_go rfl rfl rfl rfl (fun H hp => op1_nilR rfl rfl) ?_
  refine ac_go rfl rfl rfl rfl (fun H hp => op1_faR st_110 (i := 1) rfl rfl rfl) ?_
  refine ac_go rfl rfl rfl rfl (fun H hp => (op1_ldR Try.underlying3 rfl rfl rfl (hp.at rfl rfl) rfl)) ?_
  refine ac_nil ?_
  change AO _ _ _ _ _
  obtain ⟨x4, hx4, h⟩ := obind h
  refine sS rfl rfl rfl (op1_old (op1_idxM Try.underlying23 inf_5 rfl rfl rfl hx4 rfl)) ?_
  refine sS rfl rfl rfl (op1_oldS (op1_ldP (y := (ofB x4)) Try.underlying5 rfl rfl rfl rfl) Sc.v) ?_
  refine sA rfl rfl rfl rfl rfl (ao_nil ?_)
  change BW _ _ _ _ _
  refine bR ?_
  refine sM rfl rfl rfl rfl rfl ?_
  refine sS rfl rfl rfl (op1_nilR rfl rfl) ?_
  refine sS rfl rfl rfl (op1_faR st_110 (i := 1) rfl rfl rfl) ?_
  refine sS rfl rfl rfl ((op1_ldR Try.underlying3 rfl rfl rfl rfl rfl)) ?_
  refine sS rfl rfl rfl (op1_addW rfl rfl rfl) ?_
  refine sS rfl rfl rfl (op1_nilR rfl rfl) ?_
  refine sS rfl rfl rfl (op1_faR st_110 (i := 1) rfl rfl rfl) ?_
  refine ao_step0 rfl rfl (op1_store inf_3 rfl rfl rfl rfl rfl rfl (Nat.le_of_ble_eq_true rfl) rfl) ?_
  refine ao_nil ?_
  change BW _ _ _ _ _
  refine bR ?_
  refine sM rfl rfl rfl rfl rfl ?_
  refine sA rfl rfl rfl rfl rfl (ao_nil ?_)
  change BW _ _ _ _ _
  refine bw_ret ?_
  change ∃ xs, _ = some xs ∧ EndOk _ _ _ _
  obtain rfl := Option.some.inj h
  exact ⟨_, rfl, endR (y := (ofB x4)) 1 (Wk.refl _) rfl rfl (.same rfl) (.cons (.box (.cons (.same (ids_old (ids_slM (fun _ => rfl) (((S_wire_reader.mk a0.f_b (IntKind.i64.wrap (a0.f_at + 1)) a0.f_n a0.f_making)).f_b)))) (.cons (.same rfl) (.cons (.same rfl) (.cons (.same rfl) .nil))))) .nil) (xq_ret rfl rfl)⟩
noncomputable def wire_reader_number_j1 (g1 : Int → Int → Str → Int → Int → Bool → Option (Xr (S_wire_fault × S_wire_reader) (Int × S_wire_reader))) (a0 : S_wire_reader) (s1 : Int) (s2 : Int) (x7 : (UInt8 × S_wire_reader)) (s9 : Bool) : Option (Xr (S_wire_fault × S_wire_reader) (Int × S_wire_reader)) :=
 bif s9 then (
  xbind (p_wire_reader_fail (x7.2) a0.f_at 31) (fun s => (s.1, (s.2))) fun x11 => none
 ) else (
  Option.bind (negO (IntKind.i64.wrap (7 * s2))) fun x13 =>
  bif (decide (((x7.1).toNat : Int) < (((128 : UInt8)).toNat : Int))) then (
   some (.ret ((orK .u64 s1 (shlK .u64 (((UInt8.ofInt (andR .u8 ((x7.1).toNat : Int) (((127 : UInt8)).toNat : Int)))).toNat : Int) (IntKind.i64.wrap (7 * s2)))), (x7.2)))
  ) else (
   g1 (orK .u64 s1 (shlK .u64 (((UInt8.ofInt (andR .u8 ((x7.1).toNat : Int) (((127 : UInt8)).toNat : Int)))).toNat : Int) (IntKind.i64.wrap (7 * s2)))) (IntKind.i64.wrap (s2 + 1)) ((x7.2).f_b) ((x7.2).f_at) ((x7.2).f_n) ((x7.2).f_making)
  )
 )
theorem wire_reader_number_j1_cm {ι : Type} {ρ : ι → Type} (g1 : (∀ i, Option (ρ i)) → Int → Int → Str → Int → Int → Bool → Option (Xr (S_wire_fault × S_wire_reader) (Int × S_wire_reader))) (h_g1 : ∀ y0 y1 y2 y3 y4 y5, CM (fun G => g1 G y0 y1 y2 y3 y4 y5)) (a0 : S_wire_reader) (s1 : Int) (s2 : Int) (x7 : (UInt8 × S_wire_reader)) (s9 : Bool) : CM (fun G : (∀ i, Option (ρ i)) => wire_reader_number_j1 (g1 G) a0 s1 s2 x7 s9) := by
 simp only [wire_reader_number_j1]
 repeat (first | exact cm_const | exact h_g1 _ _ _ _ _ _ | refine cm_cond ?_ ?_ | refine cm_xbind ?_ (fun _ => ?_) | refine cm_bind ?_ (fun _ => ?_))
noncomputable def wire_reader_number_l1b (a0 : S_wire_reader) (g1 : Int → Int → Str → Int → Int → Bool → Option (Xr (S_wire_fault × S_wire_reader) (Int × S_wire_reader))) (s1 : Int) (s2 : Int) (s3 : Str) (s4 : Int) (s5 : Int) (s6 : Bool) : Option (Xr (S_wire_fault × S_wire_reader) (Int × S_wire_reader)) :=
 xbind (p_wire_reader_byte (S_wire_reader.mk s3 s4 s5 s6)) (fun s => (s.1, (s.2))) fun x7 =>
 bif (s2 == 9) then (
  bif (decide (((x7.1).toNat : Int) > (((1 : UInt8)).toNat : Int))) then (
   wire_reader_number_j1 g1 a0 s1 s2 x7 true
  ) else (
   bif (decide (s2 > 0)) then (
    wire_reader_number_j1 g1 a0 s1 s2 x7 (((x7.1).toNat : Int) == (((0 : UInt8)).toNat : Int))
   ) else (
    wire_reader_number_j1 g1 a0 s1 s2 x7 false
   )
  )
 ) else (
  bif (decide (s2 > 0)) then (
   wire_reader_number_j1 g1 a0 s1 s2 x7 (((x7.1).toNat : Int) == (((0 : UInt8)).toNat : Int))
  ) else (
   wire_reader_number_j1 g1 a0 s1 s2 x7 false
  )
 )
theorem wire_reader_number_l1b_cm {ι : Type} {ρ : ι → Type} (g1 : (∀ i, Option (ρ i)) → Int → Int → Str → Int → Int → Bool → Option (Xr (S_wire_fault × S_wire_reader) (Int × S_wire_reader))) (h_g1 : ∀ y0 y1 y2 y3 y4 y5, CM (fun G => g1 G y0 y1 y2 y3 y4 y5)) (a0 : S_wire_reader) (s1 : Int) (s2 : Int) (s3 : Str) (s4 : Int) (s5 : Int) (s6 : Bool) : CM (fun G : (∀ i, Option (ρ i)) => wire_reader_number_l1b a0 (g1 G) s1 s2 s3 s4 s5 s6) := by
 simp only [wire_reader_number_l1b]
 repeat (first | exact cm_const | exact h_g1 _ _ _ _ _ _ | apply wire_reader_number_j1_cm | refine cm_cond ?_ ?_ | refine cm_xbind ?_ (fun _ => ?_) | refine cm_bind ?_ (fun _ => ?_) | intro _ | assumption)
noncomputable def wire_reader_number_l1 (a0 : S_wire_reader) (s1 : Int) (s2 : Int) (s3 : Str) (s4 : Int) (s5 : Int) (s6 : Bool) : Option (Xr (S_wire_fault × S_wire_reader) (Int × S_wire_reader)) :=
 fixO (ι := (Int × Int × Str × Int × Int × Bool)) (ρ := fun _ => (Xr (S_wire_fault × S_wire_reader) (Int × S_wire_reader))) (fun g i => wire_reader_number_l1b a0 (fun s1 s2 s3 s4 s5 s6 => g (s1, s2, s3, s4, s5, s6)) i.1 i.2.1 i.2.2.1 i.2.2.2.1 i.2.2.2.2.1 i.2.2.2.2.2) (s1, s2, s3, s4, s5, s6)
theorem wire_reader_number_l1_eq (a0 : S_wire_reader) (s1 : Int) (s2 : Int) (s3 : Str) (s4 : Int) (s5 : Int) (s6 : Bool) : wire_reader_number_l1 a0 s1 s2 s3 s4 s5 s6 = wire_reader_number_l1b a0 (wire_reader_number_l1 a0) s1 s2 s3 s4 s5 s6 :=
 fixO_eq (ι := (Int × Int × Str × Int × Int × Bool)) (ρ := fun _ => (Xr (S_wire_fault × S_wire_reader) (Int × S_wire_reader))) (Φ := fun g i => wire_reader_number_l1b a0 (fun s1 s2 s3 s4 s5 s6 => g (s1, s2, s3, s4, s5, s6)) i.1 i.2.1 i.2.2.1 i.2.2.2.1 i.2.2.2.2.1 i.2.2.2.2.2) (fun i => wire_reader_number_l1b_cm (ι := (Int × Int × Str × Int × Int × Bool)) (ρ := fun _ => (Xr (S_wire_fault × S_wire_reader) (Int × S_wire_reader))) (fun g => (fun s1 s2 s3 s4 s5 s6 => g (s1, s2, s3, s4, s5, s6))) (fun _ _ _ _ _ _ => cm_app) a0 i.1 i.2.1 i.2.2.1 i.2.2.2.1 i.2.2.2.2.1 i.2.2.2.2.2) (s1, s2, s3, s4, s5, s6)
noncomputable def p_wire_reader_number (a0 : S_wire_reader) : Option (Xr (S_wire_fault × S_wire_reader) (Int × S_wire_reader)) :=
 wire_reader_number_l1 a0 0 0 a0.f_b a0.f_at a0.f_n a0.f_making
theorem s_wire_reader_number (a0 : S_wire_reader) (r : (Xr (S_wire_fault × S_wire_reader) (Int × S_wire_reader))) (h : p_wire_reader_number a0 = some r) : ACalls Try.prog 62 [(PV.rf 0 0)] [.box 110 [(PV.old (PV.sl none 5 1 (List.map ofB a0.f_b))), (I64 a0.f_at), (I64 a0.f_n), (BO a0.f_making)]] (XQ r (fun r => (PV.v (.int .u64 r.1))) (fun r => [.box 110 [(PV.old (PV.sl none 5 1 (List.map ofB (r.2).f_b))), (I64 ((r.2).f_at)), (I64 ((r.2).f_n)), (BO ((r.2).f_making))]]) (fun r => (PV.iface 112 (of_wire_fault r.1))) (fun r => [.box 110 [(PV.old (PV.sl none 5 1 (List.map ofB (r.2).f_b))), (I64 ((r.2).f_at)), (I64 ((r.2).f_n)), (BO ((r.2).f_making))]])) := by
 unfold p_wire_reader_number at h
 refine acalls_of Try.func62 rfl Try.ntmps62 Try.results62 rfl (aw_of_bw ?_)
 change BW _ _ _ ⟨[(0, (PV.rf 0 0))], [.box 110 [(PV.old (PV.sl none 5 1 (List.map ofB a0.f_b))), (I64 a0.f_at), (I64 a0.f_n), (BO a0.f_making)]], _⟩ _
 refine bR ?_
 refine sA rfl rfl rfl rfl rfl (ao_nil ?_)
 change BW _ _ _ _ _
 refine bw_seq (bw_tail 5 [] [0] mo (by kernel_rfl) ?_)
 refine ac_go rfl rfl rfl rfl (fun H hp => op1_move rfl rfl) ?_
 refine ac_go rfl rfl rfl rfl (fun H hp => op1_nilR rfl rfl) ?_
 refine ac_go rfl rfl rfl rfl (fun H hp => op1_faR st_110 (i := 1) rfl rfl rfl) ?_
 refine ac_go rfl rfl rfl rfl (fun H hp => (op1_ldR Try.underlying3 rfl rfl rfl (hp.at rfl rfl) rfl)) ?_
 refine ac_go rfl rfl rfl rfl (fun H hp => op1_assign rfl rfl) ?_
 refine ac_nil ?_
 change AO _ _ _ _ _
 refine sA rfl rfl rfl rfl rfl (ao_nil ?_)
 change BW _ _ _ _ _
 refine bR ?_
 refine sA rfl rfl rfl rfl rfl (ao_nil ?_)
 change BW _ _ _ _ _
 refine bw_block ?_
 change BW _ _ _ _ _
 unfold wire_reader_number_l1 at h
 refine bw_loop (σ := (Int × Int × Str × Int × Int × Bool)) (fun i => [(0, (PV.rf 0 0)), (3, (PV.v (.int .u64 i.1))), (4, (I64 a0.f_at)), (5, (I64 i.2.1))]) (fun i => [.box 110 [(PV.old (PV.sl none 5 1 (List.map ofB i.2.2.1))), (I64 i.2.2.2.1), (I64 i.2.2.2.2.1), (BO i.2.2.2.2.2)]]) (0, 0, a0.f_b, a0.f_at, a0.f_n, a0.f_making) h ?_ ?_ ?_
 ·intro i; exact ⟨Nat.le_of_ble_eq_true rfl, ⟨(il_rf rfl), ⟨(il_nil rfl), ⟨(il_nil rfl), ⟨(il_nil rfl), trivial⟩⟩⟩⟩, ⟨⟨(il_nil (ids_old (ids_slM (fun _ => rfl) _))), ⟨(il_nil rfl), ⟨(il_nil rfl), ⟨(il_nil rfl), trivial⟩⟩⟩⟩, trivial⟩⟩
 ·exact ⟨(.cons .same .nil), (sC rfl (sC rfl (sC rfl (sC rfl sub_nil))))⟩
 ·rintro g1_f ⟨s1, s2, s3, s4, s5, s6⟩ h; replace h : wire_reader_number_l1b a0 (fun y0 y1 y2 y3 y4 y5 => g1_f (y0, y1, y2, y3, y4, y5)) s1 s2 s3 s4 s5 s6 = some r := h; unfold wire_reader_number_l1b at h
  change BW _ _ _ ⟨[(0, (PV.rf 0 0)), (3, (PV.v (.int .u64 s1))), (4, (I64 a0.f_at)), (5, (I64 s2))], [.box 110 [(PV.old (PV.sl none 5 1 (List.map ofB s3))), (I64 s4), (I64 s5), (BO s6)]], _⟩ _
  refine bw_seq ?_
  refine bw_block ?_
  change BW _ _ _ _ _
  refine bR ?_
  refine sM rfl rfl rfl rfl rfl ?_
  obtain ⟨x8, hx8, rfl⟩ | ⟨x7, hx7, h⟩ := xbind_some h
  ·refine ao_ncall [0] (.func rfl) rfl en_61 rfl (.cons (Wk.refl _) .nil) rfl (.cons rfl (.box (.cons (.same (ids_old (ids_slM (fun _ => rfl) (((S_wire_reader.mk s3 s4 s5 s6)).f_b)))) (.cons (.same rfl) (.cons (.same rfl) (.cons (.same rfl) .nil))))) .nil) (.cons (.rf rfl) .nil) (s_wire_reader_byte (S_wire_reader.mk s3 s4 s5 s6) (.pan x8) hx8) (.same rfl) (.cons (.box (.cons (.same (ids_old (ids_slM (fun _ => rfl) ((x8.2).f_b)))) (.cons (.same rfl) (.cons (.same rfl) (.cons (.same rfl) .nil))))) .nil) rfl ?_
   repeat (first | refine seqB_pan ?_ | refine blockK_pan ?_ | refine jumpK_pan ?_)
   exact endK_pan (endR (y := (PV.iface 112 (of_wire_fault x8.1))) 1 (Wk.refl _) rfl rfl (.same rfl) (.cons (.box (.cons (.same (ids_old (ids_slM (fun _ => rfl) (((x8.2)).f_b)))) (.cons (.same rfl) (.cons (.same rfl) (.cons (.same rfl) .nil))))) .nil) (xq_pan rfl rfl))
  refine sS rfl rfl rfl (op1_mcall [0] (.func rfl) en_61 rfl (.cons (Wk.refl _) .nil) rfl (.cons rfl (.box (.cons (.same (ids_old (ids_slM (fun _ => rfl) (((S_wire_reader.mk s3 s4 s5 s6)).f_b)))) (.cons (.same rfl) (.cons (.same rfl) (.cons (.same rfl) .nil))))) .nil) (.cons (.rf rfl) .nil) (s_wire_reader_byte (S_wire_reader.mk s3 s4 s5 s6) (.ret x7) hx7) (.same rfl) (.cons (.box (.cons (.same (ids_old (ids_slM (fun _ => rfl) ((x7.2).f_b)))) (.cons (.same rfl) (.cons (.same rfl) (.cons (.same rfl) .nil))))) .nil) rfl) ?_
  refine sA rfl rfl rfl rfl rfl (ao_nil ?_)
  change BW _ _ _ _ _
  refine bw_seq ?_
  refine bw_seqJ (ι := Bool) (fun i => wire_reader_number_j1 (fun y0 y1 y2 y3 y4 y5 => g1_f (y0, y1, y2, y3, y4, y5)) a0 s1 s2 x7 i = some r) (fun i => [(0, (PV.rf 0 0)), (3, (PV.v (.int .u64 s1))), (4, (I64 a0.f_at)), (5, (I64 s2)), (6, (ofB x7.1)), (28, (BO i))]) (fun i => [.box 110 [(PV.old (PV.sl none 5 1 (List.map ofB (x7.2).f_b))), (I64 ((x7.2).f_at)), (I64 ((x7.2).f_n)), (BO ((x7.2).f_making))]]) ?_ ?_ ?_
  ·intro i; exact ⟨Nat.le_of_ble_eq_true rfl, ⟨(il_rf rfl), ⟨(il_nil rfl), ⟨(il_nil rfl), ⟨(il_nil rfl), ⟨(il_nil rfl), ⟨(il_nil rfl), trivial⟩⟩⟩⟩⟩⟩, ⟨⟨(il_nil (ids_old (ids_slM (fun _ => rfl) _))), ⟨(il_nil rfl), ⟨(il_nil rfl), ⟨(il_nil rfl), trivial⟩⟩⟩⟩, trivial⟩⟩
  ·rintro s9 h; replace h : wire_reader_number_j1 (fun y0 y1 y2 y3 y4 y5 => g1_f (y0, y1, y2, y3, y4, y5)) a0 s1 s2 x7 s9 = some r := h; unfold wire_reader_number_j1 at h
   change BW _ _ _ ⟨[(0, (PV.rf 0 0)), (3, (PV.v (.int .u64 s1))), (4, (I64 a0.f_at)), (5, (I64 s2)), (6, (ofB x7.1)), (28, (BO s9))], [.box 110 [(PV.old (PV.sl none 5 1 (List.map ofB (x7.2).f_b))), (I64 ((x7.2).f_at)), (I64 ((x7.2).f_n)), (BO ((x7.2).f_making))]], _⟩ _
   refine bw_cond rfl ?_ ?_
   ·intro hc10; replace h := ocond_t hc10 h
    refine bw_region ?_
    refine sM rfl rfl rfl rfl rfl ?_
    refine sM rfl rfl rfl rfl rfl ?_
    obtain ⟨x12, hx12, rfl⟩ | ⟨x11, hx11, h⟩ := xbind_some h
    ·refine ao_ncall [0] (.func rfl) rfl en_60 rfl (.cons (Wk.refl _) (.cons (Wk.refl _) (.cons (Wk.refl _) .nil))) rfl (.cons rfl (.box (.cons (.same (ids_old (ids_slM (fun _ => rfl) (((x7.2)).f_b)))) (.cons (.same rfl) (.cons (.same rfl) (.cons (.same rfl) .nil))))) .nil) (.cons (.rf rfl) (.cons (.same rfl) (.cons (.same rfl) .nil))) (s_wire_reader_fail (x7.2) a0.f_at 31 (.pan x12) hx12) (.same rfl) (.cons (.box (.cons (.same (ids_old (ids_slM (fun _ => rfl) ((x12.2).f_b)))) (.cons (.same rfl) (.cons (.same rfl) (.cons (.same rfl) .nil))))) .nil) rfl ?_
     repeat (first | refine seqB_pan ?_ | refine blockK_pan ?_ | refine jumpK_pan ?_)
     exact endK_pan (endR (y := (PV.iface 112 (of_wire_fault x12.1))) 1 (Wk.refl _) rfl rfl (.same rfl) (.cons (.box (.cons (.same (ids_old (ids_slM (fun _ => rfl) (((x12.2)).f_b)))) (.cons (.same rfl) (.cons (.same rfl) (.cons (.same rfl) .nil))))) .nil) (xq_pan rfl rfl))
    cases h
   ·intro hc10; replace h := ocond_f hc10 h
    refine bw_skip ?_
    change BW _ _ _ _ _
    refine bR ?_
    refine sM rfl rfl rfl rfl rfl ?_
    refine sM rfl rfl rfl rfl rfl ?_
    refine sS rfl rfl rfl ((op1_andW rfl rfl rfl).cast (y := (ofB (UInt8.ofInt (andR .u8 ((x7.1).toNat : Int) (((127 : UInt8)).toNat : Int))))) (by rw [toU8_wrap]; rfl) rfl) ?_
    refine sS rfl rfl rfl ((op1_convI Try.underlying5 Try.underlying24 rfl rfl).cast (y := (PV.v (.int .u64 (((UInt8.ofInt (andR .u8 ((x7.1).toNat : Int) (((127 : UInt8)).toNat : Int)))).toNat : Int)))) (by rw [wrapB_u64]) rfl) ?_
    refine sM rfl rfl rfl rfl rfl ?_
    refine sS rfl rfl rfl (op1_mulW rfl rfl rfl) ?_
    obtain ⟨x13, hx13, h⟩ := obind h
    refine sS rfl rfl rfl ((op1_shl rfl rfl rfl (negO_some hx13)).cast (y := (PV.v (.int .u64 (shlK .u64 (((UInt8.ofInt (andR .u8 ((x7.1).toNat : Int) (((127 : UInt8)).toNat : Int)))).toNat : Int) (IntKind.i64.wrap (7 * s2)))))) rfl rfl) ?_
    refine sS rfl rfl rfl ((op1_orW rfl rfl rfl).cast (y := (PV.v (.int .u64 (orK .u64 s1 (shlK .u64 (((UInt8.ofInt (andR .u8 ((x7.1).toNat : Int) (((127 : UInt8)).toNat : Int)))).toNat : Int) (IntKind.i64.wrap (7 * s2))))))) rfl rfl) ?_
    refine sA rfl rfl rfl rfl rfl (ao_nil ?_)
    change BW _ _ _ _ _
    refine bR ?_
    refine sM rfl rfl rfl rfl rfl ?_
    refine sS rfl rfl rfl ((op1_cmp rfl rfl rfl rfl).cast (y := (BO ((decide (((x7.1).toNat : Int) < (((128 : UInt8)).toNat : Int)))))) rfl rfl) (ao_nil ?_)
    change BW _ _ _ _ _
    refine bw_cond rfl ?_ ?_
    ·intro hc14; replace h := ocond_t hc14 h
     refine bR ?_
     refine sM rfl rfl rfl rfl rfl ?_
     refine sA rfl rfl rfl rfl rfl (ao_nil ?_)
     change BW _ _ _ _ _
     refine bw_ret ?_
     change ∃ xs, _ = some xs ∧ EndOk _ _ _ _
     obtain rfl := Option.some.inj h
     exact ⟨_, rfl, endR (y := (PV.v (.int .u64 (orK .u64 s1 (shlK .u64 (((UInt8.ofInt (andR .u8 ((x7.1).toNat : Int) (((127 : UInt8)).toNat : Int)))).toNat : Int) (IntKind.i64.wrap (7 * s2))))))) 1 (Wk.refl _) rfl rfl (.same rfl) (.cons (.box (.cons (.same (ids_old (ids_slM (fun _ => rfl) (((x7.2)).f_b)))) (.cons (.same rfl) (.cons (.same rfl) (.cons (.same rfl) .nil))))) .nil) (xq_ret rfl rfl)⟩
    ·intro hc14; replace h := ocond_f hc14 h
     refine bw_skip ?_
     change BW _ _ _ _ _
     refine bw_region ?_
     refine sM rfl rfl rfl rfl rfl ?_
     refine sS rfl rfl rfl (op1_addW rfl rfl rfl) ?_
     refine sA rfl rfl rfl rfl rfl (ao_nil ?_)
     exact ⟨rfl, ((orK .u64 s1 (shlK .u64 (((UInt8.ofInt (andR .u8 ((x7.1).toNat : Int) (((127 : UInt8)).toNat : Int)))).toNat : Int) (IntKind.i64.wrap (7 * s2)))), (IntKind.i64.wrap (s2 + 1)), (x7.2).f_b, (x7.2).f_at, (x7.2).f_n, (x7.2).f_making), h, ⟨(.cons .same .nil), (sC rfl (sC rfl (sC rfl (sC rfl sub_nil))))⟩⟩
  ·refine bw_region ?_
   refine sM rfl rfl rfl rfl rfl ?_
   refine sS rfl rfl rfl ((op1_cmp rfl rfl rfl rfl).cast (y := (BO ((s2 == 9)))) rfl rfl) ?_
   refine sM rfl rfl rfl rfl rfl ?_
   refine ao_cases (t := 17) rfl ?_ ?_
   ·intro hb15; replace h := ocond_t hb15 h
    refine ao_yes rfl rfl rfl rfl rfl rfl (op1_move rfl rfl) ?_
    refine ao_yes rfl rfl rfl rfl rfl rfl ((op1_cmp rfl rfl rfl rfl).cast (y := (BO ((decide (((x7.1).toNat : Int) > (((1 : UInt8)).toNat : Int)))))) rfl rfl) ?_
    refine sS rfl rfl rfl (op1_pickT rfl rfl rfl) ?_
    refine sM rfl rfl rfl rfl rfl ?_
    refine ao_cases (t := 21) rfl ?_ ?_
    ·intro hb16; replace h := ocond_t hb16 h
     refine ao_no rfl rfl rfl rfl rfl rfl ?_
     refine ao_no rfl rfl rfl rfl rfl rfl ?_
     refine ao_no rfl rfl rfl rfl rfl rfl ?_
     refine ao_no rfl rfl rfl rfl rfl rfl ?_
     refine ao_no rfl rfl rfl rfl rfl rfl ?_
     refine ao_no rfl rfl rfl rfl rfl rfl ?_
     refine sS rfl rfl rfl (op1_pickT rfl rfl rfl) (ao_nil ?_)
     exact ⟨rfl, true, h, ⟨(.cons .same .nil), (sC rfl (sC rfl (sC rfl (sC rfl (sC rfl (sC rfl sub_nil))))))⟩⟩
    ·intro hb16; replace h := ocond_f hb16 h
     refine ao_yes rfl rfl rfl rfl rfl rfl (op1_move rfl rfl) ?_
     refine ao_yes rfl rfl rfl rfl rfl rfl ((op1_cmp rfl rfl rfl rfl).cast (y := (BO ((decide (s2 > 0))))) rfl rfl) ?_
     refine ao_yes rfl rfl rfl rfl rfl rfl (op1_move rfl rfl) ?_
     refine ao_cases (t := 24) rfl ?_ ?_
     ·intro hb17; replace h := ocond_t hb17 h
      refine ao_yes rfl rfl rfl rfl rfl rfl (op1_move rfl rfl) ?_
      refine ao_yes rfl rfl rfl rfl rfl rfl ((op1_cmp rfl rfl rfl rfl).cast (y := (BO ((((x7.1).toNat : Int) == (((0 : UInt8)).toNat : Int))))) rfl rfl) ?_
      refine ao_yes rfl rfl rfl rfl rfl rfl (op1_pickT rfl rfl rfl) ?_
      refine sS rfl rfl rfl (op1_pickF rfl rfl rfl) (ao_nil ?_)
      exact ⟨rfl, (((x7.1).toNat : Int) == (((0 : UInt8)).toNat : Int)), h, ⟨(.cons .same .nil), (sC rfl (sC rfl (sC rfl (sC rfl (sC rfl (sC rfl sub_nil))))))⟩⟩
     ·intro hb17; replace h := ocond_f hb17 h
      refine ao_no rfl rfl rfl rfl rfl rfl ?_
      refine ao_no rfl rfl rfl rfl rfl rfl ?_
      refine ao_yes rfl rfl rfl rfl rfl rfl (op1_pickF rfl rfl rfl) ?_
      refine sS rfl rfl rfl (op1_pickF rfl rfl rfl) (ao_nil ?_)
      exact ⟨rfl, false, h, ⟨(.cons .same .nil), (sC rfl (sC rfl (sC rfl (sC rfl (sC rfl (sC rfl sub_nil))))))⟩⟩
   ·intro hb15; replace h := ocond_f hb15 h
    refine ao_no rfl rfl rfl rfl rfl rfl ?_
    refine ao_no rfl rfl rfl rfl rfl rfl ?_
    refine sS rfl rfl rfl (op1_pickF rfl rfl rfl) ?_
    refine sM rfl rfl rfl rfl rfl ?_
    refine ao_yes rfl rfl rfl rfl rfl rfl (op1_move rfl rfl) ?_
    refine ao_yes rfl rfl rfl rfl rfl rfl ((op1_cmp rfl rfl rfl rfl).cast (y := (BO ((decide (s2 > 0))))) rfl rfl) ?_
    refine ao_yes rfl rfl rfl rfl rfl rfl (op1_move rfl rfl) ?_
    refine ao_cases (t := 24) rfl ?_ ?_
    ·intro hb18; replace h := ocond_t hb18 h
     refine ao_yes rfl rfl rfl rfl rfl rfl (op1_move rfl rfl) ?_
     refine ao_yes rfl rfl rfl rfl rfl rfl ((op1_cmp rfl rfl rfl rfl).cast (y := (BO ((((x7.1).toNat : Int) == (((0 : UInt8)).toNat : Int))))) rfl rfl) ?_
     refine ao_yes rfl rfl rfl rfl rfl rfl (op1_pickT rfl rfl rfl) ?_
     refine sS rfl rfl rfl (op1_pickF rfl rfl rfl) (ao_nil ?_)
     exact ⟨rfl, (((x7.1).toNat : Int) == (((0 : UInt8)).toNat : Int)), h, ⟨(.cons .same .nil), (sC rfl (sC rfl (sC rfl (sC rfl (sC rfl (sC rfl sub_nil))))))⟩⟩
    ·intro hb18; replace h := ocond_f hb18 h
     refine ao_no rfl rfl rfl rfl rfl rfl ?_
     refine ao_no rfl rfl rfl rfl rfl rfl ?_
     refine ao_yes rfl rfl rfl rfl rfl rfl (op1_pickF rfl rfl rfl) ?_
     refine sS rfl rfl rfl (op1_pickF rfl rfl rfl) (ao_nil ?_)
     exact ⟨rfl, false, h, ⟨(.cons .same .nil), (sC rfl (sC rfl (sC rfl (sC rfl (sC rfl (sC rfl sub_nil))))))⟩⟩
noncomputable def p_wire_reader_take (a0 : S_wire_reader) (a1 : Int) : Option (Xr (S_wire_fault × S_wire_reader) (Str × S_wire_reader)) :=
 bif (decide (a1 > (IntKind.i64.wrap ((((a0.f_b).length : Nat) : Int) - a0.f_at)))) then (
  xbind (p_wire_reader_fail a0 (((a0.f_b).length : Nat) : Int) 4) (fun s => (s.1, (s.2))) fun x2 => none
 ) else (
  Option.bind (cutO a0.f_b (IntKind.i64.wrap ((IntKind.i64.wrap (a0.f_at + a1)) - a1)) (IntKind.i64.wrap (a0.f_at + a1))) fun x4 =>
  some (.ret (x4, (S_wire_reader.mk a0.f_b (IntKind.i64.wrap (a0.f_at + a1)) a0.f_n a0.f_making)))
 )
theorem s_wire_reader_take (a0 : S_wire_reader) (a1 : Int) (r : (Xr (S_wire_fault × S_wire_reader) (Str × S_wire_reader))) (h : p_wire_reader_take a0 a1 = some r) : ACalls Try.prog 63 [(PV.rf 0 0), (I64 a1)] [.box 110 [(PV.old (PV.sl none 5 1 (List.map ofB a0.f_b))), (I64 a0.f_at), (I64 a0.f_n), (BO a0.f_making)]] (XQ r (fun r => (PV.old (PV.sl none 5 1 (List.map ofB r.1)))) (fun r => [.box 110 [(PV.old (PV.sl none 5 1 (List.map ofB (r.2).f_b))), (I64 ((r.2).f_at)), (I64 ((r.2).f_n)), (BO ((r.2).f_making))]]) (fun r => (PV.iface 112 (of_wire_fault r.1))) (fun r => [.box 110 [(PV.old (PV.sl none 5 1 (List.map ofB (r.2).f_b))), (I64 ((r.2).f_at)), (I64 ((r.2).f_n)), (BO ((r.2).f_making))]])) := by
 unfold p_wire_reader_take at h
 refine acalls_of Try.func63 rfl Try.ntmps63 Try.results63 rfl (aw_of_bw ?_)
 change BW _ _ _ ⟨[(0, (PV.rf 0 0)), (1, (I64 a1))], [.box 110 [(PV.old (PV.sl none 5 1 (List.map ofB a0.f_b))), (I64 a0.f_at), (I64 a0.f_n), (BO a0.f_making)]], _⟩ _
 refine bR ?_
 refine sA rfl rfl rfl rfl rfl (ao_nil ?_)
 change BW _ _ _ _ _
 refine bw_seq ?_
 refine bw_seq (bw_tail 11 [] [0] mo (by kernel_rfl) ?_)
 refine ac_go rfl rfl rfl rfl (fun H hp => op1_move rfl rfl) ?_
 refine ac_go rfl rfl rfl rfl (fun H hp => op1_move rfl rfl) ?_
 refine ac_go rfl rfl rfl rfl (fun H hp => op1_nilR rfl rfl) ?_
 refine ac_go rfl rfl rfl rfl (fun H hp => op1_faR st_110 (i := 0) rfl rfl rfl) ?_
 refine ac_go rfl rfl rfl rfl (fun H hp => (op1_ldR Try.underlying23 rfl rfl rfl (hp.at rfl rfl) rfl)) ?_
 refine ac_go rfl rfl rfl rfl (fun H hp => op1_oldS (op1_lenM Try.underlying23 rfl rfl) Sc.v) ?_
 refine ac_go rfl rfl rfl rfl (fun H hp => op1_move rfl rfl) ?_
 refine ac_go rfl rfl rfl rfl (fun H hp => op1_nilR rfl rfl) ?_
 refine ac_go rfl rfl rfl rfl (fun H hp => op1_faR st_110 (i := 1) rfl rfl rfl) ?_
 refine ac_go rfl rfl rfl rfl (fun H hp => (op1_ldR Try.underlying3 rfl rfl rfl (hp.at rfl rfl) rfl)) ?_
 refine ac_go rfl rfl rfl rfl (fun H hp => op1_subW rfl rfl rfl) ?_
 refine ac_nil ?_
 change AO _ _ _ _ _
 refine sS rfl rfl rfl ((op1_cmp rfl rfl rfl rfl).cast (y := (BO ((decide (a1 > (IntKind.i64.wrap ((((a0.f_b).length : Nat) : Int) - a0.f_at))))))) rfl rfl) (ao_nil ?_)
 change BW _ _ _ _ _
 refine bw_cond rfl ?_ ?_
 ·intro hc1; replace h := ocond_t hc1 h
  refine bw_region ?_
  refine sM rfl rfl rfl rfl rfl ?_
  refine sM rfl rfl rfl rfl rfl ?_
  refine sS rfl rfl rfl (op1_nilR rfl rfl) ?_
  refine sS rfl rfl rfl (op1_faR st_110 (i := 0) rfl rfl rfl) ?_
  refine sS rfl rfl rfl ((op1_ldR Try.underlying23 rfl rfl rfl rfl rfl)) ?_
  refine sS rfl rfl rfl (op1_oldS (op1_lenM Try.underlying23 rfl rfl) Sc.v) ?_
  obtain ⟨x3, hx3, rfl⟩ | ⟨x2, hx2, h⟩ := xbind_some h
  ·refine ao_ncall [0] (.func rfl) rfl en_60 rfl (.cons (Wk.refl _) (.cons (Wk.refl _) (.cons (Wk.refl _) .nil))) rfl (.cons rfl (.box (.cons (.same (ids_old (ids_slM (fun _ => rfl) a0.f_b))) (.cons (.same rfl) (.cons (.same rfl) (.cons (.same rfl) .nil))))) .nil) (.cons (.rf rfl) (.cons (.same rfl) (.cons (.same rfl) .nil))) (s_wire_reader_fail a0 (((a0.f_b).length : Nat) : Int) 4 (.pan x3) hx3) (.same rfl) (.cons (.box (.cons (.same (ids_old (ids_slM (fun _ => rfl) ((x3.2).f_b)))) (.cons (.same rfl) (.cons (.same rfl) (.cons (.same rfl) .nil))))) .nil) rfl ?_
   repeat (first | refine seqB_pan ?_ | refine blockK_pan ?_ | refine jumpK_pan ?_)
   exact endK_pan (endR (y := (PV.iface 112 (of_wire_fault x3.1))) 1 (Wk.refl _) rfl rfl (.same rfl) (.cons (.box (.cons (.same (ids_old (ids_slM (fun _ => rfl) (((x3.2)).f_b)))) (.cons (.same rfl) (.cons (.same rfl) (.cons (.same rfl) .nil))))) .nil) (xq_pan rfl rfl))
  cases h
 ·intro hc1; replace h := ocond_f hc1 h
  refine bw_skip ?_
  change BW _ _ _ _ _
  refine bR ?_
  refine sM rfl rfl rfl rfl rfl ?_
  refine sS rfl rfl rfl (op1_nilR rfl rfl) ?_
  refine sS rfl rfl rfl (op1_faR st_110 (i := 1) rfl rfl rfl) ?_
  refine sS rfl rfl rfl ((op1_ldR Try.underlying3 rfl rfl rfl rfl rfl)) ?_
  refine sM rfl rfl rfl rfl rfl ?_
  refine sS rfl rfl rfl (op1_addW rfl rfl rfl) ?_
  refine sS rfl rfl rfl (op1_nilR rfl rfl) ?_
  refine sS rfl rfl rfl (op1_faR st_110 (i := 1) rfl rfl rfl) ?_
  refine ao_step0 rfl rfl (op1_store inf_3 rfl rfl rfl rfl rfl rfl (Nat.le_of_ble_eq_true rfl) rfl) ?_
  refine ao_nil ?_
  change BW _ _ _ _ _
  refine bw_seq (bw_tail 14 [] [0] mo (by kernel_rfl) ?_)
  refine ac_go rfl rfl rfl rfl (fun H hp => op1_move rfl rfl) ?_
  refine ac_go rfl rfl rfl rfl (fun H hp => op1_nilR rfl rfl) ?_
  refine ac_go rfl rfl rfl rfl (fun H hp => op1_faR st_110 (i := 0) rfl rfl rfl) ?_
  refine ac_go rfl rfl rfl rfl (fun H hp => (op1_ldR Try.underlying23 rfl rfl rfl (hp.at rfl rfl) rfl)) ?_
  refine ac_go rfl rfl rfl rfl (fun H hp => op1_move rfl rfl) ?_
  refine ac_go rfl rfl rfl rfl (fun H hp => op1_nilR rfl rfl) ?_
  refine ac_go rfl rfl rfl rfl (fun H hp => op1_faR st_110 (i := 1) rfl rfl rfl) ?_
  refine ac_go rfl rfl rfl rfl (fun H hp => (op1_ldR Try.underlying3 rfl rfl rfl (hp.at rfl rfl) rfl)) ?_
  refine ac_go rfl rfl rfl rfl (fun H hp => op1_move rfl rfl) ?_
  refine ac_go rfl rfl rfl rfl (fun H hp => op1_subW rfl rfl rfl) ?_
  refine ac_go rfl rfl rfl rfl (fun H hp => op1_move rfl rfl) ?_
  refine ac_go rfl rfl rfl rfl (fun H hp => op1_nilR rfl rfl) ?_
  refine ac_go rfl rfl rfl rfl (fun H hp => op1_faR st_110 (i := 1) rfl rfl rfl) ?_
  refine ac_go rfl rfl rfl rfl (fun H hp => (op1_ldR Try.underlying3 rfl rfl rfl (hp.at rfl rfl) rfl)) ?_
  refine ac_nil ?_
  change AO _ _ _ _ _
  obtain ⟨x4, hx4, h⟩ := obind h
  refine sS rfl rfl rfl (op1_old (op1_cutM (a := (IntKind.i64.wrap ((IntKind.i64.wrap (a0.f_at + a1)) - a1))) (b := (IntKind.i64.wrap (a0.f_at + a1))) Try.underlying23 inf_5 rfl rfl rfl rfl rfl rfl hx4)) ?_
  refine sA rfl rfl rfl rfl rfl (ao_nil ?_)
  change BW _ _ _ _ _
  refine bw_ret ?_
  change ∃ xs, _ = some xs ∧ EndOk _ _ _ _
  obtain rfl := Option.some.inj h
  exact ⟨_, rfl, endR (y := (PV.old (PV.sl none 5 1 (List.map ofB x4)))) 1 (Wk.refl _) rfl rfl (.same (ids_old (ids_slM (fun _ => rfl) x4))) (.cons (.box (.cons (.same (ids_old (ids_slM (fun _ => rfl) (((S_wire_reader.mk a0.f_b (IntKind.i64.wrap (a0.f_at + a1)) a0.f_n a0.f_making)).f_b)))) (.cons (.same rfl) (.cons (.same rfl) (.cons (.same rfl) .nil))))) .nil) (xq_ret rfl rfl)⟩
noncomputable def p_wire_reader_most (a0 : S_wire_reader) (a1 : Int) (a2 : Int) : Option (Xr (S_wire_fault × S_wire_reader) (Int × S_wire_reader)) :=
 xbind (p_wire_reader_number a0) (fun s => (s.1, (s.2))) fun x1 =>
 bif (decide (x1.1 > (IntKind.u64.wrap a2))) then (
  xbind (p_wire_reader_fail (x1.2) a1 2) (fun s => (s.1, (s.2))) fun x4 => none
 ) else (
  some (.ret ((IntKind.i64.wrap x1.1), (x1.2)))
 )
theorem s_wire_reader_most (a0 : S_wire_reader) (a1 : Int) (a2 : Int) (r : (Xr (S_wire_fault × S_wire_reader) (Int × S_wire_reader))) (h : p_wire_reader_most a0 a1 a2 = some r) : ACalls Try.prog 65 [(PV.rf 0 0), (I64 a1), (I64 a2)] [.box 110 [(PV.old (PV.sl none 5 1 (List.map ofB a0.f_b))), (I64 a0.f_at), (I64 a0.f_n), (BO a0.f_making)]] (XQ r (fun r => (I64 r.1)) (fun r => [.box 110 [(PV.old (PV.sl none 5 1 (List.map ofB (r.2).f_b))), (I64 ((r.2).f_at)), (I64 ((r.2).f_n)), (BO ((r.2).f_making))]]) (fun r => (PV.iface 112 (of_wire_fault r.1))) (fun r => [.box 110 [(PV.old (PV.sl none 5 1 (List.map ofB (r.2).f_b))), (I64 ((r.2).f_at)), (I64 ((r.2).f_n)), (BO ((r.2).f_making))]])) := by
 unfold p_wire_reader_most at h
 refine acalls_of Try.func65 rfl Try.ntmps65 Try.results65 rfl (aw_of_bw ?_)
 change BW _ _ _ ⟨[(0, (PV.rf 0 0)), (1, (I64 a1)), (2, (I64 a2))], [.box 110 [(PV.old (PV.sl none 5 1 (List.map ofB a0.f_b))), (I64 a0.f_at), (I64 a0.f_n), (BO a0.f_making)]], _⟩ _
 refine bR ?_
 refine sA rfl rfl rfl rfl rfl (ao_nil ?_)
 change BW _ _ _ _ _
 refine bR ?_
 refine sM rfl rfl rfl rfl rfl ?_
 obtain ⟨x2, hx2, rfl⟩ | ⟨x1, hx1, h⟩ := xbind_some h
 ·refine ao_ncall [0] (.func rfl) rfl en_62 rfl (.cons (Wk.refl _) .nil) rfl (.cons rfl (.box (.cons (.same (ids_old (ids_slM (fun _ => rfl) a0.f_b))) (.cons (.same rfl) (.cons (.same rfl) (.cons (.same rfl) .nil))))) .nil) (.cons (.rf rfl) .nil) (s_wire_reader_number a0 (.pan x2) hx2) (.same rfl) (.cons (.box (.cons (.same (ids_old (ids_slM (fun _ => rfl) ((x2.2).f_b)))) (.cons (.same rfl) (.cons (.same rfl) (.cons (.same rfl) .nil))))) .nil) rfl ?_
  repeat (first | refine seqB_pan ?_ | refine blockK_pan ?_ | refine jumpK_pan ?_)
  exact endK_pan (endR (y := (PV.iface 112 (of_wire_fault x2.1))) 1 (Wk.refl _) rfl rfl (.same rfl) (.cons (.box (.cons (.same (ids_old (ids_slM (fun _ => rfl) (((x2.2)).f_b)))) (.cons (.same rfl) (.cons (.same rfl) (.cons (.same rfl) .nil))))) .nil) (xq_pan rfl rfl))
 refine sS rfl rfl rfl (op1_mcall [0] (.func rfl) en_62 rfl (.cons (Wk.refl _) .nil) rfl (.cons rfl (.box (.cons (.same (ids_old (ids_slM (fun _ => rfl) a0.f_b))) (.cons (.same rfl) (.cons (.same rfl) (.cons (.same rfl) .nil))))) .nil) (.cons (.rf rfl) .nil) (s_wire_reader_number a0 (.ret x1) hx1) (.same rfl) (.cons (.box (.cons (.same (ids_old (ids_slM (fun _ => rfl) ((x1.2).f_b)))) (.cons (.same rfl) (.cons (.same rfl) (.cons (.same rfl) .nil))))) .nil) rfl) ?_
 refine sA rfl rfl rfl rfl rfl (ao_nil ?_)
 change BW _ _ _ _ _
 refine bw_seq ?_
 refine bR ?_
 refine sM rfl rfl rfl rfl rfl ?_
 refine sM rfl rfl rfl rfl rfl ?_
 refine sS rfl rfl rfl (op1_convI Try.underlying3 Try.underlying24 rfl rfl) ?_
 refine sS rfl rfl rfl ((op1_cmp rfl rfl rfl rfl).cast (y := (BO ((decide (x1.1 > (IntKind.u64.wrap a2)))))) rfl rfl) (ao_nil ?_)
 change BW _ _ _ _ _
 refine bw_cond rfl ?_ ?_
 ·intro hc3; replace h := ocond_t hc3 h
  refine bw_region ?_
  refine sM rfl rfl rfl rfl rfl ?_
  refine sM rfl rfl rfl rfl rfl ?_
  obtain ⟨x5, hx5, rfl⟩ | ⟨x4, hx4, h⟩ := xbind_some h
  ·refine ao_ncall [0] (.func rfl) rfl en_60 rfl (.cons (Wk.refl _) (.cons (Wk.refl _) (.cons (Wk.refl _) .nil))) rfl (.cons rfl (.box (.cons (.same (ids_old (ids_slM (fun _ => rfl) (((x1.2)).f_b)))) (.cons (.same rfl) (.cons (.same rfl) (.cons (.same rfl) .nil))))) .nil) (.cons (.rf rfl) (.cons (.same rfl) (.cons (.same rfl) .nil))) (s_wire_reader_fail (x1.2) a1 2 (.pan x5) hx5) (.same rfl) (.cons (.box (.cons (.same (ids_old (ids_slM (fun _ => rfl) ((x5.2).f_b)))) (.cons (.same rfl) (.cons (.same rfl) (.cons (.same rfl) .nil))))) .nil) rfl ?_
   repeat (first | refine seqB_pan ?_ | refine blockK_pan ?_ | refine jumpK_pan ?_)
   exact endK_pan (endR (y := (PV.iface 112 (of_wire_fault x5.1))) 1 (Wk.refl _) rfl rfl (.same rfl) (.cons (.box (.cons (.same (ids_old (ids_slM (fun _ => rfl) (((x5.2)).f_b)))) (.cons (.same rfl) (.cons (.same rfl) (.cons (.same rfl) .nil))))) .nil) (xq_pan rfl rfl))
  cases h
 ·intro hc3; replace h := ocond_f hc3 h
  refine bw_skip ?_
  change BW _ _ _ _ _
  refine bR ?_
  refine sM rfl rfl rfl rfl rfl ?_
  refine sS rfl rfl rfl (op1_convI Try.underlying24 Try.underlying3 rfl rfl) ?_
  refine sA rfl rfl rfl rfl rfl (ao_nil ?_)
  change BW _ _ _ _ _
  refine bw_ret ?_
  change ∃ xs, _ = some xs ∧ EndOk _ _ _ _
  obtain rfl := Option.some.inj h
  exact ⟨_, rfl, endR (y := (I64 ((IntKind.i64.wrap x1.1)))) 1 (Wk.refl _) rfl rfl (.same rfl) (.cons (.box (.cons (.same (ids_old (ids_slM (fun _ => rfl) (((x1.2)).f_b)))) (.cons (.same rfl) (.cons (.same rfl) (.cons (.same rfl) .nil))))) .nil) (xq_ret rfl rfl)⟩
noncomputable def value_name_j2 (g1 : Nat → Option Bool) (s4 : Nat) (s8 : Bool) : Option Bool :=
 bif s8 then (
  some false
 ) else (
  g1 (s4 + 1)
 )
theorem value_name_j2_cm {ι : Type} {ρ : ι → Type} (g1 : (∀ i, Option (ρ i)) → Nat → Option Bool) (h_g1 : ∀ y0, CM (fun G => g1 G y0)) (s4 : Nat) (s8 : Bool) : CM (fun G : (∀ i, Option (ρ i)) => value_name_j2 (g1 G) s4 s8) := by
 simp only [value_name_j2]
 repeat (first | exact cm_const | exact h_g1 _ | refine cm_cond ?_ ?_ | refine cm_bind ?_ (fun _ => ?_))
noncomputable def value_name_l1b (a0 : Str) (g1 : Nat → Option Bool) (s4 : Nat) : Option Bool :=
 bif (decide (((s4 : Nat) : Int) < (((a0).length : Nat) : Int))) then (
  Option.bind ((a0)[s4]?) fun x7 =>
  bif (decide (((x7).toNat : Int) < (((97 : UInt8)).toNat : Int))) then (
   bif (decide (((x7).toNat : Int) < (((48 : UInt8)).toNat : Int))) then (
    value_name_j2 g1 s4 (((x7).toNat : Int) != (((95 : UInt8)).toNat : Int))
   ) else (
    bif (decide (((x7).toNat : Int) > (((57 : UInt8)).toNat : Int))) then (
     value_name_j2 g1 s4 (((x7).toNat : Int) != (((95 : UInt8)).toNat : Int))
    ) else (
     value_name_j2 g1 s4 false
    )
   )
  ) else (
   bif (decide (((x7).toNat : Int) > (((122 : UInt8)).toNat : Int))) then (
    bif (decide (((x7).toNat : Int) < (((48 : UInt8)).toNat : Int))) then (
     value_name_j2 g1 s4 (((x7).toNat : Int) != (((95 : UInt8)).toNat : Int))
    ) else (
     bif (decide (((x7).toNat : Int) > (((57 : UInt8)).toNat : Int))) then (
      value_name_j2 g1 s4 (((x7).toNat : Int) != (((95 : UInt8)).toNat : Int))
     ) else (
      value_name_j2 g1 s4 false
     )
    )
   ) else (
    value_name_j2 g1 s4 false
   )
  )
 ) else (
  some true
 )
theorem value_name_l1b_cm {ι : Type} {ρ : ι → Type} (g1 : (∀ i, Option (ρ i)) → Nat → Option Bool) (h_g1 : ∀ y0, CM (fun G => g1 G y0)) (a0 : Str) (s4 : Nat) : CM (fun G : (∀ i, Option (ρ i)) => value_name_l1b a0 (g1 G) s4) := by
 simp only [value_name_l1b]
 repeat (first | exact cm_const | exact h_g1 _ | apply value_name_j2_cm | refine cm_cond ?_ ?_ | refine cm_bind ?_ (fun _ => ?_) | intro _ | assumption)
noncomputable def value_name_l1 (a0 : Str) (s4 : Nat) : Option Bool :=
 fixO (ι := Nat) (ρ := fun _ => Bool) (fun g i => value_name_l1b a0 (fun s4 => g s4) i) s4
theorem value_name_l1_eq (a0 : Str) (s4 : Nat) : value_name_l1 a0 s4 = value_name_l1b a0 (value_name_l1 a0) s4 :=
 fixO_eq (ι := Nat) (ρ := fun _ => Bool) (Φ := fun g i => value_name_l1b a0 (fun s4 => g s4) i) (fun i => value_name_l1b_cm (ι := Nat) (ρ := fun _ => Bool) (fun g => (fun s4 => g s4)) (fun _ => cm_app) a0 i) s4
noncomputable def value_name_j1 (a0 : Str) (s1 : Bool) : Option Bool :=
 bif s1 then (
  some false
 ) else (
  Option.bind (smallO (a0).length) fun x3 =>
  value_name_l1 a0 0
 )
noncomputable def p_value_name (a0 : Str) : Option Bool :=
 bif (a0 == ([] : Str)) then (
  value_name_j1 a0 true
 ) else (
  bif (decide ((((a0).length : Nat) : Int) > 32)) then (
   value_name_j1 a0 true
  ) else (
   Option.bind ((a0)[0]?) fun x18 =>
   bif (decide (((x18).toNat : Int) < (((97 : UInt8)).toNat : Int))) then (
    value_name_j1 a0 true
   ) else (
    Option.bind ((a0)[0]?) fun x20 =>
    value_name_j1 a0 (decide (((x20).toNat : Int) > (((122 : UInt8)).toNat : Int)))
   )
  )
 )
theorem s_value_name (a0 : Str) (r : Bool) (h : p_value_name a0 = some r) : PCalls Try.prog 79 [(ofStr a0)] (BO r) := by
 unfold p_value_name at h
 refine acalls_of Try.func79 rfl Try.ntmps79 Try.results79 rfl (aw_of_bw ?_)
 change BW _ _ _ ⟨[(0, (ofStr a0))], [], _⟩ _
 refine bR ?_
 refine sA rfl rfl rfl rfl rfl (ao_nil ?_)
 change BW _ _ _ _ _
 refine bw_seq ?_
 refine bw_seqJ (ι := Bool) (fun i => value_name_j1 a0 i = some r) (fun i => [(0, (ofStr a0)), (21, (BO i))]) (fun i => []) ?_ ?_ ?_
 ·intro i; exact ⟨Nat.le_of_ble_eq_true rfl, ⟨(il_nil rfl), ⟨(il_nil rfl), trivial⟩⟩, trivial⟩
 ·rintro s1 h; replace h : value_name_j1 a0 s1 = some r := h; unfold value_name_j1 at h
  change BW _ _ _ ⟨[(0, (ofStr a0)), (21, (BO s1))], [], _⟩ _
  refine bw_cond rfl ?_ ?_
  ·intro hc2; replace h := ocond_t hc2 h
   refine bR ?_
   refine sA rfl rfl rfl rfl rfl (ao_nil ?_)
   change BW _ _ _ _ _
   refine bw_ret ?_
   change ∃ xs, _ = some xs ∧ EndOk _ _ _ _
   obtain rfl := Option.some.inj h
   exact ⟨_, rfl, endOk0 (y := (BO false)) (Wk.refl _) rfl ⟨rfl, rfl⟩⟩
  ·intro hc2; replace h := ocond_f hc2 h
   refine bw_skip ?_
   change BW _ _ _ _ _
   refine bw_seq ?_
   refine bR ?_
   refine sM rfl rfl rfl rfl rfl ?_
   obtain ⟨x3, hx3, h⟩ := obind h
   refine sS rfl rfl rfl (op1_fromT Try.underlying9 Try.underlying23 Try.underlying5 rfl rfl hx3) ?_
   refine sS rfl rfl rfl (op1_lenM Try.underlying23 rfl rfl) ?_
   refine sM rfl rfl rfl rfl rfl (ao_nil ?_)
   change BW _ _ _ _ _
   refine bw_block ?_
   change BW _ _ _ _ _
   unfold value_name_l1 at h
   refine bw_loop (σ := Nat) (fun i => [(23, (PV.sl none 5 1 (List.map ofB a0))), (24, (I64 ((((a0).length : Nat) : Int)))), (25, (I64 (((i : Nat) : Int))))]) (fun i => []) 0 h ?_ ?_ ?_
   ·intro i; exact ⟨Nat.le_of_ble_eq_true rfl, ⟨(il_nil (ids_slM (fun _ => rfl) _)), ⟨(il_nil rfl), ⟨(il_nil rfl), trivial⟩⟩⟩, trivial⟩
   ·exact ⟨.nil, (sC rfl (sC rfl (sC rfl sub_nil)))⟩
   ·rintro g1_f s4 h; replace h : value_name_l1b a0 (fun y0 => g1_f y0) s4 = some r := h; unfold value_name_l1b at h
    change BW _ _ _ ⟨[(23, (PV.sl none 5 1 (List.map ofB a0))), (24, (I64 ((((a0).length : Nat) : Int)))), (25, (I64 (((s4 : Nat) : Int))))], [], _⟩ _
    refine bR ?_
    refine sS rfl rfl rfl ((op1_cmp rfl rfl rfl rfl).cast (y := (BO ((decide (((s4 : Nat) : Int) < (((a0).length : Nat) : Int)))))) rfl rfl) (ao_nil ?_)
    change BW _ _ _ _ _
    refine bw_seq ?_
    refine bw_len (t := 23) rfl fun hb6 => ?_
    try rw [List.length_map] at hb6
    refine bw_cond rfl ?_ ?_
    ·intro hc5; replace h := ocond_t hc5 h
     have hc5_ := of_decide_eq_true hc5
     refine bw_skip ?_
     change BW _ _ _ _ _
     refine bw_seq ?_
     refine bw_block ?_
     change BW _ _ _ _ _
     refine bR ?_
     obtain ⟨x7, hx7, h⟩ := obind h
     refine sS rfl rfl rfl (op1_idxN (i := s4) Try.underlying23 inf_5 rfl rfl rfl hx7 rfl) ?_
     refine sS rfl rfl rfl (op1_ldP (y := (ofB x7)) Try.underlying5 rfl rfl rfl rfl) ?_
     refine sA rfl rfl rfl rfl rfl (ao_nil ?_)
     change BW _ _ _ _ _
     refine bw_seqJ (ι := Bool) (fun i => value_name_j2 (fun y0 => g1_f y0) s4 i = some r) (fun i => [(23, (PV.sl none 5 1 (List.map ofB a0))), (24, (I64 ((((a0).length : Nat) : Int)))), (25, (I64 (((s4 : Nat) : Int)))), (46, (BO i))]) (fun i => []) ?_ ?_ ?_
     ·intro i; exact ⟨Nat.le_of_ble_eq_true rfl, ⟨(il_nil (ids_slM (fun _ => rfl) _)), ⟨(il_nil rfl), ⟨(il_nil rfl), ⟨(il_nil rfl), trivial⟩⟩⟩⟩, trivial⟩
     ·rintro s8 h; replace h : value_name_j2 (fun y0 => g1_f y0) s4 s8 = some r := h; unfold value_name_j2 at h
      change BW _ _ _ ⟨[(23, (PV.sl none 5 1 (List.map ofB a0))), (24, (I64 ((((a0).length : Nat) : Int)))), (25, (I64 (((s4 : Nat) : Int)))), (46, (BO s8))], [], _⟩ _
      refine bw_cond rfl ?_ ?_
      ·intro hc9; replace h := ocond_t hc9 h
       refine bR ?_
       refine sA rfl rfl rfl rfl rfl (ao_nil ?_)
       change BW _ _ _ _ _
       refine bw_ret ?_
       change ∃ xs, _ = some xs ∧ EndOk _ _ _ _
       obtain rfl := Option.some.inj h
       exact ⟨_, rfl, endOk0 (y := (BO false)) (Wk.refl _) rfl ⟨rfl, rfl⟩⟩
      ·intro hc9; replace h := ocond_f hc9 h
       refine bw_skip ?_
       change BW _ _ _ _ _
       refine bw_region ?_
       refine sS rfl rfl rfl (op1_incN (k := s4) (c := 1) rfl rfl rfl (by omega)) ?_
       refine sM rfl rfl rfl rfl rfl (ao_nil ?_)
       exact ⟨rfl, (s4 + 1), h, ⟨.nil, (sC rfl (sC rfl (sC rfl sub_nil)))⟩⟩
     ·refine bw_region ?_
      refine sM rfl rfl rfl rfl rfl ?_
      refine sS rfl rfl rfl ((op1_cmp rfl rfl rfl rfl).cast (y := (BO ((decide (((x7).toNat : Int) < (((97 : UInt8)).toNat : Int)))))) rfl rfl) ?_
      refine sM rfl rfl rfl rfl rfl ?_
      refine ao_cases (t := 31) rfl ?_ ?_
      ·intro hb10; replace h := ocond_t hb10 h
       refine ao_no rfl rfl rfl rfl rfl rfl ?_
       refine ao_no rfl rfl rfl rfl rfl rfl ?_
       refine sS rfl rfl rfl (op1_pickT rfl rfl rfl) ?_
       refine sM rfl rfl rfl rfl rfl ?_
       refine ao_yes rfl rfl rfl rfl rfl rfl (op1_move rfl rfl) ?_
       refine ao_yes rfl rfl rfl rfl rfl rfl ((op1_cmp rfl rfl rfl rfl).cast (y := (BO ((decide (((x7).toNat : Int) < (((48 : UInt8)).toNat : Int)))))) rfl rfl) ?_
       refine ao_yes rfl rfl rfl rfl rfl rfl (op1_move rfl rfl) ?_
       refine ao_cases (t := 38) rfl ?_ ?_
       ·intro hb11; replace h := ocond_t hb11 h
        refine ao_no rfl rfl rfl rfl rfl rfl ?_
        refine ao_no rfl rfl rfl rfl rfl rfl ?_
        refine ao_yes rfl rfl rfl rfl rfl rfl (op1_pickT rfl rfl rfl) ?_
        refine sS rfl rfl rfl (op1_pickT rfl rfl rfl) ?_
        refine sM rfl rfl rfl rfl rfl ?_
        refine ao_yes rfl rfl rfl rfl rfl rfl (op1_move rfl rfl) ?_
        refine ao_yes rfl rfl rfl rfl rfl rfl ((op1_cmp rfl rfl rfl rfl).cast (y := (BO ((((x7).toNat : Int) != (((95 : UInt8)).toNat : Int))))) rfl rfl) ?_
        refine sS rfl rfl rfl (op1_pickT rfl rfl rfl) (ao_nil ?_)
        exact ⟨rfl, (((x7).toNat : Int) != (((95 : UInt8)).toNat : Int)), h, ⟨.nil, (sC rfl (sC rfl (sC rfl (sC rfl sub_nil))))⟩⟩
       ·intro hb11; replace h := ocond_f hb11 h
        refine ao_yes rfl rfl rfl rfl rfl rfl (op1_move rfl rfl) ?_
        refine ao_yes rfl rfl rfl rfl rfl rfl ((op1_cmp rfl rfl rfl rfl).cast (y := (BO ((decide (((x7).toNat : Int) > (((57 : UInt8)).toNat : Int)))))) rfl rfl) ?_
        refine ao_yes rfl rfl rfl rfl rfl rfl (op1_pickF rfl rfl rfl) ?_
        refine sS rfl rfl rfl (op1_pickT rfl rfl rfl) ?_
        refine sM rfl rfl rfl rfl rfl ?_
        refine ao_cases (t := 43) rfl ?_ ?_
        ·intro hb12; replace h := ocond_t hb12 h
         refine ao_yes rfl rfl rfl rfl rfl rfl (op1_move rfl rfl) ?_
         refine ao_yes rfl rfl rfl rfl rfl rfl ((op1_cmp rfl rfl rfl rfl).cast (y := (BO ((((x7).toNat : Int) != (((95 : UInt8)).toNat : Int))))) rfl rfl) ?_
         refine sS rfl rfl rfl (op1_pickT rfl rfl rfl) (ao_nil ?_)
         exact ⟨rfl, (((x7).toNat : Int) != (((95 : UInt8)).toNat : Int)), h, ⟨.nil, (sC rfl (sC rfl (sC rfl (sC rfl sub_nil))))⟩⟩
        ·intro hb12; replace h := ocond_f hb12 h
         refine ao_no rfl rfl rfl rfl rfl rfl ?_
         refine ao_no rfl rfl rfl rfl rfl rfl ?_
         refine sS rfl rfl rfl (op1_pickF rfl rfl rfl) (ao_nil ?_)
         exact ⟨rfl, false, h, ⟨.nil, (sC rfl (sC rfl (sC rfl (sC rfl sub_nil))))⟩⟩
      ·intro hb10; replace h := ocond_f hb10 h
       refine ao_yes rfl rfl rfl rfl rfl rfl (op1_move rfl rfl) ?_
       refine ao_yes rfl rfl rfl rfl rfl rfl ((op1_cmp rfl rfl rfl rfl).cast (y := (BO ((decide (((x7).toNat : Int) > (((122 : UInt8)).toNat : Int)))))) rfl rfl) ?_
       refine sS rfl rfl rfl (op1_pickF rfl rfl rfl) ?_
       refine sM rfl rfl rfl rfl rfl ?_
       refine ao_cases (t := 35) rfl ?_ ?_
       ·intro hb13; replace h := ocond_t hb13 h
        refine ao_yes rfl rfl rfl rfl rfl rfl (op1_move rfl rfl) ?_
        refine ao_yes rfl rfl rfl rfl rfl rfl ((op1_cmp rfl rfl rfl rfl).cast (y := (BO ((decide (((x7).toNat : Int) < (((48 : UInt8)).toNat : Int)))))) rfl rfl) ?_
        refine ao_yes rfl rfl rfl rfl rfl rfl (op1_move rfl rfl) ?_
        refine ao_cases (t := 38) rfl ?_ ?_
        ·intro hb14; replace h := ocond_t hb14 h
         refine ao_no rfl rfl rfl rfl rfl rfl ?_
         refine ao_no rfl rfl rfl rfl rfl rfl ?_
         refine ao_yes rfl rfl rfl rfl rfl rfl (op1_pickT rfl rfl rfl) ?_
         refine sS rfl rfl rfl (op1_pickT rfl rfl rfl) ?_
         refine sM rfl rfl rfl rfl rfl ?_
         refine ao_yes rfl rfl rfl rfl rfl rfl (op1_move rfl rfl) ?_
         refine ao_yes rfl rfl rfl rfl rfl rfl ((op1_cmp rfl rfl rfl rfl).cast (y := (BO ((((x7).toNat : Int) != (((95 : UInt8)).toNat : Int))))) rfl rfl) ?_
         refine sS rfl rfl rfl (op1_pickT rfl rfl rfl) (ao_nil ?_)
         exact ⟨rfl, (((x7).toNat : Int) != (((95 : UInt8)).toNat : Int)), h, ⟨.nil, (sC rfl (sC rfl (sC rfl (sC rfl sub_nil))))⟩⟩
        ·intro hb14; replace h := ocond_f hb14 h
         refine ao_yes rfl rfl rfl rfl rfl rfl (op1_move rfl rfl) ?_
         refine ao_yes rfl rfl rfl rfl rfl rfl ((op1_cmp rfl rfl rfl rfl).cast (y := (BO ((decide (((x7).toNat : Int) > (((57 : UInt8)).toNat : Int)))))) rfl rfl) ?_
         refine ao_yes rfl rfl rfl rfl rfl rfl (op1_pickF rfl rfl rfl) ?_
         refine sS rfl rfl rfl (op1_pickT rfl rfl rfl) ?_
         refine sM rfl rfl rfl rfl rfl ?_
         refine ao_cases (t := 43) rfl ?_ ?_
         ·intro hb15; replace h := ocond_t hb15 h
          refine ao_yes rfl rfl rfl rfl rfl rfl (op1_move rfl rfl) ?_
          refine ao_yes rfl rfl rfl rfl rfl rfl ((op1_cmp rfl rfl rfl rfl).cast (y := (BO ((((x7).toNat : Int) != (((95 : UInt8)).toNat : Int))))) rfl rfl) ?_
          refine sS rfl rfl rfl (op1_pickT rfl rfl rfl) (ao_nil ?_)
          exact ⟨rfl, (((x7).toNat : Int) != (((95 : UInt8)).toNat : Int)), h, ⟨.nil, (sC rfl (sC rfl (sC rfl (sC rfl sub_nil))))⟩⟩
         ·intro hb15; replace h := ocond_f hb15 h
          refine ao_no rfl rfl rfl rfl rfl rfl ?_
          refine ao_no rfl rfl rfl rfl rfl rfl ?_
          refine sS rfl rfl rfl (op1_pickF rfl rfl rfl) (ao_nil ?_)
          exact ⟨rfl, false, h, ⟨.nil, (sC rfl (sC rfl (sC rfl (sC rfl sub_nil))))⟩⟩
       ·intro hb13; replace h := ocond_f hb13 h
        refine ao_no rfl rfl rfl rfl rfl rfl ?_
        refine ao_no rfl rfl rfl rfl rfl rfl ?_
        refine ao_no rfl rfl rfl rfl rfl rfl ?_
        refine ao_no rfl rfl rfl rfl rfl rfl ?_
        refine ao_no rfl rfl rfl rfl rfl rfl ?_
        refine ao_no rfl rfl rfl rfl rfl rfl ?_
        refine sS rfl rfl rfl (op1_pickF rfl rfl rfl) ?_
        refine sM rfl rfl rfl rfl rfl ?_
        refine ao_no rfl rfl rfl rfl rfl rfl ?_
        refine ao_no rfl rfl rfl rfl rfl rfl ?_
        refine sS rfl rfl rfl (op1_pickF rfl rfl rfl) (ao_nil ?_)
        exact ⟨rfl, false, h, ⟨.nil, (sC rfl (sC rfl (sC rfl (sC rfl sub_nil))))⟩⟩
    ·intro hc5; replace h := ocond_f hc5 h
     refine bw_exit ?_
     change BW _ _ _ _ _
     refine bR ?_
     refine sA rfl rfl rfl rfl rfl (ao_nil ?_)
     change BW _ _ _ _ _
     refine bw_ret ?_
     change ∃ xs, _ = some xs ∧ EndOk _ _ _ _
     obtain rfl := Option.some.inj h
     exact ⟨_, rfl, endOk0 (y := (BO true)) (Wk.refl _) rfl ⟨rfl, rfl⟩⟩
 ·refine bw_region ?_
  refine sM rfl rfl rfl rfl rfl ?_
  refine sS rfl rfl rfl ((op1_cmpT (a := a0) (b := ([] : Str)) rfl rfl rfl rfl).cast (y := (BO ((a0 == ([] : Str))))) rfl rfl) ?_
  refine sM rfl rfl rfl rfl rfl ?_
  refine ao_cases (t := 7) rfl ?_ ?_
  ·intro hb16; replace h := ocond_t hb16 h
   refine ao_no rfl rfl rfl rfl rfl rfl ?_
   refine ao_no rfl rfl rfl rfl rfl rfl ?_
   refine ao_no rfl rfl rfl rfl rfl rfl ?_
   refine sS rfl rfl rfl (op1_pickT rfl rfl rfl) ?_
   refine sM rfl rfl rfl rfl rfl ?_
   refine ao_no rfl rfl rfl rfl rfl rfl ?_
   refine ao_no rfl rfl rfl rfl rfl rfl ?_
   refine ao_no rfl rfl rfl rfl rfl rfl ?_
   refine sS rfl rfl rfl (op1_pickT rfl rfl rfl) ?_
   refine sM rfl rfl rfl rfl rfl ?_
   refine ao_no rfl rfl rfl rfl rfl rfl ?_
   refine ao_no rfl rfl rfl rfl rfl rfl ?_
   refine ao_no rfl rfl rfl rfl rfl rfl ?_
   refine sS rfl rfl rfl (op1_pickT rfl rfl rfl) (ao_nil ?_)
   exact ⟨rfl, true, h, ⟨.nil, (sC rfl (sC rfl sub_nil))⟩⟩
  ·intro hb16; replace h := ocond_f hb16 h
   refine ao_yes rfl rfl rfl rfl rfl rfl (op1_move rfl rfl) ?_
   refine ao_yes rfl rfl rfl rfl rfl rfl (op1_lenT (s := a0) Try.underlying9 rfl rfl) ?_
   refine ao_yes rfl rfl rfl rfl rfl rfl ((op1_cmp rfl rfl rfl rfl).cast (y := (BO ((decide ((((a0).length : Nat) : Int) > 32))))) rfl rfl) ?_
   refine sS rfl rfl rfl (op1_pickF rfl rfl rfl) ?_
   refine sM rfl rfl rfl rfl rfl ?_
   refine ao_cases (t := 12) rfl ?_ ?_
   ·intro hb17; replace h := ocond_t hb17 h
    refine ao_no rfl rfl rfl rfl rfl rfl ?_
    refine ao_no rfl rfl rfl rfl rfl rfl ?_
    refine ao_no rfl rfl rfl rfl rfl rfl ?_
    refine sS rfl rfl rfl (op1_pickT rfl rfl rfl) ?_
    refine sM rfl rfl rfl rfl rfl ?_
    refine ao_no rfl rfl rfl rfl rfl rfl ?_
    refine ao_no rfl rfl rfl rfl rfl rfl ?_
    refine ao_no rfl rfl rfl rfl rfl rfl ?_
    refine sS rfl rfl rfl (op1_pickT rfl rfl rfl) (ao_nil ?_)
    exact ⟨rfl, true, h, ⟨.nil, (sC rfl (sC rfl sub_nil))⟩⟩
   ·intro hb17; replace h := ocond_f hb17 h
    refine ao_yes rfl rfl rfl rfl rfl rfl (op1_move rfl rfl) ?_
    obtain ⟨x18, hx18, h⟩ := obind h
    refine ao_yes rfl rfl rfl rfl rfl rfl (op1_idxTN (s := a0) (i := 0) Try.underlying9 rfl rfl rfl hx18) ?_
    refine ao_yes rfl rfl rfl rfl rfl rfl ((op1_cmp rfl rfl rfl rfl).cast (y := (BO ((decide (((x18).toNat : Int) < (((97 : UInt8)).toNat : Int)))))) rfl rfl) ?_
    refine sS rfl rfl rfl (op1_pickF rfl rfl rfl) ?_
    refine sM rfl rfl rfl rfl rfl ?_
    refine ao_cases (t := 17) rfl ?_ ?_
    ·intro hb19; replace h := ocond_t hb19 h
     refine ao_no rfl rfl rfl rfl rfl rfl ?_
     refine ao_no rfl rfl rfl rfl rfl rfl ?_
     refine ao_no rfl rfl rfl rfl rfl rfl ?_
     refine sS rfl rfl rfl (op1_pickT rfl rfl rfl) (ao_nil ?_)
     exact ⟨rfl, true, h, ⟨.nil, (sC rfl (sC rfl sub_nil))⟩⟩
    ·intro hb19; replace h := ocond_f hb19 h
     refine ao_yes rfl rfl rfl rfl rfl rfl (op1_move rfl rfl) ?_
     obtain ⟨x20, hx20, h⟩ := obind h
     refine ao_yes rfl rfl rfl rfl rfl rfl (op1_idxTN (s := a0) (i := 0) Try.underlying9 rfl rfl rfl hx20) ?_
     refine ao_yes rfl rfl rfl rfl rfl rfl ((op1_cmp rfl rfl rfl rfl).cast (y := (BO ((decide (((x20).toNat : Int) > (((122 : UInt8)).toNat : Int)))))) rfl rfl) ?_
     refine sS rfl rfl rfl (op1_pickF rfl rfl rfl) (ao_nil ?_)
     exact ⟨rfl, (decide (((x20).toNat : Int) > (((122 : UInt8)).toNat : Int))), h, ⟨.nil, (sC rfl (sC rfl sub_nil))⟩⟩
end Go.Proofs.Ytigadhiciinicaa
