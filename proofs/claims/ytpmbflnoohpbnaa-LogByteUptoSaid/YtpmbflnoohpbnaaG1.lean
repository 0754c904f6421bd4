/- Pure functions, and that calls answer as they say. Written by gen.py. -/
import Derived.Test.YtpmbflnoohpbnaaG0
namespace Go.Proofs.Ytpmbflnoohpbnaa
open Go Aw
set_option linter.unusedVariables false
set_option linter.unusedSimpArgs false
set_option maxRecDepth 20000
set_option maxHeartbeats 2000000
noncomputable def law19_LogByte_j2 (a1 : Int) (a2 : UInt8) (x1 : ((List S_api_Frame) × Str)) (s9 : Int) (s10 : Int) (s14 : Bool) : Option Bool :=
 bif s14 then (
  some true
 ) else (
  Option.bind (idxI x1.2 a1) fun x16 =>
  Option.bind (idxI x1.2 a1) fun x17 =>
  Option.bind (p_log_Read ((x1.2).set ((a1).toNat) (UInt8.ofInt (xorR .u8 ((x16).toNat : Int) ((a2).toNat : Int))))) fun x18 =>
  Option.bind (cutO x1.1 0 s10) fun x19 =>
  Option.bind (p_law19_frames x18.1 x19) fun x20 =>
  bif x20 then (
   bif (x18.2.1 == s9) then (
    some (x18.2.2 != 0)
   ) else (
    some false
   )
  ) else (
   some false
  )
 )
noncomputable def law19_LogByte_l1b (a1 : Int) (a2 : UInt8) (x1 : ((List S_api_Frame) × Str)) (g1 : Int → Int → Option Bool) (s9 : Int) (s10 : Int) : Option Bool :=
 Option.bind (idxI x1.1 s10) fun x11 =>
 Option.bind (p_ref19_Pack x11) fun x12 =>
 bif (decide (a1 < (IntKind.i64.wrap (s9 + (((x12.1).length : Nat) : Int))))) then (
  bif (decide (a1 > s9)) then (
   law19_LogByte_j2 a1 a2 x1 s9 s10 (decide (a1 < (IntKind.i64.wrap (s9 + 5))))
  ) else (
   law19_LogByte_j2 a1 a2 x1 s9 s10 false
  )
 ) else (
  g1 (IntKind.i64.wrap (s9 + (((x12.1).length : Nat) : Int))) (IntKind.i64.wrap (s10 + 1))
 )
theorem law19_LogByte_l1b_cm {ι : Type} {ρ : ι → Type} (g1 : (∀ i, Option (ρ i)) → Int → Int → Option Bool) (h_g1 : ∀ y0 y1, CM (fun G => g1 G y0 y1)) (a1 : Int) (a2 : UInt8) (x1 : ((List S_api_Frame) × Str)) (s9 : Int) (s10 : Int) : CM (fun G : (∀ i, Option (ρ i)) => law19_LogByte_l1b a1 a2 x1 (g1 G) s9 s10) := by
 simp only [law19_LogByte_l1b]
 repeat (first | exact cm_const | exact h_g1 _ _ | apply law19_LogByte_j2_cm | refine cm_cond ?_ ?_ | refine cm_bind ?_ (fun _ => ?_) | intro _ | assumption)
noncomputable def law19_LogByte_l1 (a1 : Int) (a2 : UInt8) (x1 : ((List S_api_Frame) × Str)) (s9 : Int) (s10 : Int) : Option Bool :=
 fixO (ι := (Int × Int)) (ρ := fun _ => Bool) (fun g i => law19_LogByte_l1b a1 a2 x1 (fun s9 s10 => g (s9, s10)) i.1 i.2) (s9, s10)
theorem law19_LogByte_l1_eq (a1 : Int) (a2 : UInt8) (x1 : ((List S_api_Frame) × Str)) (s9 : Int) (s10 : Int) : law19_LogByte_l1 a1 a2 x1 s9 s10 = law19_LogByte_l1b a1 a2 x1 (law19_LogByte_l1 a1 a2 x1) s9 s10 :=
 fixO_eq (ι := (Int × Int)) (ρ := fun _ => Bool) (Φ := fun g i => law19_LogByte_l1b a1 a2 x1 (fun s9 s10 => g (s9, s10)) i.1 i.2) (fun i => law19_LogByte_l1b_cm (ι := (Int × Int)) (ρ := fun _ => Bool) (fun g => (fun s9 s10 => g (s9, s10))) (fun _ _ => cm_app) a1 a2 x1 i.1 i.2) (s9, s10)
noncomputable def law19_LogByte_j1 (a1 : Int) (a2 : UInt8) (x1 : ((List S_api_Frame) × Str)) (s2 : Bool) : Option Bool :=
 bif s2 then (
  Option.bind (appO 1 ([] : Str) x1.2) fun x4 =>
  Option.bind (p_log_Read x4) fun x5 =>
  Option.bind (p_law19_frames x5.1 x1.1) fun x6 =>
  bif x6 then (
   bif (x5.2.1 == (((x1.2).length : Nat) : Int)) then (
    some (x5.2.2 == 0)
   ) else (
    some false
   )
  ) else (
   some false
  )
 ) else (
  law19_LogByte_l1 a1 a2 x1 0 0
 )
noncomputable def p_law19_LogByte (a0 : (List S_api_Frame)) (a1 : Int) (a2 : UInt8) : Option Bool :=
 Option.bind (p_law19_packed a0) fun x1 =>
 bif (decide (a1 < 0)) then (
  law19_LogByte_j1 a1 a2 x1 true
 ) else (
  bif (decide (a1 ≥ (((x1.2).length : Nat) : Int))) then (
   law19_LogByte_j1 a1 a2 x1 true
  ) else (
   law19_LogByte_j1 a1 a2 x1 (((a2).toNat : Int) == (((0 : UInt8)).toNat : Int))
  )
 )
theorem s_law19_LogByte (a0 : (List S_api_Frame)) (a1 : Int) (a2 : UInt8) (r : Bool) (h : p_law19_LogByte a0 a1 a2 = some r) : PCalls Try.prog 4 [(PV.sl none 33 2 (List.map of_api_Frame a0)), (I64 a1), (ofB a2)] (BO r) := by
 unfold p_law19_LogByte at h
 refine acalls_of Try.func4 rfl Try.ntmps4 Try.results4 rfl (aw_of_bw ?_)
 change BW _ _ _ ⟨[(0, (PV.sl none 33 2 (List.map of_api_Frame a0))), (1, (I64 a1)), (2, (ofB a2))], [], _⟩ _
 refine bR ?_
 refine sA rfl rfl rfl rfl rfl (ao_nil ?_)
 change BW _ _ _ _ _
 refine bR ?_
 refine sM rfl rfl rfl rfl rfl ?_
 obtain ⟨x1, hx1, h⟩ := obind h
 refine sS rfl rfl rfl (op1_ocall rfl en_8 rfl (.cons (Wk.refl _) .nil) ⟨(ids_slM ids_S_api_Frame a0), trivial⟩ (s_law19_packed a0 x1 hx1) (rr_tup (rr_cons (rr_same (ids_slM ids_S_api_Frame x1.1)) (rr_cons rr_rs rr_nil))) (re_cons (ids_rowM (fun _ => rfl)) (re_nil))) ?_
 refine sM rfl rfl rfl rfl rfl ?_
 refine sS rfl rfl rfl (op1_ext rfl rfl rfl) ?_
 refine sS rfl rfl rfl (op1_ext rfl rfl rfl) ?_
 refine sA rfl rfl rfl rfl rfl ?_
 refine sA rfl rfl rfl rfl rfl (ao_nil ?_)
 change BW _ _ _ _ _
 refine bw_seq ?_
 refine bw_seqJ (ι := Bool) (fun i => law19_LogByte_j1 a1 a2 x1 i = some r) (fun i => [(1, (I64 a1)), (2, (ofB a2)), (7, (PV.sl none 33 2 (List.map of_api_Frame x1.1))), (8, (PV.rs 0 0 (x1.2).length 5 1)), (35, (BO i))]) (fun i => [rowM ofB 5 x1.2]) ?_ ?_ ?_
 ·intro i; exact ⟨Nat.le_of_ble_eq_true rfl, ⟨(il_nil rfl), ⟨(il_nil rfl), ⟨(il_nil (ids_slM ids_S_api_Frame _)), ⟨(il_rs rfl), ⟨(il_nil rfl), trivial⟩⟩⟩⟩⟩, (wfH_row (fun _ => rfl) trivial)⟩
 ·rintro s2 h; replace h : law19_LogByte_j1 a1 a2 x1 s2 = some r := h; unfold law19_LogByte_j1 at h
  change BW _ _ _ ⟨[(1, (I64 a1)), (2, (ofB a2)), (7, (PV.sl none 33 2 (List.map of_api_Frame x1.1))), (8, (PV.rs 0 0 (x1.2).length 5 1)), (35, (BO s2))], [rowM ofB 5 x1.2], _⟩ _
  refine bw_cond rfl ?_ ?_
  ·intro hc3; replace h := ocond_t hc3 h
   refine bR ?_
   refine sS rfl rfl rfl ((op1_bslice (xs := []) Try.underlying23 inf_5 rfl rfl rfl rfl rfl rfl ⟨Nat.le_of_ble_eq_true rfl, Nat.le_of_ble_eq_true rfl⟩ rfl).cast (y := (PV.sl (some 1) 5 1 (List.map ofB ([] : Str)))) rfl rfl) ?_
   refine sM rfl rfl rfl rfl rfl ?_
   obtain ⟨x4, hx4, h⟩ := obind h
   refine sS rfl rfl rfl (op1_appRs (f := ofB) (m := x1.2) Try.underlying23 inf_5 rfl Try.underlying23 rfl rfl rfl rfl rfl rfl rfl (fun _ => rfl) (fun _ => rfl) hx4 rfl) ?_
   obtain ⟨x5, hx5, h⟩ := obind h
   refine sS rfl rfl rfl (op1_pcall rfl en_9 rfl (.cons Wk.tok .nil) ⟨(ids_slM (fun _ => rfl) x4), trivial⟩ (s_log_Read x4 x5 hx5) (ids_tup_cons (ids_slM ids_S_api_Frame x5.1) (ids_tup_cons rfl (ids_tup_cons rfl ids_tup_nil)))) ?_
   refine sM rfl rfl rfl rfl rfl ?_
   refine sS rfl rfl rfl (op1_ext rfl rfl rfl) ?_
   refine sS rfl rfl rfl (op1_ext rfl rfl rfl) ?_
   refine sS rfl rfl rfl (op1_ext rfl rfl rfl) ?_
   refine sA rfl rfl rfl rfl rfl ?_
   refine sA rfl rfl rfl rfl rfl ?_
   refine sA rfl rfl rfl rfl rfl (ao_nil ?_)
   change BW _ _ _ _ _
   refine bR ?_
   refine sM rfl rfl rfl rfl rfl ?_
   refine sM rfl rfl rfl rfl rfl ?_
   obtain ⟨x6, hx6, h⟩ := obind h
   refine sS rfl rfl rfl (op1_pcall rfl en_10 rfl (.cons (Wk.refl _) (.cons (Wk.refl _) .nil)) ⟨(ids_slM ids_S_api_Frame x5.1), ⟨(ids_slM ids_S_api_Frame x1.1), trivial⟩⟩ (s_law19_frames x5.1 x1.1 x6 hx6) rfl) ?_
   refine sM rfl rfl rfl rfl rfl ?_
   refine ao_cases (t := 47) rfl ?_ ?_
   ·intro hb7; replace h := ocond_t hb7 h
    refine ao_yes rfl rfl rfl rfl rfl rfl (op1_move rfl rfl) ?_
    refine ao_yes rfl rfl rfl rfl rfl rfl (op1_move rfl rfl) ?_
    refine ao_yes rfl rfl rfl rfl rfl rfl (op1_rlen Try.underlying23 rfl rfl) ?_
    refine ao_yes rfl rfl rfl rfl rfl rfl ((op1_cmp rfl rfl rfl rfl).cast (y := (BO ((x5.2.1 == (((x1.2).length : Nat) : Int))))) rfl rfl) ?_
    refine sS rfl rfl rfl (op1_pickT rfl rfl rfl) ?_
    refine sM rfl rfl rfl rfl rfl ?_
    refine ao_cases (t := 53) rfl ?_ ?_
    ·intro hb8; replace h := ocond_t hb8 h
     refine ao_yes rfl rfl rfl rfl rfl rfl (op1_move rfl rfl) ?_
     refine ao_yes rfl rfl rfl rfl rfl rfl ((op1_cmp rfl rfl rfl rfl).cast (y := (BO ((x5.2.2 == 0)))) rfl rfl) ?_
     refine sS rfl rfl rfl (op1_pickT rfl rfl rfl) ?_
     refine sA rfl rfl rfl rfl rfl (ao_nil ?_)
     change BW _ _ _ _ _
     refine bw_ret ?_
     change ∃ xs, _ = some xs ∧ EndOk _ _ _ _
     obtain rfl := Option.some.inj h
     exact ⟨_, rfl, endOk0 (y := (BO ((x5.2.2 == 0)))) (Wk.refl _) rfl ⟨rfl, rfl⟩⟩
    ·intro hb8; replace h := ocond_f hb8 h
     refine ao_no rfl rfl rfl rfl rfl rfl ?_
     refine ao_no rfl rfl rfl rfl rfl rfl ?_
     refine sS rfl rfl rfl (op1_pickF rfl rfl rfl) ?_
     refine sA rfl rfl rfl rfl rfl (ao_nil ?_)
     change BW _ _ _ _ _
     refine bw_ret ?_
     change ∃ xs, _ = some xs ∧ EndOk _ _ _ _
     obtain rfl := Option.some.inj h
     exact ⟨_, rfl, endOk0 (y := (BO false)) (Wk.refl _) rfl ⟨rfl, rfl⟩⟩
   ·intro hb7; replace h := ocond_f hb7 h
    refine ao_no rfl rfl rfl rfl rfl rfl ?_
    refine ao_no rfl rfl rfl rfl rfl rfl ?_
    refine ao_no rfl rfl rfl rfl rfl rfl ?_
    refine ao_no rfl rfl rfl rfl rfl rfl ?_
    refine sS rfl rfl rfl (op1_pickF rfl rfl rfl) ?_
    refine sM rfl rfl rfl rfl rfl ?_
    refine ao_no rfl rfl rfl rfl rfl rfl ?_
    refine ao_no rfl rfl rfl rfl rfl rfl ?_
    refine sS rfl rfl rfl (op1_pickF rfl rfl rfl) ?_
    refine sA rfl rfl rfl rfl rfl (ao_nil ?_)
    change BW _ _ _ _ _
    refine bw_ret ?_
    change ∃ xs, _ = some xs ∧ EndOk _ _ _ _
    obtain rfl := Option.some.inj h
    exact ⟨_, rfl, endOk0 (y := (BO false)) (Wk.refl _) rfl ⟨rfl, rfl⟩⟩
  ·intro hc3; replace h := ocond_f hc3 h
   refine bw_skip ?_
   change BW _ _ _ _ _
   refine bR ?_
   refine sA rfl rfl rfl rfl rfl ?_
   refine sA rfl rfl rfl rfl rfl (ao_nil ?_)
   change BW _ _ _ _ _
   refine bw_seq ?_
   refine bw_block ?_
   change BW _ _ _ _ _
   unfold law19_LogByte_l1 at h
   refine bw_loop (σ := (Int × Int)) (fun i => [(1, (I64 a1)), (2, (ofB a2)), (7, (PV.sl none 33 2 (List.map of_api_Frame x1.1))), (8, (PV.rs 0 0 (x1.2).length 5 1)), (12, (I64 i.1)), (13, (I64 i.2))]) (fun i => [rowM ofB 5 x1.2]) (0, 0) h ?_ ?_ ?_
   ·intro i; exact ⟨Nat.le_of_ble_eq_true rfl, ⟨(il_nil rfl), ⟨(il_nil rfl), ⟨(il_nil (ids_slM ids_S_api_Frame _)), ⟨(il_rs rfl), ⟨(il_nil rfl), ⟨(il_nil rfl), trivial⟩⟩⟩⟩⟩⟩, (wfH_row (fun _ => rfl) trivial)⟩
   ·exact ⟨(.cons .same .nil), (sC rfl (sC rfl (sC rfl (sC rfl (sC rfl (sC rfl sub_nil))))))⟩
   ·rintro g1_f ⟨s9, s10⟩ h; replace h : law19_LogByte_l1b a1 a2 x1 (fun y0 y1 => g1_f (y0, y1)) s9 s10 = some r := h; unfold law19_LogByte_l1b at h
    change BW _ _ _ ⟨[(1, (I64 a1)), (2, (ofB a2)), (7, (PV.sl none 33 2 (List.map of_api_Frame x1.1))), (8, (PV.rs 0 0 (x1.2).length 5 1)), (12, (I64 s9)), (13, (I64 s10))], [rowM ofB 5 x1.2], _⟩ _
    refine bw_block ?_
    change BW _ _ _ _ _
    refine bR ?_
    refine sM rfl rfl rfl rfl rfl ?_
    refine sM rfl rfl rfl rfl rfl ?_
    obtain ⟨x11, hx11, h⟩ := obind h
    refine sS rfl rfl rfl (op1_idxM Try.underlying22 inf_33 rfl rfl rfl hx11 rfl) ?_
    refine sS rfl rfl rfl (op1_ldPW inf_33 Try.underlying33 rfl rfl rfl rfl rfl) ?_
    obtain ⟨x12, hx12, h⟩ := obind h
    refine sS rfl rfl rfl (op1_pcall rfl en_11 rfl (.cons (Wk.refl _) .nil) ⟨(ids_S_api_Frame x11), trivial⟩ (s_ref19_Pack x11 x12 hx12) (ids_tup_cons (ids_slM (fun _ => rfl) x12.1) (ids_tup_cons rfl ids_tup_nil))) ?_
    refine sM rfl rfl rfl rfl rfl ?_
    refine sS rfl rfl rfl (op1_ext rfl rfl rfl) ?_
    refine sS rfl rfl rfl (op1_ext rfl rfl rfl) ?_
    refine sA rfl rfl rfl rfl rfl ?_
    refine sA rfl rfl rfl rfl rfl (ao_nil ?_)
    change BW _ _ _ _ _
    refine bw_seq ?_
    refine bR ?_
    refine sM rfl rfl rfl rfl rfl ?_
    refine sM rfl rfl rfl rfl rfl ?_
    refine sM rfl rfl rfl rfl rfl ?_
    refine sS rfl rfl rfl (op1_lenM Try.underlying23 rfl rfl) ?_
    refine sS rfl rfl rfl (op1_addW rfl rfl rfl) ?_
    refine sS rfl rfl rfl ((op1_cmp rfl rfl rfl rfl).cast (y := (BO ((decide (a1 < (IntKind.i64.wrap (s9 + (((x12.1).length : Nat) : Int)))))))) rfl rfl) (ao_nil ?_)
    change BW _ _ _ _ _
    refine bw_cond rfl ?_ ?_
    ·intro hc13; replace h := ocond_t hc13 h
     refine bw_exit ?_
     change BW _ _ _ _ _
     refine bw_seq ?_
     refine bw_seqJ (ι := Bool) (fun i => law19_LogByte_j2 a1 a2 x1 s9 s10 i = some r) (fun i => [(1, (I64 a1)), (2, (ofB a2)), (7, (PV.sl none 33 2 (List.map of_api_Frame x1.1))), (8, (PV.rs 0 0 (x1.2).length 5 1)), (12, (I64 s9)), (13, (I64 s10)), (85, (BO i))]) (fun i => [rowM ofB 5 x1.2]) ?_ ?_ ?_
     ·intro i; exact ⟨Nat.le_of_ble_eq_true rfl, ⟨(il_nil rfl), ⟨(il_nil rfl), ⟨(il_nil (ids_slM ids_S_api_Frame _)), ⟨(il_rs rfl), ⟨(il_nil rfl), ⟨(il_nil rfl), ⟨(il_nil rfl), trivial⟩⟩⟩⟩⟩⟩⟩, (wfH_row (fun _ => rfl) trivial)⟩
     ·rintro s14 h; replace h : law19_LogByte_j2 a1 a2 x1 s9 s10 s14 = some r := h; unfold law19_LogByte_j2 at h
      change BW _ _ _ ⟨[(1, (I64 a1)), (2, (ofB a2)), (7, (PV.sl none 33 2 (List.map of_api_Frame x1.1))), (8, (PV.rs 0 0 (x1.2).length 5 1)), (12, (I64 s9)), (13, (I64 s10)), (85, (BO s14))], [rowM ofB 5 x1.2], _⟩ _
      refine bw_cond rfl ?_ ?_
      ·intro hc15; replace h := ocond_t hc15 h
       refine bR ?_
       refine sA rfl rfl rfl rfl rfl (ao_nil ?_)
       change BW _ _ _ _ _
       refine bw_ret ?_
       change ∃ xs, _ = some xs ∧ EndOk _ _ _ _
       obtain rfl := Option.some.inj h
       exact ⟨_, rfl, endOk0 (y := (BO true)) (Wk.refl _) rfl ⟨rfl, rfl⟩⟩
      ·intro hc15; replace h := ocond_f hc15 h
       refine bw_skip ?_
       change BW _ _ _ _ _
       refine bR ?_
       refine sM rfl rfl rfl rfl rfl ?_
       refine sM rfl rfl rfl rfl rfl ?_
       refine sM rfl rfl rfl rfl rfl ?_
       refine sM rfl rfl rfl rfl rfl ?_
       obtain ⟨x16, hx16, h⟩ := obind h
       refine sS rfl rfl rfl (op1_ridxM (l := x1.2) Try.underlying23 inf_5 rfl rfl rfl rfl hx16) ?_
       refine sS rfl rfl rfl (op1_rld (f := ofB) (y := (ofB x16)) Try.underlying5 rfl rfl rfl rfl (idxI_some hx16).2 (fun _ => rfl) rfl (q := 0) rfl rfl) ?_
       refine sM rfl rfl rfl rfl rfl ?_
       refine sS rfl rfl rfl ((op1_xorW rfl rfl rfl).cast (y := (ofB (UInt8.ofInt (xorR .u8 ((x16).toNat : Int) ((a2).toNat : Int))))) (by rw [toU8_wrap]; rfl) rfl) ?_
       obtain ⟨x17, hx17, h⟩ := obind h
       refine sS rfl rfl rfl (op1_ridxM (l := x1.2) Try.underlying23 inf_5 rfl rfl rfl rfl hx17) ?_
       refine ao_step0 rfl rfl (op1_rst (f := ofB) (a' := (UInt8.ofInt (xorR .u8 ((x16).toNat : Int) ((a2).toNat : Int)))) inf_5 rfl rfl rfl rfl (idxI_some hx17).2 (fun _ => rfl) rfl (q := 0) rfl rfl rfl rfl rfl rfl) ?_
       refine ao_nil ?_
       change BW _ _ _ _ _
       refine bw_seq ?_
       refine bw_rfreeze (f := ofB) (l := ((x1.2).set ((a1).toNat) (UInt8.ofInt (xorR .u8 ((x16).toNat : Int) ((a2).toNat : Int))))) 8 0 rfl (by simp only [List.length_set]) rfl (fun _ => rfl) rfl ?_
       refine bw_region ?_
       refine sM rfl rfl rfl rfl rfl ?_
       obtain ⟨x18, hx18, h⟩ := obind h
       refine sS rfl rfl rfl (op1_pcall rfl en_9 rfl (.cons (Wk.refl _) .nil) ⟨(ids_slM (fun _ => rfl) ((x1.2).set ((a1).toNat) (UInt8.ofInt (xorR .u8 ((x16).toNat : Int) ((a2).toNat : Int))))), trivial⟩ (s_log_Read ((x1.2).set ((a1).toNat) (UInt8.ofInt (xorR .u8 ((x16).toNat : Int) ((a2).toNat : Int)))) x18 hx18) (ids_tup_cons (ids_slM ids_S_api_Frame x18.1) (ids_tup_cons rfl (ids_tup_cons rfl ids_tup_nil)))) ?_
       refine sM rfl rfl rfl rfl rfl ?_
       refine sS rfl rfl rfl (op1_ext rfl rfl rfl) ?_
       refine sS rfl rfl rfl (op1_ext rfl rfl rfl) ?_
       refine sS rfl rfl rfl (op1_ext rfl rfl rfl) ?_
       refine sA rfl rfl rfl rfl rfl ?_
       refine sA rfl rfl rfl rfl rfl ?_
       refine sA rfl rfl rfl rfl rfl (ao_nil ?_)
       change BW _ _ _ _ _
       refine bR ?_
       refine sM rfl rfl rfl rfl rfl ?_
       refine sM rfl rfl rfl rfl rfl ?_
       refine sM rfl rfl rfl rfl rfl ?_
       obtain ⟨x19, hx19, h⟩ := obind h
       refine sS rfl rfl rfl (op1_cutM (a := 0) (b := s10) Try.underlying22 inf_33 rfl rfl rfl rfl rfl rfl hx19) ?_
       obtain ⟨x20, hx20, h⟩ := obind h
       refine sS rfl rfl rfl (op1_pcall rfl en_10 rfl (.cons (Wk.refl _) (.cons (Wk.refl _) .nil)) ⟨(ids_slM ids_S_api_Frame x18.1), ⟨(ids_slM ids_S_api_Frame x19), trivial⟩⟩ (s_law19_frames x18.1 x19 x20 hx20) rfl) ?_
       refine sM rfl rfl rfl rfl rfl ?_
       refine ao_cases (t := 106) rfl ?_ ?_
       ·intro hb21; replace h := ocond_t hb21 h
        refine ao_yes rfl rfl rfl rfl rfl rfl (op1_move rfl rfl) ?_
        refine ao_yes rfl rfl rfl rfl rfl rfl (op1_move rfl rfl) ?_
        refine ao_yes rfl rfl rfl rfl rfl rfl ((op1_cmp rfl rfl rfl rfl).cast (y := (BO ((x18.2.1 == s9)))) rfl rfl) ?_
        refine sS rfl rfl rfl (op1_pickT rfl rfl rfl) ?_
        refine sM rfl rfl rfl rfl rfl ?_
        refine ao_cases (t := 111) rfl ?_ ?_
        ·intro hb22; replace h := ocond_t hb22 h
         refine ao_yes rfl rfl rfl rfl rfl rfl (op1_move rfl rfl) ?_
         refine ao_yes rfl rfl rfl rfl rfl rfl ((op1_cmp rfl rfl rfl rfl).cast (y := (BO ((x18.2.2 != 0)))) rfl rfl) ?_
         refine sS rfl rfl rfl (op1_pickT rfl rfl rfl) ?_
         refine sA rfl rfl rfl rfl rfl (ao_nil ?_)
         change BW _ _ _ _ _
         refine bw_ret ?_
         change ∃ xs, _ = some xs ∧ EndOk _ _ _ _
         obtain rfl := Option.some.inj h
         exact ⟨_, rfl, endOk0 (y := (BO ((x18.2.2 != 0)))) (Wk.refl _) rfl ⟨rfl, rfl⟩⟩
        ·intro hb22; replace h := ocond_f hb22 h
         refine ao_no rfl rfl rfl rfl rfl rfl ?_
         refine ao_no rfl rfl rfl rfl rfl rfl ?_
         refine sS rfl rfl rfl (op1_pickF rfl rfl rfl) ?_
         refine sA rfl rfl rfl rfl rfl (ao_nil ?_)
         change BW _ _ _ _ _
         refine bw_ret ?_
         change ∃ xs, _ = some xs ∧ EndOk _ _ _ _
         obtain rfl := Option.some.inj h
         exact ⟨_, rfl, endOk0 (y := (BO false)) (Wk.refl _) rfl ⟨rfl, rfl⟩⟩
       ·intro hb21; replace h := ocond_f hb21 h
        refine ao_no rfl rfl rfl rfl rfl rfl ?_
        refine ao_no rfl rfl rfl rfl rfl rfl ?_
        refine ao_no rfl rfl rfl rfl rfl rfl ?_
        refine sS rfl rfl rfl (op1_pickF rfl rfl rfl) ?_
        refine sM rfl rfl rfl rfl rfl ?_
        refine ao_no rfl rfl rfl rfl rfl rfl ?_
        refine ao_no rfl rfl rfl rfl rfl rfl ?_
        refine sS rfl rfl rfl (op1_pickF rfl rfl rfl) ?_
        refine sA rfl rfl rfl rfl rfl (ao_nil ?_)
        change BW _ _ _ _ _
        refine bw_ret ?_
        change ∃ xs, _ = some xs ∧ EndOk _ _ _ _
        obtain rfl := Option.some.inj h
        exact ⟨_, rfl, endOk0 (y := (BO false)) (Wk.refl _) rfl ⟨rfl, rfl⟩⟩
     ·refine bw_region ?_
      refine sM rfl rfl rfl rfl rfl ?_
      refine sM rfl rfl rfl rfl rfl ?_
      refine sS rfl rfl rfl ((op1_cmp rfl rfl rfl rfl).cast (y := (BO ((decide (a1 > s9))))) rfl rfl) ?_
      refine sM rfl rfl rfl rfl rfl ?_
      refine ao_cases (t := 80) rfl ?_ ?_
      ·intro hb23; replace h := ocond_t hb23 h
       refine ao_yes rfl rfl rfl rfl rfl rfl (op1_move rfl rfl) ?_
       refine ao_yes rfl rfl rfl rfl rfl rfl (op1_move rfl rfl) ?_
       refine ao_yes rfl rfl rfl rfl rfl rfl (op1_addW rfl rfl rfl) ?_
       refine ao_yes rfl rfl rfl rfl rfl rfl ((op1_cmp rfl rfl rfl rfl).cast (y := (BO ((decide (a1 < (IntKind.i64.wrap (s9 + 5))))))) rfl rfl) ?_
       refine sS rfl rfl rfl (op1_pickT rfl rfl rfl) (ao_nil ?_)
       exact ⟨rfl, (decide (a1 < (IntKind.i64.wrap (s9 + 5)))), h, ⟨(.cons .same .nil), (sC rfl (sC rfl (sC rfl (sC rfl (sC rfl (sC rfl (sC rfl sub_nil)))))))⟩⟩
      ·intro hb23; replace h := ocond_f hb23 h
       refine ao_no rfl rfl rfl rfl rfl rfl ?_
       refine ao_no rfl rfl rfl rfl rfl rfl ?_
       refine ao_no rfl rfl rfl rfl rfl rfl ?_
       refine ao_no rfl rfl rfl rfl rfl rfl ?_
       refine sS rfl rfl rfl (op1_pickF rfl rfl rfl) (ao_nil ?_)
       exact ⟨rfl, false, h, ⟨(.cons .same .nil), (sC rfl (sC rfl (sC rfl (sC rfl (sC rfl (sC rfl (sC rfl sub_nil)))))))⟩⟩
    ·intro hc13; replace h := ocond_f hc13 h
     refine bw_skip ?_
     change BW _ _ _ _ _
     refine bw_region ?_
     refine sM rfl rfl rfl rfl rfl ?_
     refine sM rfl rfl rfl rfl rfl ?_
     refine sS rfl rfl rfl (op1_lenM Try.underlying23 rfl rfl) ?_
     refine sS rfl rfl rfl (op1_addW rfl rfl rfl) ?_
     refine sM rfl rfl rfl rfl rfl ?_
     refine sS rfl rfl rfl (op1_addW rfl rfl rfl) ?_
     refine sA rfl rfl rfl rfl rfl ?_
     refine sA rfl rfl rfl rfl rfl (ao_nil ?_)
     exact ⟨rfl, ((IntKind.i64.wrap (s9 + (((x12.1).length : Nat) : Int))), (IntKind.i64.wrap (s10 + 1))), h, ⟨(.cons .same .nil), (sC rfl (sC rfl (sC rfl (sC rfl (sC rfl (sC rfl sub_nil))))))⟩⟩
 ·refine bw_region ?_
  refine sM rfl rfl rfl rfl rfl ?_
  refine sS rfl rfl rfl ((op1_cmp rfl rfl rfl rfl).cast (y := (BO ((decide (a1 < 0))))) rfl rfl) ?_
  refine sM rfl rfl rfl rfl rfl ?_
  refine ao_cases (t := 26) rfl ?_ ?_
  ·intro hb24; replace h := ocond_t hb24 h
   refine ao_no rfl rfl rfl rfl rfl rfl ?_
   refine ao_no rfl rfl rfl rfl rfl rfl ?_
   refine ao_no rfl rfl rfl rfl rfl rfl ?_
   refine ao_no rfl rfl rfl rfl rfl rfl ?_
   refine sS rfl rfl rfl (op1_pickT rfl rfl rfl) ?_
   refine sM rfl rfl rfl rfl rfl ?_
   refine ao_no rfl rfl rfl rfl rfl rfl ?_
   refine ao_no rfl rfl rfl rfl rfl rfl ?_
   refine sS rfl rfl rfl (op1_pickT rfl rfl rfl) (ao_nil ?_)
   exact ⟨rfl, true, h, ⟨(.cons .same .nil), (sC rfl (sC rfl (sC rfl (sC rfl (sC rfl sub_nil)))))⟩⟩
  ·intro hb24; replace h := ocond_f hb24 h
   refine ao_yes rfl rfl rfl rfl rfl rfl (op1_move rfl rfl) ?_
   refine ao_yes rfl rfl rfl rfl rfl rfl (op1_move rfl rfl) ?_
   refine ao_yes rfl rfl rfl rfl rfl rfl (op1_rlen Try.underlying23 rfl rfl) ?_
   refine ao_yes rfl rfl rfl rfl rfl rfl ((op1_cmp rfl rfl rfl rfl).cast (y := (BO ((decide (a1 ≥ (((x1.2).length : Nat) : Int)))))) rfl rfl) ?_
   refine sS rfl rfl rfl (op1_pickF rfl rfl rfl) ?_
   refine sM rfl rfl rfl rfl rfl ?_
   refine ao_cases (t := 32) rfl ?_ ?_
   ·intro hb25; replace h := ocond_t hb25 h
    refine ao_no rfl rfl rfl rfl rfl rfl ?_
    refine ao_no rfl rfl rfl rfl rfl rfl ?_
    refine sS rfl rfl rfl (op1_pickT rfl rfl rfl) (ao_nil ?_)
    exact ⟨rfl, true, h, ⟨(.cons .same .nil), (sC rfl (sC rfl (sC rfl (sC rfl (sC rfl sub_nil)))))⟩⟩
   ·intro hb25; replace h := ocond_f hb25 h
    refine ao_yes rfl rfl rfl rfl rfl rfl (op1_move rfl rfl) ?_
    refine ao_yes rfl rfl rfl rfl rfl rfl ((op1_cmp rfl rfl rfl rfl).cast (y := (BO ((((a2).toNat : Int) == (((0 : UInt8)).toNat : Int))))) rfl rfl) ?_
    refine sS rfl rfl rfl (op1_pickF rfl rfl rfl) (ao_nil ?_)
    exact ⟨rfl, (((a2).toNat : Int) == (((0 : UInt8)).toNat : Int)), h, ⟨(.cons .same .nil), (sC rfl (sC rfl (sC rfl (sC rfl (sC rfl sub_nil)))))⟩⟩
end Go.Proofs.Ytpmbflnoohpbnaa
