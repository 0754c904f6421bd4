/- Pure functions, and that calls answer as they say. Written by gen.py. -/
import Derived.Test.YtigadhiciinicaaG6
namespace Go.Proofs.Ytigadhiciinicaa
open Go Aw
set_option linter.unusedVariables false
set_option linter.unusedSimpArgs false
set_option maxRecDepth 20000
set_option maxHeartbeats 2000000
noncomputable def law03_WireJoined_j1 (g1 : Str → Int → Nat → Option Bool) (s3 : Nat) (s6 : Str) (s7 : Int) : Option Bool :=
 g1 s6 s7 (s3 + 1)
theorem law03_WireJoined_j1_cm {ι : Type} {ρ : ι → Type} (g1 : (∀ i, Option (ρ i)) → Str → Int → Nat → Option Bool) (h_g1 : ∀ y0 y1 y2, CM (fun G => g1 G y0 y1 y2)) (s3 : Nat) (s6 : Str) (s7 : Int) : CM (fun G : (∀ i, Option (ρ i)) => law03_WireJoined_j1 (g1 G) s3 s6 s7) := by
 simp only [law03_WireJoined_j1]
 repeat (first | exact cm_const | exact h_g1 _ _ _ | refine cm_cond ?_ ?_ | refine cm_bind ?_ (fun _ => ?_))
noncomputable def law03_WireJoined_j3 (g2 : Int → Int → Nat → Option Bool) (s19 : Nat) (s22 : Int) (s23 : Int) : Option Bool :=
 g2 s22 s23 (s19 + 1)
theorem law03_WireJoined_j3_cm {ι : Type} {ρ : ι → Type} (g2 : (∀ i, Option (ρ i)) → Int → Int → Nat → Option Bool) (h_g2 : ∀ y0 y1 y2, CM (fun G => g2 G y0 y1 y2)) (s19 : Nat) (s22 : Int) (s23 : Int) : CM (fun G : (∀ i, Option (ρ i)) => law03_WireJoined_j3 (g2 G) s19 s22 s23) := by
 simp only [law03_WireJoined_j3]
 repeat (first | exact cm_const | exact h_g2 _ _ _ | refine cm_cond ?_ ?_ | refine cm_bind ?_ (fun _ => ?_))
noncomputable def law03_WireJoined_j4 (g2 : Int → Int → Nat → Option Bool) (s17 : Int) (s18 : Int) (s19 : Nat) (x29 : (Int × Int)) (s30 : Bool) : Option Bool :=
 bif s30 then (
  some false
 ) else (
  law03_WireJoined_j3 g2 s19 (IntKind.i64.wrap (s17 + x29.1)) (IntKind.i64.wrap (s18 + 1))
 )
theorem law03_WireJoined_j4_cm {ι : Type} {ρ : ι → Type} (g2 : (∀ i, Option (ρ i)) → Int → Int → Nat → Option Bool) (h_g2 : ∀ y0 y1 y2, CM (fun G => g2 G y0 y1 y2)) (s17 : Int) (s18 : Int) (s19 : Nat) (x29 : (Int × Int)) (s30 : Bool) : CM (fun G : (∀ i, Option (ρ i)) => law03_WireJoined_j4 (g2 G) s17 s18 s19 x29 s30) := by
 simp only [law03_WireJoined_j4]
 repeat (first | exact cm_const | exact h_g2 _ _ _ | apply law03_WireJoined_j3_cm | refine cm_cond ?_ ?_ | refine cm_bind ?_ (fun _ => ?_) | intro _ | assumption)
noncomputable def law03_WireJoined_l2b (a0 : (List Term)) (s1 : Str) (x14 : ((List V) × Int × Int)) (g2 : Int → Int → Nat → Option Bool) (s17 : Int) (s18 : Int) (s19 : Nat) : Option Bool :=
 bif (decide (((s19 : Nat) : Int) < (((a0).length : Nat) : Int))) then (
  Option.bind ((a0)[s19]?) fun x24 =>
  Option.bind (p_ref01_Check x24) fun x25 =>
  bif (x25.2 != 0) then (
   law03_WireJoined_j3 g2 s19 s17 s18
  ) else (
   Option.bind (cutO s1 s17 ((s1).length : Int)) fun x27 =>
   Option.bind (appO 1 ([] : Str) x27) fun x28 =>
   Option.bind (p_wire_Skip x28) fun x29 =>
   bif (x29.2 != 0) then (
    law03_WireJoined_j4 g2 s17 s18 s19 x29 true
   ) else (
    bif (decide (x29.1 < 1)) then (
     law03_WireJoined_j4 g2 s17 s18 s19 x29 true
    ) else (
     Option.bind (idxI x14.1 s18) fun x34 =>
     Option.bind ((a0)[s19]?) fun x35 =>
     Option.bind (p_mk_Is x34 x35) fun x36 =>
     law03_WireJoined_j4 g2 s17 s18 s19 x29 (!x36)
    )
   )
  )
 ) else (
  Option.bind (p_wire_Encode (V.text ([97] : Str))) fun x37 =>
  bif (s17 == (((s1).length : Nat) : Int)) then (
   bif (x37.2 == 0) then (
    some ((((x37.1).length : Nat) : Int) == 3)
   ) else (
    some false
   )
  ) else (
   some false
  )
 )
theorem law03_WireJoined_l2b_cm {ι : Type} {ρ : ι → Type} (g2 : (∀ i, Option (ρ i)) → Int → Int → Nat → Option Bool) (h_g2 : ∀ y0 y1 y2, CM (fun G => g2 G y0 y1 y2)) (a0 : (List Term)) (s1 : Str) (x14 : ((List V) × Int × Int)) (s17 : Int) (s18 : Int) (s19 : Nat) : CM (fun G : (∀ i, Option (ρ i)) => law03_WireJoined_l2b a0 s1 x14 (g2 G) s17 s18 s19) := by
 simp only [law03_WireJoined_l2b]
 repeat (first | exact cm_const | exact h_g2 _ _ _ | apply law03_WireJoined_j3_cm | apply law03_WireJoined_j4_cm | refine cm_cond ?_ ?_ | refine cm_bind ?_ (fun _ => ?_) | intro _ | assumption)
noncomputable def law03_WireJoined_l2 (a0 : (List Term)) (s1 : Str) (x14 : ((List V) × Int × Int)) (s17 : Int) (s18 : Int) (s19 : Nat) : Option Bool :=
 fixO (ι := (Int × Int × Nat)) (ρ := fun _ => Bool) (fun g i => law03_WireJoined_l2b a0 s1 x14 (fun s17 s18 s19 => g (s17, s18, s19)) i.1 i.2.1 i.2.2) (s17, s18, s19)
theorem law03_WireJoined_l2_eq (a0 : (List Term)) (s1 : Str) (x14 : ((List V) × Int × Int)) (s17 : Int) (s18 : Int) (s19 : Nat) : law03_WireJoined_l2 a0 s1 x14 s17 s18 s19 = law03_WireJoined_l2b a0 s1 x14 (law03_WireJoined_l2 a0 s1 x14) s17 s18 s19 :=
 fixO_eq (ι := (Int × Int × Nat)) (ρ := fun _ => Bool) (Φ := fun g i => law03_WireJoined_l2b a0 s1 x14 (fun s17 s18 s19 => g (s17, s18, s19)) i.1 i.2.1 i.2.2) (fun i => law03_WireJoined_l2b_cm (ι := (Int × Int × Nat)) (ρ := fun _ => Bool) (fun g => (fun s17 s18 s19 => g (s17, s18, s19))) (fun _ _ _ => cm_app) a0 s1 x14 i.1 i.2.1 i.2.2) (s17, s18, s19)
noncomputable def law03_WireJoined_j2 (a0 : (List Term)) (s1 : Str) (x14 : ((List V) × Int × Int)) (s15 : Bool) : Option Bool :=
 bif s15 then (
  some false
 ) else (
  law03_WireJoined_l2 a0 s1 x14 0 0 0
 )
noncomputable def law03_WireJoined_l1b (a0 : (List Term)) (g1 : Str → Int → Nat → Option Bool) (s1 : Str) (s2 : Int) (s3 : Nat) : Option Bool :=
 bif (decide (((s3 : Nat) : Int) < (((a0).length : Nat) : Int))) then (
  Option.bind ((a0)[s3]?) fun x8 =>
  Option.bind (p_mk_Built x8) fun x9 =>
  Option.bind (p_wire_Encode x9) fun x10 =>
  bif (x10.2 == 0) then (
   Option.bind (appO 1 s1 x10.1) fun x12 =>
   law03_WireJoined_j1 g1 s3 x12 (IntKind.i64.wrap (s2 + 1))
  ) else (
   law03_WireJoined_j1 g1 s3 s1 s2
  )
 ) else (
  Option.bind (appO 1 ([] : Str) s1) fun x13 =>
  Option.bind (p_wire_All x13) fun x14 =>
  bif (x14.2.2 != 0) then (
   law03_WireJoined_j2 a0 s1 x14 true
  ) else (
   bif (x14.2.1 != (((s1).length : Nat) : Int)) then (
    law03_WireJoined_j2 a0 s1 x14 true
   ) else (
    law03_WireJoined_j2 a0 s1 x14 ((((x14.1).length : Nat) : Int) != s2)
   )
  )
 )
theorem law03_WireJoined_l1b_cm {ι : Type} {ρ : ι → Type} (g1 : (∀ i, Option (ρ i)) → Str → Int → Nat → Option Bool) (h_g1 : ∀ y0 y1 y2, CM (fun G => g1 G y0 y1 y2)) (a0 : (List Term)) (s1 : Str) (s2 : Int) (s3 : Nat) : CM (fun G : (∀ i, Option (ρ i)) => law03_WireJoined_l1b a0 (g1 G) s1 s2 s3) := by
 simp only [law03_WireJoined_l1b]
 repeat (first | exact cm_const | exact h_g1 _ _ _ | apply law03_WireJoined_j1_cm | apply law03_WireJoined_j2_cm | refine cm_cond ?_ ?_ | refine cm_bind ?_ (fun _ => ?_) | intro _ | assumption)
noncomputable def law03_WireJoined_l1 (a0 : (List Term)) (s1 : Str) (s2 : Int) (s3 : Nat) : Option Bool :=
 fixO (ι := (Str × Int × Nat)) (ρ := fun _ => Bool) (fun g i => law03_WireJoined_l1b a0 (fun s1 s2 s3 => g (s1, s2, s3)) i.1 i.2.1 i.2.2) (s1, s2, s3)
theorem law03_WireJoined_l1_eq (a0 : (List Term)) (s1 : Str) (s2 : Int) (s3 : Nat) : law03_WireJoined_l1 a0 s1 s2 s3 = law03_WireJoined_l1b a0 (law03_WireJoined_l1 a0) s1 s2 s3 :=
 fixO_eq (ι := (Str × Int × Nat)) (ρ := fun _ => Bool) (Φ := fun g i => law03_WireJoined_l1b a0 (fun s1 s2 s3 => g (s1, s2, s3)) i.1 i.2.1 i.2.2) (fun i => law03_WireJoined_l1b_cm (ι := (Str × Int × Nat)) (ρ := fun _ => Bool) (fun g => (fun s1 s2 s3 => g (s1, s2, s3))) (fun _ _ _ => cm_app) a0 i.1 i.2.1 i.2.2) (s1, s2, s3)
noncomputable def p_law03_WireJoined (a0 : (List Term)) : Option Bool :=
 law03_WireJoined_l1 a0 ([] : Str) 0 0
theorem s_law03_WireJoined (a0 : (List Term)) (r : Bool) (h : p_law03_WireJoined a0 = some r) : PCalls Try.prog 9 [(PV.sl none 11 (List.map ofTerm a0))] (BO r) := by
 unfold p_law03_WireJoined at h
 refine acalls_of Try.func9 rfl Try.ntmps9 Try.results9 rfl (aw_of_bw ?_)
 change BW _ _ _ ⟨[(0, (PV.sl none 11 (List.map ofTerm a0)))], [], _⟩ _
 refine bR ?_
 refine sA rfl rfl rfl rfl rfl (ao_nil ?_)
 change BW _ _ _ _ _
 refine bR ?_
 refine sS rfl rfl rfl ((op1_bslice (xs := []) Try.underlying23 inf_5 rfl rfl rfl rfl rfl rfl ⟨Nat.le_of_ble_eq_true rfl, Nat.le_of_ble_eq_true rfl⟩ rfl).cast (y := (PV.sl (some 0) 1 (List.map ofB ([] : Str)))) rfl rfl) ?_
 refine sA rfl rfl rfl rfl rfl ?_
 refine sA rfl rfl rfl rfl rfl (ao_nil ?_)
 change BW _ _ _ _ _
 refine bw_seq ?_
 refine bR ?_
 refine sA rfl rfl rfl rfl rfl (ao_nil ?_)
 change BW _ _ _ _ _
 refine bw_block ?_
 change BW _ _ _ _ _
 unfold law03_WireJoined_l1 at h
 refine bw_loop (σ := (Str × Int × Nat)) (fun i => [(0, (PV.sl none 11 (List.map ofTerm a0))), (3, (PV.sl (some 0) 1 (List.map ofB i.1))), (4, (I64 i.2.1)), (5, (I64 (((i.2.2 : Nat) : Int))))]) (fun i => [.arr 5 (i.1).length]) (([] : Str), 0, 0) h ?_ ?_ ?_
 ·intro i; exact ⟨Nat.le_of_ble_eq_true rfl, ⟨(il_nil (ids_slM ids_Term _)), ⟨(il_tok rfl (ids_map (fun _ => rfl) _)), ⟨(il_nil rfl), ⟨(il_nil rfl), trivial⟩⟩⟩⟩, trivial⟩
 ·exact ⟨(.cons .same .nil), (sC rfl (sC rfl (sC rfl (sC rfl sub_nil))))⟩
 ·rintro g1_f ⟨s1, s2, s3⟩ h; replace h : law03_WireJoined_l1b a0 (fun y0 y1 y2 => g1_f (y0, y1, y2)) s1 s2 s3 = some r := h; unfold law03_WireJoined_l1b at h
  change BW _ _ _ ⟨[(0, (PV.sl none 11 (List.map ofTerm a0))), (3, (PV.sl (some 0) 1 (List.map ofB s1))), (4, (I64 s2)), (5, (I64 (((s3 : Nat) : Int))))], [.arr 5 (s1).length], _⟩ _
  refine bw_seq ?_
  refine bR ?_
  refine sM rfl rfl rfl rfl rfl ?_
  refine sM rfl rfl rfl rfl rfl ?_
  refine sS rfl rfl rfl (op1_lenM Try.underlying26 rfl rfl) ?_
  refine sS rfl rfl rfl ((op1_cmp rfl rfl rfl rfl).cast (y := (BO ((decide (((s3 : Nat) : Int) < (((a0).length : Nat) : Int)))))) rfl rfl) (ao_nil ?_)
  change BW _ _ _ _ _
  refine bw_len (t := 22) rfl fun hb5 => ?_
  try rw [List.length_map] at hb5
  refine bw_cond rfl ?_ ?_
  ·intro hc4; replace h := ocond_t hc4 h
   have hc4_ := of_decide_eq_true hc4
   refine bw_skip ?_
   change BW _ _ _ _ _
   refine bw_seqJ (ι := (Str × Int)) (fun i => law03_WireJoined_j1 (fun y0 y1 y2 => g1_f (y0, y1, y2)) s3 i.1 i.2 = some r) (fun i => [(0, (PV.sl none 11 (List.map ofTerm a0))), (3, (PV.sl (some 0) 1 (List.map ofB i.1))), (4, (I64 i.2)), (5, (I64 (((s3 : Nat) : Int))))]) (fun i => [.arr 5 (i.1).length]) ?_ ?_ ?_
   ·intro i; exact ⟨Nat.le_of_ble_eq_true rfl, ⟨(il_nil (ids_slM ids_Term _)), ⟨(il_tok rfl (ids_map (fun _ => rfl) _)), ⟨(il_nil rfl), ⟨(il_nil rfl), trivial⟩⟩⟩⟩, trivial⟩
   ·rintro ⟨s6, s7⟩ h; replace h : law03_WireJoined_j1 (fun y0 y1 y2 => g1_f (y0, y1, y2)) s3 s6 s7 = some r := h; unfold law03_WireJoined_j1 at h
    change BW _ _ _ ⟨[(0, (PV.sl none 11 (List.map ofTerm a0))), (3, (PV.sl (some 0) 1 (List.map ofB s6))), (4, (I64 s7)), (5, (I64 (((s3 : Nat) : Int))))], [.arr 5 (s6).length], _⟩ _
    refine bw_region ?_
    refine sM rfl rfl rfl rfl rfl ?_
    refine sS rfl rfl rfl (op1_incN (k := s3) (c := 1) rfl rfl rfl (by omega)) ?_
    refine sA rfl rfl rfl rfl rfl (ao_nil ?_)
    exact ⟨rfl, (s6, s7, (s3 + 1)), h, ⟨(.cons .same .nil), (sC rfl (sC rfl (sC rfl (sC rfl sub_nil))))⟩⟩
   ·refine bw_block ?_
    change BW _ _ _ _ _
    refine bR ?_
    refine sM rfl rfl rfl rfl rfl ?_
    refine sM rfl rfl rfl rfl rfl ?_
    obtain ⟨x8, hx8, h⟩ := obind h
    refine sS rfl rfl rfl (op1_idxN (i := s3) Try.underlying26 inf_29 rfl rfl rfl hx8 (ofTerm_eq _)) ?_
    refine sS rfl rfl rfl (op1_ldPW inf_29 Try.underlying29 rfl rfl rfl rfl rfl) ?_
    obtain ⟨x9, hx9, h⟩ := obind h
    refine sS rfl rfl rfl (op1_pcall rfl en_10 rfl (.cons (Wk.refl _) .nil) ⟨(ids_TermX x8), trivial⟩ (s_mk_Built x8 x9 hx9) (ids_V x9)) ?_
    obtain ⟨x10, hx10, h⟩ := obind h
    refine sS rfl rfl rfl (op1_pcall rfl en_11 rfl (.cons (Wk.refl _) .nil) ⟨(ids_V x9), trivial⟩ (s_wire_Encode x9 x10 hx10) (ids_tup_cons (ids_slM (fun _ => rfl) x10.1) (ids_tup_cons rfl ids_tup_nil))) ?_
    refine sM rfl rfl rfl rfl rfl ?_
    refine sS rfl rfl rfl (op1_ext rfl rfl rfl) ?_
    refine sS rfl rfl rfl (op1_ext rfl rfl rfl) ?_
    refine sA rfl rfl rfl rfl rfl ?_
    refine sA rfl rfl rfl rfl rfl (ao_nil ?_)
    change BW _ _ _ _ _
    refine bR ?_
    refine sM rfl rfl rfl rfl rfl ?_
    refine sS rfl rfl rfl ((op1_cmp rfl rfl rfl rfl).cast (y := (BO ((x10.2 == 0)))) rfl rfl) (ao_nil ?_)
    change BW _ _ _ _ _
    refine bw_cond rfl ?_ ?_
    ·intro hc11; replace h := ocond_t hc11 h
     refine bR ?_
     refine sM rfl rfl rfl rfl rfl ?_
     refine sM rfl rfl rfl rfl rfl ?_
     obtain ⟨x12, hx12, h⟩ := obind h
     refine sS rfl rfl rfl (op1_appM Try.underlying23 inf_5 rfl Try.underlying23 rfl rfl rfl rfl (fun _ => rfl) (fun _ => rfl) hx12 rfl) ?_
     refine sA rfl rfl rfl rfl rfl (ao_nil ?_)
     change BW _ _ _ _ _
     refine bw_region ?_
     refine sM rfl rfl rfl rfl rfl ?_
     refine sS rfl rfl rfl (op1_addW rfl rfl rfl) ?_
     refine sA rfl rfl rfl rfl rfl (ao_nil ?_)
     exact ⟨rfl, (x12, (IntKind.i64.wrap (s2 + 1))), h, ⟨(.cons .same .nil), (sC rfl (sC rfl (sC rfl (sC rfl sub_nil))))⟩⟩
    ·intro hc11; replace h := ocond_f hc11 h
     refine bw_skip ?_
     exact ⟨rfl, (s1, s2), h, ⟨(.cons .same .nil), (sC rfl (sC rfl (sC rfl (sC rfl sub_nil))))⟩⟩
  ·intro hc4; replace h := ocond_f hc4 h
   refine bw_exit ?_
   change BW _ _ _ _ _
   refine bR ?_
   refine sS rfl rfl rfl ((op1_bslice (xs := []) Try.underlying23 inf_5 rfl rfl rfl rfl rfl rfl ⟨Nat.le_of_ble_eq_true rfl, Nat.le_of_ble_eq_true rfl⟩ rfl).cast (y := (PV.sl (some 1) 1 (List.map ofB ([] : Str)))) rfl rfl) ?_
   refine sM rfl rfl rfl rfl rfl ?_
   obtain ⟨x13, hx13, h⟩ := obind h
   refine sS rfl rfl rfl (op1_appM Try.underlying23 inf_5 rfl Try.underlying23 rfl rfl rfl rfl (fun _ => rfl) (fun _ => rfl) hx13 rfl) ?_
   obtain ⟨x14, hx14, h⟩ := obind h
   refine sS rfl rfl rfl (op1_pcall rfl en_24 rfl (.cons Wk.tok .nil) ⟨(ids_slM (fun _ => rfl) x13), trivial⟩ (s_wire_All x13 x14 hx14) (ids_tup_cons (ids_slM ids_V x14.1) (ids_tup_cons rfl (ids_tup_cons rfl ids_tup_nil)))) ?_
   refine sM rfl rfl rfl rfl rfl ?_
   refine sS rfl rfl rfl (op1_ext rfl rfl rfl) ?_
   refine sS rfl rfl rfl (op1_ext rfl rfl rfl) ?_
   refine sS rfl rfl rfl (op1_ext rfl rfl rfl) ?_
   refine sA rfl rfl rfl rfl rfl ?_
   refine sA rfl rfl rfl rfl rfl ?_
   refine sA rfl rfl rfl rfl rfl (ao_nil ?_)
   change BW _ _ _ _ _
   refine bw_seq ?_
   refine bw_seqJ (ι := Bool) (fun i => law03_WireJoined_j2 a0 s1 x14 i = some r) (fun i => [(0, (PV.sl none 11 (List.map ofTerm a0))), (3, (PV.sl (some 0) 1 (List.map ofB s1))), (8, (PV.sl none 1 (List.map ofV x14.1))), (64, (BO i))]) (fun i => [.arr 5 (s1).length]) ?_ ?_ ?_
   ·intro i; exact ⟨Nat.le_of_ble_eq_true rfl, ⟨(il_nil (ids_slM ids_Term _)), ⟨(il_tok rfl (ids_map (fun _ => rfl) _)), ⟨(il_nil (ids_slM ids_V _)), ⟨(il_nil rfl), trivial⟩⟩⟩⟩, trivial⟩
   ·rintro s15 h; replace h : law03_WireJoined_j2 a0 s1 x14 s15 = some r := h; unfold law03_WireJoined_j2 at h
    change BW _ _ _ ⟨[(0, (PV.sl none 11 (List.map ofTerm a0))), (3, (PV.sl (some 0) 1 (List.map ofB s1))), (8, (PV.sl none 1 (List.map ofV x14.1))), (64, (BO s15))], [.arr 5 (s1).length], _⟩ _
    refine bw_cond rfl ?_ ?_
    ·intro hc16; replace h := ocond_t hc16 h
     refine bR ?_
     refine sA rfl rfl rfl rfl rfl (ao_nil ?_)
     change BW _ _ _ _ _
     refine bw_ret ?_
     change ∃ xs, _ = some xs ∧ EndOk _ _ _ _
     obtain rfl := Option.some.inj h
     exact ⟨_, rfl, endOk0 (y := (BO false)) (Wk.refl _) rfl ⟨rfl, rfl⟩⟩
    ·intro hc16; replace h := ocond_f hc16 h
     refine bw_skip ?_
     change BW _ _ _ _ _
     refine bR ?_
     refine sA rfl rfl rfl rfl rfl ?_
     refine sA rfl rfl rfl rfl rfl (ao_nil ?_)
     change BW _ _ _ _ _
     refine bw_seq ?_
     refine bR ?_
     refine sA rfl rfl rfl rfl rfl (ao_nil ?_)
     change BW _ _ _ _ _
     refine bw_block ?_
     change BW _ _ _ _ _
     unfold law03_WireJoined_l2 at h
     refine bw_loop (σ := (Int × Int × Nat)) (fun i => [(0, (PV.sl none 11 (List.map ofTerm a0))), (3, (PV.sl (some 0) 1 (List.map ofB s1))), (8, (PV.sl none 1 (List.map ofV x14.1))), (11, (I64 i.1)), (12, (I64 i.2.1)), (13, (I64 (((i.2.2 : Nat) : Int))))]) (fun i => [.arr 5 (s1).length]) (0, 0, 0) h ?_ ?_ ?_
     ·intro i; exact ⟨Nat.le_of_ble_eq_true rfl, ⟨(il_nil (ids_slM ids_Term _)), ⟨(il_tok rfl (ids_map (fun _ => rfl) _)), ⟨(il_nil (ids_slM ids_V _)), ⟨(il_nil rfl), ⟨(il_nil rfl), ⟨(il_nil rfl), trivial⟩⟩⟩⟩⟩⟩, trivial⟩
     ·exact ⟨(.cons .same .nil), (sC rfl (sC rfl (sC rfl (sC rfl (sC rfl (sC rfl sub_nil))))))⟩
     ·rintro g2_f ⟨s17, s18, s19⟩ h; replace h : law03_WireJoined_l2b a0 s1 x14 (fun y0 y1 y2 => g2_f (y0, y1, y2)) s17 s18 s19 = some r := h; unfold law03_WireJoined_l2b at h
      change BW _ _ _ ⟨[(0, (PV.sl none 11 (List.map ofTerm a0))), (3, (PV.sl (some 0) 1 (List.map ofB s1))), (8, (PV.sl none 1 (List.map ofV x14.1))), (11, (I64 s17)), (12, (I64 s18)), (13, (I64 (((s19 : Nat) : Int))))], [.arr 5 (s1).length], _⟩ _
      refine bw_seq ?_
      refine bR ?_
      refine sM rfl rfl rfl rfl rfl ?_
      refine sM rfl rfl rfl rfl rfl ?_
      refine sS rfl rfl rfl (op1_lenM Try.underlying26 rfl rfl) ?_
      refine sS rfl rfl rfl ((op1_cmp rfl rfl rfl rfl).cast (y := (BO ((decide (((s19 : Nat) : Int) < (((a0).length : Nat) : Int)))))) rfl rfl) (ao_nil ?_)
      change BW _ _ _ _ _
      refine bw_len (t := 66) rfl fun hb21 => ?_
      try rw [List.length_map] at hb21
      refine bw_cond rfl ?_ ?_
      ·intro hc20; replace h := ocond_t hc20 h
       have hc20_ := of_decide_eq_true hc20
       refine bw_skip ?_
       change BW _ _ _ _ _
       refine bw_seqJ (ι := (Int × Int)) (fun i => law03_WireJoined_j3 (fun y0 y1 y2 => g2_f (y0, y1, y2)) s19 i.1 i.2 = some r) (fun i => [(0, (PV.sl none 11 (List.map ofTerm a0))), (3, (PV.sl (some 0) 1 (List.map ofB s1))), (8, (PV.sl none 1 (List.map ofV x14.1))), (11, (I64 i.1)), (12, (I64 i.2)), (13, (I64 (((s19 : Nat) : Int))))]) (fun i => [.arr 5 (s1).length]) ?_ ?_ ?_
       ·intro i; exact ⟨Nat.le_of_ble_eq_true rfl, ⟨(il_nil (ids_slM ids_Term _)), ⟨(il_tok rfl (ids_map (fun _ => rfl) _)), ⟨(il_nil (ids_slM ids_V _)), ⟨(il_nil rfl), ⟨(il_nil rfl), ⟨(il_nil rfl), trivial⟩⟩⟩⟩⟩⟩, trivial⟩
       ·rintro ⟨s22, s23⟩ h; replace h : law03_WireJoined_j3 (fun y0 y1 y2 => g2_f (y0, y1, y2)) s19 s22 s23 = some r := h; unfold law03_WireJoined_j3 at h
        change BW _ _ _ ⟨[(0, (PV.sl none 11 (List.map ofTerm a0))), (3, (PV.sl (some 0) 1 (List.map ofB s1))), (8, (PV.sl none 1 (List.map ofV x14.1))), (11, (I64 s22)), (12, (I64 s23)), (13, (I64 (((s19 : Nat) : Int))))], [.arr 5 (s1).length], _⟩ _
        refine bw_region ?_
        refine sM rfl rfl rfl rfl rfl ?_
        refine sS rfl rfl rfl (op1_incN (k := s19) (c := 1) rfl rfl rfl (by omega)) ?_
        refine sA rfl rfl rfl rfl rfl (ao_nil ?_)
        exact ⟨rfl, (s22, s23, (s19 + 1)), h, ⟨(.cons .same .nil), (sC rfl (sC rfl (sC rfl (sC rfl (sC rfl (sC rfl sub_nil))))))⟩⟩
       ·refine bw_block ?_
        change BW _ _ _ _ _
        refine bw_seq ?_
        refine bR ?_
        refine sM rfl rfl rfl rfl rfl ?_
        refine sM rfl rfl rfl rfl rfl ?_
        obtain ⟨x24, hx24, h⟩ := obind h
        refine sS rfl rfl rfl (op1_idxN (i := s19) Try.underlying26 inf_29 rfl rfl rfl hx24 (ofTerm_eq _)) ?_
        refine sS rfl rfl rfl (op1_ldPW inf_29 Try.underlying29 rfl rfl rfl rfl rfl) ?_
        obtain ⟨x25, hx25, h⟩ := obind h
        refine sS rfl rfl rfl (op1_pcall rfl en_26 rfl (.cons (Wk.refl _) .nil) ⟨(ids_TermX x24), trivial⟩ (s_ref01_Check x24 x25 hx25) (ids_tup_cons rfl (ids_tup_cons rfl ids_tup_nil))) ?_
        refine sM rfl rfl rfl rfl rfl ?_
        refine sS rfl rfl rfl (op1_ext rfl rfl rfl) ?_
        refine sS rfl rfl rfl (op1_ext rfl rfl rfl) ?_
        refine sA rfl rfl rfl rfl rfl ?_
        refine sA rfl rfl rfl rfl rfl (ao_nil ?_)
        change BW _ _ _ _ _
        refine bR ?_
        refine sM rfl rfl rfl rfl rfl ?_
        refine sS rfl rfl rfl ((op1_cmp rfl rfl rfl rfl).cast (y := (BO ((x25.2 != 0)))) rfl rfl) (ao_nil ?_)
        change BW _ _ _ _ _
        refine bw_cond rfl ?_ ?_
        ·intro hc26; replace h := ocond_t hc26 h
         refine bw_exit ?_
         exact ⟨rfl, (s17, s18), h, ⟨(.cons .same .nil), (sC rfl (sC rfl (sC rfl (sC rfl (sC rfl (sC rfl sub_nil))))))⟩⟩
        ·intro hc26; replace h := ocond_f hc26 h
         refine bw_skip ?_
         change BW _ _ _ _ _
         refine bR ?_
         refine sS rfl rfl rfl ((op1_bslice (xs := []) Try.underlying23 inf_5 rfl rfl rfl rfl rfl rfl ⟨Nat.le_of_ble_eq_true rfl, Nat.le_of_ble_eq_true rfl⟩ rfl).cast (y := (PV.sl (some 1) 1 (List.map ofB ([] : Str)))) rfl rfl) ?_
         refine sM rfl rfl rfl rfl rfl ?_
         refine sM rfl rfl rfl rfl rfl ?_
         obtain ⟨x27, hx27, h⟩ := obind h
         refine sS rfl rfl rfl (op1_cutM (a := s17) (b := ((s1).length : Int)) Try.underlying23 inf_5 rfl rfl rfl rfl rfl rfl hx27) ?_
         obtain ⟨x28, hx28, h⟩ := obind h
         refine sS rfl rfl rfl (op1_appM Try.underlying23 inf_5 rfl Try.underlying23 rfl rfl rfl rfl (fun _ => rfl) (fun _ => rfl) hx28 rfl) ?_
         obtain ⟨x29, hx29, h⟩ := obind h
         refine sS rfl rfl rfl (op1_pcall rfl en_19 rfl (.cons Wk.tok .nil) ⟨(ids_slM (fun _ => rfl) x28), trivial⟩ (s_wire_Skip x28 x29 hx29) (ids_tup_cons rfl (ids_tup_cons rfl ids_tup_nil))) ?_
         refine sM rfl rfl rfl rfl rfl ?_
         refine sS rfl rfl rfl (op1_ext rfl rfl rfl) ?_
         refine sS rfl rfl rfl (op1_ext rfl rfl rfl) ?_
         refine sA rfl rfl rfl rfl rfl ?_
         refine sA rfl rfl rfl rfl rfl (ao_nil ?_)
         change BW _ _ _ _ _
         refine bw_seq ?_
         refine bw_seqJ (ι := Bool) (fun i => law03_WireJoined_j4 (fun y0 y1 y2 => g2_f (y0, y1, y2)) s17 s18 s19 x29 i = some r) (fun i => [(0, (PV.sl none 11 (List.map ofTerm a0))), (3, (PV.sl (some 0) 1 (List.map ofB s1))), (8, (PV.sl none 1 (List.map ofV x14.1))), (11, (I64 s17)), (12, (I64 s18)), (13, (I64 (((s19 : Nat) : Int)))), (16, (I64 x29.1)), (107, (BO i))]) (fun i => [.arr 5 (s1).length]) ?_ ?_ ?_
         ·intro i; exact ⟨Nat.le_of_ble_eq_true rfl, ⟨(il_nil (ids_slM ids_Term _)), ⟨(il_tok rfl (ids_map (fun _ => rfl) _)), ⟨(il_nil (ids_slM ids_V _)), ⟨(il_nil rfl), ⟨(il_nil rfl), ⟨(il_nil rfl), ⟨(il_nil rfl), ⟨(il_nil rfl), trivial⟩⟩⟩⟩⟩⟩⟩⟩, trivial⟩
         ·rintro s30 h; replace h : law03_WireJoined_j4 (fun y0 y1 y2 => g2_f (y0, y1, y2)) s17 s18 s19 x29 s30 = some r := h; unfold law03_WireJoined_j4 at h
          change BW _ _ _ ⟨[(0, (PV.sl none 11 (List.map ofTerm a0))), (3, (PV.sl (some 0) 1 (List.map ofB s1))), (8, (PV.sl none 1 (List.map ofV x14.1))), (11, (I64 s17)), (12, (I64 s18)), (13, (I64 (((s19 : Nat) : Int)))), (16, (I64 x29.1)), (107, (BO s30))], [.arr 5 (s1).length], _⟩ _
          refine bw_cond rfl ?_ ?_
          ·intro hc31; replace h := ocond_t hc31 h
           refine bR ?_
           refine sA rfl rfl rfl rfl rfl (ao_nil ?_)
           change BW _ _ _ _ _
           refine bw_ret ?_
           change ∃ xs, _ = some xs ∧ EndOk _ _ _ _
           obtain rfl := Option.some.inj h
           exact ⟨_, rfl, endOk0 (y := (BO false)) (Wk.refl _) rfl ⟨rfl, rfl⟩⟩
          ·intro hc31; replace h := ocond_f hc31 h
           refine bw_skip ?_
           change BW _ _ _ _ _
           refine bw_region ?_
           refine sM rfl rfl rfl rfl rfl ?_
           refine sM rfl rfl rfl rfl rfl ?_
           refine sS rfl rfl rfl (op1_addW rfl rfl rfl) ?_
           refine sM rfl rfl rfl rfl rfl ?_
           refine sS rfl rfl rfl (op1_addW rfl rfl rfl) ?_
           refine sA rfl rfl rfl rfl rfl ?_
           refine sA rfl rfl rfl rfl rfl (ao_nil ?_)
           exact ⟨rfl, ((IntKind.i64.wrap (s17 + x29.1)), (IntKind.i64.wrap (s18 + 1))), h, ⟨(.cons .same .nil), (sC rfl (sC rfl (sC rfl (sC rfl (sC rfl (sC rfl sub_nil))))))⟩⟩
         ·refine bw_tail 15 [] [] mo (by kernel_rfl) ?_
          refine ac_go rfl rfl rfl rfl (fun H hp => op1_move rfl rfl) ?_
          refine ac_go rfl rfl rfl rfl (fun H hp => (op1_cmp rfl rfl rfl rfl).cast (y := (BO ((x29.2 != 0)))) rfl rfl) ?_
          refine ac_go rfl rfl rfl rfl (fun H hp => op1_move rfl rfl) ?_
          refine ac_cases 92 rfl ?_ ?_
          ·intro hb32; replace h := ocond_t hb32 h
           refine ac_no rfl rfl rfl rfl rfl rfl rfl ?_
           refine ac_no rfl rfl rfl rfl rfl rfl rfl ?_
           refine ac_go rfl rfl rfl rfl (fun H hp => op1_pickT rfl rfl rfl) ?_
           refine ac_go rfl rfl rfl rfl (fun H hp => op1_move rfl rfl) ?_
           refine ac_no rfl rfl rfl rfl rfl rfl rfl ?_
           refine ac_no rfl rfl rfl rfl rfl rfl rfl ?_
           refine ac_no rfl rfl rfl rfl rfl rfl rfl ?_
           refine ac_no rfl rfl rfl rfl rfl rfl rfl ?_
           refine ac_no rfl rfl rfl rfl rfl rfl rfl ?_
           refine ac_no rfl rfl rfl rfl rfl rfl rfl ?_
           refine ac_no rfl rfl rfl rfl rfl rfl rfl ?_
           refine ac_no rfl rfl rfl rfl rfl rfl rfl ?_
           refine ac_nil ?_
           change AO _ _ _ _ _
           refine ao_no rfl rfl rfl rfl rfl rfl ?_
           refine ao_no rfl rfl rfl rfl rfl rfl ?_
           refine sS rfl rfl rfl (op1_pickT rfl rfl rfl) (ao_nil ?_)
           exact ⟨rfl, true, h, ⟨(.cons .same .nil), (sC rfl (sC rfl (sC rfl (sC rfl (sC rfl (sC rfl (sC rfl (sC rfl sub_nil))))))))⟩⟩
          ·intro hb32; replace h := ocond_f hb32 h
           refine ac_yes rfl rfl rfl rfl rfl rfl rfl (fun H hp => op1_move rfl rfl) ?_
           refine ac_yes rfl rfl rfl rfl rfl rfl rfl (fun H hp => (op1_cmp rfl rfl rfl rfl).cast (y := (BO ((decide (x29.1 < 1))))) rfl rfl) ?_
           refine ac_go rfl rfl rfl rfl (fun H hp => op1_pickF rfl rfl rfl) ?_
           refine ac_go rfl rfl rfl rfl (fun H hp => op1_move rfl rfl) ?_
           refine ac_cases 96 rfl ?_ ?_
           ·intro hb33; replace h := ocond_t hb33 h
            refine ac_no rfl rfl rfl rfl rfl rfl rfl ?_
            refine ac_no rfl rfl rfl rfl rfl rfl rfl ?_
            refine ac_no rfl rfl rfl rfl rfl rfl rfl ?_
            refine ac_no rfl rfl rfl rfl rfl rfl rfl ?_
            refine ac_no rfl rfl rfl rfl rfl rfl rfl ?_
            refine ac_no rfl rfl rfl rfl rfl rfl rfl ?_
            refine ac_no rfl rfl rfl rfl rfl rfl rfl ?_
            refine ac_no rfl rfl rfl rfl rfl rfl rfl ?_
            refine ac_nil ?_
            change AO _ _ _ _ _
            refine ao_no rfl rfl rfl rfl rfl rfl ?_
            refine ao_no rfl rfl rfl rfl rfl rfl ?_
            refine sS rfl rfl rfl (op1_pickT rfl rfl rfl) (ao_nil ?_)
            exact ⟨rfl, true, h, ⟨(.cons .same .nil), (sC rfl (sC rfl (sC rfl (sC rfl (sC rfl (sC rfl (sC rfl (sC rfl sub_nil))))))))⟩⟩
           ·intro hb33; replace h := ocond_f hb33 h
            refine ac_yes rfl rfl rfl rfl rfl rfl rfl (fun H hp => op1_move rfl rfl) ?_
            refine ac_yes rfl rfl rfl rfl rfl rfl rfl (fun H hp => op1_move rfl rfl) ?_
            obtain ⟨x34, hx34, h⟩ := obind h
            refine ac_yes rfl rfl rfl rfl rfl rfl rfl (fun H hp => op1_idxM Try.underlying51 inf_20 rfl rfl rfl hx34 rfl) ?_
            refine ac_yes rfl rfl rfl rfl rfl rfl rfl (fun H hp => op1_ldP (y := (ofV x34)) Try.underlying20 rfl rfl rfl (by rw [cells_V]; rfl)) ?_
            refine ac_yes rfl rfl rfl rfl rfl rfl rfl (fun H hp => op1_move rfl rfl) ?_
            refine ac_yes rfl rfl rfl rfl rfl rfl rfl (fun H hp => op1_move rfl rfl) ?_
            obtain ⟨x35, hx35, h⟩ := obind h
            refine ac_yes rfl rfl rfl rfl rfl rfl rfl (fun H hp => op1_idxN (i := s19) Try.underlying26 inf_29 rfl rfl rfl hx35 (ofTerm_eq _)) ?_
            refine ac_yes rfl rfl rfl rfl rfl rfl rfl (fun H hp => op1_ldPW inf_29 Try.underlying29 rfl rfl rfl rfl rfl) ?_
            refine ac_nil ?_
            change AO _ _ _ _ _
            obtain ⟨x36, hx36, h⟩ := obind h
            refine ao_yes rfl rfl rfl rfl rfl rfl (op1_pcall rfl en_22 rfl (.cons (Wk.refl _) (.cons (Wk.refl _) .nil)) ⟨(ids_V x34), ⟨(ids_TermX x35), trivial⟩⟩ (s_mk_Is x34 x35 x36 hx36) rfl) ?_
            refine ao_yes rfl rfl rfl rfl rfl rfl (op1_not rfl rfl) ?_
            refine sS rfl rfl rfl (op1_pickF rfl rfl rfl) (ao_nil ?_)
            exact ⟨rfl, (!x36), h, ⟨(.cons .same .nil), (sC rfl (sC rfl (sC rfl (sC rfl (sC rfl (sC rfl (sC rfl (sC rfl sub_nil))))))))⟩⟩
      ·intro hc20; replace h := ocond_f hc20 h
       refine bw_exit ?_
       change BW _ _ _ _ _
       refine bR ?_
       refine sS rfl rfl rfl ((op1_mkI Try.underlying9 rfl rfl rfl).wk ((Wk.iface (Wk.refl _)).trans (Wk.eq (mk_text _).symm))) ?_
       obtain ⟨x37, hx37, h⟩ := obind h
       refine sS rfl rfl rfl (op1_pcall rfl en_11 rfl (.cons (Wk.refl _) .nil) ⟨(ids_V (V.text ([97] : Str))), trivial⟩ (s_wire_Encode (V.text ([97] : Str)) x37 hx37) (ids_tup_cons (ids_slM (fun _ => rfl) x37.1) (ids_tup_cons rfl ids_tup_nil))) ?_
       refine sM rfl rfl rfl rfl rfl ?_
       refine sS rfl rfl rfl (op1_ext rfl rfl rfl) ?_
       refine sS rfl rfl rfl (op1_ext rfl rfl rfl) ?_
       refine sA rfl rfl rfl rfl rfl ?_
       refine sA rfl rfl rfl rfl rfl (ao_nil ?_)
       change BW _ _ _ _ _
       refine bR ?_
       refine sM rfl rfl rfl rfl rfl ?_
       refine sM rfl rfl rfl rfl rfl ?_
       refine sS rfl rfl rfl (op1_lenM Try.underlying23 rfl rfl) ?_
       refine sS rfl rfl rfl ((op1_cmp rfl rfl rfl rfl).cast (y := (BO ((s17 == (((s1).length : Nat) : Int))))) rfl rfl) ?_
       refine sM rfl rfl rfl rfl rfl ?_
       refine ao_cases (t := 122) rfl ?_ ?_
       ·intro hb38; replace h := ocond_t hb38 h
        refine ao_yes rfl rfl rfl rfl rfl rfl (op1_move rfl rfl) ?_
        refine ao_yes rfl rfl rfl rfl rfl rfl ((op1_cmp rfl rfl rfl rfl).cast (y := (BO ((x37.2 == 0)))) rfl rfl) ?_
        refine sS rfl rfl rfl (op1_pickT rfl rfl rfl) ?_
        refine sM rfl rfl rfl rfl rfl ?_
        refine ao_cases (t := 126) rfl ?_ ?_
        ·intro hb39; replace h := ocond_t hb39 h
         refine ao_yes rfl rfl rfl rfl rfl rfl (op1_move rfl rfl) ?_
         refine ao_yes rfl rfl rfl rfl rfl rfl (op1_lenM Try.underlying23 rfl rfl) ?_
         refine ao_yes rfl rfl rfl rfl rfl rfl ((op1_cmp rfl rfl rfl rfl).cast (y := (BO (((((x37.1).length : Nat) : Int) == 3)))) rfl rfl) ?_
         refine sS rfl rfl rfl (op1_pickT rfl rfl rfl) ?_
         refine sA rfl rfl rfl rfl rfl (ao_nil ?_)
         change BW _ _ _ _ _
         refine bw_ret ?_
         change ∃ xs, _ = some xs ∧ EndOk _ _ _ _
         obtain rfl := Option.some.inj h
         exact ⟨_, rfl, endOk0 (y := (BO (((((x37.1).length : Nat) : Int) == 3)))) (Wk.refl _) rfl ⟨rfl, rfl⟩⟩
        ·intro hb39; replace h := ocond_f hb39 h
         refine ao_no rfl rfl rfl rfl rfl rfl ?_
         refine ao_no rfl rfl rfl rfl rfl rfl ?_
         refine ao_no rfl rfl rfl rfl rfl rfl ?_
         refine sS rfl rfl rfl (op1_pickF rfl rfl rfl) ?_
         refine sA rfl rfl rfl rfl rfl (ao_nil ?_)
         change BW _ _ _ _ _
         refine bw_ret ?_
         change ∃ xs, _ = some xs ∧ EndOk _ _ _ _
         obtain rfl := Option.some.inj h
         exact ⟨_, rfl, endOk0 (y := (BO false)) (Wk.refl _) rfl ⟨rfl, rfl⟩⟩
       ·intro hb38; replace h := ocond_f hb38 h
        refine ao_no rfl rfl rfl rfl rfl rfl ?_
        refine ao_no rfl rfl rfl rfl rfl rfl ?_
        refine sS rfl rfl rfl (op1_pickF rfl rfl rfl) ?_
        refine sM rfl rfl rfl rfl rfl ?_
        refine ao_no rfl rfl rfl rfl rfl rfl ?_
        refine ao_no rfl rfl rfl rfl rfl rfl ?_
        refine ao_no rfl rfl rfl rfl rfl rfl ?_
        refine sS rfl rfl rfl (op1_pickF rfl rfl rfl) ?_
        refine sA rfl rfl rfl rfl rfl (ao_nil ?_)
        change BW _ _ _ _ _
        refine bw_ret ?_
        change ∃ xs, _ = some xs ∧ EndOk _ _ _ _
        obtain rfl := Option.some.inj h
        exact ⟨_, rfl, endOk0 (y := (BO false)) (Wk.refl _) rfl ⟨rfl, rfl⟩⟩
   ·refine bw_region ?_
    refine sM rfl rfl rfl rfl rfl ?_
    refine sS rfl rfl rfl ((op1_cmp rfl rfl rfl rfl).cast (y := (BO ((x14.2.2 != 0)))) rfl rfl) ?_
    refine sM rfl rfl rfl rfl rfl ?_
    refine ao_cases (t := 53) rfl ?_ ?_
    ·intro hb40; replace h := ocond_t hb40 h
     refine ao_no rfl rfl rfl rfl rfl rfl ?_
     refine ao_no rfl rfl rfl rfl rfl rfl ?_
     refine ao_no rfl rfl rfl rfl rfl rfl ?_
     refine ao_no rfl rfl rfl rfl rfl rfl ?_
     refine sS rfl rfl rfl (op1_pickT rfl rfl rfl) ?_
     refine sM rfl rfl rfl rfl rfl ?_
     refine ao_no rfl rfl rfl rfl rfl rfl ?_
     refine ao_no rfl rfl rfl rfl rfl rfl ?_
     refine ao_no rfl rfl rfl rfl rfl rfl ?_
     refine ao_no rfl rfl rfl rfl rfl rfl ?_
     refine sS rfl rfl rfl (op1_pickT rfl rfl rfl) (ao_nil ?_)
     exact ⟨rfl, true, h, ⟨(.cons .same .nil), (sC rfl (sC rfl (sC rfl (sC rfl sub_nil))))⟩⟩
    ·intro hb40; replace h := ocond_f hb40 h
     refine ao_yes rfl rfl rfl rfl rfl rfl (op1_move rfl rfl) ?_
     refine ao_yes rfl rfl rfl rfl rfl rfl (op1_move rfl rfl) ?_
     refine ao_yes rfl rfl rfl rfl rfl rfl (op1_lenM Try.underlying23 rfl rfl) ?_
     refine ao_yes rfl rfl rfl rfl rfl rfl ((op1_cmp rfl rfl rfl rfl).cast (y := (BO ((x14.2.1 != (((s1).length : Nat) : Int))))) rfl rfl) ?_
     refine sS rfl rfl rfl (op1_pickF rfl rfl rfl) ?_
     refine sM rfl rfl rfl rfl rfl ?_
     refine ao_cases (t := 59) rfl ?_ ?_
     ·intro hb41; replace h := ocond_t hb41 h
      refine ao_no rfl rfl rfl rfl rfl rfl ?_
      refine ao_no rfl rfl rfl rfl rfl rfl ?_
      refine ao_no rfl rfl rfl rfl rfl rfl ?_
      refine ao_no rfl rfl rfl rfl rfl rfl ?_
      refine sS rfl rfl rfl (op1_pickT rfl rfl rfl) (ao_nil ?_)
      exact ⟨rfl, true, h, ⟨(.cons .same .nil), (sC rfl (sC rfl (sC rfl (sC rfl sub_nil))))⟩⟩
     ·intro hb41; replace h := ocond_f hb41 h
      refine ao_yes rfl rfl rfl rfl rfl rfl (op1_move rfl rfl) ?_
      refine ao_yes rfl rfl rfl rfl rfl rfl (op1_lenM Try.underlying51 rfl rfl) ?_
      refine ao_yes rfl rfl rfl rfl rfl rfl (op1_move rfl rfl) ?_
      refine ao_yes rfl rfl rfl rfl rfl rfl ((op1_cmp rfl rfl rfl rfl).cast (y := (BO (((((x14.1).length : Nat) : Int) != s2)))) rfl rfl) ?_
      refine sS rfl rfl rfl (op1_pickF rfl rfl rfl) (ao_nil ?_)
      exact ⟨rfl, ((((x14.1).length : Nat) : Int) != s2), h, ⟨(.cons .same .nil), (sC rfl (sC rfl (sC rfl (sC rfl sub_nil))))⟩⟩
end Go.Proofs.Ytigadhiciinicaa
