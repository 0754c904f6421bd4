/- Pure functions, and that calls answer as they say. Written by gen.py. -/
import Derived.Test.YtkmhecgagibgjaaG5
namespace Go.Proofs.Ytkmhecgagibgjaa
open Go Aw
set_option linter.unusedVariables false
set_option linter.unusedSimpArgs false
set_option maxRecDepth 20000
set_option maxHeartbeats 2000000
noncomputable def path_span_j1 (g1 : Int → Option Str) (a0 : Str) (a1 : Int) (s1 : Int) (s2 : Bool) : Option Str :=
 bif s2 then (
  g1 (IntKind.i64.wrap (s1 + 1))
 ) else (
  Option.bind (cutO a0 a1 s1) fun x4 =>
  some x4
 )
theorem path_span_j1_cm {ι : Type} {ρ : ι → Type} (g1 : (∀ i, Option (ρ i)) → Int → Option Str) (h_g1 : ∀ y0, CM (fun G => g1 G y0)) (a0 : Str) (a1 : Int) (s1 : Int) (s2 : Bool) : CM (fun G : (∀ i, Option (ρ i)) => path_span_j1 (g1 G) a0 a1 s1 s2) := by
 simp only [path_span_j1]
 repeat (first | exact cm_const | exact h_g1 _ | refine cm_cond ?_ ?_ | refine cm_bind ?_ (fun _ => ?_))
noncomputable def path_span_l1b (a0 : Str) (a1 : Int) (a2 : Str) (g1 : Int → Option Str) (s1 : Int) : Option Str :=
 bif (decide (s1 < (((a0).length : Nat) : Int))) then (
  Option.bind (idxI a0 s1) fun x6 =>
  Option.bind (p_strings_IndexByte a2 x6) fun x7 =>
  path_span_j1 g1 a0 a1 s1 (decide (x7 ≥ 0))
 ) else (
  path_span_j1 g1 a0 a1 s1 false
 )
theorem path_span_l1b_cm {ι : Type} {ρ : ι → Type} (g1 : (∀ i, Option (ρ i)) → Int → Option Str) (h_g1 : ∀ y0, CM (fun G => g1 G y0)) (a0 : Str) (a1 : Int) (a2 : Str) (s1 : Int) : CM (fun G : (∀ i, Option (ρ i)) => path_span_l1b a0 a1 a2 (g1 G) s1) := by
 simp only [path_span_l1b]
 repeat (first | exact cm_const | exact h_g1 _ | apply path_span_j1_cm | refine cm_cond ?_ ?_ | refine cm_bind ?_ (fun _ => ?_) | intro _ | assumption)
noncomputable def path_span_l1 (a0 : Str) (a1 : Int) (a2 : Str) (s1 : Int) : Option Str :=
 fixO (ι := Int) (ρ := fun _ => Str) (fun g i => path_span_l1b a0 a1 a2 (fun s1 => g s1) i) s1
theorem path_span_l1_eq (a0 : Str) (a1 : Int) (a2 : Str) (s1 : Int) : path_span_l1 a0 a1 a2 s1 = path_span_l1b a0 a1 a2 (path_span_l1 a0 a1 a2) s1 :=
 fixO_eq (ι := Int) (ρ := fun _ => Str) (Φ := fun g i => path_span_l1b a0 a1 a2 (fun s1 => g s1) i) (fun i => path_span_l1b_cm (ι := Int) (ρ := fun _ => Str) (fun g => (fun s1 => g s1)) (fun _ => cm_app) a0 a1 a2 i) s1
noncomputable def p_path_span (a0 : Str) (a1 : Int) (a2 : Str) : Option Str :=
 path_span_l1 a0 a1 a2 a1
theorem s_path_span (a0 : Str) (a1 : Int) (a2 : Str) (r : Str) (h : p_path_span a0 a1 a2 = some r) : PCalls Try.prog 86 [(ofStr a0), (I64 a1), (ofStr a2)] (ofStr r) := by
 unfold p_path_span at h
 refine acalls_of Try.func86 rfl Try.ntmps86 Try.results86 rfl (aw_of_bw ?_)
 change BW _ _ _ ⟨[(0, (ofStr a0)), (1, (I64 a1)), (2, (ofStr a2))], [], _⟩ _
 refine bR ?_
 refine sA rfl rfl rfl rfl rfl (ao_nil ?_)
 change BW _ _ _ _ _
 refine bR ?_
 refine sM rfl rfl rfl rfl rfl ?_
 refine sA rfl rfl rfl rfl rfl (ao_nil ?_)
 change BW _ _ _ _ _
 refine bw_seq ?_
 refine bw_block ?_
 change BW _ _ _ _ _
 unfold path_span_l1 at h
 refine bw_loop (σ := Int) (fun i => [(0, (ofStr a0)), (1, (I64 a1)), (2, (ofStr a2)), (7, (I64 i))]) (fun i => []) a1 h ?_ ?_ ?_
 ·intro i; exact ⟨Nat.le_of_ble_eq_true rfl, ⟨(il_nil rfl), ⟨(il_nil rfl), ⟨(il_nil rfl), ⟨(il_nil rfl), trivial⟩⟩⟩⟩, trivial⟩
 ·exact ⟨.nil, (sC rfl (sC rfl (sC rfl (sC rfl sub_nil))))⟩
 ·rintro g1_f s1 h; replace h : path_span_l1b a0 a1 a2 (fun y0 => g1_f y0) s1 = some r := h; unfold path_span_l1b at h
  change BW _ _ _ ⟨[(0, (ofStr a0)), (1, (I64 a1)), (2, (ofStr a2)), (7, (I64 s1))], [], _⟩ _
  refine bw_seq ?_
  refine bw_seqJ (ι := Bool) (fun i => path_span_j1 (fun y0 => g1_f y0) a0 a1 s1 i = some r) (fun i => [(0, (ofStr a0)), (1, (I64 a1)), (2, (ofStr a2)), (7, (I64 s1)), (20, (BO i))]) (fun i => []) ?_ ?_ ?_
  ·intro i; exact ⟨Nat.le_of_ble_eq_true rfl, ⟨(il_nil rfl), ⟨(il_nil rfl), ⟨(il_nil rfl), ⟨(il_nil rfl), ⟨(il_nil rfl), trivial⟩⟩⟩⟩⟩, trivial⟩
  ·rintro s2 h; replace h : path_span_j1 (fun y0 => g1_f y0) a0 a1 s1 s2 = some r := h; unfold path_span_j1 at h
   change BW _ _ _ ⟨[(0, (ofStr a0)), (1, (I64 a1)), (2, (ofStr a2)), (7, (I64 s1)), (20, (BO s2))], [], _⟩ _
   refine bw_cond rfl ?_ ?_
   ·intro hc3; replace h := ocond_t hc3 h
    refine bw_skip ?_
    change BW _ _ _ _ _
    refine bw_block ?_
    change BW _ _ _ _ _
    refine bw_region ?_
    refine sM rfl rfl rfl rfl rfl ?_
    refine sS rfl rfl rfl (op1_addW rfl rfl rfl) ?_
    refine sA rfl rfl rfl rfl rfl (ao_nil ?_)
    exact ⟨rfl, (IntKind.i64.wrap (s1 + 1)), h, ⟨.nil, (sC rfl (sC rfl (sC rfl (sC rfl sub_nil))))⟩⟩
   ·intro hc3; replace h := ocond_f hc3 h
    refine bw_exit ?_
    change BW _ _ _ _ _
    refine bR ?_
    refine sM rfl rfl rfl rfl rfl ?_
    refine sM rfl rfl rfl rfl rfl ?_
    refine sM rfl rfl rfl rfl rfl ?_
    obtain ⟨x4, hx4, h⟩ := obind h
    refine sS rfl rfl rfl (op1_cutT (s := a0) (l := a1) (h := s1) Try.underlying9 rfl rfl rfl rfl rfl rfl hx4) ?_
    refine sA rfl rfl rfl rfl rfl (ao_nil ?_)
    change BW _ _ _ _ _
    refine bw_ret ?_
    change ∃ xs, _ = some xs ∧ EndOk _ _ _ _
    obtain rfl := Option.some.inj h
    exact ⟨_, rfl, endOk0 (y := (ofStr x4)) (Wk.refl _) rfl ⟨rfl, rfl⟩⟩
  ·refine bw_region ?_
   refine sM rfl rfl rfl rfl rfl ?_
   refine sM rfl rfl rfl rfl rfl ?_
   refine sS rfl rfl rfl (op1_lenT (s := a0) Try.underlying9 rfl rfl) ?_
   refine sS rfl rfl rfl ((op1_cmp rfl rfl rfl rfl).cast (y := (BO ((decide (s1 < (((a0).length : Nat) : Int)))))) rfl rfl) ?_
   refine sM rfl rfl rfl rfl rfl ?_
   refine ao_cases (t := 13) rfl ?_ ?_
   ·intro hb5; replace h := ocond_t hb5 h
    refine ao_yes rfl rfl rfl rfl rfl rfl (op1_move rfl rfl) ?_
    refine ao_yes rfl rfl rfl rfl rfl rfl (op1_move rfl rfl) ?_
    refine ao_yes rfl rfl rfl rfl rfl rfl (op1_move rfl rfl) ?_
    obtain ⟨x6, hx6, h⟩ := obind h
    refine ao_yes rfl rfl rfl rfl rfl rfl (op1_idxT (s := a0) Try.underlying9 rfl rfl rfl hx6) ?_
    obtain ⟨x7, hx7, h⟩ := obind h
    refine ao_yes rfl rfl rfl rfl rfl rfl (op1_pcall rfl en_85 rfl (.cons (Wk.refl _) (.cons (Wk.refl _) .nil)) ⟨rfl, ⟨rfl, trivial⟩⟩ (s_strings_IndexByte a2 x6 x7 hx7) rfl) ?_
    refine ao_yes rfl rfl rfl rfl rfl rfl ((op1_cmp rfl rfl rfl rfl).cast (y := (BO ((decide (x7 ≥ 0))))) rfl rfl) ?_
    refine sS rfl rfl rfl (op1_pickT rfl rfl rfl) (ao_nil ?_)
    exact ⟨rfl, (decide (x7 ≥ 0)), h, ⟨.nil, (sC rfl (sC rfl (sC rfl (sC rfl (sC rfl sub_nil)))))⟩⟩
   ·intro hb5; replace h := ocond_f hb5 h
    refine ao_no rfl rfl rfl rfl rfl rfl ?_
    refine ao_no rfl rfl rfl rfl rfl rfl ?_
    refine ao_no rfl rfl rfl rfl rfl rfl ?_
    refine ao_no rfl rfl rfl rfl rfl rfl ?_
    refine ao_no rfl rfl rfl rfl rfl rfl ?_
    refine ao_no rfl rfl rfl rfl rfl rfl ?_
    refine sS rfl rfl rfl (op1_pickF rfl rfl rfl) (ao_nil ?_)
    exact ⟨rfl, false, h, ⟨.nil, (sC rfl (sC rfl (sC rfl (sC rfl (sC rfl sub_nil)))))⟩⟩
noncomputable def p_path_isName (a0 : Str) : Option Bool :=
 bif (!(a0 == ([] : Str))) then (
  bif (decide ((((a0).length : Nat) : Int) ≤ 32)) then (
   Option.bind ((a0)[0]?) fun x3 =>
   Option.bind (p_strings_IndexByte ([97, 98, 99, 100, 101, 102, 103, 104, 105, 106, 107, 108, 109, 110, 111, 112, 113, 114, 115, 116, 117, 118, 119, 120, 121, 122] : Str) x3) fun x4 =>
   bif (decide (x4 ≥ 0)) then (
    Option.bind (p_path_span a0 0 ([97, 98, 99, 100, 101, 102, 103, 104, 105, 106, 107, 108, 109, 110, 111, 112, 113, 114, 115, 116, 117, 118, 119, 120, 121, 122, 48, 49, 50, 51, 52, 53, 54, 55, 56, 57, 95] : Str)) fun x6 =>
    some (x6 == a0)
   ) else (
    some false
   )
  ) else (
   some false
  )
 ) else (
  some false
 )
theorem s_path_isName (a0 : Str) (r : Bool) (h : p_path_isName a0 = some r) : PCalls Try.prog 77 [(ofStr a0)] (BO r) := by
 unfold p_path_isName at h
 refine acalls_of Try.func77 rfl Try.ntmps77 Try.results77 rfl (aw_of_bw ?_)
 change BW _ _ _ ⟨[(0, (ofStr a0))], [], _⟩ _
 refine bR ?_
 refine sA rfl rfl rfl rfl rfl (ao_nil ?_)
 change BW _ _ _ _ _
 refine bR ?_
 refine sM rfl rfl rfl rfl rfl ?_
 refine sS rfl rfl rfl ((op1_cmpT (a := a0) (b := ([] : Str)) rfl rfl rfl rfl).cast (y := (BO ((!(a0 == ([] : Str)))))) rfl rfl) ?_
 refine sM rfl rfl rfl rfl rfl ?_
 refine ao_cases (t := 5) rfl ?_ ?_
 ·intro hb1; replace h := ocond_t hb1 h
  refine ao_yes rfl rfl rfl rfl rfl rfl (op1_move rfl rfl) ?_
  refine ao_yes rfl rfl rfl rfl rfl rfl (op1_lenT (s := a0) Try.underlying9 rfl rfl) ?_
  refine ao_yes rfl rfl rfl rfl rfl rfl ((op1_cmp rfl rfl rfl rfl).cast (y := (BO ((decide ((((a0).length : Nat) : Int) ≤ 32))))) rfl rfl) ?_
  refine sS rfl rfl rfl (op1_pickT rfl rfl rfl) ?_
  refine sM rfl rfl rfl rfl rfl ?_
  refine ao_cases (t := 10) rfl ?_ ?_
  ·intro hb2; replace h := ocond_t hb2 h
   refine ao_yes rfl rfl rfl rfl rfl rfl (op1_move rfl rfl) ?_
   obtain ⟨x3, hx3, h⟩ := obind h
   refine ao_yes rfl rfl rfl rfl rfl rfl (op1_idxTN (s := a0) (i := 0) Try.underlying9 rfl rfl rfl hx3) ?_
   obtain ⟨x4, hx4, h⟩ := obind h
   refine ao_yes rfl rfl rfl rfl rfl rfl (op1_pcall rfl en_85 rfl (.cons (Wk.refl _) (.cons (Wk.refl _) .nil)) ⟨rfl, ⟨rfl, trivial⟩⟩ (s_strings_IndexByte ([97, 98, 99, 100, 101, 102, 103, 104, 105, 106, 107, 108, 109, 110, 111, 112, 113, 114, 115, 116, 117, 118, 119, 120, 121, 122] : Str) x3 x4 hx4) rfl) ?_
   refine ao_yes rfl rfl rfl rfl rfl rfl ((op1_cmp rfl rfl rfl rfl).cast (y := (BO ((decide (x4 ≥ 0))))) rfl rfl) ?_
   refine sS rfl rfl rfl (op1_pickT rfl rfl rfl) ?_
   refine sM rfl rfl rfl rfl rfl ?_
   refine ao_cases (t := 16) rfl ?_ ?_
   ·intro hb5; replace h := ocond_t hb5 h
    refine ao_yes rfl rfl rfl rfl rfl rfl (op1_move rfl rfl) ?_
    obtain ⟨x6, hx6, h⟩ := obind h
    refine ao_yes rfl rfl rfl rfl rfl rfl (op1_pcall rfl en_86 rfl (.cons (Wk.refl _) (.cons (Wk.refl _) (.cons (Wk.refl _) .nil))) ⟨rfl, ⟨rfl, ⟨rfl, trivial⟩⟩⟩ (s_path_span a0 0 ([97, 98, 99, 100, 101, 102, 103, 104, 105, 106, 107, 108, 109, 110, 111, 112, 113, 114, 115, 116, 117, 118, 119, 120, 121, 122, 48, 49, 50, 51, 52, 53, 54, 55, 56, 57, 95] : Str) x6 hx6) rfl) ?_
    refine ao_yes rfl rfl rfl rfl rfl rfl (op1_move rfl rfl) ?_
    refine ao_yes rfl rfl rfl rfl rfl rfl ((op1_cmpT (a := x6) (b := a0) rfl rfl rfl rfl).cast (y := (BO ((x6 == a0)))) rfl rfl) ?_
    refine sS rfl rfl rfl (op1_pickT rfl rfl rfl) ?_
    refine sA rfl rfl rfl rfl rfl (ao_nil ?_)
    change BW _ _ _ _ _
    refine bw_ret ?_
    change ∃ xs, _ = some xs ∧ EndOk _ _ _ _
    obtain rfl := Option.some.inj h
    exact ⟨_, rfl, endOk0 (y := (BO ((x6 == a0)))) (Wk.refl _) rfl ⟨rfl, rfl⟩⟩
   ·intro hb5; replace h := ocond_f hb5 h
    refine ao_no rfl rfl rfl rfl rfl rfl ?_
    refine ao_no rfl rfl rfl rfl rfl rfl ?_
    refine ao_no rfl rfl rfl rfl rfl rfl ?_
    refine ao_no rfl rfl rfl rfl rfl rfl ?_
    refine sS rfl rfl rfl (op1_pickF rfl rfl rfl) ?_
    refine sA rfl rfl rfl rfl rfl (ao_nil ?_)
    change BW _ _ _ _ _
    refine bw_ret ?_
    change ∃ xs, _ = some xs ∧ EndOk _ _ _ _
    obtain rfl := Option.some.inj h
    exact ⟨_, rfl, endOk0 (y := (BO false)) (Wk.refl _) rfl ⟨rfl, rfl⟩⟩
  ·intro hb2; replace h := ocond_f hb2 h
   refine ao_no rfl rfl rfl rfl rfl rfl ?_
   refine ao_no rfl rfl rfl rfl rfl rfl ?_
   refine ao_no rfl rfl rfl rfl rfl rfl ?_
   refine ao_no rfl rfl rfl rfl rfl rfl ?_
   refine sS rfl rfl rfl (op1_pickF rfl rfl rfl) ?_
   refine sM rfl rfl rfl rfl rfl ?_
   refine ao_no rfl rfl rfl rfl rfl rfl ?_
   refine ao_no rfl rfl rfl rfl rfl rfl ?_
   refine ao_no rfl rfl rfl rfl rfl rfl ?_
   refine ao_no rfl rfl rfl rfl rfl rfl ?_
   refine sS rfl rfl rfl (op1_pickF rfl rfl rfl) ?_
   refine sA rfl rfl rfl rfl rfl (ao_nil ?_)
   change BW _ _ _ _ _
   refine bw_ret ?_
   change ∃ xs, _ = some xs ∧ EndOk _ _ _ _
   obtain rfl := Option.some.inj h
   exact ⟨_, rfl, endOk0 (y := (BO false)) (Wk.refl _) rfl ⟨rfl, rfl⟩⟩
 ·intro hb1; replace h := ocond_f hb1 h
  refine ao_no rfl rfl rfl rfl rfl rfl ?_
  refine ao_no rfl rfl rfl rfl rfl rfl ?_
  refine ao_no rfl rfl rfl rfl rfl rfl ?_
  refine sS rfl rfl rfl (op1_pickF rfl rfl rfl) ?_
  refine sM rfl rfl rfl rfl rfl ?_
  refine ao_no rfl rfl rfl rfl rfl rfl ?_
  refine ao_no rfl rfl rfl rfl rfl rfl ?_
  refine ao_no rfl rfl rfl rfl rfl rfl ?_
  refine ao_no rfl rfl rfl rfl rfl rfl ?_
  refine sS rfl rfl rfl (op1_pickF rfl rfl rfl) ?_
  refine sM rfl rfl rfl rfl rfl ?_
  refine ao_no rfl rfl rfl rfl rfl rfl ?_
  refine ao_no rfl rfl rfl rfl rfl rfl ?_
  refine ao_no rfl rfl rfl rfl rfl rfl ?_
  refine ao_no rfl rfl rfl rfl rfl rfl ?_
  refine sS rfl rfl rfl (op1_pickF rfl rfl rfl) ?_
  refine sA rfl rfl rfl rfl rfl (ao_nil ?_)
  change BW _ _ _ _ _
  refine bw_ret ?_
  change ∃ xs, _ = some xs ∧ EndOk _ _ _ _
  obtain rfl := Option.some.inj h
  exact ⟨_, rfl, endOk0 (y := (BO false)) (Wk.refl _) rfl ⟨rfl, rfl⟩⟩
noncomputable def path_can_j4 (s7 : Bool) : Option Int :=
 bif s7 then (
  some 1
 ) else (
  some 0
 )
noncomputable def path_can_j3 (a0 : S_api_Step) (s5 : Bool) : Option Int :=
 bif s5 then (
  some 8
 ) else (
  bif a0.f_At then (
   bif (decide (a0.f_Index < 0)) then (
    path_can_j4 true
   ) else (
    path_can_j4 (decide (a0.f_Index ≥ 4096))
   )
  ) else (
   path_can_j4 false
  )
 )
noncomputable def path_can_j2 (a0 : S_api_Step) (s3 : Bool) : Option Int :=
 bif s3 then (
  some 1
 ) else (
  bif a0.f_At then (
   path_can_j3 a0 (!(a0.f_Name == ([] : Str)))
  ) else (
   path_can_j3 a0 false
  )
 )
noncomputable def path_can_j1 (a0 : S_api_Step) (s1 : Bool) : Option Int :=
 bif s1 then (
  some 8
 ) else (
  bif (!a0.f_At) then (
   path_can_j2 a0 (a0.f_Index != 0)
  ) else (
   path_can_j2 a0 false
  )
 )
noncomputable def p_path_can (a0 : S_api_Step) : Option Int :=
 bif (!a0.f_At) then (
  Option.bind (p_path_isName a0.f_Name) fun x14 =>
  path_can_j1 a0 (!x14)
 ) else (
  path_can_j1 a0 false
 )
theorem s_path_can (a0 : S_api_Step) (r : Int) (h : p_path_can a0 = some r) : PCalls Try.prog 64 [(of_api_Step a0)] (I64 r) := by
 unfold p_path_can at h
 refine acalls_of Try.func64 rfl Try.ntmps64 Try.results64 rfl (aw_of_bw ?_)
 change BW _ _ _ ⟨[(0, (of_api_Step a0))], [], _⟩ _
 refine bR ?_
 refine sS rfl rfl rfl (op1_box rfl rfl rfl) ?_
 refine sA rfl rfl rfl rfl rfl (ao_nil ?_)
 change BW _ _ _ _ _
 refine bw_seq ?_
 refine bw_block ?_
 change BW _ _ _ _ _
 refine bw_seqJ (ι := Bool) (fun i => path_can_j1 a0 i = some r) (fun i => [(1, (PV.rf 0 0)), (3, (BO i))]) (fun i => [.box 57 [(ofStr a0.f_Name), (BO a0.f_At), (I64 a0.f_Index)]]) ?_ ?_ ?_
 ·intro i; exact ⟨Nat.le_of_ble_eq_true rfl, ⟨(il_rf rfl), ⟨(il_nil rfl), trivial⟩⟩, ⟨⟨(il_nil rfl), ⟨(il_nil rfl), ⟨(il_nil rfl), trivial⟩⟩⟩, trivial⟩⟩
 ·rintro s1 h; replace h : path_can_j1 a0 s1 = some r := h; unfold path_can_j1 at h
  change BW _ _ _ ⟨[(1, (PV.rf 0 0)), (3, (BO s1))], [.box 57 [(ofStr a0.f_Name), (BO a0.f_At), (I64 a0.f_Index)]], _⟩ _
  refine bw_cond rfl ?_ ?_
  ·intro hc2; replace h := ocond_t hc2 h
   refine bR ?_
   refine sA rfl rfl rfl rfl rfl (ao_nil ?_)
   change BW _ _ _ _ _
   refine bw_ret ?_
   change ∃ xs, _ = some xs ∧ EndOk _ _ _ _
   obtain rfl := Option.some.inj h
   exact ⟨_, rfl, endOk0 (y := (I64 8)) (Wk.refl _) rfl ⟨rfl, rfl⟩⟩
  ·intro hc2; replace h := ocond_f hc2 h
   refine bw_seqJ (ι := Bool) (fun i => path_can_j2 a0 i = some r) (fun i => [(1, (PV.rf 0 0)), (13, (BO i))]) (fun i => [.box 57 [(ofStr a0.f_Name), (BO a0.f_At), (I64 a0.f_Index)]]) ?_ ?_ ?_
   ·intro i; exact ⟨Nat.le_of_ble_eq_true rfl, ⟨(il_rf rfl), ⟨(il_nil rfl), trivial⟩⟩, ⟨⟨(il_nil rfl), ⟨(il_nil rfl), ⟨(il_nil rfl), trivial⟩⟩⟩, trivial⟩⟩
   ·rintro s3 h; replace h : path_can_j2 a0 s3 = some r := h; unfold path_can_j2 at h
    change BW _ _ _ ⟨[(1, (PV.rf 0 0)), (13, (BO s3))], [.box 57 [(ofStr a0.f_Name), (BO a0.f_At), (I64 a0.f_Index)]], _⟩ _
    refine bw_cond rfl ?_ ?_
    ·intro hc4; replace h := ocond_t hc4 h
     refine bR ?_
     refine sA rfl rfl rfl rfl rfl (ao_nil ?_)
     change BW _ _ _ _ _
     refine bw_ret ?_
     change ∃ xs, _ = some xs ∧ EndOk _ _ _ _
     obtain rfl := Option.some.inj h
     exact ⟨_, rfl, endOk0 (y := (I64 1)) (Wk.refl _) rfl ⟨rfl, rfl⟩⟩
    ·intro hc4; replace h := ocond_f hc4 h
     refine bw_seqJ (ι := Bool) (fun i => path_can_j3 a0 i = some r) (fun i => [(1, (PV.rf 0 0)), (22, (BO i))]) (fun i => [.box 57 [(ofStr a0.f_Name), (BO a0.f_At), (I64 a0.f_Index)]]) ?_ ?_ ?_
     ·intro i; exact ⟨Nat.le_of_ble_eq_true rfl, ⟨(il_rf rfl), ⟨(il_nil rfl), trivial⟩⟩, ⟨⟨(il_nil rfl), ⟨(il_nil rfl), ⟨(il_nil rfl), trivial⟩⟩⟩, trivial⟩⟩
     ·rintro s5 h; replace h : path_can_j3 a0 s5 = some r := h; unfold path_can_j3 at h
      change BW _ _ _ ⟨[(1, (PV.rf 0 0)), (22, (BO s5))], [.box 57 [(ofStr a0.f_Name), (BO a0.f_At), (I64 a0.f_Index)]], _⟩ _
      refine bw_cond rfl ?_ ?_
      ·intro hc6; replace h := ocond_t hc6 h
       refine bR ?_
       refine sA rfl rfl rfl rfl rfl (ao_nil ?_)
       change BW _ _ _ _ _
       refine bw_ret ?_
       change ∃ xs, _ = some xs ∧ EndOk _ _ _ _
       obtain rfl := Option.some.inj h
       exact ⟨_, rfl, endOk0 (y := (I64 8)) (Wk.refl _) rfl ⟨rfl, rfl⟩⟩
      ·intro hc6; replace h := ocond_f hc6 h
       refine bw_seqJ (ι := Bool) (fun i => path_can_j4 i = some r) (fun i => [(30, (BO i))]) (fun i => []) ?_ ?_ ?_
       ·intro i; exact ⟨Nat.le_of_ble_eq_true rfl, ⟨(il_nil rfl), trivial⟩, trivial⟩
       ·rintro s7 h; replace h : path_can_j4 s7 = some r := h; unfold path_can_j4 at h
        change BW _ _ _ ⟨[(30, (BO s7))], [], _⟩ _
        refine bw_cond rfl ?_ ?_
        ·intro hc8; replace h := ocond_t hc8 h
         refine bR ?_
         refine sA rfl rfl rfl rfl rfl (ao_nil ?_)
         change BW _ _ _ _ _
         refine bw_ret ?_
         change ∃ xs, _ = some xs ∧ EndOk _ _ _ _
         obtain rfl := Option.some.inj h
         exact ⟨_, rfl, endOk0 (y := (I64 1)) (Wk.refl _) rfl ⟨rfl, rfl⟩⟩
        ·intro hc8; replace h := ocond_f hc8 h
         refine bw_skip ?_
         change BW _ _ _ _ _
         refine bR ?_
         refine sA rfl rfl rfl rfl rfl (ao_nil ?_)
         change BW _ _ _ _ _
         refine bw_ret ?_
         change ∃ xs, _ = some xs ∧ EndOk _ _ _ _
         obtain rfl := Option.some.inj h
         exact ⟨_, rfl, endOk0 (y := (I64 0)) (Wk.refl _) rfl ⟨rfl, rfl⟩⟩
       ·refine bw_region ?_
        refine sS rfl rfl rfl (op1_faR st_57 (i := 1) rfl rfl rfl) ?_
        refine sS rfl rfl rfl ((op1_ldR Try.underlying4 rfl rfl rfl rfl rfl)) ?_
        refine sM rfl rfl rfl rfl rfl ?_
        refine ao_cases (t := 33) rfl ?_ ?_
        ·intro hb9; replace h := ocond_t hb9 h
         refine ao_yes rfl rfl rfl rfl rfl rfl (op1_faR st_57 (i := 2) rfl rfl rfl) ?_
         refine ao_yes rfl rfl rfl rfl rfl rfl ((op1_ldR Try.underlying3 rfl rfl rfl rfl rfl)) ?_
         refine ao_yes rfl rfl rfl rfl rfl rfl ((op1_cmp rfl rfl rfl rfl).cast (y := (BO ((decide (a0.f_Index < 0))))) rfl rfl) ?_
         refine ao_yes rfl rfl rfl rfl rfl rfl (op1_move rfl rfl) ?_
         refine ao_cases (t := 37) rfl ?_ ?_
         ·intro hb10; replace h := ocond_t hb10 h
          refine ao_no rfl rfl rfl rfl rfl rfl ?_
          refine ao_no rfl rfl rfl rfl rfl rfl ?_
          refine ao_no rfl rfl rfl rfl rfl rfl ?_
          refine ao_yes rfl rfl rfl rfl rfl rfl (op1_pickT rfl rfl rfl) ?_
          refine sS rfl rfl rfl (op1_pickT rfl rfl rfl) ?_
          refine sA rfl rfl rfl rfl rfl (ao_nil ?_)
          exact ⟨rfl, true, h, ⟨.nil, (sC rfl sub_nil)⟩⟩
         ·intro hb10; replace h := ocond_f hb10 h
          refine ao_yes rfl rfl rfl rfl rfl rfl (op1_faR st_57 (i := 2) rfl rfl rfl) ?_
          refine ao_yes rfl rfl rfl rfl rfl rfl ((op1_ldR Try.underlying3 rfl rfl rfl rfl rfl)) ?_
          refine ao_yes rfl rfl rfl rfl rfl rfl ((op1_cmp rfl rfl rfl rfl).cast (y := (BO ((decide (a0.f_Index ≥ 4096))))) rfl rfl) ?_
          refine ao_yes rfl rfl rfl rfl rfl rfl (op1_pickF rfl rfl rfl) ?_
          refine sS rfl rfl rfl (op1_pickT rfl rfl rfl) ?_
          refine sA rfl rfl rfl rfl rfl (ao_nil ?_)
          exact ⟨rfl, (decide (a0.f_Index ≥ 4096)), h, ⟨.nil, (sC rfl sub_nil)⟩⟩
        ·intro hb9; replace h := ocond_f hb9 h
         refine ao_no rfl rfl rfl rfl rfl rfl ?_
         refine ao_no rfl rfl rfl rfl rfl rfl ?_
         refine ao_no rfl rfl rfl rfl rfl rfl ?_
         refine ao_no rfl rfl rfl rfl rfl rfl ?_
         refine ao_no rfl rfl rfl rfl rfl rfl ?_
         refine ao_no rfl rfl rfl rfl rfl rfl ?_
         refine ao_no rfl rfl rfl rfl rfl rfl ?_
         refine ao_no rfl rfl rfl rfl rfl rfl ?_
         refine sS rfl rfl rfl (op1_pickF rfl rfl rfl) ?_
         refine sA rfl rfl rfl rfl rfl (ao_nil ?_)
         exact ⟨rfl, false, h, ⟨.nil, (sC rfl sub_nil)⟩⟩
     ·refine bw_region ?_
      refine sS rfl rfl rfl (op1_faR st_57 (i := 1) rfl rfl rfl) ?_
      refine sS rfl rfl rfl ((op1_ldR Try.underlying4 rfl rfl rfl rfl rfl)) ?_
      refine sM rfl rfl rfl rfl rfl ?_
      refine ao_cases (t := 25) rfl ?_ ?_
      ·intro hb11; replace h := ocond_t hb11 h
       refine ao_yes rfl rfl rfl rfl rfl rfl (op1_faR st_57 (i := 0) rfl rfl rfl) ?_
       refine ao_yes rfl rfl rfl rfl rfl rfl ((op1_ldR Try.underlying9 rfl rfl rfl rfl rfl)) ?_
       refine ao_yes rfl rfl rfl rfl rfl rfl ((op1_cmpT (a := a0.f_Name) (b := ([] : Str)) rfl rfl rfl rfl).cast (y := (BO ((!(a0.f_Name == ([] : Str)))))) rfl rfl) ?_
       refine sS rfl rfl rfl (op1_pickT rfl rfl rfl) ?_
       refine sA rfl rfl rfl rfl rfl (ao_nil ?_)
       exact ⟨rfl, (!(a0.f_Name == ([] : Str))), h, ⟨(.cons .same .nil), (sC rfl (sC rfl sub_nil))⟩⟩
      ·intro hb11; replace h := ocond_f hb11 h
       refine ao_no rfl rfl rfl rfl rfl rfl ?_
       refine ao_no rfl rfl rfl rfl rfl rfl ?_
       refine ao_no rfl rfl rfl rfl rfl rfl ?_
       refine sS rfl rfl rfl (op1_pickF rfl rfl rfl) ?_
       refine sA rfl rfl rfl rfl rfl (ao_nil ?_)
       exact ⟨rfl, false, h, ⟨(.cons .same .nil), (sC rfl (sC rfl sub_nil))⟩⟩
   ·refine bw_region ?_
    refine sS rfl rfl rfl (op1_faR st_57 (i := 1) rfl rfl rfl) ?_
    refine sS rfl rfl rfl ((op1_ldR Try.underlying4 rfl rfl rfl rfl rfl)) ?_
    refine sS rfl rfl rfl (op1_not rfl rfl) ?_
    refine sM rfl rfl rfl rfl rfl ?_
    refine ao_cases (t := 17) rfl ?_ ?_
    ·intro hb12; replace h := ocond_t hb12 h
     refine ao_yes rfl rfl rfl rfl rfl rfl (op1_faR st_57 (i := 2) rfl rfl rfl) ?_
     refine ao_yes rfl rfl rfl rfl rfl rfl ((op1_ldR Try.underlying3 rfl rfl rfl rfl rfl)) ?_
     refine ao_yes rfl rfl rfl rfl rfl rfl ((op1_cmp rfl rfl rfl rfl).cast (y := (BO ((a0.f_Index != 0)))) rfl rfl) ?_
     refine sS rfl rfl rfl (op1_pickT rfl rfl rfl) ?_
     refine sA rfl rfl rfl rfl rfl (ao_nil ?_)
     exact ⟨rfl, (a0.f_Index != 0), h, ⟨(.cons .same .nil), (sC rfl (sC rfl sub_nil))⟩⟩
    ·intro hb12; replace h := ocond_f hb12 h
     refine ao_no rfl rfl rfl rfl rfl rfl ?_
     refine ao_no rfl rfl rfl rfl rfl rfl ?_
     refine ao_no rfl rfl rfl rfl rfl rfl ?_
     refine sS rfl rfl rfl (op1_pickF rfl rfl rfl) ?_
     refine sA rfl rfl rfl rfl rfl (ao_nil ?_)
     exact ⟨rfl, false, h, ⟨(.cons .same .nil), (sC rfl (sC rfl sub_nil))⟩⟩
 ·refine bw_region ?_
  refine sS rfl rfl rfl (op1_faR st_57 (i := 1) rfl rfl rfl) ?_
  refine sS rfl rfl rfl ((op1_ldR Try.underlying4 rfl rfl rfl rfl rfl)) ?_
  refine sS rfl rfl rfl (op1_not rfl rfl) ?_
  refine sM rfl rfl rfl rfl rfl ?_
  refine ao_cases (t := 7) rfl ?_ ?_
  ·intro hb13; replace h := ocond_t hb13 h
   refine ao_yes rfl rfl rfl rfl rfl rfl (op1_faR st_57 (i := 0) rfl rfl rfl) ?_
   refine ao_yes rfl rfl rfl rfl rfl rfl ((op1_ldR Try.underlying9 rfl rfl rfl rfl rfl)) ?_
   obtain ⟨x14, hx14, h⟩ := obind h
   refine ao_yes rfl rfl rfl rfl rfl rfl (op1_pcall rfl en_77 rfl (.cons (Wk.refl _) .nil) ⟨rfl, trivial⟩ (s_path_isName a0.f_Name x14 hx14) rfl) ?_
   refine ao_yes rfl rfl rfl rfl rfl rfl (op1_not rfl rfl) ?_
   refine sS rfl rfl rfl (op1_pickT rfl rfl rfl) ?_
   refine sA rfl rfl rfl rfl rfl (ao_nil ?_)
   exact ⟨rfl, (!x14), h, ⟨(.cons .same .nil), (sC rfl (sC rfl sub_nil))⟩⟩
  ·intro hb13; replace h := ocond_f hb13 h
   refine ao_no rfl rfl rfl rfl rfl rfl ?_
   refine ao_no rfl rfl rfl rfl rfl rfl ?_
   refine ao_no rfl rfl rfl rfl rfl rfl ?_
   refine ao_no rfl rfl rfl rfl rfl rfl ?_
   refine sS rfl rfl rfl (op1_pickF rfl rfl rfl) ?_
   refine sA rfl rfl rfl rfl rfl (ao_nil ?_)
   exact ⟨rfl, false, h, ⟨(.cons .same .nil), (sC rfl (sC rfl sub_nil))⟩⟩
noncomputable def path_valid_l1b (a0 : (List S_api_Step)) (g1 : Nat → Option Int) (s2 : Nat) : Option Int :=
 bif (decide (((s2 : Nat) : Int) < (((a0).length : Nat) : Int))) then (
  Option.bind ((a0)[s2]?) fun x5 =>
  Option.bind (p_path_can x5) fun x6 =>
  bif (x6 != 0) then (
   some x6
  ) else (
   g1 (s2 + 1)
  )
 ) else (
  some 0
 )
theorem path_valid_l1b_cm {ι : Type} {ρ : ι → Type} (g1 : (∀ i, Option (ρ i)) → Nat → Option Int) (h_g1 : ∀ y0, CM (fun G => g1 G y0)) (a0 : (List S_api_Step)) (s2 : Nat) : CM (fun G : (∀ i, Option (ρ i)) => path_valid_l1b a0 (g1 G) s2) := by
 simp only [path_valid_l1b]
 repeat (first | exact cm_const | exact h_g1 _ | refine cm_cond ?_ ?_ | refine cm_bind ?_ (fun _ => ?_))
noncomputable def path_valid_l1 (a0 : (List S_api_Step)) (s2 : Nat) : Option Int :=
 fixO (ι := Nat) (ρ := fun _ => Int) (fun g i => path_valid_l1b a0 (fun s2 => g s2) i) s2
theorem path_valid_l1_eq (a0 : (List S_api_Step)) (s2 : Nat) : path_valid_l1 a0 s2 = path_valid_l1b a0 (path_valid_l1 a0) s2 :=
 fixO_eq (ι := Nat) (ρ := fun _ => Int) (Φ := fun g i => path_valid_l1b a0 (fun s2 => g s2) i) (fun i => path_valid_l1b_cm (ι := Nat) (ρ := fun _ => Int) (fun g => (fun s2 => g s2)) (fun _ => cm_app) a0 i) s2
noncomputable def p_path_valid (a0 : (List S_api_Step)) : Option Int :=
 bif (decide ((((a0).length : Nat) : Int) > 64)) then (
  some 2
 ) else (
  path_valid_l1 a0 0
 )
theorem s_path_valid (a0 : (List S_api_Step)) (r : Int) (h : p_path_valid a0 = some r) : PCalls Try.prog 51 [(PV.sl none 57 3 (List.map of_api_Step a0))] (I64 r) := by
 unfold p_path_valid at h
 refine acalls_of Try.func51 rfl Try.ntmps51 Try.results51 rfl (aw_of_bw ?_)
 change BW _ _ _ ⟨[(0, (PV.sl none 57 3 (List.map of_api_Step a0)))], [], _⟩ _
 refine bR ?_
 refine sA rfl rfl rfl rfl rfl (ao_nil ?_)
 change BW _ _ _ _ _
 refine bw_seq ?_
 refine bR ?_
 refine sM rfl rfl rfl rfl rfl ?_
 refine sS rfl rfl rfl (op1_lenM Try.underlying42 rfl rfl) ?_
 refine sS rfl rfl rfl ((op1_cmp rfl rfl rfl rfl).cast (y := (BO ((decide ((((a0).length : Nat) : Int) > 64))))) rfl rfl) (ao_nil ?_)
 change BW _ _ _ _ _
 refine bw_cond rfl ?_ ?_
 ·intro hc1; replace h := ocond_t hc1 h
  refine bR ?_
  refine sA rfl rfl rfl rfl rfl (ao_nil ?_)
  change BW _ _ _ _ _
  refine bw_ret ?_
  change ∃ xs, _ = some xs ∧ EndOk _ _ _ _
  obtain rfl := Option.some.inj h
  exact ⟨_, rfl, endOk0 (y := (I64 2)) (Wk.refl _) rfl ⟨rfl, rfl⟩⟩
 ·intro hc1; replace h := ocond_f hc1 h
  refine bw_skip ?_
  change BW _ _ _ _ _
  refine bw_seq ?_
  refine bR ?_
  refine sM rfl rfl rfl rfl rfl ?_
  refine sS rfl rfl rfl (op1_lenM Try.underlying42 rfl rfl) ?_
  refine sM rfl rfl rfl rfl rfl (ao_nil ?_)
  change BW _ _ _ _ _
  refine bw_block ?_
  change BW _ _ _ _ _
  unfold path_valid_l1 at h
  refine bw_loop (σ := Nat) (fun i => [(9, (PV.sl none 57 3 (List.map of_api_Step a0))), (10, (I64 ((((a0).length : Nat) : Int)))), (11, (I64 (((i : Nat) : Int))))]) (fun i => []) 0 h ?_ ?_ ?_
  ·intro i; exact ⟨Nat.le_of_ble_eq_true rfl, ⟨(il_nil (ids_slM ids_S_api_Step _)), ⟨(il_nil rfl), ⟨(il_nil rfl), trivial⟩⟩⟩, trivial⟩
  ·exact ⟨.nil, (sC rfl (sC rfl (sC rfl sub_nil)))⟩
  ·rintro g1_f s2 h; replace h : path_valid_l1b a0 (fun y0 => g1_f y0) s2 = some r := h; unfold path_valid_l1b at h
   change BW _ _ _ ⟨[(9, (PV.sl none 57 3 (List.map of_api_Step a0))), (10, (I64 ((((a0).length : Nat) : Int)))), (11, (I64 (((s2 : Nat) : Int))))], [], _⟩ _
   refine bR ?_
   refine sS rfl rfl rfl ((op1_cmp rfl rfl rfl rfl).cast (y := (BO ((decide (((s2 : Nat) : Int) < (((a0).length : Nat) : Int)))))) rfl rfl) (ao_nil ?_)
   change BW _ _ _ _ _
   refine bw_seq ?_
   refine bw_len (t := 9) rfl fun hb4 => ?_
   try rw [List.length_map] at hb4
   refine bw_cond rfl ?_ ?_
   ·intro hc3; replace h := ocond_t hc3 h
    have hc3_ := of_decide_eq_true hc3
    refine bw_skip ?_
    change BW _ _ _ _ _
    refine bw_seq ?_
    refine bw_block ?_
    change BW _ _ _ _ _
    refine bR ?_
    obtain ⟨x5, hx5, h⟩ := obind h
    refine sS rfl rfl rfl (op1_idxN (i := s2) Try.underlying42 inf_57 rfl rfl rfl hx5 rfl) ?_
    refine sS rfl rfl rfl (op1_ldPW inf_57 Try.underlying57 rfl rfl rfl rfl rfl) ?_
    refine sS rfl rfl rfl (op1_alloc inf_57 rfl) ?_
    refine ao_step0 rfl rfl (op1_store inf_57 rfl rfl rfl rfl rfl rfl (Nat.le_of_ble_eq_true rfl) rfl) ?_
    refine ao_nil ?_
    change BW _ _ _ _ _
    refine bR ?_
    refine sS rfl rfl rfl ((op1_ldRA inf_57 Try.underlying57 rfl rfl rfl rfl rfl rfl)) ?_
    obtain ⟨x6, hx6, h⟩ := obind h
    refine sS rfl rfl rfl (op1_pcall rfl en_64 rfl (.cons (Wk.refl _) .nil) ⟨(ids_S_api_Step x5), trivial⟩ (s_path_can x5 x6 hx6) rfl) ?_
    refine sA rfl rfl rfl rfl rfl (ao_nil ?_)
    change BW _ _ _ _ _
    refine bR ?_
    refine sM rfl rfl rfl rfl rfl ?_
    refine sS rfl rfl rfl ((op1_cmp rfl rfl rfl rfl).cast (y := (BO ((x6 != 0)))) rfl rfl) (ao_nil ?_)
    change BW _ _ _ _ _
    refine bw_cond rfl ?_ ?_
    ·intro hc7; replace h := ocond_t hc7 h
     refine bR ?_
     refine sM rfl rfl rfl rfl rfl ?_
     refine sA rfl rfl rfl rfl rfl (ao_nil ?_)
     change BW _ _ _ _ _
     refine bw_ret ?_
     change ∃ xs, _ = some xs ∧ EndOk _ _ _ _
     obtain rfl := Option.some.inj h
     exact ⟨_, rfl, endOk0 (y := (I64 x6)) (Wk.refl _) rfl ⟨rfl, rfl⟩⟩
    ·intro hc7; replace h := ocond_f hc7 h
     refine bw_skip ?_
     change BW _ _ _ _ _
     refine bw_region ?_
     refine sS rfl rfl rfl (op1_incN (k := s2) (c := 1) rfl rfl rfl (by omega)) ?_
     refine sM rfl rfl rfl rfl rfl (ao_nil ?_)
     exact ⟨rfl, (s2 + 1), h, ⟨.nil, (sC rfl (sC rfl (sC rfl sub_nil)))⟩⟩
   ·intro hc3; replace h := ocond_f hc3 h
    refine bw_exit ?_
    change BW _ _ _ _ _
    refine bR ?_
    refine sA rfl rfl rfl rfl rfl (ao_nil ?_)
    change BW _ _ _ _ _
    refine bw_ret ?_
    change ∃ xs, _ = some xs ∧ EndOk _ _ _ _
    obtain rfl := Option.some.inj h
    exact ⟨_, rfl, endOk0 (y := (I64 0)) (Wk.refl _) rfl ⟨rfl, rfl⟩⟩
noncomputable def p_path_begin (a0 : V) (a1 : (List S_api_Step)) : Option Int :=
 Option.bind (p_value_Check a0) fun x1 =>
 bif (x1.2 != 0) then (
  some x1.2
 ) else (
  Option.bind (p_path_valid a1) fun x3 =>
  some x3
 )
theorem s_path_begin (a0 : V) (a1 : (List S_api_Step)) (r : Int) (h : p_path_begin a0 a1 = some r) : PCalls Try.prog 24 [(ofV a0), (PV.sl none 57 3 (List.map of_api_Step a1))] (I64 r) := by
 unfold p_path_begin at h
 refine acalls_of Try.func24 rfl Try.ntmps24 Try.results24 rfl (aw_of_bw ?_)
 change BW _ _ _ ⟨[(0, (ofV a0)), (1, (PV.sl none 57 3 (List.map of_api_Step a1)))], [], _⟩ _
 refine bR ?_
 refine sA rfl rfl rfl rfl rfl (ao_nil ?_)
 change BW _ _ _ _ _
 refine bw_seq ?_
 refine bR ?_
 refine sM rfl rfl rfl rfl rfl ?_
 obtain ⟨x1, hx1, h⟩ := obind h
 refine sS rfl rfl rfl (op1_pcall rfl en_22 rfl (.cons (Wk.refl _) .nil) ⟨(ids_V a0), trivial⟩ (s_value_Check a0 x1 hx1) (ids_tup_cons rfl (ids_tup_cons rfl ids_tup_nil))) ?_
 refine sM rfl rfl rfl rfl rfl ?_
 refine sS rfl rfl rfl (op1_ext rfl rfl rfl) ?_
 refine sS rfl rfl rfl (op1_ext rfl rfl rfl) ?_
 refine sA rfl rfl rfl rfl rfl ?_
 refine sA rfl rfl rfl rfl rfl (ao_nil ?_)
 change BW _ _ _ _ _
 refine bR ?_
 refine sM rfl rfl rfl rfl rfl ?_
 refine sS rfl rfl rfl ((op1_cmp rfl rfl rfl rfl).cast (y := (BO ((x1.2 != 0)))) rfl rfl) (ao_nil ?_)
 change BW _ _ _ _ _
 refine bw_cond rfl ?_ ?_
 ·intro hc2; replace h := ocond_t hc2 h
  refine bR ?_
  refine sM rfl rfl rfl rfl rfl ?_
  refine sA rfl rfl rfl rfl rfl (ao_nil ?_)
  change BW _ _ _ _ _
  refine bw_ret ?_
  change ∃ xs, _ = some xs ∧ EndOk _ _ _ _
  obtain rfl := Option.some.inj h
  exact ⟨_, rfl, endOk0 (y := (I64 x1.2)) (Wk.refl _) rfl ⟨rfl, rfl⟩⟩
 ·intro hc2; replace h := ocond_f hc2 h
  refine bw_skip ?_
  change BW _ _ _ _ _
  refine bR ?_
  refine sM rfl rfl rfl rfl rfl ?_
  obtain ⟨x3, hx3, h⟩ := obind h
  refine sS rfl rfl rfl (op1_pcall rfl en_51 rfl (.cons (Wk.refl _) .nil) ⟨(ids_slM ids_S_api_Step a1), trivial⟩ (s_path_valid a1 x3 hx3) rfl) ?_
  refine sA rfl rfl rfl rfl rfl (ao_nil ?_)
  change BW _ _ _ _ _
  refine bw_ret ?_
  change ∃ xs, _ = some xs ∧ EndOk _ _ _ _
  obtain rfl := Option.some.inj h
  exact ⟨_, rfl, endOk0 (y := (I64 x3)) (Wk.refl _) rfl ⟨rfl, rfl⟩⟩
noncomputable def p_path_fieldsOf (a0 : V) : Option ((List (Str × V)) × Bool) :=
 bif (a0).isDict then (
  some ((a0).asDict, true)
 ) else (
  bif (a0).isRec then (
   Option.bind ((a0).asRec) fun x3 =>
   some (x3.fields, true)
  ) else (
   some ([], false)
  )
 )
theorem s_path_fieldsOf (a0 : V) (r : ((List (Str × V)) × Bool)) (h : p_path_fieldsOf a0 = some r) : PCalls Try.prog 63 [(ofV a0)] (PV.tup [(PV.sl none 55 2 (List.map ofFld r.1)), (BO r.2)]) := by
 unfold p_path_fieldsOf at h
 refine acalls_of Try.func63 rfl Try.ntmps63 Try.results63 rfl (aw_of_bw ?_)
 change BW _ _ _ ⟨[(0, (ofV a0))], [], _⟩ _
 refine bR ?_
 refine sA rfl rfl rfl rfl rfl ?_
 refine sA rfl rfl rfl rfl rfl (ao_nil ?_)
 change BW _ _ _ _ _
 refine bw_seq ?_
 refine bR ?_
 refine sM rfl rfl rfl rfl rfl (ao_nil ?_)
 change BW _ _ _ _ _
 refine bw_block ?_
 change BW _ _ _ _ _
 refine bR ?_
 refine sS rfl rfl rfl (op1_taDict rfl rfl) ?_
 refine sS rfl rfl rfl (op1_ext rfl rfl rfl) ?_
 refine sS rfl rfl rfl (op1_ext rfl rfl rfl) (ao_nil ?_)
 change BW _ _ _ _ _
 refine bw_cond rfl ?_ ?_
 ·intro hc1; replace h := ocond_t hc1 h
  refine bR ?_
  refine sA rfl rfl rfl rfl rfl (ao_nil ?_)
  change BW _ _ _ _ _
  refine bR ?_
  refine sM rfl rfl rfl rfl rfl ?_
  refine sA rfl rfl rfl rfl rfl ?_
  refine sA rfl rfl rfl rfl rfl (ao_nil ?_)
  change BW _ _ _ _ _
  refine bw_ret ?_
  change ∃ xs, _ = some xs ∧ EndOk _ _ _ _
  obtain rfl := Option.some.inj h
  exact ⟨_, rfl, endOk0 (y := (PV.tup [(PV.sl none 55 2 (List.map ofFld (a0).asDict)), (BO true)])) (Wk.refl _) (ids_tup_cons (ids_slM ids_Fld ((a0).asDict)) (ids_tup_cons rfl ids_tup_nil)) ⟨rfl, rfl⟩⟩
 ·intro hc1; replace h := ocond_f hc1 h
  refine bR ?_
  refine sS rfl rfl rfl (op1_taRec rfl rfl) ?_
  refine sS rfl rfl rfl (op1_ext rfl rfl rfl) ?_
  refine sS rfl rfl rfl (op1_ext rfl rfl rfl) (ao_nil ?_)
  change BW _ _ _ _ _
  refine bw_cond rfl ?_ ?_
  ·intro hc2; replace h := ocond_t hc2 h
   refine bR ?_
   refine sA rfl rfl rfl rfl rfl (ao_nil ?_)
   change BW _ _ _ _ _
   refine bR ?_
   refine sM rfl rfl rfl rfl rfl ?_
   obtain ⟨x3, hx3, h⟩ := obind h
   refine sS rfl rfl rfl (op1_pNil rfl rfl hx3) ?_
   refine sS rfl rfl rfl (op1_faP st_60 (i := 2) rfl rfl rfl) ?_
   refine sS rfl rfl rfl (op1_ldP (y := (PV.sl none 55 2 (List.map ofFld x3.fields))) Try.underlying49 rfl rfl rfl rfl) ?_
   refine sA rfl rfl rfl rfl rfl ?_
   refine sA rfl rfl rfl rfl rfl (ao_nil ?_)
   change BW _ _ _ _ _
   refine bw_ret ?_
   change ∃ xs, _ = some xs ∧ EndOk _ _ _ _
   obtain rfl := Option.some.inj h
   exact ⟨_, rfl, endOk0 (y := (PV.tup [(PV.sl none 55 2 (List.map ofFld x3.fields)), (BO true)])) (Wk.refl _) (ids_tup_cons (ids_slM ids_Fld x3.fields) (ids_tup_cons rfl ids_tup_nil)) ⟨rfl, rfl⟩⟩
  ·intro hc2; replace h := ocond_f hc2 h
   refine bw_skip ?_
   change BW _ _ _ _ _
   refine bR ?_
   refine sA rfl rfl rfl rfl rfl ?_
   refine sA rfl rfl rfl rfl rfl (ao_nil ?_)
   change BW _ _ _ _ _
   refine bw_ret ?_
   change ∃ xs, _ = some xs ∧ EndOk _ _ _ _
   obtain rfl := Option.some.inj h
   exact ⟨_, rfl, endOk0 (y := (PV.tup [(PV.sl none 55 2 (List.map ofFld [])), (BO false)])) (Wk.tup (.cons Wk.nil (.cons (Wk.refl _) .nil))) (ids_tup_cons (ids_slM ids_Fld ([])) (ids_tup_cons rfl ids_tup_nil)) ⟨rfl, rfl⟩⟩
noncomputable def p_path_find_1 (a0 : (Str × V)) (a1 : Str) : Option Int :=
 bif (Op.bytesLess a0.1 a1) then (
  some (-1)
 ) else (
  bif (!(Op.bytesLess a0.1 a1 || a0.1 == a1)) then (
   some 1
  ) else (
   some 0
  )
 )
theorem s_path_find_1 (a0 : (Str × V)) (a1 : Str) (r : Int) (h : p_path_find_1 a0 a1 = some r) : PCalls Try.prog 79 [(ofFld a0), (ofStr a1)] (I64 r) := by
 unfold p_path_find_1 at h
 refine acalls_of Try.func79 rfl Try.ntmps79 Try.results79 rfl (aw_of_bw ?_)
 change BW _ _ _ ⟨[(0, (ofFld a0)), (1, (ofStr a1))], [], _⟩ _
 refine bR ?_
 refine sS rfl rfl rfl (op1_box rfl rfl rfl) ?_
 refine sA rfl rfl rfl rfl rfl (ao_nil ?_)
 change BW _ _ _ _ _
 refine bw_seq ?_
 refine bw_block ?_
 change BW _ _ _ _ _
 refine bR ?_
 refine sS rfl rfl rfl (op1_faR st_55 (i := 0) rfl rfl rfl) ?_
 refine sS rfl rfl rfl ((op1_ldR Try.underlying9 rfl rfl rfl rfl rfl)) ?_
 refine sM rfl rfl rfl rfl rfl ?_
 refine sS rfl rfl rfl ((op1_cmpT (a := a0.1) (b := a1) rfl rfl rfl rfl).cast (y := (BO ((Op.bytesLess a0.1 a1)))) rfl rfl) ?_
 refine sA rfl rfl rfl rfl rfl (ao_nil ?_)
 change BW _ _ _ _ _
 refine bw_cond rfl ?_ ?_
 ·intro hc1; replace h := ocond_t hc1 h
  refine bR ?_
  refine sA rfl rfl rfl rfl rfl (ao_nil ?_)
  change BW _ _ _ _ _
  refine bw_ret ?_
  change ∃ xs, _ = some xs ∧ EndOk _ _ _ _
  obtain rfl := Option.some.inj h
  exact ⟨_, rfl, endOk0 (y := (I64 ((-1)))) (Wk.refl _) rfl ⟨rfl, rfl⟩⟩
 ·intro hc1; replace h := ocond_f hc1 h
  refine bR ?_
  refine sS rfl rfl rfl (op1_faR st_55 (i := 0) rfl rfl rfl) ?_
  refine sS rfl rfl rfl ((op1_ldR Try.underlying9 rfl rfl rfl rfl rfl)) ?_
  refine sM rfl rfl rfl rfl rfl ?_
  refine sS rfl rfl rfl ((op1_cmpT (a := a0.1) (b := a1) rfl rfl rfl rfl).cast (y := (BO ((!(Op.bytesLess a0.1 a1 || a0.1 == a1))))) rfl rfl) ?_
  refine sA rfl rfl rfl rfl rfl (ao_nil ?_)
  change BW _ _ _ _ _
  refine bw_cond rfl ?_ ?_
  ·intro hc2; replace h := ocond_t hc2 h
   refine bR ?_
   refine sA rfl rfl rfl rfl rfl (ao_nil ?_)
   change BW _ _ _ _ _
   refine bw_ret ?_
   change ∃ xs, _ = some xs ∧ EndOk _ _ _ _
   obtain rfl := Option.some.inj h
   exact ⟨_, rfl, endOk0 (y := (I64 1)) (Wk.refl _) rfl ⟨rfl, rfl⟩⟩
  ·intro hc2; replace h := ocond_f hc2 h
   refine bw_skip ?_
   change BW _ _ _ _ _
   refine bR ?_
   refine sA rfl rfl rfl rfl rfl (ao_nil ?_)
   change BW _ _ _ _ _
   refine bw_ret ?_
   change ∃ xs, _ = some xs ∧ EndOk _ _ _ _
   obtain rfl := Option.some.inj h
   exact ⟨_, rfl, endOk0 (y := (I64 0)) (Wk.refl _) rfl ⟨rfl, rfl⟩⟩
noncomputable def slices_BinarySearchFunc_api_Dict_api_Field_string_path_find_1_l1b (a0 : (List (Str × V))) (a1 : Str) (g1 : Int → Int → Option (Int × Bool)) (s1 : Int) (s2 : Int) : Option (Int × Bool) :=
 bif (decide (s1 < s2)) then (
  Option.bind (idxI a0 (IntKind.i64.wrap (shrK .u64 (IntKind.u64.wrap (IntKind.i64.wrap (s1 + s2))) 1))) fun x4 =>
  Option.bind (p_path_find_1 x4 a1) fun x5 =>
  bif (decide (x5 < 0)) then (
   g1 (IntKind.i64.wrap ((IntKind.i64.wrap (shrK .u64 (IntKind.u64.wrap (IntKind.i64.wrap (s1 + s2))) 1)) + 1)) s2
  ) else (
   g1 s1 (IntKind.i64.wrap (shrK .u64 (IntKind.u64.wrap (IntKind.i64.wrap (s1 + s2))) 1))
  )
 ) else (
  bif (decide (s1 < (((a0).length : Nat) : Int))) then (
   Option.bind (idxI a0 s1) fun x8 =>
   Option.bind (p_path_find_1 x8 a1) fun x9 =>
   some (s1, (x9 == 0))
  ) else (
   some (s1, false)
  )
 )
theorem slices_BinarySearchFunc_api_Dict_api_Field_string_path_find_1_l1b_cm {ι : Type} {ρ : ι → Type} (g1 : (∀ i, Option (ρ i)) → Int → Int → Option (Int × Bool)) (h_g1 : ∀ y0 y1, CM (fun G => g1 G y0 y1)) (a0 : (List (Str × V))) (a1 : Str) (s1 : Int) (s2 : Int) : CM (fun G : (∀ i, Option (ρ i)) => slices_BinarySearchFunc_api_Dict_api_Field_string_path_find_1_l1b a0 a1 (g1 G) s1 s2) := by
 simp only [slices_BinarySearchFunc_api_Dict_api_Field_string_path_find_1_l1b]
 repeat (first | exact cm_const | exact h_g1 _ _ | refine cm_cond ?_ ?_ | refine cm_bind ?_ (fun _ => ?_))
noncomputable def slices_BinarySearchFunc_api_Dict_api_Field_string_path_find_1_l1 (a0 : (List (Str × V))) (a1 : Str) (s1 : Int) (s2 : Int) : Option (Int × Bool) :=
 fixO (ι := (Int × Int)) (ρ := fun _ => (Int × Bool)) (fun g i => slices_BinarySearchFunc_api_Dict_api_Field_string_path_find_1_l1b a0 a1 (fun s1 s2 => g (s1, s2)) i.1 i.2) (s1, s2)
theorem slices_BinarySearchFunc_api_Dict_api_Field_string_path_find_1_l1_eq (a0 : (List (Str × V))) (a1 : Str) (s1 : Int) (s2 : Int) : slices_BinarySearchFunc_api_Dict_api_Field_string_path_find_1_l1 a0 a1 s1 s2 = slices_BinarySearchFunc_api_Dict_api_Field_string_path_find_1_l1b a0 a1 (slices_BinarySearchFunc_api_Dict_api_Field_string_path_find_1_l1 a0 a1) s1 s2 :=
 fixO_eq (ι := (Int × Int)) (ρ := fun _ => (Int × Bool)) (Φ := fun g i => slices_BinarySearchFunc_api_Dict_api_Field_string_path_find_1_l1b a0 a1 (fun s1 s2 => g (s1, s2)) i.1 i.2) (fun i => slices_BinarySearchFunc_api_Dict_api_Field_string_path_find_1_l1b_cm (ι := (Int × Int)) (ρ := fun _ => (Int × Bool)) (fun g => (fun s1 s2 => g (s1, s2))) (fun _ _ => cm_app) a0 a1 i.1 i.2) (s1, s2)
noncomputable def p_slices_BinarySearchFunc_api_Dict_api_Field_string_path_find_1 (a0 : (List (Str × V))) (a1 : Str) : Option (Int × Bool) :=
 slices_BinarySearchFunc_api_Dict_api_Field_string_path_find_1_l1 a0 a1 0 (((a0).length : Nat) : Int)
theorem s_slices_BinarySearchFunc_api_Dict_api_Field_string_path_find_1 (a0 : (List (Str × V))) (a1 : Str) (r : (Int × Bool)) (h : p_slices_BinarySearchFunc_api_Dict_api_Field_string_path_find_1 a0 a1 = some r) : PCalls Try.prog 78 [(PV.sl none 55 2 (List.map ofFld a0)), (ofStr a1), (PV.fn (.func 79) [] [])] (PV.tup [(I64 r.1), (BO r.2)]) := by
 unfold p_slices_BinarySearchFunc_api_Dict_api_Field_string_path_find_1 at h
 refine acalls_of Try.func78 rfl Try.ntmps78 Try.results78 rfl (aw_of_bw ?_)
 change BW _ _ _ ⟨[(0, (PV.sl none 55 2 (List.map ofFld a0))), (1, (ofStr a1)), (2, (PV.fn (.func 79) [] []))], [], _⟩ _
 refine bR ?_
 refine sA rfl rfl rfl rfl rfl ?_
 refine sA rfl rfl rfl rfl rfl (ao_nil ?_)
 change BW _ _ _ _ _
 refine bR ?_
 refine sM rfl rfl rfl rfl rfl ?_
 refine sS rfl rfl rfl (op1_lenM Try.underlying49 rfl rfl) ?_
 refine sA rfl rfl rfl rfl rfl (ao_nil ?_)
 change BW _ _ _ _ _
 refine bR ?_
 refine sM rfl rfl rfl rfl rfl ?_
 refine sA rfl rfl rfl rfl rfl ?_
 refine sA rfl rfl rfl rfl rfl (ao_nil ?_)
 change BW _ _ _ _ _
 refine bw_seq ?_
 refine bw_block ?_
 change BW _ _ _ _ _
 unfold slices_BinarySearchFunc_api_Dict_api_Field_string_path_find_1_l1 at h
 refine bw_loop (σ := (Int × Int)) (fun i => [(0, (PV.sl none 55 2 (List.map ofFld a0))), (1, (ofStr a1)), (2, (PV.fn (.func 79) [] [])), (8, (I64 ((((a0).length : Nat) : Int)))), (9, (I64 i.1)), (10, (I64 i.2))]) (fun i => []) (0, (((a0).length : Nat) : Int)) h ?_ ?_ ?_
 ·intro i; exact ⟨Nat.le_of_ble_eq_true rfl, ⟨(il_nil (ids_slM ids_Fld _)), ⟨(il_nil rfl), ⟨(il_nil rfl), ⟨(il_nil rfl), ⟨(il_nil rfl), ⟨(il_nil rfl), trivial⟩⟩⟩⟩⟩⟩, trivial⟩
 ·exact ⟨.nil, (sC rfl (sC rfl (sC rfl (sC rfl (sC rfl (sC rfl sub_nil))))))⟩
 ·rintro g1_f ⟨s1, s2⟩ h; replace h : slices_BinarySearchFunc_api_Dict_api_Field_string_path_find_1_l1b a0 a1 (fun y0 y1 => g1_f (y0, y1)) s1 s2 = some r := h; unfold slices_BinarySearchFunc_api_Dict_api_Field_string_path_find_1_l1b at h
  change BW _ _ _ ⟨[(0, (PV.sl none 55 2 (List.map ofFld a0))), (1, (ofStr a1)), (2, (PV.fn (.func 79) [] [])), (8, (I64 ((((a0).length : Nat) : Int)))), (9, (I64 s1)), (10, (I64 s2))], [], _⟩ _
  refine bw_seq ?_
  refine bR ?_
  refine sM rfl rfl rfl rfl rfl ?_
  refine sM rfl rfl rfl rfl rfl ?_
  refine sS rfl rfl rfl ((op1_cmp rfl rfl rfl rfl).cast (y := (BO ((decide (s1 < s2))))) rfl rfl) (ao_nil ?_)
  change BW _ _ _ _ _
  refine bw_cond rfl ?_ ?_
  ·intro hc3; replace h := ocond_t hc3 h
   refine bw_skip ?_
   change BW _ _ _ _ _
   refine bw_block ?_
   change BW _ _ _ _ _
   refine bR ?_
   refine sM rfl rfl rfl rfl rfl ?_
   refine sM rfl rfl rfl rfl rfl ?_
   refine sS rfl rfl rfl (op1_addW rfl rfl rfl) ?_
   refine sS rfl rfl rfl (op1_convI Try.underlying3 Try.underlying117 rfl rfl) ?_
   refine sS rfl rfl rfl ((op1_shr rfl rfl rfl (by decide)).cast (y := (PV.v (.int .u64 (shrK .u64 (IntKind.u64.wrap (IntKind.i64.wrap (s1 + s2))) 1)))) rfl rfl) ?_
   refine sS rfl rfl rfl (op1_convI Try.underlying117 Try.underlying3 rfl rfl) ?_
   refine sA rfl rfl rfl rfl rfl (ao_nil ?_)
   change BW _ _ _ _ _
   refine bR ?_
   refine sM rfl rfl rfl rfl rfl ?_
   refine sM rfl rfl rfl rfl rfl ?_
   refine sM rfl rfl rfl rfl rfl ?_
   obtain ⟨x4, hx4, h⟩ := obind h
   refine sS rfl rfl rfl (op1_idxM Try.underlying49 inf_55 rfl rfl rfl hx4 rfl) ?_
   refine sS rfl rfl rfl (op1_ldPW inf_55 Try.underlying55 rfl rfl rfl rfl rfl) ?_
   refine sM rfl rfl rfl rfl rfl ?_
   obtain ⟨x5, hx5, h⟩ := obind h
   refine sS rfl rfl rfl (op1_pcallV rfl rfl en_79 rfl (.cons (Wk.refl _) (.cons (Wk.refl _) .nil)) ⟨(ids_Fld x4), ⟨rfl, trivial⟩⟩ (s_path_find_1 x4 a1 x5 hx5) rfl) ?_
   refine sS rfl rfl rfl ((op1_cmp rfl rfl rfl rfl).cast (y := (BO ((decide (x5 < 0))))) rfl rfl) (ao_nil ?_)
   change BW _ _ _ _ _
   refine bw_cond rfl ?_ ?_
   ·intro hc6; replace h := ocond_t hc6 h
    refine bw_region ?_
    refine sM rfl rfl rfl rfl rfl ?_
    refine sS rfl rfl rfl (op1_addW rfl rfl rfl) ?_
    refine sA rfl rfl rfl rfl rfl (ao_nil ?_)
    exact ⟨rfl, ((IntKind.i64.wrap ((IntKind.i64.wrap (shrK .u64 (IntKind.u64.wrap (IntKind.i64.wrap (s1 + s2))) 1)) + 1)), s2), h, ⟨.nil, (sC rfl (sC rfl (sC rfl (sC rfl (sC rfl (sC rfl sub_nil))))))⟩⟩
   ·intro hc6; replace h := ocond_f hc6 h
    refine bw_region ?_
    refine sM rfl rfl rfl rfl rfl ?_
    refine sA rfl rfl rfl rfl rfl (ao_nil ?_)
    exact ⟨rfl, (s1, (IntKind.i64.wrap (shrK .u64 (IntKind.u64.wrap (IntKind.i64.wrap (s1 + s2))) 1))), h, ⟨.nil, (sC rfl (sC rfl (sC rfl (sC rfl (sC rfl (sC rfl sub_nil))))))⟩⟩
  ·intro hc3; replace h := ocond_f hc3 h
   refine bw_exit ?_
   change BW _ _ _ _ _
   refine bR ?_
   refine sM rfl rfl rfl rfl rfl ?_
   refine sM rfl rfl rfl rfl rfl ?_
   refine sM rfl rfl rfl rfl rfl ?_
   refine sS rfl rfl rfl ((op1_cmp rfl rfl rfl rfl).cast (y := (BO ((decide (s1 < (((a0).length : Nat) : Int)))))) rfl rfl) ?_
   refine sM rfl rfl rfl rfl rfl ?_
   refine ao_cases (t := 39) rfl ?_ ?_
   ·intro hb7; replace h := ocond_t hb7 h
    refine ao_yes rfl rfl rfl rfl rfl rfl (op1_move rfl rfl) ?_
    refine ao_yes rfl rfl rfl rfl rfl rfl (op1_move rfl rfl) ?_
    refine ao_yes rfl rfl rfl rfl rfl rfl (op1_move rfl rfl) ?_
    obtain ⟨x8, hx8, h⟩ := obind h
    refine ao_yes rfl rfl rfl rfl rfl rfl (op1_idxM Try.underlying49 inf_55 rfl rfl rfl hx8 rfl) ?_
    refine ao_yes rfl rfl rfl rfl rfl rfl (op1_ldPW inf_55 Try.underlying55 rfl rfl rfl rfl rfl) ?_
    refine ao_yes rfl rfl rfl rfl rfl rfl (op1_move rfl rfl) ?_
    obtain ⟨x9, hx9, h⟩ := obind h
    refine ao_yes rfl rfl rfl rfl rfl rfl (op1_pcallV rfl rfl en_79 rfl (.cons (Wk.refl _) (.cons (Wk.refl _) .nil)) ⟨(ids_Fld x8), ⟨rfl, trivial⟩⟩ (s_path_find_1 x8 a1 x9 hx9) rfl) ?_
    refine ao_yes rfl rfl rfl rfl rfl rfl ((op1_cmp rfl rfl rfl rfl).cast (y := (BO ((x9 == 0)))) rfl rfl) ?_
    refine sS rfl rfl rfl (op1_pickT rfl rfl rfl) ?_
    refine sA rfl rfl rfl rfl rfl ?_
    refine sA rfl rfl rfl rfl rfl (ao_nil ?_)
    change BW _ _ _ _ _
    refine bw_ret ?_
    change ∃ xs, _ = some xs ∧ EndOk _ _ _ _
    obtain rfl := Option.some.inj h
    exact ⟨_, rfl, endOk0 (y := (PV.tup [(I64 s1), (BO ((x9 == 0)))])) (Wk.refl _) (ids_tup_cons rfl (ids_tup_cons rfl ids_tup_nil)) ⟨rfl, rfl⟩⟩
   ·intro hb7; replace h := ocond_f hb7 h
    refine ao_no rfl rfl rfl rfl rfl rfl ?_
    refine ao_no rfl rfl rfl rfl rfl rfl ?_
    refine ao_no rfl rfl rfl rfl rfl rfl ?_
    refine ao_no rfl rfl rfl rfl rfl rfl ?_
    refine ao_no rfl rfl rfl rfl rfl rfl ?_
    refine ao_no rfl rfl rfl rfl rfl rfl ?_
    refine ao_no rfl rfl rfl rfl rfl rfl ?_
    refine ao_no rfl rfl rfl rfl rfl rfl ?_
    refine sS rfl rfl rfl (op1_pickF rfl rfl rfl) ?_
    refine sA rfl rfl rfl rfl rfl ?_
    refine sA rfl rfl rfl rfl rfl (ao_nil ?_)
    change BW _ _ _ _ _
    refine bw_ret ?_
    change ∃ xs, _ = some xs ∧ EndOk _ _ _ _
    obtain rfl := Option.some.inj h
    exact ⟨_, rfl, endOk0 (y := (PV.tup [(I64 s1), (BO false)])) (Wk.refl _) (ids_tup_cons rfl (ids_tup_cons rfl ids_tup_nil)) ⟨rfl, rfl⟩⟩
noncomputable def p_path_find (a0 : (List (Str × V))) (a1 : Str) : Option (Int × Bool) :=
 Option.bind (p_slices_BinarySearchFunc_api_Dict_api_Field_string_path_find_1 a0 a1) fun x1 =>
 some (x1.1, x1.2)
theorem s_path_find (a0 : (List (Str × V))) (a1 : Str) (r : (Int × Bool)) (h : p_path_find a0 a1 = some r) : PCalls Try.prog 65 [(PV.sl none 55 2 (List.map ofFld a0)), (ofStr a1)] (PV.tup [(I64 r.1), (BO r.2)]) := by
 unfold p_path_find at h
 refine acalls_of Try.func65 rfl Try.ntmps65 Try.results65 rfl (aw_of_bw ?_)
 change BW _ _ _ ⟨[(0, (PV.sl none 55 2 (List.map ofFld a0))), (1, (ofStr a1))], [], _⟩ _
 refine bR ?_
 refine sA rfl rfl rfl rfl rfl ?_
 refine sA rfl rfl rfl rfl rfl (ao_nil ?_)
 change BW _ _ _ _ _
 refine bR ?_
 refine sM rfl rfl rfl rfl rfl ?_
 refine sM rfl rfl rfl rfl rfl ?_
 obtain ⟨x1, hx1, h⟩ := obind h
 refine sS rfl rfl rfl (op1_pcall rfl en_78 rfl (.cons (Wk.refl _) (.cons (Wk.refl _) (.cons (Wk.refl _) .nil))) ⟨(ids_slM ids_Fld a0), ⟨rfl, ⟨rfl, trivial⟩⟩⟩ (s_slices_BinarySearchFunc_api_Dict_api_Field_string_path_find_1 a0 a1 x1 hx1) (ids_tup_cons rfl (ids_tup_cons rfl ids_tup_nil))) ?_
 refine sS rfl rfl rfl (op1_ext rfl rfl rfl) ?_
 refine sS rfl rfl rfl (op1_ext rfl rfl rfl) ?_
 refine sA rfl rfl rfl rfl rfl ?_
 refine sA rfl rfl rfl rfl rfl (ao_nil ?_)
 change BW _ _ _ _ _
 refine bw_ret ?_
 change ∃ xs, _ = some xs ∧ EndOk _ _ _ _
 obtain rfl := Option.some.inj h
 exact ⟨_, rfl, endOk0 (y := (PV.tup [(I64 x1.1), (BO x1.2)])) (Wk.refl _) (ids_tup_cons rfl (ids_tup_cons rfl ids_tup_nil)) ⟨rfl, rfl⟩⟩
noncomputable def path_one_j2 (a1 : S_api_Step) (x5 : ((List (Str × V)) × Bool)) (s6 : Bool) : Option (V × Int) :=
 bif s6 then (
  some (V.nil, 41)
 ) else (
  Option.bind (p_path_find x5.1 a1.f_Name) fun x8 =>
  bif (!x8.2) then (
   some (V.nil, 40)
  ) else (
   Option.bind (idxI x5.1 x8.1) fun x10 =>
   some (x10.2, 0)
  )
 )
noncomputable def path_one_j1 (a0 : V) (a1 : S_api_Step) (s1 : Bool) : Option (V × Int) :=
 bif s1 then (
  bif (decide (a1.f_Index ≥ ((((a0).asList).length : Nat) : Int))) then (
   some (V.nil, 42)
  ) else (
   Option.bind (idxI ((a0).asList) a1.f_Index) fun x4 =>
   some (x4, 0)
  )
 ) else (
  Option.bind (p_path_fieldsOf a0) fun x5 =>
  bif (!x5.2) then (
   path_one_j2 a1 x5 true
  ) else (
   path_one_j2 a1 x5 a1.f_At
  )
 )
noncomputable def p_path_one (a0 : V) (a1 : S_api_Step) : Option (V × Int) :=
 bif (a0).isList then (
  path_one_j1 a0 a1 a1.f_At
 ) else (
  path_one_j1 a0 a1 false
 )
theorem s_path_one (a0 : V) (a1 : S_api_Step) (r : (V × Int)) (h : p_path_one a0 a1 = some r) : PCalls Try.prog 52 [(ofV a0), (of_api_Step a1)] (PV.tup [(ofV r.1), (I64 r.2)]) := by
 unfold p_path_one at h
 refine acalls_of Try.func52 rfl Try.ntmps52 Try.results52 rfl (aw_of_bw ?_)
 change BW _ _ _ ⟨[(0, (ofV a0)), (1, (of_api_Step a1))], [], _⟩ _
 refine bR ?_
 refine sS rfl rfl rfl (op1_box rfl rfl rfl) ?_
 refine sA rfl rfl rfl rfl rfl ?_
 refine sA rfl rfl rfl rfl rfl (ao_nil ?_)
 change BW _ _ _ _ _
 refine bw_seq ?_
 refine bR ?_
 refine sM rfl rfl rfl rfl rfl ?_
 refine sS rfl rfl rfl (op1_taList rfl rfl) ?_
 refine sM rfl rfl rfl rfl rfl ?_
 refine sS rfl rfl rfl (op1_ext rfl rfl rfl) ?_
 refine sS rfl rfl rfl (op1_ext rfl rfl rfl) ?_
 refine sA rfl rfl rfl rfl rfl ?_
 refine sA rfl rfl rfl rfl rfl (ao_nil ?_)
 change BW _ _ _ _ _
 refine bw_seqJ (ι := Bool) (fun i => path_one_j1 a0 a1 i = some r) (fun i => [(0, (ofV a0)), (3, (PV.rf 0 0)), (6, (PV.sl none 20 1 (List.map ofV (a0).asList))), (21, (BO i))]) (fun i => [.box 57 [(ofStr a1.f_Name), (BO a1.f_At), (I64 a1.f_Index)]]) ?_ ?_ ?_
 ·intro i; exact ⟨Nat.le_of_ble_eq_true rfl, ⟨(il_nil (ids_V _)), ⟨(il_rf rfl), ⟨(il_nil (ids_slM ids_V _)), ⟨(il_nil rfl), trivial⟩⟩⟩⟩, ⟨⟨(il_nil rfl), ⟨(il_nil rfl), ⟨(il_nil rfl), trivial⟩⟩⟩, trivial⟩⟩
 ·rintro s1 h; replace h : path_one_j1 a0 a1 s1 = some r := h; unfold path_one_j1 at h
  change BW _ _ _ ⟨[(0, (ofV a0)), (3, (PV.rf 0 0)), (6, (PV.sl none 20 1 (List.map ofV (a0).asList))), (21, (BO s1))], [.box 57 [(ofStr a1.f_Name), (BO a1.f_At), (I64 a1.f_Index)]], _⟩ _
  refine bw_cond rfl ?_ ?_
  ·intro hc2; replace h := ocond_t hc2 h
   refine bw_seq ?_
   refine bR ?_
   refine sS rfl rfl rfl (op1_faR st_57 (i := 2) rfl rfl rfl) ?_
   refine sS rfl rfl rfl ((op1_ldR Try.underlying3 rfl rfl rfl rfl rfl)) ?_
   refine sM rfl rfl rfl rfl rfl ?_
   refine sS rfl rfl rfl (op1_lenM Try.underlying47 rfl rfl) ?_
   refine sS rfl rfl rfl ((op1_cmp rfl rfl rfl rfl).cast (y := (BO ((decide (a1.f_Index ≥ ((((a0).asList).length : Nat) : Int)))))) rfl rfl) (ao_nil ?_)
   change BW _ _ _ _ _
   refine bw_cond rfl ?_ ?_
   ·intro hc3; replace h := ocond_t hc3 h
    refine bR ?_
    refine sA rfl rfl rfl rfl rfl ?_
    refine sA rfl rfl rfl rfl rfl (ao_nil ?_)
    change BW _ _ _ _ _
    refine bw_ret ?_
    change ∃ xs, _ = some xs ∧ EndOk _ _ _ _
    obtain rfl := Option.some.inj h
    exact ⟨_, rfl, endOk0 (y := (PV.tup [(ofV V.nil), (I64 42)])) (Wk.tup (.cons (Wk.eq mk_nil.symm) (.cons (Wk.refl _) .nil))) (ids_tup_cons (ids_V V.nil) (ids_tup_cons rfl ids_tup_nil)) ⟨rfl, rfl⟩⟩
   ·intro hc3; replace h := ocond_f hc3 h
    refine bw_skip ?_
    change BW _ _ _ _ _
    refine bR ?_
    refine sM rfl rfl rfl rfl rfl ?_
    refine sS rfl rfl rfl (op1_faR st_57 (i := 2) rfl rfl rfl) ?_
    refine sS rfl rfl rfl ((op1_ldR Try.underlying3 rfl rfl rfl rfl rfl)) ?_
    obtain ⟨x4, hx4, h⟩ := obind h
    refine sS rfl rfl rfl (op1_idxM Try.underlying47 inf_20 rfl rfl rfl hx4 rfl) ?_
    refine sS rfl rfl rfl (op1_ldP (y := (ofV x4)) Try.underlying20 rfl rfl rfl (by rw [cells_V]; rfl)) ?_
    refine sA rfl rfl rfl rfl rfl ?_
    refine sA rfl rfl rfl rfl rfl (ao_nil ?_)
    change BW _ _ _ _ _
    refine bw_ret ?_
    change ∃ xs, _ = some xs ∧ EndOk _ _ _ _
    obtain rfl := Option.some.inj h
    exact ⟨_, rfl, endOk0 (y := (PV.tup [(ofV x4), (I64 0)])) (Wk.refl _) (ids_tup_cons (ids_V x4) (ids_tup_cons rfl ids_tup_nil)) ⟨rfl, rfl⟩⟩
  ·intro hc2; replace h := ocond_f hc2 h
   refine bw_skip ?_
   change BW _ _ _ _ _
   refine bR ?_
   refine sM rfl rfl rfl rfl rfl ?_
   obtain ⟨x5, hx5, h⟩ := obind h
   refine sS rfl rfl rfl (op1_pcall rfl en_63 rfl (.cons (Wk.refl _) .nil) ⟨(ids_V a0), trivial⟩ (s_path_fieldsOf a0 x5 hx5) (ids_tup_cons (ids_slM ids_Fld x5.1) (ids_tup_cons rfl ids_tup_nil))) ?_
   refine sM rfl rfl rfl rfl rfl ?_
   refine sS rfl rfl rfl (op1_ext rfl rfl rfl) ?_
   refine sS rfl rfl rfl (op1_ext rfl rfl rfl) ?_
   refine sA rfl rfl rfl rfl rfl ?_
   refine sA rfl rfl rfl rfl rfl (ao_nil ?_)
   change BW _ _ _ _ _
   refine bw_seq ?_
   refine bw_seqJ (ι := Bool) (fun i => path_one_j2 a1 x5 i = some r) (fun i => [(3, (PV.rf 0 0)), (8, (PV.sl none 55 2 (List.map ofFld x5.1))), (42, (BO i))]) (fun i => [.box 57 [(ofStr a1.f_Name), (BO a1.f_At), (I64 a1.f_Index)]]) ?_ ?_ ?_
   ·intro i; exact ⟨Nat.le_of_ble_eq_true rfl, ⟨(il_rf rfl), ⟨(il_nil (ids_slM ids_Fld _)), ⟨(il_nil rfl), trivial⟩⟩⟩, ⟨⟨(il_nil rfl), ⟨(il_nil rfl), ⟨(il_nil rfl), trivial⟩⟩⟩, trivial⟩⟩
   ·rintro s6 h; replace h : path_one_j2 a1 x5 s6 = some r := h; unfold path_one_j2 at h
    change BW _ _ _ ⟨[(3, (PV.rf 0 0)), (8, (PV.sl none 55 2 (List.map ofFld x5.1))), (42, (BO s6))], [.box 57 [(ofStr a1.f_Name), (BO a1.f_At), (I64 a1.f_Index)]], _⟩ _
    refine bw_cond rfl ?_ ?_
    ·intro hc7; replace h := ocond_t hc7 h
     refine bR ?_
     refine sA rfl rfl rfl rfl rfl ?_
     refine sA rfl rfl rfl rfl rfl (ao_nil ?_)
     change BW _ _ _ _ _
     refine bw_ret ?_
     change ∃ xs, _ = some xs ∧ EndOk _ _ _ _
     obtain rfl := Option.some.inj h
     exact ⟨_, rfl, endOk0 (y := (PV.tup [(ofV V.nil), (I64 41)])) (Wk.tup (.cons (Wk.eq mk_nil.symm) (.cons (Wk.refl _) .nil))) (ids_tup_cons (ids_V V.nil) (ids_tup_cons rfl ids_tup_nil)) ⟨rfl, rfl⟩⟩
    ·intro hc7; replace h := ocond_f hc7 h
     refine bw_skip ?_
     change BW _ _ _ _ _
     refine bR ?_
     refine sM rfl rfl rfl rfl rfl ?_
     refine sS rfl rfl rfl (op1_faR st_57 (i := 0) rfl rfl rfl) ?_
     refine sS rfl rfl rfl ((op1_ldR Try.underlying9 rfl rfl rfl rfl rfl)) ?_
     obtain ⟨x8, hx8, h⟩ := obind h
     refine sS rfl rfl rfl (op1_pcall rfl en_65 rfl (.cons (Wk.refl _) (.cons (Wk.refl _) .nil)) ⟨(ids_slM ids_Fld x5.1), ⟨rfl, trivial⟩⟩ (s_path_find x5.1 a1.f_Name x8 hx8) (ids_tup_cons rfl (ids_tup_cons rfl ids_tup_nil))) ?_
     refine sM rfl rfl rfl rfl rfl ?_
     refine sS rfl rfl rfl (op1_ext rfl rfl rfl) ?_
     refine sS rfl rfl rfl (op1_ext rfl rfl rfl) ?_
     refine sA rfl rfl rfl rfl rfl ?_
     refine sA rfl rfl rfl rfl rfl (ao_nil ?_)
     change BW _ _ _ _ _
     refine bw_seq ?_
     refine bR ?_
     refine sM rfl rfl rfl rfl rfl ?_
     refine sS rfl rfl rfl (op1_not rfl rfl) (ao_nil ?_)
     change BW _ _ _ _ _
     refine bw_cond rfl ?_ ?_
     ·intro hc9; replace h := ocond_t hc9 h
      refine bR ?_
      refine sA rfl rfl rfl rfl rfl ?_
      refine sA rfl rfl rfl rfl rfl (ao_nil ?_)
      change BW _ _ _ _ _
      refine bw_ret ?_
      change ∃ xs, _ = some xs ∧ EndOk _ _ _ _
      obtain rfl := Option.some.inj h
      exact ⟨_, rfl, endOk0 (y := (PV.tup [(ofV V.nil), (I64 40)])) (Wk.tup (.cons (Wk.eq mk_nil.symm) (.cons (Wk.refl _) .nil))) (ids_tup_cons (ids_V V.nil) (ids_tup_cons rfl ids_tup_nil)) ⟨rfl, rfl⟩⟩
     ·intro hc9; replace h := ocond_f hc9 h
      refine bw_skip ?_
      change BW _ _ _ _ _
      refine bR ?_
      refine sM rfl rfl rfl rfl rfl ?_
      refine sM rfl rfl rfl rfl rfl ?_
      obtain ⟨x10, hx10, h⟩ := obind h
      refine sS rfl rfl rfl (op1_idxM Try.underlying49 inf_55 rfl rfl rfl hx10 rfl) ?_
      refine sS rfl rfl rfl (op1_faP st_55 (i := 1) rfl rfl rfl) ?_
      refine sS rfl rfl rfl (op1_ldP (y := (ofV x10.2)) Try.underlying20 rfl rfl rfl rfl) ?_
      refine sA rfl rfl rfl rfl rfl ?_
      refine sA rfl rfl rfl rfl rfl (ao_nil ?_)
      change BW _ _ _ _ _
      refine bw_ret ?_
      change ∃ xs, _ = some xs ∧ EndOk _ _ _ _
      obtain rfl := Option.some.inj h
      exact ⟨_, rfl, endOk0 (y := (PV.tup [(ofV x10.2), (I64 0)])) (Wk.refl _) (ids_tup_cons (ids_V x10.2) (ids_tup_cons rfl ids_tup_nil)) ⟨rfl, rfl⟩⟩
   ·refine bw_region ?_
    refine sM rfl rfl rfl rfl rfl ?_
    refine sS rfl rfl rfl (op1_not rfl rfl) ?_
    refine sM rfl rfl rfl rfl rfl ?_
    refine ao_cases (t := 39) rfl ?_ ?_
    ·intro hb11; replace h := ocond_t hb11 h
     refine ao_no rfl rfl rfl rfl rfl rfl ?_
     refine ao_no rfl rfl rfl rfl rfl rfl ?_
     refine sS rfl rfl rfl (op1_pickT rfl rfl rfl) (ao_nil ?_)
     exact ⟨rfl, true, h, ⟨(.cons .same .nil), (sC rfl (sC rfl (sC rfl sub_nil)))⟩⟩
    ·intro hb11; replace h := ocond_f hb11 h
     refine ao_yes rfl rfl rfl rfl rfl rfl (op1_faR st_57 (i := 1) rfl rfl rfl) ?_
     refine ao_yes rfl rfl rfl rfl rfl rfl ((op1_ldR Try.underlying4 rfl rfl rfl rfl rfl)) ?_
     refine sS rfl rfl rfl (op1_pickF rfl rfl rfl) (ao_nil ?_)
     exact ⟨rfl, a1.f_At, h, ⟨(.cons .same .nil), (sC rfl (sC rfl (sC rfl sub_nil)))⟩⟩
 ·refine bw_region ?_
  refine sM rfl rfl rfl rfl rfl ?_
  refine sM rfl rfl rfl rfl rfl ?_
  refine ao_cases (t := 18) rfl ?_ ?_
  ·intro hb12; replace h := ocond_t hb12 h
   refine ao_yes rfl rfl rfl rfl rfl rfl (op1_faR st_57 (i := 1) rfl rfl rfl) ?_
   refine ao_yes rfl rfl rfl rfl rfl rfl ((op1_ldR Try.underlying4 rfl rfl rfl rfl rfl)) ?_
   refine sS rfl rfl rfl (op1_pickT rfl rfl rfl) (ao_nil ?_)
   exact ⟨rfl, a1.f_At, h, ⟨(.cons .same .nil), (sC rfl (sC rfl (sC rfl (sC rfl sub_nil))))⟩⟩
  ·intro hb12; replace h := ocond_f hb12 h
   refine ao_no rfl rfl rfl rfl rfl rfl ?_
   refine ao_no rfl rfl rfl rfl rfl rfl ?_
   refine sS rfl rfl rfl (op1_pickF rfl rfl rfl) (ao_nil ?_)
   exact ⟨rfl, false, h, ⟨(.cons .same .nil), (sC rfl (sC rfl (sC rfl (sC rfl sub_nil))))⟩⟩
noncomputable def path_get_l1b (a1 : (List S_api_Step)) (g1 : V → Nat → Option (V × Int)) (s1 : V) (s2 : Nat) : Option (V × Int) :=
 bif (decide (((s2 : Nat) : Int) < (((a1).length : Nat) : Int))) then (
  Option.bind ((a1)[s2]?) fun x5 =>
  Option.bind (p_path_one s1 x5) fun x6 =>
  bif (x6.2 != 0) then (
   some (V.nil, x6.2)
  ) else (
   g1 x6.1 (s2 + 1)
  )
 ) else (
  some (s1, 0)
 )
theorem path_get_l1b_cm {ι : Type} {ρ : ι → Type} (g1 : (∀ i, Option (ρ i)) → V → Nat → Option (V × Int)) (h_g1 : ∀ y0 y1, CM (fun G => g1 G y0 y1)) (a1 : (List S_api_Step)) (s1 : V) (s2 : Nat) : CM (fun G : (∀ i, Option (ρ i)) => path_get_l1b a1 (g1 G) s1 s2) := by
 simp only [path_get_l1b]
 repeat (first | exact cm_const | exact h_g1 _ _ | refine cm_cond ?_ ?_ | refine cm_bind ?_ (fun _ => ?_))
noncomputable def path_get_l1 (a1 : (List S_api_Step)) (s1 : V) (s2 : Nat) : Option (V × Int) :=
 fixO (ι := (V × Nat)) (ρ := fun _ => (V × Int)) (fun g i => path_get_l1b a1 (fun s1 s2 => g (s1, s2)) i.1 i.2) (s1, s2)
theorem path_get_l1_eq (a1 : (List S_api_Step)) (s1 : V) (s2 : Nat) : path_get_l1 a1 s1 s2 = path_get_l1b a1 (path_get_l1 a1) s1 s2 :=
 fixO_eq (ι := (V × Nat)) (ρ := fun _ => (V × Int)) (Φ := fun g i => path_get_l1b a1 (fun s1 s2 => g (s1, s2)) i.1 i.2) (fun i => path_get_l1b_cm (ι := (V × Nat)) (ρ := fun _ => (V × Int)) (fun g => (fun s1 s2 => g (s1, s2))) (fun _ _ => cm_app) a1 i.1 i.2) (s1, s2)
noncomputable def p_path_get (a0 : V) (a1 : (List S_api_Step)) : Option (V × Int) :=
 path_get_l1 a1 a0 0
theorem s_path_get (a0 : V) (a1 : (List S_api_Step)) (r : (V × Int)) (h : p_path_get a0 a1 = some r) : PCalls Try.prog 25 [(ofV a0), (PV.sl none 57 3 (List.map of_api_Step a1))] (PV.tup [(ofV r.1), (I64 r.2)]) := by
 unfold p_path_get at h
 refine acalls_of Try.func25 rfl Try.ntmps25 Try.results25 rfl (aw_of_bw ?_)
 change BW _ _ _ ⟨[(0, (ofV a0)), (1, (PV.sl none 57 3 (List.map of_api_Step a1)))], [], _⟩ _
 refine bR ?_
 refine sA rfl rfl rfl rfl rfl ?_
 refine sA rfl rfl rfl rfl rfl (ao_nil ?_)
 change BW _ _ _ _ _
 refine bw_seq ?_
 refine bR ?_
 refine sM rfl rfl rfl rfl rfl ?_
 refine sS rfl rfl rfl (op1_lenM Try.underlying42 rfl rfl) ?_
 refine sM rfl rfl rfl rfl rfl (ao_nil ?_)
 change BW _ _ _ _ _
 refine bw_block ?_
 change BW _ _ _ _ _
 unfold path_get_l1 at h
 refine bw_loop (σ := (V × Nat)) (fun i => [(0, (ofV i.1)), (10, (PV.sl none 57 3 (List.map of_api_Step a1))), (11, (I64 ((((a1).length : Nat) : Int)))), (12, (I64 (((i.2 : Nat) : Int))))]) (fun i => []) (a0, 0) h ?_ ?_ ?_
 ·intro i; exact ⟨Nat.le_of_ble_eq_true rfl, ⟨(il_nil (ids_V _)), ⟨(il_nil (ids_slM ids_S_api_Step _)), ⟨(il_nil rfl), ⟨(il_nil rfl), trivial⟩⟩⟩⟩, trivial⟩
 ·exact ⟨.nil, (sC rfl (sC rfl (sC rfl (sC rfl sub_nil))))⟩
 ·rintro g1_f ⟨s1, s2⟩ h; replace h : path_get_l1b a1 (fun y0 y1 => g1_f (y0, y1)) s1 s2 = some r := h; unfold path_get_l1b at h
  change BW _ _ _ ⟨[(0, (ofV s1)), (10, (PV.sl none 57 3 (List.map of_api_Step a1))), (11, (I64 ((((a1).length : Nat) : Int)))), (12, (I64 (((s2 : Nat) : Int))))], [], _⟩ _
  refine bR ?_
  refine sS rfl rfl rfl ((op1_cmp rfl rfl rfl rfl).cast (y := (BO ((decide (((s2 : Nat) : Int) < (((a1).length : Nat) : Int)))))) rfl rfl) (ao_nil ?_)
  change BW _ _ _ _ _
  refine bw_seq ?_
  refine bw_len (t := 10) rfl fun hb4 => ?_
  try rw [List.length_map] at hb4
  refine bw_cond rfl ?_ ?_
  ·intro hc3; replace h := ocond_t hc3 h
   have hc3_ := of_decide_eq_true hc3
   refine bw_skip ?_
   change BW _ _ _ _ _
   refine bw_seq ?_
   refine bw_block ?_
   change BW _ _ _ _ _
   refine bR ?_
   obtain ⟨x5, hx5, h⟩ := obind h
   refine sS rfl rfl rfl (op1_idxN (i := s2) Try.underlying42 inf_57 rfl rfl rfl hx5 rfl) ?_
   refine sS rfl rfl rfl (op1_ldPW inf_57 Try.underlying57 rfl rfl rfl rfl rfl) ?_
   refine sS rfl rfl rfl (op1_alloc inf_57 rfl) ?_
   refine ao_step0 rfl rfl (op1_store inf_57 rfl rfl rfl rfl rfl rfl (Nat.le_of_ble_eq_true rfl) rfl) ?_
   refine ao_nil ?_
   change BW _ _ _ _ _
   refine bR ?_
   refine sM rfl rfl rfl rfl rfl ?_
   refine sS rfl rfl rfl ((op1_ldRA inf_57 Try.underlying57 rfl rfl rfl rfl rfl rfl)) ?_
   obtain ⟨x6, hx6, h⟩ := obind h
   refine sS rfl rfl rfl (op1_pcall rfl en_52 rfl (.cons (Wk.refl _) (.cons (Wk.refl _) .nil)) ⟨(ids_V s1), ⟨(ids_S_api_Step x5), trivial⟩⟩ (s_path_one s1 x5 x6 hx6) (ids_tup_cons (ids_V x6.1) (ids_tup_cons rfl ids_tup_nil))) ?_
   refine sM rfl rfl rfl rfl rfl ?_
   refine sS rfl rfl rfl (op1_ext rfl rfl rfl) ?_
   refine sS rfl rfl rfl (op1_ext rfl rfl rfl) ?_
   refine sA rfl rfl rfl rfl rfl ?_
   refine sA rfl rfl rfl rfl rfl (ao_nil ?_)
   change BW _ _ _ _ _
   refine bw_seq ?_
   refine bR ?_
   refine sM rfl rfl rfl rfl rfl ?_
   refine sS rfl rfl rfl ((op1_cmp rfl rfl rfl rfl).cast (y := (BO ((x6.2 != 0)))) rfl rfl) (ao_nil ?_)
   change BW _ _ _ _ _
   refine bw_cond rfl ?_ ?_
   ·intro hc7; replace h := ocond_t hc7 h
    refine bR ?_
    refine sM rfl rfl rfl rfl rfl ?_
    refine sA rfl rfl rfl rfl rfl ?_
    refine sA rfl rfl rfl rfl rfl (ao_nil ?_)
    change BW _ _ _ _ _
    refine bw_ret ?_
    change ∃ xs, _ = some xs ∧ EndOk _ _ _ _
    obtain rfl := Option.some.inj h
    exact ⟨_, rfl, endOk0 (y := (PV.tup [(ofV V.nil), (I64 x6.2)])) (Wk.tup (.cons (Wk.eq mk_nil.symm) (.cons (Wk.refl _) .nil))) (ids_tup_cons (ids_V V.nil) (ids_tup_cons rfl ids_tup_nil)) ⟨rfl, rfl⟩⟩
   ·intro hc7; replace h := ocond_f hc7 h
    refine bw_skip ?_
    change BW _ _ _ _ _
    refine bw_region ?_
    refine sM rfl rfl rfl rfl rfl ?_
    refine sA rfl rfl rfl rfl rfl (ao_nil ?_)
    change BW _ _ _ _ _
    refine bw_region ?_
    refine sS rfl rfl rfl (op1_incN (k := s2) (c := 1) rfl rfl rfl (by omega)) ?_
    refine sM rfl rfl rfl rfl rfl (ao_nil ?_)
    exact ⟨rfl, (x6.1, (s2 + 1)), h, ⟨.nil, (sC rfl (sC rfl (sC rfl (sC rfl sub_nil))))⟩⟩
  ·intro hc3; replace h := ocond_f hc3 h
   refine bw_exit ?_
   change BW _ _ _ _ _
   refine bR ?_
   refine sM rfl rfl rfl rfl rfl ?_
   refine sA rfl rfl rfl rfl rfl ?_
   refine sA rfl rfl rfl rfl rfl (ao_nil ?_)
   change BW _ _ _ _ _
   refine bw_ret ?_
   change ∃ xs, _ = some xs ∧ EndOk _ _ _ _
   obtain rfl := Option.some.inj h
   exact ⟨_, rfl, endOk0 (y := (PV.tup [(ofV s1), (I64 0)])) (Wk.refl _) (ids_tup_cons (ids_V s1) (ids_tup_cons rfl ids_tup_nil)) ⟨rfl, rfl⟩⟩
noncomputable def p_path_Get (a0 : V) (a1 : (List S_api_Step)) : Option (V × Int) :=
 Option.bind (p_path_begin a0 a1) fun x1 =>
 bif (x1 != 0) then (
  some (V.nil, x1)
 ) else (
  Option.bind (p_path_get a0 a1) fun x3 =>
  bif (x3.2 != 0) then (
   some (V.nil, x3.2)
  ) else (
   Option.bind (p_value_Copy x3.1) fun x5 =>
   some (x5.1, x5.2)
  )
 )
theorem s_path_Get (a0 : V) (a1 : (List S_api_Step)) (r : (V × Int)) (h : p_path_Get a0 a1 = some r) : PCalls Try.prog 15 [(ofV a0), (PV.sl none 57 3 (List.map of_api_Step a1))] (PV.tup [(ofV r.1), (I64 r.2)]) := by
 unfold p_path_Get at h
 refine acalls_of Try.func15 rfl Try.ntmps15 Try.results15 rfl (aw_of_bw ?_)
 change BW _ _ _ ⟨[(0, (ofV a0)), (1, (PV.sl none 57 3 (List.map of_api_Step a1)))], [], _⟩ _
 refine bR ?_
 refine sA rfl rfl rfl rfl rfl ?_
 refine sA rfl rfl rfl rfl rfl (ao_nil ?_)
 change BW _ _ _ _ _
 refine bw_seq ?_
 refine bR ?_
 refine sM rfl rfl rfl rfl rfl ?_
 refine sM rfl rfl rfl rfl rfl ?_
 obtain ⟨x1, hx1, h⟩ := obind h
 refine sS rfl rfl rfl (op1_pcall rfl en_24 rfl (.cons (Wk.refl _) (.cons (Wk.refl _) .nil)) ⟨(ids_V a0), ⟨(ids_slM ids_S_api_Step a1), trivial⟩⟩ (s_path_begin a0 a1 x1 hx1) rfl) ?_
 refine sA rfl rfl rfl rfl rfl (ao_nil ?_)
 change BW _ _ _ _ _
 refine bR ?_
 refine sM rfl rfl rfl rfl rfl ?_
 refine sS rfl rfl rfl ((op1_cmp rfl rfl rfl rfl).cast (y := (BO ((x1 != 0)))) rfl rfl) (ao_nil ?_)
 change BW _ _ _ _ _
 refine bw_cond rfl ?_ ?_
 ·intro hc2; replace h := ocond_t hc2 h
  refine bR ?_
  refine sM rfl rfl rfl rfl rfl ?_
  refine sA rfl rfl rfl rfl rfl ?_
  refine sA rfl rfl rfl rfl rfl (ao_nil ?_)
  change BW _ _ _ _ _
  refine bw_ret ?_
  change ∃ xs, _ = some xs ∧ EndOk _ _ _ _
  obtain rfl := Option.some.inj h
  exact ⟨_, rfl, endOk0 (y := (PV.tup [(ofV V.nil), (I64 x1)])) (Wk.tup (.cons (Wk.eq mk_nil.symm) (.cons (Wk.refl _) .nil))) (ids_tup_cons (ids_V V.nil) (ids_tup_cons rfl ids_tup_nil)) ⟨rfl, rfl⟩⟩
 ·intro hc2; replace h := ocond_f hc2 h
  refine bw_skip ?_
  change BW _ _ _ _ _
  refine bR ?_
  refine sM rfl rfl rfl rfl rfl ?_
  refine sM rfl rfl rfl rfl rfl ?_
  obtain ⟨x3, hx3, h⟩ := obind h
  refine sS rfl rfl rfl (op1_pcall rfl en_25 rfl (.cons (Wk.refl _) (.cons (Wk.refl _) .nil)) ⟨(ids_V a0), ⟨(ids_slM ids_S_api_Step a1), trivial⟩⟩ (s_path_get a0 a1 x3 hx3) (ids_tup_cons (ids_V x3.1) (ids_tup_cons rfl ids_tup_nil))) ?_
  refine sM rfl rfl rfl rfl rfl ?_
  refine sS rfl rfl rfl (op1_ext rfl rfl rfl) ?_
  refine sS rfl rfl rfl (op1_ext rfl rfl rfl) ?_
  refine sA rfl rfl rfl rfl rfl ?_
  refine sA rfl rfl rfl rfl rfl (ao_nil ?_)
  change BW _ _ _ _ _
  refine bw_seq ?_
  refine bR ?_
  refine sM rfl rfl rfl rfl rfl ?_
  refine sS rfl rfl rfl ((op1_cmp rfl rfl rfl rfl).cast (y := (BO ((x3.2 != 0)))) rfl rfl) (ao_nil ?_)
  change BW _ _ _ _ _
  refine bw_cond rfl ?_ ?_
  ·intro hc4; replace h := ocond_t hc4 h
   refine bR ?_
   refine sM rfl rfl rfl rfl rfl ?_
   refine sA rfl rfl rfl rfl rfl ?_
   refine sA rfl rfl rfl rfl rfl (ao_nil ?_)
   change BW _ _ _ _ _
   refine bw_ret ?_
   change ∃ xs, _ = some xs ∧ EndOk _ _ _ _
   obtain rfl := Option.some.inj h
   exact ⟨_, rfl, endOk0 (y := (PV.tup [(ofV V.nil), (I64 x3.2)])) (Wk.tup (.cons (Wk.eq mk_nil.symm) (.cons (Wk.refl _) .nil))) (ids_tup_cons (ids_V V.nil) (ids_tup_cons rfl ids_tup_nil)) ⟨rfl, rfl⟩⟩
  ·intro hc4; replace h := ocond_f hc4 h
   refine bw_skip ?_
   change BW _ _ _ _ _
   refine bR ?_
   refine sM rfl rfl rfl rfl rfl ?_
   obtain ⟨x5, hx5, h⟩ := obind h
   refine sS rfl rfl rfl (op1_pcall rfl en_26 rfl (.cons (Wk.refl _) .nil) ⟨(ids_V x3.1), trivial⟩ (s_value_Copy x3.1 x5 hx5) (ids_tup_cons (ids_V x5.1) (ids_tup_cons rfl ids_tup_nil))) ?_
   refine sS rfl rfl rfl (op1_ext rfl rfl rfl) ?_
   refine sS rfl rfl rfl (op1_ext rfl rfl rfl) ?_
   refine sA rfl rfl rfl rfl rfl ?_
   refine sA rfl rfl rfl rfl rfl (ao_nil ?_)
   change BW _ _ _ _ _
   refine bw_ret ?_
   change ∃ xs, _ = some xs ∧ EndOk _ _ _ _
   obtain rfl := Option.some.inj h
   exact ⟨_, rfl, endOk0 (y := (PV.tup [(ofV x5.1), (I64 x5.2)])) (Wk.refl _) (ids_tup_cons (ids_V x5.1) (ids_tup_cons rfl ids_tup_nil)) ⟨rfl, rfl⟩⟩
noncomputable def law24_MergeMade_1_j1 (s4 : Bool) : Option (Int × Bool) :=
 some (0, s4)
noncomputable def p_law24_MergeMade_1 (a0 : (List S_api_Step)) (a1 : V) (a2 : V) (a3 : V) (a4 : Bool) : Option (Int × Bool) :=
 bif (bif (a1).isList then true else (bif (a1).isDict then true else (a1).isRec)) then (
  some (0, a4)
 ) else (
  Option.bind (p_path_Get a2 a0) fun x2 =>
  Option.bind (p_path_Get a3 a0) fun x3 =>
  bif a4 then (
   bif (x2.2 == 0) then (
    Option.bind (p_value_Same x2.1 a1) fun x7 =>
    bif x7 then (
     law24_MergeMade_1_j1 true
    ) else (
     bif (x3.2 == 0) then (
      Option.bind (p_value_Same x3.1 a1) fun x10 =>
      law24_MergeMade_1_j1 x10
     ) else (
      law24_MergeMade_1_j1 false
     )
    )
   ) else (
    bif (x3.2 == 0) then (
     Option.bind (p_value_Same x3.1 a1) fun x12 =>
     law24_MergeMade_1_j1 x12
    ) else (
     law24_MergeMade_1_j1 false
    )
   )
  ) else (
   law24_MergeMade_1_j1 false
  )
 )
theorem s_law24_MergeMade_1 (a0 : (List S_api_Step)) (a1 : V) (a2 : V) (a3 : V) (a4 : Bool) (r : (Int × Bool)) (h : p_law24_MergeMade_1 a0 a1 a2 a3 a4 = some r) : MCalls Try.prog 14 [(PV.sl none 57 3 (List.map of_api_Step a0)), (ofV a1), (PV.pt 20 (ofV a2) 0), (PV.pt 20 (ofV a3) 0), (PV.rf 0 0)] [.box 4 [(BO a4)]] (I64 r.1) [.box 4 [(BO r.2)]] := by
 unfold p_law24_MergeMade_1 at h
 refine acalls_of Try.func14 rfl Try.ntmps14 Try.results14 rfl (aw_of_bw ?_)
 change BW _ _ _ ⟨[(0, (PV.sl none 57 3 (List.map of_api_Step a0))), (1, (ofV a1)), (2, (PV.pt 20 (ofV a2) 0)), (3, (PV.pt 20 (ofV a3) 0)), (4, (PV.rf 0 0))], [.box 4 [(BO a4)]], _⟩ _
 refine bR ?_
 refine sA rfl rfl rfl rfl rfl (ao_nil ?_)
 change BW _ _ _ _ _
 refine bw_seq ?_
 refine bR ?_
 refine sM rfl rfl rfl rfl rfl (ao_nil ?_)
 change BW _ _ _ _ _
 refine bw_block ?_
 change BW _ _ _ _ _
 refine bR ?_
 refine sS rfl rfl rfl (op1_taList rfl rfl) ?_
 refine sS rfl rfl rfl (op1_ext rfl rfl rfl) ?_
 refine sS rfl rfl rfl (op1_ext rfl rfl rfl) ?_
 refine sS rfl rfl rfl (op1_taDict rfl rfl) ?_
 refine sS rfl rfl rfl (op1_ext rfl rfl rfl) ?_
 refine sS rfl rfl rfl (op1_ext rfl rfl rfl) ?_
 refine sS rfl rfl rfl (op1_taRec rfl rfl) ?_
 refine sS rfl rfl rfl (op1_ext rfl rfl rfl) ?_
 refine sS rfl rfl rfl (op1_ext rfl rfl rfl) ?_
 refine sS rfl rfl rfl (op1_pickB rfl rfl rfl rfl) ?_
 refine sS rfl rfl rfl (op1_pickB rfl rfl rfl rfl) (ao_nil ?_)
 change BW _ _ _ _ _
 refine bw_cond rfl ?_ ?_
 ·intro hc1; replace h := ocond_t hc1 h
  refine bR ?_
  refine sA rfl rfl rfl rfl rfl (ao_nil ?_)
  change BW _ _ _ _ _
  refine bw_ret ?_
  change ∃ xs, _ = some xs ∧ EndOk _ _ _ _
  obtain rfl := Option.some.inj h
  exact ⟨_, rfl, endR (y := (I64 0)) 1 (Wk.refl _) rfl rfl (.same rfl) (.cons (.box (.cons (.same rfl) .nil)) .nil) ⟨rfl, rfl⟩⟩
 ·intro hc1; replace h := ocond_f hc1 h
  refine bw_skip ?_
  change BW _ _ _ _ _
  refine bR ?_
  refine sS rfl rfl rfl (op1_ldP (y := (ofV a2)) Try.underlying20 rfl rfl rfl (by rw [cells_V]; rfl)) ?_
  refine sM rfl rfl rfl rfl rfl ?_
  obtain ⟨x2, hx2, h⟩ := obind h
  refine sS rfl rfl rfl (op1_pcall rfl en_15 rfl (.cons (Wk.refl _) (.cons (Wk.refl _) .nil)) ⟨(ids_V a2), ⟨(ids_slM ids_S_api_Step a0), trivial⟩⟩ (s_path_Get a2 a0 x2 hx2) (ids_tup_cons (ids_V x2.1) (ids_tup_cons rfl ids_tup_nil))) ?_
  refine sM rfl rfl rfl rfl rfl ?_
  refine sS rfl rfl rfl (op1_ext rfl rfl rfl) ?_
  refine sS rfl rfl rfl (op1_ext rfl rfl rfl) ?_
  refine sA rfl rfl rfl rfl rfl ?_
  refine sA rfl rfl rfl rfl rfl (ao_nil ?_)
  change BW _ _ _ _ _
  refine bR ?_
  refine sS rfl rfl rfl (op1_ldP (y := (ofV a3)) Try.underlying20 rfl rfl rfl (by rw [cells_V]; rfl)) ?_
  refine sM rfl rfl rfl rfl rfl ?_
  obtain ⟨x3, hx3, h⟩ := obind h
  refine sS rfl rfl rfl (op1_pcall rfl en_15 rfl (.cons (Wk.refl _) (.cons (Wk.refl _) .nil)) ⟨(ids_V a3), ⟨(ids_slM ids_S_api_Step a0), trivial⟩⟩ (s_path_Get a3 a0 x3 hx3) (ids_tup_cons (ids_V x3.1) (ids_tup_cons rfl ids_tup_nil))) ?_
  refine sM rfl rfl rfl rfl rfl ?_
  refine sS rfl rfl rfl (op1_ext rfl rfl rfl) ?_
  refine sS rfl rfl rfl (op1_ext rfl rfl rfl) ?_
  refine sA rfl rfl rfl rfl rfl ?_
  refine sA rfl rfl rfl rfl rfl (ao_nil ?_)
  change BW _ _ _ _ _
  refine bw_seqJ (ι := Bool) (fun i => law24_MergeMade_1_j1 i = some r) (fun i => [(4, (PV.rf 0 0))]) (fun i => [.box 4 [(BO i)]]) ?_ ?_ ?_
  ·intro i; exact ⟨Nat.le_of_ble_eq_true rfl, ⟨(il_rf rfl), trivial⟩, ⟨⟨(il_nil rfl), trivial⟩, trivial⟩⟩
  ·rintro s4 h; replace h : law24_MergeMade_1_j1 s4 = some r := h; unfold law24_MergeMade_1_j1 at h
   change BW _ _ _ ⟨[(4, (PV.rf 0 0))], [.box 4 [(BO s4)]], _⟩ _
   refine bR ?_
   refine sA rfl rfl rfl rfl rfl (ao_nil ?_)
   change BW _ _ _ _ _
   refine bw_ret ?_
   change ∃ xs, _ = some xs ∧ EndOk _ _ _ _
   obtain rfl := Option.some.inj h
   exact ⟨_, rfl, endR (y := (I64 0)) 1 (Wk.refl _) rfl rfl (.same rfl) (.cons (.box (.cons (.same rfl) .nil)) .nil) ⟨rfl, rfl⟩⟩
  ·refine bw_region ?_
   refine sS rfl rfl rfl ((op1_ldR Try.underlying4 rfl rfl rfl rfl rfl)) ?_
   refine sM rfl rfl rfl rfl rfl ?_
   refine ao_cases (t := 37) rfl ?_ ?_
   ·intro hb5; replace h := ocond_t hb5 h
    refine ao_yes rfl rfl rfl rfl rfl rfl (op1_move rfl rfl) ?_
    refine ao_yes rfl rfl rfl rfl rfl rfl ((op1_cmp rfl rfl rfl rfl).cast (y := (BO ((x2.2 == 0)))) rfl rfl) ?_
    refine ao_yes rfl rfl rfl rfl rfl rfl (op1_move rfl rfl) ?_
    refine ao_cases (t := 40) rfl ?_ ?_
    ·intro hb6; replace h := ocond_t hb6 h
     refine ao_yes rfl rfl rfl rfl rfl rfl (op1_move rfl rfl) ?_
     refine ao_yes rfl rfl rfl rfl rfl rfl (op1_move rfl rfl) ?_
     obtain ⟨x7, hx7, h⟩ := obind h
     refine ao_yes rfl rfl rfl rfl rfl rfl (op1_pcall rfl en_10 rfl (.cons (Wk.refl _) (.cons (Wk.refl _) .nil)) ⟨(ids_V x2.1), ⟨(ids_V a1), trivial⟩⟩ (s_value_Same x2.1 a1 x7 hx7) rfl) ?_
     refine ao_yes rfl rfl rfl rfl rfl rfl (op1_pickT rfl rfl rfl) ?_
     refine ao_yes rfl rfl rfl rfl rfl rfl (op1_move rfl rfl) ?_
     refine ao_cases (t := 45) rfl ?_ ?_
     ·intro hb8; replace h := ocond_t hb8 h
      refine ao_no rfl rfl rfl rfl rfl rfl ?_
      refine ao_no rfl rfl rfl rfl rfl rfl ?_
      refine ao_no rfl rfl rfl rfl rfl rfl ?_
      refine ao_no rfl rfl rfl rfl rfl rfl ?_
      refine ao_no rfl rfl rfl rfl rfl rfl ?_
      refine ao_no rfl rfl rfl rfl rfl rfl ?_
      refine ao_no rfl rfl rfl rfl rfl rfl ?_
      refine ao_yes rfl rfl rfl rfl rfl rfl (op1_pickT rfl rfl rfl) ?_
      refine sS rfl rfl rfl (op1_pickT rfl rfl rfl) ?_
      refine ao_step0 rfl rfl (op1_store inf_4 rfl rfl rfl rfl rfl rfl (Nat.le_of_ble_eq_true rfl) rfl) ?_
      refine ao_nil ?_
      exact ⟨rfl, true, h, ⟨(.cons .same .nil), (sC rfl sub_nil)⟩⟩
     ·intro hb8; replace h := ocond_f hb8 h
      refine ao_yes rfl rfl rfl rfl rfl rfl (op1_move rfl rfl) ?_
      refine ao_yes rfl rfl rfl rfl rfl rfl ((op1_cmp rfl rfl rfl rfl).cast (y := (BO ((x3.2 == 0)))) rfl rfl) ?_
      refine ao_yes rfl rfl rfl rfl rfl rfl (op1_move rfl rfl) ?_
      refine ao_cases (t := 48) rfl ?_ ?_
      ·intro hb9; replace h := ocond_t hb9 h
       refine ao_yes rfl rfl rfl rfl rfl rfl (op1_move rfl rfl) ?_
       refine ao_yes rfl rfl rfl rfl rfl rfl (op1_move rfl rfl) ?_
       obtain ⟨x10, hx10, h⟩ := obind h
       refine ao_yes rfl rfl rfl rfl rfl rfl (op1_pcall rfl en_10 rfl (.cons (Wk.refl _) (.cons (Wk.refl _) .nil)) ⟨(ids_V x3.1), ⟨(ids_V a1), trivial⟩⟩ (s_value_Same x3.1 a1 x10 hx10) rfl) ?_
       refine ao_yes rfl rfl rfl rfl rfl rfl (op1_pickT rfl rfl rfl) ?_
       refine ao_yes rfl rfl rfl rfl rfl rfl (op1_pickF rfl rfl rfl) ?_
       refine sS rfl rfl rfl (op1_pickT rfl rfl rfl) ?_
       refine ao_step0 rfl rfl (op1_store inf_4 rfl rfl rfl rfl rfl rfl (Nat.le_of_ble_eq_true rfl) rfl) ?_
       refine ao_nil ?_
       exact ⟨rfl, x10, h, ⟨(.cons .same .nil), (sC rfl sub_nil)⟩⟩
      ·intro hb9; replace h := ocond_f hb9 h
       refine ao_no rfl rfl rfl rfl rfl rfl ?_
       refine ao_no rfl rfl rfl rfl rfl rfl ?_
       refine ao_no rfl rfl rfl rfl rfl rfl ?_
       refine ao_yes rfl rfl rfl rfl rfl rfl (op1_pickF rfl rfl rfl) ?_
       refine ao_yes rfl rfl rfl rfl rfl rfl (op1_pickF rfl rfl rfl) ?_
       refine sS rfl rfl rfl (op1_pickT rfl rfl rfl) ?_
       refine ao_step0 rfl rfl (op1_store inf_4 rfl rfl rfl rfl rfl rfl (Nat.le_of_ble_eq_true rfl) rfl) ?_
       refine ao_nil ?_
       exact ⟨rfl, false, h, ⟨(.cons .same .nil), (sC rfl sub_nil)⟩⟩
    ·intro hb6; replace h := ocond_f hb6 h
     refine ao_no rfl rfl rfl rfl rfl rfl ?_
     refine ao_no rfl rfl rfl rfl rfl rfl ?_
     refine ao_no rfl rfl rfl rfl rfl rfl ?_
     refine ao_yes rfl rfl rfl rfl rfl rfl (op1_pickF rfl rfl rfl) ?_
     refine ao_yes rfl rfl rfl rfl rfl rfl (op1_move rfl rfl) ?_
     refine ao_yes rfl rfl rfl rfl rfl rfl (op1_move rfl rfl) ?_
     refine ao_yes rfl rfl rfl rfl rfl rfl ((op1_cmp rfl rfl rfl rfl).cast (y := (BO ((x3.2 == 0)))) rfl rfl) ?_
     refine ao_yes rfl rfl rfl rfl rfl rfl (op1_move rfl rfl) ?_
     refine ao_cases (t := 48) rfl ?_ ?_
     ·intro hb11; replace h := ocond_t hb11 h
      refine ao_yes rfl rfl rfl rfl rfl rfl (op1_move rfl rfl) ?_
      refine ao_yes rfl rfl rfl rfl rfl rfl (op1_move rfl rfl) ?_
      obtain ⟨x12, hx12, h⟩ := obind h
      refine ao_yes rfl rfl rfl rfl rfl rfl (op1_pcall rfl en_10 rfl (.cons (Wk.refl _) (.cons (Wk.refl _) .nil)) ⟨(ids_V x3.1), ⟨(ids_V a1), trivial⟩⟩ (s_value_Same x3.1 a1 x12 hx12) rfl) ?_
      refine ao_yes rfl rfl rfl rfl rfl rfl (op1_pickT rfl rfl rfl) ?_
      refine ao_yes rfl rfl rfl rfl rfl rfl (op1_pickF rfl rfl rfl) ?_
      refine sS rfl rfl rfl (op1_pickT rfl rfl rfl) ?_
      refine ao_step0 rfl rfl (op1_store inf_4 rfl rfl rfl rfl rfl rfl (Nat.le_of_ble_eq_true rfl) rfl) ?_
      refine ao_nil ?_
      exact ⟨rfl, x12, h, ⟨(.cons .same .nil), (sC rfl sub_nil)⟩⟩
     ·intro hb11; replace h := ocond_f hb11 h
      refine ao_no rfl rfl rfl rfl rfl rfl ?_
      refine ao_no rfl rfl rfl rfl rfl rfl ?_
      refine ao_no rfl rfl rfl rfl rfl rfl ?_
      refine ao_yes rfl rfl rfl rfl rfl rfl (op1_pickF rfl rfl rfl) ?_
      refine ao_yes rfl rfl rfl rfl rfl rfl (op1_pickF rfl rfl rfl) ?_
      refine sS rfl rfl rfl (op1_pickT rfl rfl rfl) ?_
      refine ao_step0 rfl rfl (op1_store inf_4 rfl rfl rfl rfl rfl rfl (Nat.le_of_ble_eq_true rfl) rfl) ?_
      refine ao_nil ?_
      exact ⟨rfl, false, h, ⟨(.cons .same .nil), (sC rfl sub_nil)⟩⟩
   ·intro hb5; replace h := ocond_f hb5 h
    refine ao_no rfl rfl rfl rfl rfl rfl ?_
    refine ao_no rfl rfl rfl rfl rfl rfl ?_
    refine ao_no rfl rfl rfl rfl rfl rfl ?_
    refine ao_no rfl rfl rfl rfl rfl rfl ?_
    refine ao_no rfl rfl rfl rfl rfl rfl ?_
    refine ao_no rfl rfl rfl rfl rfl rfl ?_
    refine ao_no rfl rfl rfl rfl rfl rfl ?_
    refine ao_no rfl rfl rfl rfl rfl rfl ?_
    refine ao_no rfl rfl rfl rfl rfl rfl ?_
    refine ao_no rfl rfl rfl rfl rfl rfl ?_
    refine ao_no rfl rfl rfl rfl rfl rfl ?_
    refine ao_no rfl rfl rfl rfl rfl rfl ?_
    refine ao_no rfl rfl rfl rfl rfl rfl ?_
    refine ao_no rfl rfl rfl rfl rfl rfl ?_
    refine ao_no rfl rfl rfl rfl rfl rfl ?_
    refine ao_no rfl rfl rfl rfl rfl rfl ?_
    refine sS rfl rfl rfl (op1_pickF rfl rfl rfl) ?_
    refine ao_step0 rfl rfl (op1_store inf_4 rfl rfl rfl rfl rfl rfl (Nat.le_of_ble_eq_true rfl) rfl) ?_
    refine ao_nil ?_
    exact ⟨rfl, false, h, ⟨(.cons .same .nil), (sC rfl sub_nil)⟩⟩
noncomputable def p_path_walk_1 (a0c0 : V) (a0c1 : V) (a0c2 : Bool) (a1 : (List S_api_Step)) (a2 : V) (a3 : Int) : Option (Bool × Int) :=
 Option.bind (p_slices_Clone_api_Step_api_Step a1) fun x1 =>
 Option.bind (p_path_shown a2) fun x2 =>
 Option.bind (p_law24_MergeMade_1 x1 x2 a0c0 a0c1 a0c2) fun x3 =>
 some (x3.2, x3.1)
theorem s_path_walk_1 (a0c0 : V) (a0c1 : V) (a0c2 : Bool) (a1 : (List S_api_Step)) (a2 : V) (a3 : Int) (r : (Bool × Int)) (h : p_path_walk_1 a0c0 a0c1 a0c2 a1 a2 a3 = some r) : MCalls Try.prog 45 [(PV.rf 0 0), (PV.pt 42 (PV.sl none 57 3 (List.map of_api_Step a1)) 0), (PV.pt 20 (ofV a2) 0), (PV.rf 2 0)] [.box 53 [(PV.fn (.func 14) [] [(PV.pt 20 (ofV a0c0) 0), (PV.pt 20 (ofV a0c1) 0), (PV.rf 1 0)])], .box 4 [(BO a0c2)], .box 3 [(I64 a3)]] (PV.tup []) [.box 53 [(PV.fn (.func 14) [] [(PV.pt 20 (ofV a0c0) 0), (PV.pt 20 (ofV a0c1) 0), (PV.rf 1 0)])], .box 4 [(BO r.1)], .box 3 [(I64 r.2)]] := by
 unfold p_path_walk_1 at h
 refine acalls_of Try.func45 rfl Try.ntmps45 Try.results45 rfl (aw_of_bw ?_)
 change BW _ _ _ ⟨[(0, (PV.rf 0 0)), (1, (PV.pt 42 (PV.sl none 57 3 (List.map of_api_Step a1)) 0)), (2, (PV.pt 20 (ofV a2) 0)), (3, (PV.rf 2 0))], [.box 53 [(PV.fn (.func 14) [] [(PV.pt 20 (ofV a0c0) 0), (PV.pt 20 (ofV a0c1) 0), (PV.rf 1 0)])], .box 4 [(BO a0c2)], .box 3 [(I64 a3)]], _⟩ _
 refine bw_tail 5 [] [0] mo (by kernel_rfl) ?_
 refine ac_go rfl rfl rfl rfl (fun H hp => (op1_ldR Try.underlying53 rfl rfl rfl (hp.at rfl rfl) rfl)) ?_
 refine ac_go rfl rfl rfl rfl (fun H hp => op1_ldP (y := (PV.sl none 57 3 (List.map of_api_Step a1))) Try.underlying42 rfl rfl rfl rfl) ?_
 obtain ⟨x1, hx1, h⟩ := obind h
 refine ac_go rfl rfl rfl rfl (fun H hp => op1_pcall rfl en_46 rfl (.cons (Wk.refl _) .nil) ⟨(ids_slM ids_S_api_Step a1), trivial⟩ (s_slices_Clone_api_Step_api_Step a1 x1 hx1) (ids_slM ids_S_api_Step x1)) ?_
 refine ac_go rfl rfl rfl rfl (fun H hp => op1_ldP (y := (ofV a2)) Try.underlying20 rfl rfl rfl (by rw [cells_V]; rfl)) ?_
 obtain ⟨x2, hx2, h⟩ := obind h
 refine ac_go rfl rfl rfl rfl (fun H hp => op1_pcall rfl en_47 rfl (.cons (Wk.refl _) .nil) ⟨(ids_V a2), trivial⟩ (s_path_shown a2 x2 hx2) (ids_V x2)) ?_
 refine ac_nil ?_
 change AO _ _ _ _ _
 obtain ⟨x3, hx3, h⟩ := obind h
 refine sS rfl rfl rfl (Op1.cast (y := (I64 x3.1)) (H'' := [.box 53 [(PV.fn (.func 14) [] [(PV.pt 20 (ofV a0c0) 0), (PV.pt 20 (ofV a0c1) 0), (PV.rf 1 0)])], .box 4 [(BO x3.2)], .box 3 [(I64 a3)]]) (op1_mcall [1] (.held rfl rfl) en_14 rfl (.cons (Wk.refl _) (.cons (Wk.refl _) (.cons (Wk.refl _) (.cons (Wk.refl _) (.cons (Wk.refl _) .nil))))) rfl (.cons rfl (.box (.cons (.same rfl) .nil)) .nil) (.cons (.same (ids_slM ids_S_api_Step x1)) (.cons (.same (ids_V x2)) (.cons (.same (ids_ptC (ids_V a0c0))) (.cons (.same (ids_ptC (ids_V a0c1))) (.cons (.rf rfl) .nil))))) (s_law24_MergeMade_1 x1 x2 a0c0 a0c1 a0c2 x3 hx3) (.same rfl) (.cons (.box (.cons (.same rfl) .nil)) .nil) rfl) rfl rfl) ?_
 refine ao_step0 rfl rfl (op1_store inf_3 rfl rfl rfl rfl rfl rfl (Nat.le_of_ble_eq_true rfl) rfl) ?_
 refine ao_nil ?_
 change ∃ xs, _ = some xs ∧ EndOk _ _ _ _
 obtain rfl := Option.some.inj h
 exact ⟨_, rfl, endR (y := (PV.tup [])) 3 (Wk.refl _) rfl rfl (.tup .nil) (.cons (.box (.cons (.fn (.cons (.same (ids_ptC (ids_V _))) (.cons (.same (ids_ptC (ids_V _))) (.cons (.rf rfl) .nil)))) .nil)) (.cons (.box (.cons (.same rfl) .nil)) (.cons (.box (.cons (.same rfl) .nil)) .nil))) ⟨rfl, rfl⟩⟩
noncomputable def p_path_caught_1_ret (a0 : Bool) : Option Bool :=
 bif a0 then (
  none
 ) else (
  some a0
 )
theorem s_path_caught_1_ret (a0 : Bool) (r : Bool) (h : p_path_caught_1_ret a0 = some r) : DCalls Try.prog 62 [(PV.rf 0 0)] [.box 4 [(BO a0)]] .ret (fun H' => H' = [.box 4 [(BO r)]]) := by
 unfold p_path_caught_1_ret at h
 refine dcalls_plain Try.func62 rfl Try.ntmps62 rfl rfl (aw_of_bw ?_)
 change BW _ _ _ ⟨[(0, (PV.rf 0 0))], [.box 4 [(BO a0)]], _⟩ _
 refine bR ?_
 refine sS rfl rfl rfl ((op1_ldR Try.underlying4 rfl rfl rfl rfl rfl)) (ao_nil ?_)
 change BW _ _ _ _ _
 refine bw_cond rfl ?_ ?_
 ·intro hc1; replace h := ocond_t hc1 h
  refine bw_region ?_
  cases h
 ·intro hc1; replace h := ocond_f hc1 h
  refine bw_skip ?_
  change ∃ xs, _ = some xs ∧ EndOk _ _ _ _
  obtain rfl := Option.some.inj h
  exact ⟨_, rfl, endR (y := (PV.tup [])) 1 (Wk.refl _) rfl rfl (.tup .nil) (.cons (.box (.cons (.same rfl) .nil)) .nil) ⟨rfl, rfl⟩⟩
noncomputable def p_path_caught_path_walk_1 (a0c0c0 : V) (a0c0c1 : V) (a0c0c2 : Bool) (a0c1 : (List S_api_Step)) (a0c2 : V) (a0c3 : Int) : Option (Bool × Bool × Int) :=
 Option.bind (p_path_walk_1 a0c0c0 a0c0c1 a0c0c2 a0c1 a0c2 a0c3) fun x1 =>
 Option.bind (p_path_caught_1_ret false) fun x2 =>
 some (x2, x1.1, x1.2)
theorem s_path_caught_path_walk_1 (a0c0c0 : V) (a0c0c1 : V) (a0c0c2 : Bool) (a0c1 : (List S_api_Step)) (a0c2 : V) (a0c3 : Int) (r : (Bool × Bool × Int)) (h : p_path_caught_path_walk_1 a0c0c0 a0c0c1 a0c0c2 a0c1 a0c2 a0c3 = some r) : MCalls Try.prog 44 [(PV.fn (.func 45) [] [(PV.rf 0 0), (PV.pt 42 (PV.sl none 57 3 (List.map of_api_Step a0c1)) 0), (PV.pt 20 (ofV a0c2) 0), (PV.rf 2 0)])] [.box 53 [(PV.fn (.func 14) [] [(PV.pt 20 (ofV a0c0c0) 0), (PV.pt 20 (ofV a0c0c1) 0), (PV.rf 1 0)])], .box 4 [(BO a0c0c2)], .box 3 [(I64 a0c3)]] (BO r.1) [.box 53 [(PV.fn (.func 14) [] [(PV.pt 20 (ofV a0c0c0) 0), (PV.pt 20 (ofV a0c0c1) 0), (PV.rf 1 0)])], .box 4 [(BO r.2.1)], .box 3 [(I64 r.2.2)]] := by
 unfold p_path_caught_path_walk_1 at h
 refine acalls_of_dw Try.func44 rfl Try.ntmps44 rfl ?_
 change DW _ _ _ _ _ ⟨[(0, (PV.fn (.func 45) [] [(PV.rf 0 0), (PV.pt 42 (PV.sl none 57 3 (List.map of_api_Step a0c1)) 0), (PV.pt 20 (ofV a0c2) 0), (PV.rf 2 0)]))], [.box 53 [(PV.fn (.func 14) [] [(PV.pt 20 (ofV a0c0c0) 0), (PV.pt 20 (ofV a0c0c1) 0), (PV.rf 1 0)])], .box 4 [(BO a0c0c2)], .box 3 [(I64 a0c3)]], _⟩ _
 refine dw_seq ?_
 change BW _ _ _ _ _
 refine bw_region ?_
 refine sS rfl rfl rfl (op1_alloc inf_4 rfl) (ao_nil ?_)
 change DW _ _ _ _ _ _ _
 refine dw_seq ?_
 change BW _ _ _ _ _
 refine bw_region ?_
 refine ao_step0 rfl rfl (op1_store inf_4 rfl rfl rfl rfl rfl rfl (Nat.le_of_ble_eq_true rfl) rfl) ?_
 refine ao_nil ?_
 change DW _ _ _ _ _ _ _
 refine dw_defer (caps := [.tmp 2]) rfl rfl rfl rfl rfl rfl rfl rfl ?_
 refine dw_end en_62 Try.results44 ?_
 change BW _ _ _ _ _
 refine bR ?_
 refine sM rfl rfl rfl rfl rfl ?_
 obtain ⟨x1, hx1, h⟩ := obind h
 refine sS rfl rfl rfl (Op1.cast (y := (PV.tup [])) (H'' := [.box 53 [(PV.fn (.func 14) [] [(PV.pt 20 (ofV a0c0c0) 0), (PV.pt 20 (ofV a0c0c1) 0), (PV.rf 1 0)])], .box 4 [(BO x1.1)], .box 3 [(I64 x1.2)], .box 4 [(BO true)]]) (op1_mcall [0, 1, 2] (.held rfl rfl) en_45 rfl (.cons (Wk.refl _) (.cons (Wk.refl _) (.cons (Wk.refl _) (.cons (Wk.refl _) .nil)))) rfl (.cons rfl (.box (.cons (.fn (.cons (.same (ids_ptC (ids_V _))) (.cons (.same (ids_ptC (ids_V _))) (.cons (.rf rfl) .nil)))) .nil)) (.cons rfl (.box (.cons (.same rfl) .nil)) (.cons rfl (.box (.cons (.same rfl) .nil)) .nil))) (.cons (.rf rfl) (.cons (.same (ids_ptC (ids_slM ids_S_api_Step a0c1))) (.cons (.same (ids_ptC (ids_V a0c2))) (.cons (.rf rfl) .nil)))) (s_path_walk_1 a0c0c0 a0c0c1 a0c0c2 a0c1 a0c2 a0c3 x1 hx1) (.same ids_tup_nil) (.cons (.box (.cons (.fn (.cons (.same (ids_ptC (ids_V _))) (.cons (.same (ids_ptC (ids_V _))) (.cons (.rf rfl) .nil)))) .nil)) (.cons (.box (.cons (.same rfl) .nil)) (.cons (.box (.cons (.same rfl) .nil)) .nil))) rfl) rfl rfl) (ao_nil ?_)
 change BW _ _ _ _ _
 refine bR ?_
 refine ao_step0 rfl rfl (op1_store inf_4 rfl rfl rfl rfl rfl rfl (Nat.le_of_ble_eq_true rfl) rfl) ?_
 refine ao_nil ?_
 change BW _ _ _ _ _
 refine bw_ret ?_
 refine endKD_ret ?_
 obtain ⟨x2, hx2, h⟩ := obind h
 obtain rfl := Option.some.inj h
 refine endD_of [3] rfl (.cons rfl (.box (.cons (.same rfl) .nil)) .nil) (.cons (.rf rfl) .nil) (fun p hp => by cases hp) (s_path_caught_1_ret false x2 hx2) (.cons (.box (.cons (.same rfl) .nil)) .nil) rfl rfl ?_
 exact endR (y := (BO x2)) 3 (Wk.refl _) rfl rfl (.same rfl) (.cons (.box (.cons (.fn (.cons (.same (ids_ptC (ids_V _))) (.cons (.same (ids_ptC (ids_V _))) (.cons (.rf rfl) .nil)))) .nil)) (.cons (.box (.cons (.same rfl) .nil)) (.cons (.box (.cons (.same rfl) .nil)) .nil))) ⟨rfl, rfl⟩
end Go.Proofs.Ytkmhecgagibgjaa
