/- Pure functions, and that calls answer as they say. Written by gen.py. -/
import Derived.Test.YthfdpaboekoncaaG2
namespace Go.Proofs.Ythfdpaboekoncaa
open Go Aw
set_option linter.unusedVariables false
set_option linter.unusedSimpArgs false
set_option maxRecDepth 20000
set_option maxHeartbeats 2000000
noncomputable def ref01_own_j8 (g1 : Nat → Option Int) (s17 : Nat) (s20 : Bool) : Option Int :=
 bif s20 then (
  some 8
 ) else (
  g1 (s17 + 1)
 )
theorem ref01_own_j8_cm {ι : Type} {ρ : ι → Type} (g1 : (∀ i, Option (ρ i)) → Nat → Option Int) (h_g1 : ∀ y0, CM (fun G => g1 G y0)) (s17 : Nat) (s20 : Bool) : CM (fun G : (∀ i, Option (ρ i)) => ref01_own_j8 (g1 G) s17 s20) := by
 simp only [ref01_own_j8]
 repeat (first | exact cm_const | exact h_g1 _ | refine cm_cond ?_ ?_ | refine cm_bind ?_ (fun _ => ?_))
noncomputable def ref01_own_l1b (a0 : Term) (g1 : Nat → Option Int) (s17 : Nat) : Option Int :=
 bif (decide (((s17 : Nat) : Int) < (((a0.fields).length : Nat) : Int))) then (
  Option.bind ((a0.fields)[s17]?) fun x22 =>
  Option.bind (p_ref01_Name x22.1) fun x23 =>
  bif (!x23) then (
   ref01_own_j8 g1 s17 true
  ) else (
   bif (decide (((s17 : Nat) : Int) > 0)) then (
    Option.bind ((a0.fields)[s17]?) fun x26 =>
    Option.bind (idxI a0.fields (IntKind.i64.wrap (((s17 : Nat) : Int) - 1))) fun x27 =>
    ref01_own_j8 g1 s17 (Op.bytesLess x26.1 x27.1 || x26.1 == x27.1)
   ) else (
    ref01_own_j8 g1 s17 false
   )
  )
 ) else (
  some 0
 )
theorem ref01_own_l1b_cm {ι : Type} {ρ : ι → Type} (g1 : (∀ i, Option (ρ i)) → Nat → Option Int) (h_g1 : ∀ y0, CM (fun G => g1 G y0)) (a0 : Term) (s17 : Nat) : CM (fun G : (∀ i, Option (ρ i)) => ref01_own_l1b a0 (g1 G) s17) := by
 simp only [ref01_own_l1b]
 repeat (first | exact cm_const | exact h_g1 _ | apply ref01_own_j8_cm | refine cm_cond ?_ ?_ | refine cm_bind ?_ (fun _ => ?_) | intro _ | assumption)
noncomputable def ref01_own_l1 (a0 : Term) (s17 : Nat) : Option Int :=
 fixO (ι := Nat) (ρ := fun _ => Int) (fun g i => ref01_own_l1b a0 (fun s17 => g s17) i) s17
theorem ref01_own_l1_eq (a0 : Term) (s17 : Nat) : ref01_own_l1 a0 s17 = ref01_own_l1b a0 (ref01_own_l1 a0) s17 :=
 fixO_eq (ι := Nat) (ρ := fun _ => Int) (Φ := fun g i => ref01_own_l1b a0 (fun s17 => g s17) i) (fun i => ref01_own_l1b_cm (ι := Nat) (ρ := fun _ => Int) (fun g => (fun s17 => g s17)) (fun _ => cm_app) a0 i) s17
noncomputable def ref01_own_j7 (a0 : Term) (s14 : Bool) : Option Int :=
 bif s14 then (
  some 0
 ) else (
  bif (decide ((((a0.fields).length : Nat) : Int) > 4096)) then (
   some 2
  ) else (
   ref01_own_l1 a0 0
  )
 )
noncomputable def ref01_own_j6 (a0 : Term) (s12 : Bool) : Option Int :=
 bif s12 then (
  some 2
 ) else (
  bif (a0.kind != 9) then (
   ref01_own_j7 a0 (a0.kind != 10)
  ) else (
   ref01_own_j7 a0 false
  )
 )
noncomputable def ref01_own_j5 (a0 : Term) (s10 : Bool) : Option Int :=
 bif s10 then (
  some 2
 ) else (
  bif (a0.kind == 8) then (
   ref01_own_j6 a0 (decide ((((a0.list).length : Nat) : Int) > 4096))
  ) else (
   ref01_own_j6 a0 false
  )
 )
noncomputable def ref01_own_j4 (a0 : Term) (s8 : Bool) : Option Int :=
 bif s8 then (
  some 1
 ) else (
  bif (a0.kind == 5) then (
   bif (decide ((((a0.text).length : Nat) : Int) > 65536)) then (
    ref01_own_j5 a0 true
   ) else (
    bif (a0.kind == 6) then (
     ref01_own_j5 a0 (decide ((((a0.bytes).length : Nat) : Int) > 65536))
    ) else (
     ref01_own_j5 a0 false
    )
   )
  ) else (
   bif (a0.kind == 6) then (
    ref01_own_j5 a0 (decide ((((a0.bytes).length : Nat) : Int) > 65536))
   ) else (
    ref01_own_j5 a0 false
   )
  )
 )
noncomputable def ref01_own_j3 (a0 : Term) (s6 : Bool) : Option Int :=
 bif s6 then (
  some 8
 ) else (
  bif (a0.kind == 10) then (
   bif (decide (a0.ver < 1)) then (
    ref01_own_j4 a0 true
   ) else (
    ref01_own_j4 a0 (decide (a0.ver > 1000))
   )
  ) else (
   ref01_own_j4 a0 false
  )
 )
noncomputable def ref01_own_j2 (a0 : Term) (s4 : Bool) : Option Int :=
 bif s4 then (
  some 2
 ) else (
  bif (a0.kind == 10) then (
   Option.bind (p_ref01_Name a0.cls) fun x37 =>
   ref01_own_j3 a0 (!x37)
  ) else (
   ref01_own_j3 a0 false
  )
 )
noncomputable def ref01_own_j1 (a0 : Term) (a1 : Int) (a2 : Int) (s2 : Bool) : Option Int :=
 bif s2 then (
  some 6
 ) else (
  bif (decide (a1 ≥ 16384)) then (
   ref01_own_j2 a0 true
  ) else (
   ref01_own_j2 a0 (decide (a2 > 64))
  )
 )
noncomputable def p_ref01_own (a0 : Term) (a1 : Int) (a2 : Int) : Option Int :=
 bif (a0.kind == 11) then (
  some 7
 ) else (
  bif (decide (a0.kind < 1)) then (
   ref01_own_j1 a0 a1 a2 true
  ) else (
   ref01_own_j1 a0 a1 a2 (decide (a0.kind > 10))
  )
 )
theorem s_ref01_own (a0 : Term) (a1 : Int) (a2 : Int) (r : Int) (h : p_ref01_own a0 a1 a2 = some r) : PCalls Try.prog 50 [(ofTermX a0), (I64 a1), (I64 a2)] (I64 r) := by
 unfold p_ref01_own at h
 refine acalls_of Try.func50 rfl Try.ntmps50 Try.results50 rfl (aw_of_bw ?_)
 change BW _ _ _ ⟨[(0, (ofTermX a0)), (1, (I64 a1)), (2, (I64 a2))], [], _⟩ _
 refine bR ?_
 refine sS rfl rfl rfl (op1_box rfl rfl rfl) ?_
 refine sA rfl rfl rfl rfl rfl (ao_nil ?_)
 change BW _ _ _ _ _
 refine bw_seq ?_
 refine bR ?_
 refine sS rfl rfl rfl (op1_faR st_29 (i := 0) rfl rfl rfl) ?_
 refine sS rfl rfl rfl ((op1_ldR Try.underlying3 rfl rfl rfl rfl rfl)) ?_
 refine sS rfl rfl rfl ((op1_cmp rfl rfl rfl rfl).cast (y := (BO ((a0.kind == 11)))) rfl rfl) (ao_nil ?_)
 change BW _ _ _ _ _
 refine bw_cond rfl ?_ ?_
 ·intro hc1; replace h := ocond_t hc1 h
  refine bR ?_
  refine sA rfl rfl rfl rfl rfl (ao_nil ?_)
  change BW _ _ _ _ _
  refine bw_ret ?_
  change ∃ xs, _ = some xs ∧ EndOk _ _ _ _
  obtain rfl := Option.some.inj h
  exact ⟨_, rfl, endOk0 (y := (I64 7)) (Wk.refl _) rfl ⟨rfl, rfl⟩⟩
 ·intro hc1; replace h := ocond_f hc1 h
  refine bw_skip ?_
  change BW _ _ _ _ _
  refine bw_seq ?_
  refine bw_seqJ (ι := Bool) (fun i => ref01_own_j1 a0 a1 a2 i = some r) (fun i => [(1, (I64 a1)), (2, (I64 a2)), (3, (PV.rf 0 0)), (18, (BO i))]) (fun i => [.box 29 [(I64 a0.kind), (BO a0.bool), (I64 a0.int), (PV.v (.float .f64 a0.float)), (ofStr a0.text), (PV.sl none 5 1 (List.map ofB a0.bytes)), (PV.v (.int .u64 a0.ref)), (PV.sl none 29 11 (List.map ofTerm a0.list)), (PV.sl none 66 12 (List.map ofEntry a0.fields)), (ofStr a0.cls), (I64 a0.ver)]]) ?_ ?_ ?_
  ·intro i; exact ⟨Nat.le_of_ble_eq_true rfl, ⟨(il_nil rfl), ⟨(il_nil rfl), ⟨(il_rf rfl), ⟨(il_nil rfl), trivial⟩⟩⟩⟩, ⟨⟨(il_nil rfl), ⟨(il_nil rfl), ⟨(il_nil rfl), ⟨(il_nil rfl), ⟨(il_nil rfl), ⟨(il_nil (ids_slM (fun _ => rfl) _)), ⟨(il_nil rfl), ⟨(il_nil (ids_slM ids_Term _)), ⟨(il_nil (ids_slM ids_Entry _)), ⟨(il_nil rfl), ⟨(il_nil rfl), trivial⟩⟩⟩⟩⟩⟩⟩⟩⟩⟩⟩, trivial⟩⟩
  ·rintro s2 h; replace h : ref01_own_j1 a0 a1 a2 s2 = some r := h; unfold ref01_own_j1 at h
   change BW _ _ _ ⟨[(1, (I64 a1)), (2, (I64 a2)), (3, (PV.rf 0 0)), (18, (BO s2))], [.box 29 [(I64 a0.kind), (BO a0.bool), (I64 a0.int), (PV.v (.float .f64 a0.float)), (ofStr a0.text), (PV.sl none 5 1 (List.map ofB a0.bytes)), (PV.v (.int .u64 a0.ref)), (PV.sl none 29 11 (List.map ofTerm a0.list)), (PV.sl none 66 12 (List.map ofEntry a0.fields)), (ofStr a0.cls), (I64 a0.ver)]], _⟩ _
   refine bw_cond rfl ?_ ?_
   ·intro hc3; replace h := ocond_t hc3 h
    refine bR ?_
    refine sA rfl rfl rfl rfl rfl (ao_nil ?_)
    change BW _ _ _ _ _
    refine bw_ret ?_
    change ∃ xs, _ = some xs ∧ EndOk _ _ _ _
    obtain rfl := Option.some.inj h
    exact ⟨_, rfl, endOk0 (y := (I64 6)) (Wk.refl _) rfl ⟨rfl, rfl⟩⟩
   ·intro hc3; replace h := ocond_f hc3 h
    refine bw_skip ?_
    change BW _ _ _ _ _
    refine bw_seq ?_
    refine bw_seqJ (ι := Bool) (fun i => ref01_own_j2 a0 i = some r) (fun i => [(3, (PV.rf 0 0)), (24, (BO i))]) (fun i => [.box 29 [(I64 a0.kind), (BO a0.bool), (I64 a0.int), (PV.v (.float .f64 a0.float)), (ofStr a0.text), (PV.sl none 5 1 (List.map ofB a0.bytes)), (PV.v (.int .u64 a0.ref)), (PV.sl none 29 11 (List.map ofTerm a0.list)), (PV.sl none 66 12 (List.map ofEntry a0.fields)), (ofStr a0.cls), (I64 a0.ver)]]) ?_ ?_ ?_
    ·intro i; exact ⟨Nat.le_of_ble_eq_true rfl, ⟨(il_rf rfl), ⟨(il_nil rfl), trivial⟩⟩, ⟨⟨(il_nil rfl), ⟨(il_nil rfl), ⟨(il_nil rfl), ⟨(il_nil rfl), ⟨(il_nil rfl), ⟨(il_nil (ids_slM (fun _ => rfl) _)), ⟨(il_nil rfl), ⟨(il_nil (ids_slM ids_Term _)), ⟨(il_nil (ids_slM ids_Entry _)), ⟨(il_nil rfl), ⟨(il_nil rfl), trivial⟩⟩⟩⟩⟩⟩⟩⟩⟩⟩⟩, trivial⟩⟩
    ·rintro s4 h; replace h : ref01_own_j2 a0 s4 = some r := h; unfold ref01_own_j2 at h
     change BW _ _ _ ⟨[(3, (PV.rf 0 0)), (24, (BO s4))], [.box 29 [(I64 a0.kind), (BO a0.bool), (I64 a0.int), (PV.v (.float .f64 a0.float)), (ofStr a0.text), (PV.sl none 5 1 (List.map ofB a0.bytes)), (PV.v (.int .u64 a0.ref)), (PV.sl none 29 11 (List.map ofTerm a0.list)), (PV.sl none 66 12 (List.map ofEntry a0.fields)), (ofStr a0.cls), (I64 a0.ver)]], _⟩ _
     refine bw_cond rfl ?_ ?_
     ·intro hc5; replace h := ocond_t hc5 h
      refine bR ?_
      refine sA rfl rfl rfl rfl rfl (ao_nil ?_)
      change BW _ _ _ _ _
      refine bw_ret ?_
      change ∃ xs, _ = some xs ∧ EndOk _ _ _ _
      obtain rfl := Option.some.inj h
      exact ⟨_, rfl, endOk0 (y := (I64 2)) (Wk.refl _) rfl ⟨rfl, rfl⟩⟩
     ·intro hc5; replace h := ocond_f hc5 h
      refine bw_skip ?_
      change BW _ _ _ _ _
      refine bw_seq ?_
      refine bw_seqJ (ι := Bool) (fun i => ref01_own_j3 a0 i = some r) (fun i => [(3, (PV.rf 0 0)), (33, (BO i))]) (fun i => [.box 29 [(I64 a0.kind), (BO a0.bool), (I64 a0.int), (PV.v (.float .f64 a0.float)), (ofStr a0.text), (PV.sl none 5 1 (List.map ofB a0.bytes)), (PV.v (.int .u64 a0.ref)), (PV.sl none 29 11 (List.map ofTerm a0.list)), (PV.sl none 66 12 (List.map ofEntry a0.fields)), (ofStr a0.cls), (I64 a0.ver)]]) ?_ ?_ ?_
      ·intro i; exact ⟨Nat.le_of_ble_eq_true rfl, ⟨(il_rf rfl), ⟨(il_nil rfl), trivial⟩⟩, ⟨⟨(il_nil rfl), ⟨(il_nil rfl), ⟨(il_nil rfl), ⟨(il_nil rfl), ⟨(il_nil rfl), ⟨(il_nil (ids_slM (fun _ => rfl) _)), ⟨(il_nil rfl), ⟨(il_nil (ids_slM ids_Term _)), ⟨(il_nil (ids_slM ids_Entry _)), ⟨(il_nil rfl), ⟨(il_nil rfl), trivial⟩⟩⟩⟩⟩⟩⟩⟩⟩⟩⟩, trivial⟩⟩
      ·rintro s6 h; replace h : ref01_own_j3 a0 s6 = some r := h; unfold ref01_own_j3 at h
       change BW _ _ _ ⟨[(3, (PV.rf 0 0)), (33, (BO s6))], [.box 29 [(I64 a0.kind), (BO a0.bool), (I64 a0.int), (PV.v (.float .f64 a0.float)), (ofStr a0.text), (PV.sl none 5 1 (List.map ofB a0.bytes)), (PV.v (.int .u64 a0.ref)), (PV.sl none 29 11 (List.map ofTerm a0.list)), (PV.sl none 66 12 (List.map ofEntry a0.fields)), (ofStr a0.cls), (I64 a0.ver)]], _⟩ _
       refine bw_cond rfl ?_ ?_
       ·intro hc7; replace h := ocond_t hc7 h
        refine bR ?_
        refine sA rfl rfl rfl rfl rfl (ao_nil ?_)
        change BW _ _ _ _ _
        refine bw_ret ?_
        change ∃ xs, _ = some xs ∧ EndOk _ _ _ _
        obtain rfl := Option.some.inj h
        exact ⟨_, rfl, endOk0 (y := (I64 8)) (Wk.refl _) rfl ⟨rfl, rfl⟩⟩
       ·intro hc7; replace h := ocond_f hc7 h
        refine bw_skip ?_
        change BW _ _ _ _ _
        refine bw_seq ?_
        refine bw_seqJ (ι := Bool) (fun i => ref01_own_j4 a0 i = some r) (fun i => [(3, (PV.rf 0 0)), (46, (BO i))]) (fun i => [.box 29 [(I64 a0.kind), (BO a0.bool), (I64 a0.int), (PV.v (.float .f64 a0.float)), (ofStr a0.text), (PV.sl none 5 1 (List.map ofB a0.bytes)), (PV.v (.int .u64 a0.ref)), (PV.sl none 29 11 (List.map ofTerm a0.list)), (PV.sl none 66 12 (List.map ofEntry a0.fields)), (ofStr a0.cls), (I64 a0.ver)]]) ?_ ?_ ?_
        ·intro i; exact ⟨Nat.le_of_ble_eq_true rfl, ⟨(il_rf rfl), ⟨(il_nil rfl), trivial⟩⟩, ⟨⟨(il_nil rfl), ⟨(il_nil rfl), ⟨(il_nil rfl), ⟨(il_nil rfl), ⟨(il_nil rfl), ⟨(il_nil (ids_slM (fun _ => rfl) _)), ⟨(il_nil rfl), ⟨(il_nil (ids_slM ids_Term _)), ⟨(il_nil (ids_slM ids_Entry _)), ⟨(il_nil rfl), ⟨(il_nil rfl), trivial⟩⟩⟩⟩⟩⟩⟩⟩⟩⟩⟩, trivial⟩⟩
        ·rintro s8 h; replace h : ref01_own_j4 a0 s8 = some r := h; unfold ref01_own_j4 at h
         change BW _ _ _ ⟨[(3, (PV.rf 0 0)), (46, (BO s8))], [.box 29 [(I64 a0.kind), (BO a0.bool), (I64 a0.int), (PV.v (.float .f64 a0.float)), (ofStr a0.text), (PV.sl none 5 1 (List.map ofB a0.bytes)), (PV.v (.int .u64 a0.ref)), (PV.sl none 29 11 (List.map ofTerm a0.list)), (PV.sl none 66 12 (List.map ofEntry a0.fields)), (ofStr a0.cls), (I64 a0.ver)]], _⟩ _
         refine bw_cond rfl ?_ ?_
         ·intro hc9; replace h := ocond_t hc9 h
          refine bR ?_
          refine sA rfl rfl rfl rfl rfl (ao_nil ?_)
          change BW _ _ _ _ _
          refine bw_ret ?_
          change ∃ xs, _ = some xs ∧ EndOk _ _ _ _
          obtain rfl := Option.some.inj h
          exact ⟨_, rfl, endOk0 (y := (I64 1)) (Wk.refl _) rfl ⟨rfl, rfl⟩⟩
         ·intro hc9; replace h := ocond_f hc9 h
          refine bw_skip ?_
          change BW _ _ _ _ _
          refine bw_seq ?_
          refine bw_seqJ (ι := Bool) (fun i => ref01_own_j5 a0 i = some r) (fun i => [(3, (PV.rf 0 0)), (66, (BO i))]) (fun i => [.box 29 [(I64 a0.kind), (BO a0.bool), (I64 a0.int), (PV.v (.float .f64 a0.float)), (ofStr a0.text), (PV.sl none 5 1 (List.map ofB a0.bytes)), (PV.v (.int .u64 a0.ref)), (PV.sl none 29 11 (List.map ofTerm a0.list)), (PV.sl none 66 12 (List.map ofEntry a0.fields)), (ofStr a0.cls), (I64 a0.ver)]]) ?_ ?_ ?_
          ·intro i; exact ⟨Nat.le_of_ble_eq_true rfl, ⟨(il_rf rfl), ⟨(il_nil rfl), trivial⟩⟩, ⟨⟨(il_nil rfl), ⟨(il_nil rfl), ⟨(il_nil rfl), ⟨(il_nil rfl), ⟨(il_nil rfl), ⟨(il_nil (ids_slM (fun _ => rfl) _)), ⟨(il_nil rfl), ⟨(il_nil (ids_slM ids_Term _)), ⟨(il_nil (ids_slM ids_Entry _)), ⟨(il_nil rfl), ⟨(il_nil rfl), trivial⟩⟩⟩⟩⟩⟩⟩⟩⟩⟩⟩, trivial⟩⟩
          ·rintro s10 h; replace h : ref01_own_j5 a0 s10 = some r := h; unfold ref01_own_j5 at h
           change BW _ _ _ ⟨[(3, (PV.rf 0 0)), (66, (BO s10))], [.box 29 [(I64 a0.kind), (BO a0.bool), (I64 a0.int), (PV.v (.float .f64 a0.float)), (ofStr a0.text), (PV.sl none 5 1 (List.map ofB a0.bytes)), (PV.v (.int .u64 a0.ref)), (PV.sl none 29 11 (List.map ofTerm a0.list)), (PV.sl none 66 12 (List.map ofEntry a0.fields)), (ofStr a0.cls), (I64 a0.ver)]], _⟩ _
           refine bw_cond rfl ?_ ?_
           ·intro hc11; replace h := ocond_t hc11 h
            refine bR ?_
            refine sA rfl rfl rfl rfl rfl (ao_nil ?_)
            change BW _ _ _ _ _
            refine bw_ret ?_
            change ∃ xs, _ = some xs ∧ EndOk _ _ _ _
            obtain rfl := Option.some.inj h
            exact ⟨_, rfl, endOk0 (y := (I64 2)) (Wk.refl _) rfl ⟨rfl, rfl⟩⟩
           ·intro hc11; replace h := ocond_f hc11 h
            refine bw_skip ?_
            change BW _ _ _ _ _
            refine bw_seq ?_
            refine bw_seqJ (ι := Bool) (fun i => ref01_own_j6 a0 i = some r) (fun i => [(3, (PV.rf 0 0)), (75, (BO i))]) (fun i => [.box 29 [(I64 a0.kind), (BO a0.bool), (I64 a0.int), (PV.v (.float .f64 a0.float)), (ofStr a0.text), (PV.sl none 5 1 (List.map ofB a0.bytes)), (PV.v (.int .u64 a0.ref)), (PV.sl none 29 11 (List.map ofTerm a0.list)), (PV.sl none 66 12 (List.map ofEntry a0.fields)), (ofStr a0.cls), (I64 a0.ver)]]) ?_ ?_ ?_
            ·intro i; exact ⟨Nat.le_of_ble_eq_true rfl, ⟨(il_rf rfl), ⟨(il_nil rfl), trivial⟩⟩, ⟨⟨(il_nil rfl), ⟨(il_nil rfl), ⟨(il_nil rfl), ⟨(il_nil rfl), ⟨(il_nil rfl), ⟨(il_nil (ids_slM (fun _ => rfl) _)), ⟨(il_nil rfl), ⟨(il_nil (ids_slM ids_Term _)), ⟨(il_nil (ids_slM ids_Entry _)), ⟨(il_nil rfl), ⟨(il_nil rfl), trivial⟩⟩⟩⟩⟩⟩⟩⟩⟩⟩⟩, trivial⟩⟩
            ·rintro s12 h; replace h : ref01_own_j6 a0 s12 = some r := h; unfold ref01_own_j6 at h
             change BW _ _ _ ⟨[(3, (PV.rf 0 0)), (75, (BO s12))], [.box 29 [(I64 a0.kind), (BO a0.bool), (I64 a0.int), (PV.v (.float .f64 a0.float)), (ofStr a0.text), (PV.sl none 5 1 (List.map ofB a0.bytes)), (PV.v (.int .u64 a0.ref)), (PV.sl none 29 11 (List.map ofTerm a0.list)), (PV.sl none 66 12 (List.map ofEntry a0.fields)), (ofStr a0.cls), (I64 a0.ver)]], _⟩ _
             refine bw_cond rfl ?_ ?_
             ·intro hc13; replace h := ocond_t hc13 h
              refine bR ?_
              refine sA rfl rfl rfl rfl rfl (ao_nil ?_)
              change BW _ _ _ _ _
              refine bw_ret ?_
              change ∃ xs, _ = some xs ∧ EndOk _ _ _ _
              obtain rfl := Option.some.inj h
              exact ⟨_, rfl, endOk0 (y := (I64 2)) (Wk.refl _) rfl ⟨rfl, rfl⟩⟩
             ·intro hc13; replace h := ocond_f hc13 h
              refine bw_skip ?_
              change BW _ _ _ _ _
              refine bw_seq ?_
              refine bw_seqJ (ι := Bool) (fun i => ref01_own_j7 a0 i = some r) (fun i => [(3, (PV.rf 0 0)), (83, (BO i))]) (fun i => [.box 29 [(I64 a0.kind), (BO a0.bool), (I64 a0.int), (PV.v (.float .f64 a0.float)), (ofStr a0.text), (PV.sl none 5 1 (List.map ofB a0.bytes)), (PV.v (.int .u64 a0.ref)), (PV.sl none 29 11 (List.map ofTerm a0.list)), (PV.sl none 66 12 (List.map ofEntry a0.fields)), (ofStr a0.cls), (I64 a0.ver)]]) ?_ ?_ ?_
              ·intro i; exact ⟨Nat.le_of_ble_eq_true rfl, ⟨(il_rf rfl), ⟨(il_nil rfl), trivial⟩⟩, ⟨⟨(il_nil rfl), ⟨(il_nil rfl), ⟨(il_nil rfl), ⟨(il_nil rfl), ⟨(il_nil rfl), ⟨(il_nil (ids_slM (fun _ => rfl) _)), ⟨(il_nil rfl), ⟨(il_nil (ids_slM ids_Term _)), ⟨(il_nil (ids_slM ids_Entry _)), ⟨(il_nil rfl), ⟨(il_nil rfl), trivial⟩⟩⟩⟩⟩⟩⟩⟩⟩⟩⟩, trivial⟩⟩
              ·rintro s14 h; replace h : ref01_own_j7 a0 s14 = some r := h; unfold ref01_own_j7 at h
               change BW _ _ _ ⟨[(3, (PV.rf 0 0)), (83, (BO s14))], [.box 29 [(I64 a0.kind), (BO a0.bool), (I64 a0.int), (PV.v (.float .f64 a0.float)), (ofStr a0.text), (PV.sl none 5 1 (List.map ofB a0.bytes)), (PV.v (.int .u64 a0.ref)), (PV.sl none 29 11 (List.map ofTerm a0.list)), (PV.sl none 66 12 (List.map ofEntry a0.fields)), (ofStr a0.cls), (I64 a0.ver)]], _⟩ _
               refine bw_cond rfl ?_ ?_
               ·intro hc15; replace h := ocond_t hc15 h
                refine bR ?_
                refine sA rfl rfl rfl rfl rfl (ao_nil ?_)
                change BW _ _ _ _ _
                refine bw_ret ?_
                change ∃ xs, _ = some xs ∧ EndOk _ _ _ _
                obtain rfl := Option.some.inj h
                exact ⟨_, rfl, endOk0 (y := (I64 0)) (Wk.refl _) rfl ⟨rfl, rfl⟩⟩
               ·intro hc15; replace h := ocond_f hc15 h
                refine bw_skip ?_
                change BW _ _ _ _ _
                refine bw_seq ?_
                refine bR ?_
                refine sS rfl rfl rfl (op1_faR st_29 (i := 8) rfl rfl rfl) ?_
                refine sS rfl rfl rfl ((op1_ldR Try.underlying27 rfl rfl rfl rfl rfl)) ?_
                refine sS rfl rfl rfl (op1_lenM Try.underlying27 rfl rfl) ?_
                refine sS rfl rfl rfl ((op1_cmp rfl rfl rfl rfl).cast (y := (BO ((decide ((((a0.fields).length : Nat) : Int) > 4096))))) rfl rfl) (ao_nil ?_)
                change BW _ _ _ _ _
                refine bw_cond rfl ?_ ?_
                ·intro hc16; replace h := ocond_t hc16 h
                 refine bR ?_
                 refine sA rfl rfl rfl rfl rfl (ao_nil ?_)
                 change BW _ _ _ _ _
                 refine bw_ret ?_
                 change ∃ xs, _ = some xs ∧ EndOk _ _ _ _
                 obtain rfl := Option.some.inj h
                 exact ⟨_, rfl, endOk0 (y := (I64 2)) (Wk.refl _) rfl ⟨rfl, rfl⟩⟩
                ·intro hc16; replace h := ocond_f hc16 h
                 refine bw_skip ?_
                 change BW _ _ _ _ _
                 refine bw_seq ?_
                 refine bR ?_
                 refine sA rfl rfl rfl rfl rfl (ao_nil ?_)
                 change BW _ _ _ _ _
                 refine bw_block ?_
                 change BW _ _ _ _ _
                 unfold ref01_own_l1 at h
                 refine bw_loop (σ := Nat) (fun i => [(3, (PV.rf 0 0)), (7, (I64 (((i : Nat) : Int))))]) (fun i => [.box 29 [(I64 a0.kind), (BO a0.bool), (I64 a0.int), (PV.v (.float .f64 a0.float)), (ofStr a0.text), (PV.sl none 5 1 (List.map ofB a0.bytes)), (PV.v (.int .u64 a0.ref)), (PV.sl none 29 11 (List.map ofTerm a0.list)), (PV.sl none 66 12 (List.map ofEntry a0.fields)), (ofStr a0.cls), (I64 a0.ver)]]) 0 h ?_ ?_ ?_
                 ·intro i; exact ⟨Nat.le_of_ble_eq_true rfl, ⟨(il_rf rfl), ⟨(il_nil rfl), trivial⟩⟩, ⟨⟨(il_nil rfl), ⟨(il_nil rfl), ⟨(il_nil rfl), ⟨(il_nil rfl), ⟨(il_nil rfl), ⟨(il_nil (ids_slM (fun _ => rfl) _)), ⟨(il_nil rfl), ⟨(il_nil (ids_slM ids_Term _)), ⟨(il_nil (ids_slM ids_Entry _)), ⟨(il_nil rfl), ⟨(il_nil rfl), trivial⟩⟩⟩⟩⟩⟩⟩⟩⟩⟩⟩, trivial⟩⟩
                 ·exact ⟨(.cons .same .nil), (sC rfl (sC rfl sub_nil))⟩
                 ·rintro g1_f s17 h; replace h : ref01_own_l1b a0 (fun y0 => g1_f y0) s17 = some r := h; unfold ref01_own_l1b at h
                  change BW _ _ _ ⟨[(3, (PV.rf 0 0)), (7, (I64 (((s17 : Nat) : Int))))], [.box 29 [(I64 a0.kind), (BO a0.bool), (I64 a0.int), (PV.v (.float .f64 a0.float)), (ofStr a0.text), (PV.sl none 5 1 (List.map ofB a0.bytes)), (PV.v (.int .u64 a0.ref)), (PV.sl none 29 11 (List.map ofTerm a0.list)), (PV.sl none 66 12 (List.map ofEntry a0.fields)), (ofStr a0.cls), (I64 a0.ver)]], _⟩ _
                  refine bw_seq ?_
                  refine bR ?_
                  refine sM rfl rfl rfl rfl rfl ?_
                  refine sS rfl rfl rfl (op1_faR st_29 (i := 8) rfl rfl rfl) ?_
                  refine sS rfl rfl rfl ((op1_ldR Try.underlying27 rfl rfl rfl rfl rfl)) ?_
                  refine sS rfl rfl rfl (op1_lenM Try.underlying27 rfl rfl) ?_
                  refine sS rfl rfl rfl ((op1_cmp rfl rfl rfl rfl).cast (y := (BO ((decide (((s17 : Nat) : Int) < (((a0.fields).length : Nat) : Int)))))) rfl rfl) (ao_nil ?_)
                  change BW _ _ _ _ _
                  refine bw_len (t := 90) rfl fun hb19 => ?_
                  try rw [List.length_map] at hb19
                  refine bw_cond rfl ?_ ?_
                  ·intro hc18; replace h := ocond_t hc18 h
                   have hc18_ := of_decide_eq_true hc18
                   refine bw_skip ?_
                   change BW _ _ _ _ _
                   refine bw_seq ?_
                   refine bw_block ?_
                   change BW _ _ _ _ _
                   refine bw_seqJ (ι := Bool) (fun i => ref01_own_j8 (fun y0 => g1_f y0) s17 i = some r) (fun i => [(3, (PV.rf 0 0)), (7, (I64 (((s17 : Nat) : Int)))), (122, (BO i))]) (fun i => [.box 29 [(I64 a0.kind), (BO a0.bool), (I64 a0.int), (PV.v (.float .f64 a0.float)), (ofStr a0.text), (PV.sl none 5 1 (List.map ofB a0.bytes)), (PV.v (.int .u64 a0.ref)), (PV.sl none 29 11 (List.map ofTerm a0.list)), (PV.sl none 66 12 (List.map ofEntry a0.fields)), (ofStr a0.cls), (I64 a0.ver)]]) ?_ ?_ ?_
                   ·intro i; exact ⟨Nat.le_of_ble_eq_true rfl, ⟨(il_rf rfl), ⟨(il_nil rfl), ⟨(il_nil rfl), trivial⟩⟩⟩, ⟨⟨(il_nil rfl), ⟨(il_nil rfl), ⟨(il_nil rfl), ⟨(il_nil rfl), ⟨(il_nil rfl), ⟨(il_nil (ids_slM (fun _ => rfl) _)), ⟨(il_nil rfl), ⟨(il_nil (ids_slM ids_Term _)), ⟨(il_nil (ids_slM ids_Entry _)), ⟨(il_nil rfl), ⟨(il_nil rfl), trivial⟩⟩⟩⟩⟩⟩⟩⟩⟩⟩⟩, trivial⟩⟩
                   ·rintro s20 h; replace h : ref01_own_j8 (fun y0 => g1_f y0) s17 s20 = some r := h; unfold ref01_own_j8 at h
                    change BW _ _ _ ⟨[(3, (PV.rf 0 0)), (7, (I64 (((s17 : Nat) : Int)))), (122, (BO s20))], [.box 29 [(I64 a0.kind), (BO a0.bool), (I64 a0.int), (PV.v (.float .f64 a0.float)), (ofStr a0.text), (PV.sl none 5 1 (List.map ofB a0.bytes)), (PV.v (.int .u64 a0.ref)), (PV.sl none 29 11 (List.map ofTerm a0.list)), (PV.sl none 66 12 (List.map ofEntry a0.fields)), (ofStr a0.cls), (I64 a0.ver)]], _⟩ _
                    refine bw_cond rfl ?_ ?_
                    ·intro hc21; replace h := ocond_t hc21 h
                     refine bR ?_
                     refine sA rfl rfl rfl rfl rfl (ao_nil ?_)
                     change BW _ _ _ _ _
                     refine bw_ret ?_
                     change ∃ xs, _ = some xs ∧ EndOk _ _ _ _
                     obtain rfl := Option.some.inj h
                     exact ⟨_, rfl, endOk0 (y := (I64 8)) (Wk.refl _) rfl ⟨rfl, rfl⟩⟩
                    ·intro hc21; replace h := ocond_f hc21 h
                     refine bw_skip ?_
                     change BW _ _ _ _ _
                     refine bw_region ?_
                     refine sM rfl rfl rfl rfl rfl ?_
                     refine sS rfl rfl rfl (op1_incN (k := s17) (c := 1) rfl rfl rfl (by omega)) ?_
                     refine sA rfl rfl rfl rfl rfl (ao_nil ?_)
                     exact ⟨rfl, (s17 + 1), h, ⟨(.cons .same .nil), (sC rfl (sC rfl sub_nil))⟩⟩
                   ·refine bw_tail 25 [] [0] mo (by kernel_rfl) ?_
                    refine ac_go rfl rfl rfl rfl (fun H hp => op1_faR st_29 (i := 8) rfl rfl rfl) ?_
                    refine ac_go rfl rfl rfl rfl (fun H hp => (op1_ldR Try.underlying27 rfl rfl rfl (hp.at rfl rfl) rfl)) ?_
                    refine ac_go rfl rfl rfl rfl (fun H hp => op1_move rfl rfl) ?_
                    obtain ⟨x22, hx22, h⟩ := obind h
                    refine ac_go rfl rfl rfl rfl (fun H hp => op1_idxN (i := s17) Try.underlying27 inf_66 rfl rfl rfl hx22 (ofEntry_eq _)) ?_
                    refine ac_go rfl rfl rfl rfl (fun H hp => op1_faP st_66 (i := 0) rfl rfl rfl) ?_
                    refine ac_go rfl rfl rfl rfl (fun H hp => op1_ldP (y := (ofStr x22.1)) Try.underlying9 rfl rfl rfl rfl) ?_
                    obtain ⟨x23, hx23, h⟩ := obind h
                    refine ac_go rfl rfl rfl rfl (fun H hp => op1_pcall rfl en_74 rfl (.cons (Wk.refl _) .nil) ⟨rfl, trivial⟩ (s_ref01_Name x22.1 x23 hx23) rfl) ?_
                    refine ac_go rfl rfl rfl rfl (fun H hp => op1_not rfl rfl) ?_
                    refine ac_go rfl rfl rfl rfl (fun H hp => op1_move rfl rfl) ?_
                    refine ac_cases 103 rfl ?_ ?_
                    ·intro hb24; replace h := ocond_t hb24 h
                     refine ac_no rfl rfl rfl rfl rfl rfl rfl ?_
                     refine ac_no rfl rfl rfl rfl rfl rfl rfl ?_
                     refine ac_no rfl rfl rfl rfl rfl rfl rfl ?_
                     refine ac_no rfl rfl rfl rfl rfl rfl rfl ?_
                     refine ac_no rfl rfl rfl rfl rfl rfl rfl ?_
                     refine ac_no rfl rfl rfl rfl rfl rfl rfl ?_
                     refine ac_no rfl rfl rfl rfl rfl rfl rfl ?_
                     refine ac_no rfl rfl rfl rfl rfl rfl rfl ?_
                     refine ac_no rfl rfl rfl rfl rfl rfl rfl ?_
                     refine ac_no rfl rfl rfl rfl rfl rfl rfl ?_
                     refine ac_no rfl rfl rfl rfl rfl rfl rfl ?_
                     refine ac_no rfl rfl rfl rfl rfl rfl rfl ?_
                     refine ac_no rfl rfl rfl rfl rfl rfl rfl ?_
                     refine ac_no rfl rfl rfl rfl rfl rfl rfl ?_
                     refine ac_no rfl rfl rfl rfl rfl rfl rfl ?_
                     refine ac_no rfl rfl rfl rfl rfl rfl rfl ?_
                     refine ac_nil ?_
                     change AO _ _ _ _ _
                     refine ao_no rfl rfl rfl rfl rfl rfl ?_
                     refine ao_no rfl rfl rfl rfl rfl rfl ?_
                     refine sS rfl rfl rfl (op1_pickT rfl rfl rfl) (ao_nil ?_)
                     exact ⟨rfl, true, h, ⟨(.cons .same .nil), (sC rfl (sC rfl (sC rfl sub_nil)))⟩⟩
                    ·intro hb24; replace h := ocond_f hb24 h
                     refine ac_yes rfl rfl rfl rfl rfl rfl rfl (fun H hp => op1_move rfl rfl) ?_
                     refine ac_yes rfl rfl rfl rfl rfl rfl rfl (fun H hp => (op1_cmp rfl rfl rfl rfl).cast (y := (BO ((decide (((s17 : Nat) : Int) > 0))))) rfl rfl) ?_
                     refine ac_yes rfl rfl rfl rfl rfl rfl rfl (fun H hp => op1_move rfl rfl) ?_
                     refine ac_cases 106 rfl ?_ ?_
                     ·intro hb25; replace h := ocond_t hb25 h
                      refine ac_yes rfl rfl rfl rfl rfl rfl rfl (fun H hp => op1_faR st_29 (i := 8) rfl rfl rfl) ?_
                      refine ac_yes rfl rfl rfl rfl rfl rfl rfl (fun H hp => (op1_ldR Try.underlying27 rfl rfl rfl (hp.at rfl rfl) rfl)) ?_
                      refine ac_yes rfl rfl rfl rfl rfl rfl rfl (fun H hp => op1_move rfl rfl) ?_
                      obtain ⟨x26, hx26, h⟩ := obind h
                      refine ac_yes rfl rfl rfl rfl rfl rfl rfl (fun H hp => op1_idxN (i := s17) Try.underlying27 inf_66 rfl rfl rfl hx26 (ofEntry_eq _)) ?_
                      refine ac_yes rfl rfl rfl rfl rfl rfl rfl (fun H hp => op1_faP st_66 (i := 0) rfl rfl rfl) ?_
                      refine ac_yes rfl rfl rfl rfl rfl rfl rfl (fun H hp => op1_ldP (y := (ofStr x26.1)) Try.underlying9 rfl rfl rfl rfl) ?_
                      refine ac_yes rfl rfl rfl rfl rfl rfl rfl (fun H hp => op1_faR st_29 (i := 8) rfl rfl rfl) ?_
                      refine ac_yes rfl rfl rfl rfl rfl rfl rfl (fun H hp => (op1_ldR Try.underlying27 rfl rfl rfl (hp.at rfl rfl) rfl)) ?_
                      refine ac_yes rfl rfl rfl rfl rfl rfl rfl (fun H hp => op1_move rfl rfl) ?_
                      refine ac_yes rfl rfl rfl rfl rfl rfl rfl (fun H hp => op1_subW rfl rfl rfl) ?_
                      obtain ⟨x27, hx27, h⟩ := obind h
                      refine ac_yes rfl rfl rfl rfl rfl rfl rfl (fun H hp => op1_idxM Try.underlying27 inf_66 rfl rfl rfl hx27 (ofEntry_eq _)) ?_
                      refine ac_yes rfl rfl rfl rfl rfl rfl rfl (fun H hp => op1_faP st_66 (i := 0) rfl rfl rfl) ?_
                      refine ac_yes rfl rfl rfl rfl rfl rfl rfl (fun H hp => op1_ldP (y := (ofStr x27.1)) Try.underlying9 rfl rfl rfl rfl) ?_
                      refine ac_nil ?_
                      change AO _ _ _ _ _
                      refine ao_yes rfl rfl rfl rfl rfl rfl ((op1_cmpT (a := x26.1) (b := x27.1) rfl rfl rfl rfl).cast (y := (BO ((Op.bytesLess x26.1 x27.1 || x26.1 == x27.1)))) rfl rfl) ?_
                      refine ao_yes rfl rfl rfl rfl rfl rfl (op1_pickT rfl rfl rfl) ?_
                      refine sS rfl rfl rfl (op1_pickF rfl rfl rfl) (ao_nil ?_)
                      exact ⟨rfl, (Op.bytesLess x26.1 x27.1 || x26.1 == x27.1), h, ⟨(.cons .same .nil), (sC rfl (sC rfl (sC rfl sub_nil)))⟩⟩
                     ·intro hb25; replace h := ocond_f hb25 h
                      refine ac_no rfl rfl rfl rfl rfl rfl rfl ?_
                      refine ac_no rfl rfl rfl rfl rfl rfl rfl ?_
                      refine ac_no rfl rfl rfl rfl rfl rfl rfl ?_
                      refine ac_no rfl rfl rfl rfl rfl rfl rfl ?_
                      refine ac_no rfl rfl rfl rfl rfl rfl rfl ?_
                      refine ac_no rfl rfl rfl rfl rfl rfl rfl ?_
                      refine ac_no rfl rfl rfl rfl rfl rfl rfl ?_
                      refine ac_no rfl rfl rfl rfl rfl rfl rfl ?_
                      refine ac_no rfl rfl rfl rfl rfl rfl rfl ?_
                      refine ac_no rfl rfl rfl rfl rfl rfl rfl ?_
                      refine ac_no rfl rfl rfl rfl rfl rfl rfl ?_
                      refine ac_no rfl rfl rfl rfl rfl rfl rfl ?_
                      refine ac_no rfl rfl rfl rfl rfl rfl rfl ?_
                      refine ac_nil ?_
                      change AO _ _ _ _ _
                      refine ao_no rfl rfl rfl rfl rfl rfl ?_
                      refine ao_yes rfl rfl rfl rfl rfl rfl (op1_pickF rfl rfl rfl) ?_
                      refine sS rfl rfl rfl (op1_pickF rfl rfl rfl) (ao_nil ?_)
                      exact ⟨rfl, false, h, ⟨(.cons .same .nil), (sC rfl (sC rfl (sC rfl sub_nil)))⟩⟩
                  ·intro hc18; replace h := ocond_f hc18 h
                   refine bw_exit ?_
                   change BW _ _ _ _ _
                   refine bR ?_
                   refine sA rfl rfl rfl rfl rfl (ao_nil ?_)
                   change BW _ _ _ _ _
                   refine bw_ret ?_
                   change ∃ xs, _ = some xs ∧ EndOk _ _ _ _
                   obtain rfl := Option.some.inj h
                   exact ⟨_, rfl, endOk0 (y := (I64 0)) (Wk.refl _) rfl ⟨rfl, rfl⟩⟩
              ·refine bw_region ?_
               refine sS rfl rfl rfl (op1_faR st_29 (i := 0) rfl rfl rfl) ?_
               refine sS rfl rfl rfl ((op1_ldR Try.underlying3 rfl rfl rfl rfl rfl)) ?_
               refine sS rfl rfl rfl ((op1_cmp rfl rfl rfl rfl).cast (y := (BO ((a0.kind != 9)))) rfl rfl) ?_
               refine sM rfl rfl rfl rfl rfl ?_
               refine ao_cases (t := 79) rfl ?_ ?_
               ·intro hb28; replace h := ocond_t hb28 h
                refine ao_yes rfl rfl rfl rfl rfl rfl (op1_faR st_29 (i := 0) rfl rfl rfl) ?_
                refine ao_yes rfl rfl rfl rfl rfl rfl ((op1_ldR Try.underlying3 rfl rfl rfl rfl rfl)) ?_
                refine ao_yes rfl rfl rfl rfl rfl rfl ((op1_cmp rfl rfl rfl rfl).cast (y := (BO ((a0.kind != 10)))) rfl rfl) ?_
                refine sS rfl rfl rfl (op1_pickT rfl rfl rfl) (ao_nil ?_)
                exact ⟨rfl, (a0.kind != 10), h, ⟨(.cons .same .nil), (sC rfl (sC rfl sub_nil))⟩⟩
               ·intro hb28; replace h := ocond_f hb28 h
                refine ao_no rfl rfl rfl rfl rfl rfl ?_
                refine ao_no rfl rfl rfl rfl rfl rfl ?_
                refine ao_no rfl rfl rfl rfl rfl rfl ?_
                refine sS rfl rfl rfl (op1_pickF rfl rfl rfl) (ao_nil ?_)
                exact ⟨rfl, false, h, ⟨(.cons .same .nil), (sC rfl (sC rfl sub_nil))⟩⟩
            ·refine bw_region ?_
             refine sS rfl rfl rfl (op1_faR st_29 (i := 0) rfl rfl rfl) ?_
             refine sS rfl rfl rfl ((op1_ldR Try.underlying3 rfl rfl rfl rfl rfl)) ?_
             refine sS rfl rfl rfl ((op1_cmp rfl rfl rfl rfl).cast (y := (BO ((a0.kind == 8)))) rfl rfl) ?_
             refine sM rfl rfl rfl rfl rfl ?_
             refine ao_cases (t := 70) rfl ?_ ?_
             ·intro hb29; replace h := ocond_t hb29 h
              refine ao_yes rfl rfl rfl rfl rfl rfl (op1_faR st_29 (i := 7) rfl rfl rfl) ?_
              refine ao_yes rfl rfl rfl rfl rfl rfl ((op1_ldR Try.underlying26 rfl rfl rfl rfl rfl)) ?_
              refine ao_yes rfl rfl rfl rfl rfl rfl (op1_lenM Try.underlying26 rfl rfl) ?_
              refine ao_yes rfl rfl rfl rfl rfl rfl ((op1_cmp rfl rfl rfl rfl).cast (y := (BO ((decide ((((a0.list).length : Nat) : Int) > 4096))))) rfl rfl) ?_
              refine sS rfl rfl rfl (op1_pickT rfl rfl rfl) (ao_nil ?_)
              exact ⟨rfl, (decide ((((a0.list).length : Nat) : Int) > 4096)), h, ⟨(.cons .same .nil), (sC rfl (sC rfl sub_nil))⟩⟩
             ·intro hb29; replace h := ocond_f hb29 h
              refine ao_no rfl rfl rfl rfl rfl rfl ?_
              refine ao_no rfl rfl rfl rfl rfl rfl ?_
              refine ao_no rfl rfl rfl rfl rfl rfl ?_
              refine ao_no rfl rfl rfl rfl rfl rfl ?_
              refine sS rfl rfl rfl (op1_pickF rfl rfl rfl) (ao_nil ?_)
              exact ⟨rfl, false, h, ⟨(.cons .same .nil), (sC rfl (sC rfl sub_nil))⟩⟩
          ·refine bw_region ?_
           refine sS rfl rfl rfl (op1_faR st_29 (i := 0) rfl rfl rfl) ?_
           refine sS rfl rfl rfl ((op1_ldR Try.underlying3 rfl rfl rfl rfl rfl)) ?_
           refine sS rfl rfl rfl ((op1_cmp rfl rfl rfl rfl).cast (y := (BO ((a0.kind == 5)))) rfl rfl) ?_
           refine sM rfl rfl rfl rfl rfl ?_
           refine ao_cases (t := 50) rfl ?_ ?_
           ·intro hb30; replace h := ocond_t hb30 h
            refine ao_yes rfl rfl rfl rfl rfl rfl (op1_faR st_29 (i := 4) rfl rfl rfl) ?_
            refine ao_yes rfl rfl rfl rfl rfl rfl ((op1_ldR Try.underlying9 rfl rfl rfl rfl rfl)) ?_
            refine ao_yes rfl rfl rfl rfl rfl rfl (op1_lenT (s := a0.text) Try.underlying9 rfl rfl) ?_
            refine ao_yes rfl rfl rfl rfl rfl rfl ((op1_cmp rfl rfl rfl rfl).cast (y := (BO ((decide ((((a0.text).length : Nat) : Int) > 65536))))) rfl rfl) ?_
            refine sS rfl rfl rfl (op1_pickT rfl rfl rfl) ?_
            refine sM rfl rfl rfl rfl rfl ?_
            refine ao_cases (t := 56) rfl ?_ ?_
            ·intro hb31; replace h := ocond_t hb31 h
             refine ao_no rfl rfl rfl rfl rfl rfl ?_
             refine ao_no rfl rfl rfl rfl rfl rfl ?_
             refine ao_no rfl rfl rfl rfl rfl rfl ?_
             refine ao_no rfl rfl rfl rfl rfl rfl ?_
             refine ao_no rfl rfl rfl rfl rfl rfl ?_
             refine ao_no rfl rfl rfl rfl rfl rfl ?_
             refine ao_no rfl rfl rfl rfl rfl rfl ?_
             refine ao_no rfl rfl rfl rfl rfl rfl ?_
             refine ao_no rfl rfl rfl rfl rfl rfl ?_
             refine sS rfl rfl rfl (op1_pickT rfl rfl rfl) (ao_nil ?_)
             exact ⟨rfl, true, h, ⟨(.cons .same .nil), (sC rfl (sC rfl sub_nil))⟩⟩
            ·intro hb31; replace h := ocond_f hb31 h
             refine ao_yes rfl rfl rfl rfl rfl rfl (op1_faR st_29 (i := 0) rfl rfl rfl) ?_
             refine ao_yes rfl rfl rfl rfl rfl rfl ((op1_ldR Try.underlying3 rfl rfl rfl rfl rfl)) ?_
             refine ao_yes rfl rfl rfl rfl rfl rfl ((op1_cmp rfl rfl rfl rfl).cast (y := (BO ((a0.kind == 6)))) rfl rfl) ?_
             refine ao_yes rfl rfl rfl rfl rfl rfl (op1_move rfl rfl) ?_
             refine ao_cases (t := 60) rfl ?_ ?_
             ·intro hb32; replace h := ocond_t hb32 h
              refine ao_yes rfl rfl rfl rfl rfl rfl (op1_faR st_29 (i := 5) rfl rfl rfl) ?_
              refine ao_yes rfl rfl rfl rfl rfl rfl ((op1_ldR Try.underlying23 rfl rfl rfl rfl rfl)) ?_
              refine ao_yes rfl rfl rfl rfl rfl rfl (op1_lenM Try.underlying23 rfl rfl) ?_
              refine ao_yes rfl rfl rfl rfl rfl rfl ((op1_cmp rfl rfl rfl rfl).cast (y := (BO ((decide ((((a0.bytes).length : Nat) : Int) > 65536))))) rfl rfl) ?_
              refine ao_yes rfl rfl rfl rfl rfl rfl (op1_pickT rfl rfl rfl) ?_
              refine sS rfl rfl rfl (op1_pickF rfl rfl rfl) (ao_nil ?_)
              exact ⟨rfl, (decide ((((a0.bytes).length : Nat) : Int) > 65536)), h, ⟨(.cons .same .nil), (sC rfl (sC rfl sub_nil))⟩⟩
             ·intro hb32; replace h := ocond_f hb32 h
              refine ao_no rfl rfl rfl rfl rfl rfl ?_
              refine ao_no rfl rfl rfl rfl rfl rfl ?_
              refine ao_no rfl rfl rfl rfl rfl rfl ?_
              refine ao_no rfl rfl rfl rfl rfl rfl ?_
              refine ao_yes rfl rfl rfl rfl rfl rfl (op1_pickF rfl rfl rfl) ?_
              refine sS rfl rfl rfl (op1_pickF rfl rfl rfl) (ao_nil ?_)
              exact ⟨rfl, false, h, ⟨(.cons .same .nil), (sC rfl (sC rfl sub_nil))⟩⟩
           ·intro hb30; replace h := ocond_f hb30 h
            refine ao_no rfl rfl rfl rfl rfl rfl ?_
            refine ao_no rfl rfl rfl rfl rfl rfl ?_
            refine ao_no rfl rfl rfl rfl rfl rfl ?_
            refine ao_no rfl rfl rfl rfl rfl rfl ?_
            refine sS rfl rfl rfl (op1_pickF rfl rfl rfl) ?_
            refine sM rfl rfl rfl rfl rfl ?_
            refine ao_yes rfl rfl rfl rfl rfl rfl (op1_faR st_29 (i := 0) rfl rfl rfl) ?_
            refine ao_yes rfl rfl rfl rfl rfl rfl ((op1_ldR Try.underlying3 rfl rfl rfl rfl rfl)) ?_
            refine ao_yes rfl rfl rfl rfl rfl rfl ((op1_cmp rfl rfl rfl rfl).cast (y := (BO ((a0.kind == 6)))) rfl rfl) ?_
            refine ao_yes rfl rfl rfl rfl rfl rfl (op1_move rfl rfl) ?_
            refine ao_cases (t := 60) rfl ?_ ?_
            ·intro hb33; replace h := ocond_t hb33 h
             refine ao_yes rfl rfl rfl rfl rfl rfl (op1_faR st_29 (i := 5) rfl rfl rfl) ?_
             refine ao_yes rfl rfl rfl rfl rfl rfl ((op1_ldR Try.underlying23 rfl rfl rfl rfl rfl)) ?_
             refine ao_yes rfl rfl rfl rfl rfl rfl (op1_lenM Try.underlying23 rfl rfl) ?_
             refine ao_yes rfl rfl rfl rfl rfl rfl ((op1_cmp rfl rfl rfl rfl).cast (y := (BO ((decide ((((a0.bytes).length : Nat) : Int) > 65536))))) rfl rfl) ?_
             refine ao_yes rfl rfl rfl rfl rfl rfl (op1_pickT rfl rfl rfl) ?_
             refine sS rfl rfl rfl (op1_pickF rfl rfl rfl) (ao_nil ?_)
             exact ⟨rfl, (decide ((((a0.bytes).length : Nat) : Int) > 65536)), h, ⟨(.cons .same .nil), (sC rfl (sC rfl sub_nil))⟩⟩
            ·intro hb33; replace h := ocond_f hb33 h
             refine ao_no rfl rfl rfl rfl rfl rfl ?_
             refine ao_no rfl rfl rfl rfl rfl rfl ?_
             refine ao_no rfl rfl rfl rfl rfl rfl ?_
             refine ao_no rfl rfl rfl rfl rfl rfl ?_
             refine ao_yes rfl rfl rfl rfl rfl rfl (op1_pickF rfl rfl rfl) ?_
             refine sS rfl rfl rfl (op1_pickF rfl rfl rfl) (ao_nil ?_)
             exact ⟨rfl, false, h, ⟨(.cons .same .nil), (sC rfl (sC rfl sub_nil))⟩⟩
        ·refine bw_region ?_
         refine sS rfl rfl rfl (op1_faR st_29 (i := 0) rfl rfl rfl) ?_
         refine sS rfl rfl rfl ((op1_ldR Try.underlying3 rfl rfl rfl rfl rfl)) ?_
         refine sS rfl rfl rfl ((op1_cmp rfl rfl rfl rfl).cast (y := (BO ((a0.kind == 10)))) rfl rfl) ?_
         refine sM rfl rfl rfl rfl rfl ?_
         refine ao_cases (t := 37) rfl ?_ ?_
         ·intro hb34; replace h := ocond_t hb34 h
          refine ao_yes rfl rfl rfl rfl rfl rfl (op1_faR st_29 (i := 10) rfl rfl rfl) ?_
          refine ao_yes rfl rfl rfl rfl rfl rfl ((op1_ldR Try.underlying3 rfl rfl rfl rfl rfl)) ?_
          refine ao_yes rfl rfl rfl rfl rfl rfl ((op1_cmp rfl rfl rfl rfl).cast (y := (BO ((decide (a0.ver < 1))))) rfl rfl) ?_
          refine ao_yes rfl rfl rfl rfl rfl rfl (op1_move rfl rfl) ?_
          refine ao_cases (t := 41) rfl ?_ ?_
          ·intro hb35; replace h := ocond_t hb35 h
           refine ao_no rfl rfl rfl rfl rfl rfl ?_
           refine ao_no rfl rfl rfl rfl rfl rfl ?_
           refine ao_no rfl rfl rfl rfl rfl rfl ?_
           refine ao_yes rfl rfl rfl rfl rfl rfl (op1_pickT rfl rfl rfl) ?_
           refine sS rfl rfl rfl (op1_pickT rfl rfl rfl) (ao_nil ?_)
           exact ⟨rfl, true, h, ⟨(.cons .same .nil), (sC rfl (sC rfl sub_nil))⟩⟩
          ·intro hb35; replace h := ocond_f hb35 h
           refine ao_yes rfl rfl rfl rfl rfl rfl (op1_faR st_29 (i := 10) rfl rfl rfl) ?_
           refine ao_yes rfl rfl rfl rfl rfl rfl ((op1_ldR Try.underlying3 rfl rfl rfl rfl rfl)) ?_
           refine ao_yes rfl rfl rfl rfl rfl rfl ((op1_cmp rfl rfl rfl rfl).cast (y := (BO ((decide (a0.ver > 1000))))) rfl rfl) ?_
           refine ao_yes rfl rfl rfl rfl rfl rfl (op1_pickF rfl rfl rfl) ?_
           refine sS rfl rfl rfl (op1_pickT rfl rfl rfl) (ao_nil ?_)
           exact ⟨rfl, (decide (a0.ver > 1000)), h, ⟨(.cons .same .nil), (sC rfl (sC rfl sub_nil))⟩⟩
         ·intro hb34; replace h := ocond_f hb34 h
          refine ao_no rfl rfl rfl rfl rfl rfl ?_
          refine ao_no rfl rfl rfl rfl rfl rfl ?_
          refine ao_no rfl rfl rfl rfl rfl rfl ?_
          refine ao_no rfl rfl rfl rfl rfl rfl ?_
          refine ao_no rfl rfl rfl rfl rfl rfl ?_
          refine ao_no rfl rfl rfl rfl rfl rfl ?_
          refine ao_no rfl rfl rfl rfl rfl rfl ?_
          refine ao_no rfl rfl rfl rfl rfl rfl ?_
          refine sS rfl rfl rfl (op1_pickF rfl rfl rfl) (ao_nil ?_)
          exact ⟨rfl, false, h, ⟨(.cons .same .nil), (sC rfl (sC rfl sub_nil))⟩⟩
      ·refine bw_region ?_
       refine sS rfl rfl rfl (op1_faR st_29 (i := 0) rfl rfl rfl) ?_
       refine sS rfl rfl rfl ((op1_ldR Try.underlying3 rfl rfl rfl rfl rfl)) ?_
       refine sS rfl rfl rfl ((op1_cmp rfl rfl rfl rfl).cast (y := (BO ((a0.kind == 10)))) rfl rfl) ?_
       refine sM rfl rfl rfl rfl rfl ?_
       refine ao_cases (t := 28) rfl ?_ ?_
       ·intro hb36; replace h := ocond_t hb36 h
        refine ao_yes rfl rfl rfl rfl rfl rfl (op1_faR st_29 (i := 9) rfl rfl rfl) ?_
        refine ao_yes rfl rfl rfl rfl rfl rfl ((op1_ldR Try.underlying9 rfl rfl rfl rfl rfl)) ?_
        obtain ⟨x37, hx37, h⟩ := obind h
        refine ao_yes rfl rfl rfl rfl rfl rfl (op1_pcall rfl en_74 rfl (.cons (Wk.refl _) .nil) ⟨rfl, trivial⟩ (s_ref01_Name a0.cls x37 hx37) rfl) ?_
        refine ao_yes rfl rfl rfl rfl rfl rfl (op1_not rfl rfl) ?_
        refine sS rfl rfl rfl (op1_pickT rfl rfl rfl) (ao_nil ?_)
        exact ⟨rfl, (!x37), h, ⟨(.cons .same .nil), (sC rfl (sC rfl sub_nil))⟩⟩
       ·intro hb36; replace h := ocond_f hb36 h
        refine ao_no rfl rfl rfl rfl rfl rfl ?_
        refine ao_no rfl rfl rfl rfl rfl rfl ?_
        refine ao_no rfl rfl rfl rfl rfl rfl ?_
        refine ao_no rfl rfl rfl rfl rfl rfl ?_
        refine sS rfl rfl rfl (op1_pickF rfl rfl rfl) (ao_nil ?_)
        exact ⟨rfl, false, h, ⟨(.cons .same .nil), (sC rfl (sC rfl sub_nil))⟩⟩
    ·refine bw_region ?_
     refine sM rfl rfl rfl rfl rfl ?_
     refine sS rfl rfl rfl ((op1_cmp rfl rfl rfl rfl).cast (y := (BO ((decide (a1 ≥ 16384))))) rfl rfl) ?_
     refine sM rfl rfl rfl rfl rfl ?_
     refine ao_cases (t := 21) rfl ?_ ?_
     ·intro hb38; replace h := ocond_t hb38 h
      refine ao_no rfl rfl rfl rfl rfl rfl ?_
      refine ao_no rfl rfl rfl rfl rfl rfl ?_
      refine sS rfl rfl rfl (op1_pickT rfl rfl rfl) (ao_nil ?_)
      exact ⟨rfl, true, h, ⟨(.cons .same .nil), (sC rfl (sC rfl sub_nil))⟩⟩
     ·intro hb38; replace h := ocond_f hb38 h
      refine ao_yes rfl rfl rfl rfl rfl rfl (op1_move rfl rfl) ?_
      refine ao_yes rfl rfl rfl rfl rfl rfl ((op1_cmp rfl rfl rfl rfl).cast (y := (BO ((decide (a2 > 64))))) rfl rfl) ?_
      refine sS rfl rfl rfl (op1_pickF rfl rfl rfl) (ao_nil ?_)
      exact ⟨rfl, (decide (a2 > 64)), h, ⟨(.cons .same .nil), (sC rfl (sC rfl sub_nil))⟩⟩
  ·refine bw_region ?_
   refine sS rfl rfl rfl (op1_faR st_29 (i := 0) rfl rfl rfl) ?_
   refine sS rfl rfl rfl ((op1_ldR Try.underlying3 rfl rfl rfl rfl rfl)) ?_
   refine sS rfl rfl rfl ((op1_cmp rfl rfl rfl rfl).cast (y := (BO ((decide (a0.kind < 1))))) rfl rfl) ?_
   refine sM rfl rfl rfl rfl rfl ?_
   refine ao_cases (t := 14) rfl ?_ ?_
   ·intro hb39; replace h := ocond_t hb39 h
    refine ao_no rfl rfl rfl rfl rfl rfl ?_
    refine ao_no rfl rfl rfl rfl rfl rfl ?_
    refine ao_no rfl rfl rfl rfl rfl rfl ?_
    refine sS rfl rfl rfl (op1_pickT rfl rfl rfl) (ao_nil ?_)
    exact ⟨rfl, true, h, ⟨(.cons .same .nil), (sC rfl (sC rfl (sC rfl (sC rfl sub_nil))))⟩⟩
   ·intro hb39; replace h := ocond_f hb39 h
    refine ao_yes rfl rfl rfl rfl rfl rfl (op1_faR st_29 (i := 0) rfl rfl rfl) ?_
    refine ao_yes rfl rfl rfl rfl rfl rfl ((op1_ldR Try.underlying3 rfl rfl rfl rfl rfl)) ?_
    refine ao_yes rfl rfl rfl rfl rfl rfl ((op1_cmp rfl rfl rfl rfl).cast (y := (BO ((decide (a0.kind > 10))))) rfl rfl) ?_
    refine sS rfl rfl rfl (op1_pickF rfl rfl rfl) (ao_nil ?_)
    exact ⟨rfl, (decide (a0.kind > 10)), h, ⟨(.cons .same .nil), (sC rfl (sC rfl (sC rfl (sC rfl sub_nil))))⟩⟩
noncomputable def ref01_Parts_j1 (s2 : (List Term)) : Option (List Term) :=
 some s2
noncomputable def ref01_Parts_l1b (a0 : Term) (g1 : (List Term) → Nat → Option (List Term)) (s5 : (List Term)) (s6 : Nat) : Option (List Term) :=
 bif (decide (((s6 : Nat) : Int) < (((a0.fields).length : Nat) : Int))) then (
  Option.bind ((a0.fields)[s6]?) fun x9 =>
  Option.bind (appO 152 s5 ([(x9.2)] : (List Term))) fun x10 =>
  g1 x10 (s6 + 1)
 ) else (
  ref01_Parts_j1 s5
 )
theorem ref01_Parts_l1b_cm {ι : Type} {ρ : ι → Type} (g1 : (∀ i, Option (ρ i)) → (List Term) → Nat → Option (List Term)) (h_g1 : ∀ y0 y1, CM (fun G => g1 G y0 y1)) (a0 : Term) (s5 : (List Term)) (s6 : Nat) : CM (fun G : (∀ i, Option (ρ i)) => ref01_Parts_l1b a0 (g1 G) s5 s6) := by
 simp only [ref01_Parts_l1b]
 repeat (first | exact cm_const | exact h_g1 _ _ | apply ref01_Parts_j1_cm | refine cm_cond ?_ ?_ | refine cm_bind ?_ (fun _ => ?_) | intro _ | assumption)
noncomputable def ref01_Parts_l1 (a0 : Term) (s5 : (List Term)) (s6 : Nat) : Option (List Term) :=
 fixO (ι := ((List Term) × Nat)) (ρ := fun _ => (List Term)) (fun g i => ref01_Parts_l1b a0 (fun s5 s6 => g (s5, s6)) i.1 i.2) (s5, s6)
theorem ref01_Parts_l1_eq (a0 : Term) (s5 : (List Term)) (s6 : Nat) : ref01_Parts_l1 a0 s5 s6 = ref01_Parts_l1b a0 (ref01_Parts_l1 a0) s5 s6 :=
 fixO_eq (ι := ((List Term) × Nat)) (ρ := fun _ => (List Term)) (Φ := fun g i => ref01_Parts_l1b a0 (fun s5 s6 => g (s5, s6)) i.1 i.2) (fun i => ref01_Parts_l1b_cm (ι := ((List Term) × Nat)) (ρ := fun _ => (List Term)) (fun g => (fun s5 s6 => g (s5, s6))) (fun _ _ => cm_app) a0 i.1 i.2) (s5, s6)
noncomputable def ref01_Parts_j2 (a0 : Term) (s3 : Bool) : Option (List Term) :=
 bif s3 then (
  ref01_Parts_l1 a0 ([] : (List Term)) 0
 ) else (
  ref01_Parts_j1 ([] : (List Term))
 )
noncomputable def p_ref01_Parts (a0 : Term) : Option (List Term) :=
 bif (a0.kind == 8) then (
  some a0.list
 ) else (
  bif (a0.kind == 9) then (
   ref01_Parts_j2 a0 true
  ) else (
   ref01_Parts_j2 a0 (a0.kind == 10)
  )
 )
theorem s_ref01_Parts (a0 : Term) (r : (List Term)) (h : p_ref01_Parts a0 = some r) : PCalls Try.prog 51 [(ofTermX a0)] (PV.sl none 29 11 (List.map ofTerm r)) := by
 unfold p_ref01_Parts at h
 refine acalls_of Try.func51 rfl Try.ntmps51 Try.results51 rfl (aw_of_bw ?_)
 change BW _ _ _ ⟨[(0, (ofTermX a0))], [], _⟩ _
 refine bR ?_
 refine sS rfl rfl rfl (op1_box rfl rfl rfl) ?_
 refine sA rfl rfl rfl rfl rfl (ao_nil ?_)
 change BW _ _ _ _ _
 refine bw_seq ?_
 refine bR ?_
 refine sS rfl rfl rfl (op1_faR st_29 (i := 0) rfl rfl rfl) ?_
 refine sS rfl rfl rfl ((op1_ldR Try.underlying3 rfl rfl rfl rfl rfl)) ?_
 refine sS rfl rfl rfl ((op1_cmp rfl rfl rfl rfl).cast (y := (BO ((a0.kind == 8)))) rfl rfl) (ao_nil ?_)
 change BW _ _ _ _ _
 refine bw_cond rfl ?_ ?_
 ·intro hc1; replace h := ocond_t hc1 h
  refine bR ?_
  refine sS rfl rfl rfl (op1_faR st_29 (i := 7) rfl rfl rfl) ?_
  refine sS rfl rfl rfl ((op1_ldR Try.underlying26 rfl rfl rfl rfl rfl)) ?_
  refine sA rfl rfl rfl rfl rfl (ao_nil ?_)
  change BW _ _ _ _ _
  refine bw_ret ?_
  change ∃ xs, _ = some xs ∧ EndOk _ _ _ _
  obtain rfl := Option.some.inj h
  exact ⟨_, rfl, endOk0 (y := (PV.sl none 29 11 (List.map ofTerm a0.list))) (Wk.refl _) (ids_slM ids_Term a0.list) ⟨rfl, rfl⟩⟩
 ·intro hc1; replace h := ocond_f hc1 h
  refine bw_skip ?_
  change BW _ _ _ _ _
  refine bR ?_
  refine sS rfl rfl rfl ((op1_bslice (xs := []) Try.underlying26 inf_29 rfl rfl rfl rfl rfl rfl ⟨Nat.le_of_ble_eq_true rfl, Nat.le_of_ble_eq_true rfl⟩ rfl).cast (y := (PV.sl (some 1) 29 11 (List.map ofTerm ([] : (List Term))))) rfl rfl) ?_
  refine sA rfl rfl rfl rfl rfl (ao_nil ?_)
  change BW _ _ _ _ _
  refine bw_seqJ (ι := (List Term)) (fun i => ref01_Parts_j1 i = some r) (fun i => [(3, (PV.sl (some 1) 29 11 (List.map ofTerm i)))]) (fun i => [.dead, .arr 29 (i).length]) ?_ ?_ ?_
  ·intro i; exact ⟨Nat.le_of_ble_eq_true rfl, ⟨(il_tok rfl (ids_map ids_Term _)), trivial⟩, trivial⟩
  ·rintro s2 h; replace h : ref01_Parts_j1 s2 = some r := h; unfold ref01_Parts_j1 at h
   change BW _ _ _ ⟨[(3, (PV.sl (some 1) 29 11 (List.map ofTerm s2)))], [.dead, .arr 29 (s2).length], _⟩ _
   refine bR ?_
   refine sM rfl rfl rfl rfl rfl ?_
   refine sA rfl rfl rfl rfl rfl (ao_nil ?_)
   change BW _ _ _ _ _
   refine bw_ret ?_
   change ∃ xs, _ = some xs ∧ EndOk _ _ _ _
   obtain rfl := Option.some.inj h
   exact ⟨_, rfl, endOk0 (y := (PV.sl none 29 11 (List.map ofTerm s2))) Wk.tok (ids_slM ids_Term s2) ⟨rfl, rfl⟩⟩
  ·refine bw_seqJ (ι := Bool) (fun i => ref01_Parts_j2 a0 i = some r) (fun i => [(1, (PV.rf 0 0)), (3, (PV.sl (some 1) 29 11 (List.map ofTerm ([] : (List Term))))), (18, (BO i))]) (fun i => [.box 29 [(I64 a0.kind), (BO a0.bool), (I64 a0.int), (PV.v (.float .f64 a0.float)), (ofStr a0.text), (PV.sl none 5 1 (List.map ofB a0.bytes)), (PV.v (.int .u64 a0.ref)), (PV.sl none 29 11 (List.map ofTerm a0.list)), (PV.sl none 66 12 (List.map ofEntry a0.fields)), (ofStr a0.cls), (I64 a0.ver)], .arr 29 (([] : (List Term))).length]) ?_ ?_ ?_
   ·intro i; exact ⟨Nat.le_of_ble_eq_true rfl, ⟨(il_rf rfl), ⟨(il_tok rfl (ids_map ids_Term _)), ⟨(il_nil rfl), trivial⟩⟩⟩, ⟨⟨(il_nil rfl), ⟨(il_nil rfl), ⟨(il_nil rfl), ⟨(il_nil rfl), ⟨(il_nil rfl), ⟨(il_nil (ids_slM (fun _ => rfl) _)), ⟨(il_nil rfl), ⟨(il_nil (ids_slM ids_Term _)), ⟨(il_nil (ids_slM ids_Entry _)), ⟨(il_nil rfl), ⟨(il_nil rfl), trivial⟩⟩⟩⟩⟩⟩⟩⟩⟩⟩⟩, trivial⟩⟩
   ·rintro s3 h; replace h : ref01_Parts_j2 a0 s3 = some r := h; unfold ref01_Parts_j2 at h
    change BW _ _ _ ⟨[(1, (PV.rf 0 0)), (3, (PV.sl (some 1) 29 11 (List.map ofTerm ([] : (List Term))))), (18, (BO s3))], [.box 29 [(I64 a0.kind), (BO a0.bool), (I64 a0.int), (PV.v (.float .f64 a0.float)), (ofStr a0.text), (PV.sl none 5 1 (List.map ofB a0.bytes)), (PV.v (.int .u64 a0.ref)), (PV.sl none 29 11 (List.map ofTerm a0.list)), (PV.sl none 66 12 (List.map ofEntry a0.fields)), (ofStr a0.cls), (I64 a0.ver)], .arr 29 (([] : (List Term))).length], _⟩ _
    refine bw_cond rfl ?_ ?_
    ·intro hc4; replace h := ocond_t hc4 h
     refine bR ?_
     refine sA rfl rfl rfl rfl rfl (ao_nil ?_)
     change BW _ _ _ _ _
     refine bw_block ?_
     change BW _ _ _ _ _
     unfold ref01_Parts_l1 at h
     refine bw_loop (σ := ((List Term) × Nat)) (fun i => [(1, (PV.rf 0 0)), (3, (PV.sl (some 1) 29 11 (List.map ofTerm i.1))), (4, (I64 (((i.2 : Nat) : Int))))]) (fun i => [.box 29 [(I64 a0.kind), (BO a0.bool), (I64 a0.int), (PV.v (.float .f64 a0.float)), (ofStr a0.text), (PV.sl none 5 1 (List.map ofB a0.bytes)), (PV.v (.int .u64 a0.ref)), (PV.sl none 29 11 (List.map ofTerm a0.list)), (PV.sl none 66 12 (List.map ofEntry a0.fields)), (ofStr a0.cls), (I64 a0.ver)], .arr 29 (i.1).length]) (([] : (List Term)), 0) h ?_ ?_ ?_
     ·intro i; exact ⟨Nat.le_of_ble_eq_true rfl, ⟨(il_rf rfl), ⟨(il_tok rfl (ids_map ids_Term _)), ⟨(il_nil rfl), trivial⟩⟩⟩, ⟨⟨(il_nil rfl), ⟨(il_nil rfl), ⟨(il_nil rfl), ⟨(il_nil rfl), ⟨(il_nil rfl), ⟨(il_nil (ids_slM (fun _ => rfl) _)), ⟨(il_nil rfl), ⟨(il_nil (ids_slM ids_Term _)), ⟨(il_nil (ids_slM ids_Entry _)), ⟨(il_nil rfl), ⟨(il_nil rfl), trivial⟩⟩⟩⟩⟩⟩⟩⟩⟩⟩⟩, trivial⟩⟩
     ·exact ⟨(.cons .same (.cons .same .nil)), (sC rfl (sC rfl (sC rfl sub_nil)))⟩
     ·rintro g1_f ⟨s5, s6⟩ h; replace h : ref01_Parts_l1b a0 (fun y0 y1 => g1_f (y0, y1)) s5 s6 = some r := h; unfold ref01_Parts_l1b at h
      change BW _ _ _ ⟨[(1, (PV.rf 0 0)), (3, (PV.sl (some 1) 29 11 (List.map ofTerm s5))), (4, (I64 (((s6 : Nat) : Int))))], [.box 29 [(I64 a0.kind), (BO a0.bool), (I64 a0.int), (PV.v (.float .f64 a0.float)), (ofStr a0.text), (PV.sl none 5 1 (List.map ofB a0.bytes)), (PV.v (.int .u64 a0.ref)), (PV.sl none 29 11 (List.map ofTerm a0.list)), (PV.sl none 66 12 (List.map ofEntry a0.fields)), (ofStr a0.cls), (I64 a0.ver)], .arr 29 (s5).length], _⟩ _
      refine bw_seq ?_
      refine bR ?_
      refine sM rfl rfl rfl rfl rfl ?_
      refine sS rfl rfl rfl (op1_faR st_29 (i := 8) rfl rfl rfl) ?_
      refine sS rfl rfl rfl ((op1_ldR Try.underlying27 rfl rfl rfl rfl rfl)) ?_
      refine sS rfl rfl rfl (op1_lenM Try.underlying27 rfl rfl) ?_
      refine sS rfl rfl rfl ((op1_cmp rfl rfl rfl rfl).cast (y := (BO ((decide (((s6 : Nat) : Int) < (((a0.fields).length : Nat) : Int)))))) rfl rfl) (ao_nil ?_)
      change BW _ _ _ _ _
      refine bw_len (t := 21) rfl fun hb8 => ?_
      try rw [List.length_map] at hb8
      refine bw_cond rfl ?_ ?_
      ·intro hc7; replace h := ocond_t hc7 h
       have hc7_ := of_decide_eq_true hc7
       refine bw_skip ?_
       change BW _ _ _ _ _
       refine bw_seq ?_
       refine bw_block ?_
       change BW _ _ _ _ _
       refine bw_region ?_
       refine sM rfl rfl rfl rfl rfl ?_
       refine sS rfl rfl rfl (op1_faR st_29 (i := 8) rfl rfl rfl) ?_
       refine sS rfl rfl rfl ((op1_ldR Try.underlying27 rfl rfl rfl rfl rfl)) ?_
       refine sM rfl rfl rfl rfl rfl ?_
       obtain ⟨x9, hx9, h⟩ := obind h
       refine sS rfl rfl rfl (op1_idxN (i := s6) Try.underlying27 inf_66 rfl rfl rfl hx9 (ofEntry_eq _)) ?_
       refine sS rfl rfl rfl (op1_faP st_66 (i := 1) rfl rfl rfl) ?_
       refine sS rfl rfl rfl ((op1_ldPA inf_29 Try.underlying29 rfl rfl rfl rfl rfl)) ?_
       refine sS rfl rfl rfl ((op1_bslice (xs := [(ofTermX (x9.2))]) Try.underlying26 inf_29 rfl rfl rfl rfl rfl rfl ⟨Nat.le_of_ble_eq_true rfl, Nat.le_of_ble_eq_true rfl⟩ rfl).cast (y := (PV.sl (some 2) 29 11 (List.map ofTerm ([(x9.2)] : (List Term))))) (by simp only [List.map_cons, List.map_nil, ofTerm_eq]; try rfl) rfl) ?_
       obtain ⟨x10, hx10, h⟩ := obind h
       refine sS rfl rfl rfl (op1_appM Try.underlying26 inf_29 rfl Try.underlying26 rfl rfl rfl rfl csz_Term call1_Term hx10 rfl) ?_
       refine sA rfl rfl rfl rfl rfl (ao_nil ?_)
       change BW _ _ _ _ _
       refine bw_region ?_
       refine sM rfl rfl rfl rfl rfl ?_
       refine sS rfl rfl rfl (op1_incN (k := s6) (c := 1) rfl rfl rfl (by omega)) ?_
       refine sA rfl rfl rfl rfl rfl (ao_nil ?_)
       exact ⟨rfl, (x10, (s6 + 1)), h, ⟨(.cons .same (.cons .same .nil)), (sC rfl (sC rfl (sC rfl sub_nil)))⟩⟩
      ·intro hc7; replace h := ocond_f hc7 h
       refine bw_exit ?_
       exact ⟨rfl, s5, h, ⟨(.cons .dead (.cons .same .nil)), (sC rfl sub_nil)⟩⟩
    ·intro hc4; replace h := ocond_f hc4 h
     refine bw_skip ?_
     exact ⟨rfl, ([] : (List Term)), h, ⟨(.cons .dead (.cons .same .nil)), (sC rfl sub_nil)⟩⟩
   ·refine bw_region ?_
    refine sS rfl rfl rfl (op1_faR st_29 (i := 0) rfl rfl rfl) ?_
    refine sS rfl rfl rfl ((op1_ldR Try.underlying3 rfl rfl rfl rfl rfl)) ?_
    refine sS rfl rfl rfl ((op1_cmp rfl rfl rfl rfl).cast (y := (BO ((a0.kind == 9)))) rfl rfl) ?_
    refine sM rfl rfl rfl rfl rfl ?_
    refine ao_cases (t := 14) rfl ?_ ?_
    ·intro hb11; replace h := ocond_t hb11 h
     refine ao_no rfl rfl rfl rfl rfl rfl ?_
     refine ao_no rfl rfl rfl rfl rfl rfl ?_
     refine ao_no rfl rfl rfl rfl rfl rfl ?_
     refine sS rfl rfl rfl (op1_pickT rfl rfl rfl) (ao_nil ?_)
     exact ⟨rfl, true, h, ⟨(.cons .same (.cons .same .nil)), (sC rfl (sC rfl (sC rfl sub_nil)))⟩⟩
    ·intro hb11; replace h := ocond_f hb11 h
     refine ao_yes rfl rfl rfl rfl rfl rfl (op1_faR st_29 (i := 0) rfl rfl rfl) ?_
     refine ao_yes rfl rfl rfl rfl rfl rfl ((op1_ldR Try.underlying3 rfl rfl rfl rfl rfl)) ?_
     refine ao_yes rfl rfl rfl rfl rfl rfl ((op1_cmp rfl rfl rfl rfl).cast (y := (BO ((a0.kind == 10)))) rfl rfl) ?_
     refine sS rfl rfl rfl (op1_pickF rfl rfl rfl) (ao_nil ?_)
     exact ⟨rfl, (a0.kind == 10), h, ⟨(.cons .same (.cons .same .nil)), (sC rfl (sC rfl (sC rfl sub_nil)))⟩⟩
noncomputable def ref01_seen_part_l1b (r_ref01_seen_part : S_ref01_seen → Term → Int → Option S_ref01_seen) (a2 : Int) (x4 : (List Term)) (g1 : Nat → Int → Int → Int → Int → Option S_ref01_seen) (s5 : Nat) (s6 : Int) (s7 : Int) (s8 : Int) (s9 : Int) : Option S_ref01_seen :=
 bif (decide (((s5 : Nat) : Int) < (((x4).length : Nat) : Int))) then (
  Option.bind ((x4)[s5]?) fun x12 =>
  Option.bind (r_ref01_seen_part (S_ref01_seen.mk s6 s7 s8 s9) x12 (IntKind.i64.wrap (a2 + 1))) fun x13 =>
  bif (x13.f_why != 0) then (
   some x13
  ) else (
   g1 (s5 + 1) x13.f_n x13.f_deep x13.f_at x13.f_why
  )
 ) else (
  some (S_ref01_seen.mk s6 s7 s8 s9)
 )
theorem ref01_seen_part_l1b_cm {ι : Type} {ρ : ι → Type} (r_ref01_seen_part : (∀ i, Option (ρ i)) → S_ref01_seen → Term → Int → Option S_ref01_seen) (h_r_ref01_seen_part : ∀ y0 y1 y2, CM (fun G => r_ref01_seen_part G y0 y1 y2)) (g1 : (∀ i, Option (ρ i)) → Nat → Int → Int → Int → Int → Option S_ref01_seen) (h_g1 : ∀ y0 y1 y2 y3 y4, CM (fun G => g1 G y0 y1 y2 y3 y4)) (a2 : Int) (x4 : (List Term)) (s5 : Nat) (s6 : Int) (s7 : Int) (s8 : Int) (s9 : Int) : CM (fun G : (∀ i, Option (ρ i)) => ref01_seen_part_l1b (r_ref01_seen_part G) a2 x4 (g1 G) s5 s6 s7 s8 s9) := by
 simp only [ref01_seen_part_l1b]
 repeat (first | exact cm_const | exact h_r_ref01_seen_part _ _ _ | exact h_g1 _ _ _ _ _ | refine cm_cond ?_ ?_ | refine cm_bind ?_ (fun _ => ?_))
noncomputable def ref01_seen_part_l1 (r_ref01_seen_part : S_ref01_seen → Term → Int → Option S_ref01_seen) (a2 : Int) (x4 : (List Term)) (s5 : Nat) (s6 : Int) (s7 : Int) (s8 : Int) (s9 : Int) : Option S_ref01_seen :=
 fixO (ι := (Nat × Int × Int × Int × Int)) (ρ := fun _ => S_ref01_seen) (fun g i => ref01_seen_part_l1b r_ref01_seen_part a2 x4 (fun s5 s6 s7 s8 s9 => g (s5, s6, s7, s8, s9)) i.1 i.2.1 i.2.2.1 i.2.2.2.1 i.2.2.2.2) (s5, s6, s7, s8, s9)
theorem ref01_seen_part_l1_eq (r_ref01_seen_part : S_ref01_seen → Term → Int → Option S_ref01_seen) (a2 : Int) (x4 : (List Term)) (s5 : Nat) (s6 : Int) (s7 : Int) (s8 : Int) (s9 : Int) : ref01_seen_part_l1 r_ref01_seen_part a2 x4 s5 s6 s7 s8 s9 = ref01_seen_part_l1b r_ref01_seen_part a2 x4 (ref01_seen_part_l1 r_ref01_seen_part a2 x4) s5 s6 s7 s8 s9 :=
 fixO_eq (ι := (Nat × Int × Int × Int × Int)) (ρ := fun _ => S_ref01_seen) (Φ := fun g i => ref01_seen_part_l1b r_ref01_seen_part a2 x4 (fun s5 s6 s7 s8 s9 => g (s5, s6, s7, s8, s9)) i.1 i.2.1 i.2.2.1 i.2.2.2.1 i.2.2.2.2) (fun i => ref01_seen_part_l1b_cm (ι := (Nat × Int × Int × Int × Int)) (ρ := fun _ => S_ref01_seen) (fun _ => r_ref01_seen_part) (fun _ _ _ => cm_const) (fun g => (fun s5 s6 s7 s8 s9 => g (s5, s6, s7, s8, s9))) (fun _ _ _ _ _ => cm_app) a2 x4 i.1 i.2.1 i.2.2.1 i.2.2.2.1 i.2.2.2.2) (s5, s6, s7, s8, s9)
theorem ref01_seen_part_l1_cm {ι : Type} {ρ : ι → Type} (r_ref01_seen_part : (∀ i, Option (ρ i)) → S_ref01_seen → Term → Int → Option S_ref01_seen) (h_r_ref01_seen_part : ∀ y0 y1 y2, CM (fun G => r_ref01_seen_part G y0 y1 y2)) (a2 : Int) (x4 : (List Term)) (s5 : Nat) (s6 : Int) (s7 : Int) (s8 : Int) (s9 : Int) : CM (fun G : (∀ i, Option (ρ i)) => ref01_seen_part_l1 (r_ref01_seen_part G) a2 x4 s5 s6 s7 s8 s9) :=
 cm_fix (κ := (Nat × Int × Int × Int × Int)) (τ := fun _ => S_ref01_seen) (Φ := fun G g i => ref01_seen_part_l1b (r_ref01_seen_part G) a2 x4 (fun s5 s6 s7 s8 s9 => g (s5, s6, s7, s8, s9)) i.1 i.2.1 i.2.2.1 i.2.2.2.1 i.2.2.2.2) (fun g i => ref01_seen_part_l1b_cm r_ref01_seen_part h_r_ref01_seen_part (fun _ => (fun s5 s6 s7 s8 s9 => g (s5, s6, s7, s8, s9))) (fun _ _ _ _ _ => cm_const) a2 x4 i.1 i.2.1 i.2.2.1 i.2.2.2.1 i.2.2.2.2) (fun G i => ref01_seen_part_l1b_cm (ι := (Nat × Int × Int × Int × Int)) (ρ := fun _ => S_ref01_seen) (fun _ => r_ref01_seen_part G) (fun _ _ _ => cm_const) (fun g => (fun s5 s6 s7 s8 s9 => g (s5, s6, s7, s8, s9))) (fun _ _ _ _ _ => cm_app) a2 x4 i.1 i.2.1 i.2.2.1 i.2.2.2.1 i.2.2.2.2) (s5, s6, s7, s8, s9)
noncomputable def ref01_seen_part_j1 (r_ref01_seen_part : S_ref01_seen → Term → Int → Option S_ref01_seen) (a0 : S_ref01_seen) (a1 : Term) (a2 : Int) (s3 : Int) : Option S_ref01_seen :=
 Option.bind (p_ref01_Parts a1) fun x4 =>
 ref01_seen_part_l1 r_ref01_seen_part a2 x4 0 (IntKind.i64.wrap (a0.f_n + 1)) s3 a0.f_at a0.f_why
theorem ref01_seen_part_j1_cm {ι : Type} {ρ : ι → Type} (r_ref01_seen_part : (∀ i, Option (ρ i)) → S_ref01_seen → Term → Int → Option S_ref01_seen) (h_r_ref01_seen_part : ∀ y0 y1 y2, CM (fun G => r_ref01_seen_part G y0 y1 y2)) (a0 : S_ref01_seen) (a1 : Term) (a2 : Int) (s3 : Int) : CM (fun G : (∀ i, Option (ρ i)) => ref01_seen_part_j1 (r_ref01_seen_part G) a0 a1 a2 s3) := by
 simp only [ref01_seen_part_j1]
 repeat (first | exact cm_const | exact h_r_ref01_seen_part _ _ _ | apply ref01_seen_part_l1_cm | refine cm_cond ?_ ?_ | refine cm_bind ?_ (fun _ => ?_) | intro _ | assumption)
noncomputable def b_ref01_seen_part (r_ref01_seen_part : S_ref01_seen → Term → Int → Option S_ref01_seen) (a0 : S_ref01_seen) (a1 : Term) (a2 : Int) : Option S_ref01_seen :=
 Option.bind (p_ref01_own a1 a0.f_n a2) fun x1 =>
 bif (x1 != 0) then (
  some (S_ref01_seen.mk a0.f_n a0.f_deep a0.f_n x1)
 ) else (
  bif (decide (a2 > a0.f_deep)) then (
   ref01_seen_part_j1 r_ref01_seen_part a0 a1 a2 a2
  ) else (
   ref01_seen_part_j1 r_ref01_seen_part a0 a1 a2 a0.f_deep
  )
 )
theorem b_ref01_seen_part_cm {ι : Type} {ρ : ι → Type} (r_ref01_seen_part : (∀ i, Option (ρ i)) → S_ref01_seen → Term → Int → Option S_ref01_seen) (h_r_ref01_seen_part : ∀ y0 y1 y2, CM (fun G => r_ref01_seen_part G y0 y1 y2)) (a0 : S_ref01_seen) (a1 : Term) (a2 : Int) : CM (fun G : (∀ i, Option (ρ i)) => b_ref01_seen_part (r_ref01_seen_part G) a0 a1 a2) := by
 simp only [b_ref01_seen_part]
 repeat (first | exact cm_const | exact h_r_ref01_seen_part _ _ _ | apply ref01_seen_part_j1_cm | refine cm_cond ?_ ?_ | refine cm_bind ?_ (fun _ => ?_) | intro _ | assumption)
inductive C_ref01_seen_part where
 | k_ref01_seen_part (a0 : S_ref01_seen) (a1 : Term) (a2 : Int)
def C_ref01_seen_part.R : C_ref01_seen_part → Type
 | .k_ref01_seen_part _ _ _ => S_ref01_seen
noncomputable def C_ref01_seen_part.F (g : ∀ i : C_ref01_seen_part, Option i.R) : ∀ i : C_ref01_seen_part, Option i.R
 | .k_ref01_seen_part a0 a1 a2 => b_ref01_seen_part (fun a0 a1 a2 => g (.k_ref01_seen_part a0 a1 a2)) a0 a1 a2
noncomputable def p_ref01_seen_part (a0 : S_ref01_seen) (a1 : Term) (a2 : Int) : Option S_ref01_seen := fixO C_ref01_seen_part.F (.k_ref01_seen_part a0 a1 a2)
theorem C_ref01_seen_part.cm (i : C_ref01_seen_part) : CM (fun g : (∀ i : C_ref01_seen_part, Option i.R) => C_ref01_seen_part.F g i) := by
 cases i with
 | k_ref01_seen_part a0 a1 a2 => exact b_ref01_seen_part_cm (fun (g : ∀ i : C_ref01_seen_part, Option i.R) a0 a1 a2 => g (.k_ref01_seen_part a0 a1 a2)) (fun a0 a1 a2 => cm_app (i := C_ref01_seen_part.k_ref01_seen_part a0 a1 a2)) a0 a1 a2
theorem e_ref01_seen_part (a0 : S_ref01_seen) (a1 : Term) (a2 : Int) : p_ref01_seen_part a0 a1 a2 = b_ref01_seen_part p_ref01_seen_part a0 a1 a2 := fixO_eq C_ref01_seen_part.cm (.k_ref01_seen_part a0 a1 a2)
def C_ref01_seen_part.Q : ∀ i : C_ref01_seen_part, i.R → Prop
 | .k_ref01_seen_part a0 a1 a2 => fun (r : S_ref01_seen) => PCalls Try.prog 35 [(of_ref01_seen a0), (ofTermX a1), (I64 a2)] (of_ref01_seen r)
theorem t_ref01_seen_part (r_ref01_seen_part : S_ref01_seen → Term → Int → Option S_ref01_seen) (c_ref01_seen_part : ∀ (a0 : S_ref01_seen) (a1 : Term) (a2 : Int) r, r_ref01_seen_part a0 a1 a2 = some r → PCalls Try.prog 35 [(of_ref01_seen a0), (ofTermX a1), (I64 a2)] (of_ref01_seen r)) (a0 : S_ref01_seen) (a1 : Term) (a2 : Int) (r : S_ref01_seen) (h : b_ref01_seen_part r_ref01_seen_part a0 a1 a2 = some r) : PCalls Try.prog 35 [(of_ref01_seen a0), (ofTermX a1), (I64 a2)] (of_ref01_seen r) := by
 unfold b_ref01_seen_part at h
 refine acalls_of Try.func35 rfl Try.ntmps35 Try.results35 rfl (aw_of_bw ?_)
 change BW _ _ _ ⟨[(0, (of_ref01_seen a0)), (1, (ofTermX a1)), (2, (I64 a2))], [], _⟩ _
 refine bR ?_
 refine sS rfl rfl rfl (op1_box rfl rfl rfl) ?_
 refine sS rfl rfl rfl (op1_box rfl rfl rfl) ?_
 refine sS rfl rfl rfl (op1_alloc inf_72 rfl) (ao_nil ?_)
 change BW _ _ _ _ _
 refine bw_seq ?_
 refine bR ?_
 refine sS rfl rfl rfl ((op1_ldRA inf_29 Try.underlying29 rfl rfl rfl rfl rfl rfl)) ?_
 refine sS rfl rfl rfl (op1_faR st_72 (i := 0) rfl rfl rfl) ?_
 refine sS rfl rfl rfl ((op1_ldR Try.underlying3 rfl rfl rfl rfl rfl)) ?_
 refine sM rfl rfl rfl rfl rfl ?_
 obtain ⟨x1, hx1, h⟩ := obind h
 refine sS rfl rfl rfl (op1_pcall rfl en_50 rfl (.cons (Wk.refl _) (.cons (Wk.refl _) (.cons (Wk.refl _) .nil))) ⟨(ids_TermX a1), ⟨rfl, ⟨rfl, trivial⟩⟩⟩ (s_ref01_own a1 a0.f_n a2 x1 hx1) rfl) ?_
 refine sA rfl rfl rfl rfl rfl (ao_nil ?_)
 change BW _ _ _ _ _
 refine bR ?_
 refine sM rfl rfl rfl rfl rfl ?_
 refine sS rfl rfl rfl ((op1_cmp rfl rfl rfl rfl).cast (y := (BO ((x1 != 0)))) rfl rfl) (ao_nil ?_)
 change BW _ _ _ _ _
 refine bw_cond rfl ?_ ?_
 ·intro hc2; replace h := ocond_t hc2 h
  refine bR ?_
  refine sS rfl rfl rfl (op1_faR st_72 (i := 0) rfl rfl rfl) ?_
  refine sS rfl rfl rfl ((op1_ldR Try.underlying3 rfl rfl rfl rfl rfl)) ?_
  refine sM rfl rfl rfl rfl rfl ?_
  refine sS rfl rfl rfl (op1_faR st_72 (i := 2) rfl rfl rfl) ?_
  refine ao_step0 rfl rfl (op1_store inf_3 rfl rfl rfl rfl rfl rfl (Nat.le_of_ble_eq_true rfl) rfl) ?_
  refine sS rfl rfl rfl (op1_faR st_72 (i := 3) rfl rfl rfl) ?_
  refine ao_step0 rfl rfl (op1_store inf_31 rfl rfl rfl rfl rfl rfl (Nat.le_of_ble_eq_true rfl) rfl) ?_
  refine ao_nil ?_
  change BW _ _ _ _ _
  refine bR ?_
  refine sS rfl rfl rfl ((op1_ldRA inf_72 Try.underlying72 rfl rfl rfl rfl rfl rfl)) ?_
  refine ao_step0 rfl rfl (op1_store inf_72 rfl rfl rfl rfl rfl rfl (Nat.le_of_ble_eq_true rfl) rfl) ?_
  refine ao_nil ?_
  change BW _ _ _ _ _
  refine bw_ret ?_
  change ∃ xs, _ = some xs ∧ EndOk _ _ _ _
  obtain rfl := Option.some.inj h
  exact ⟨_, rfl, endOk0 (y := (of_ref01_seen (S_ref01_seen.mk a0.f_n a0.f_deep a0.f_n x1))) (Wk.refl _) (ids_S_ref01_seen (S_ref01_seen.mk a0.f_n a0.f_deep a0.f_n x1)) ⟨rfl, rfl⟩⟩
 ·intro hc2; replace h := ocond_f hc2 h
  refine bw_skip ?_
  change BW _ _ _ _ _
  refine bR ?_
  refine sS rfl rfl rfl (op1_faR st_72 (i := 0) rfl rfl rfl) ?_
  refine sS rfl rfl rfl ((op1_ldR Try.underlying3 rfl rfl rfl rfl rfl)) ?_
  refine sS rfl rfl rfl (op1_addW rfl rfl rfl) ?_
  refine sS rfl rfl rfl (op1_faR st_72 (i := 0) rfl rfl rfl) ?_
  refine ao_step0 rfl rfl (op1_store inf_3 rfl rfl rfl rfl rfl rfl (Nat.le_of_ble_eq_true rfl) rfl) ?_
  refine ao_nil ?_
  change BW _ _ _ _ _
  refine bw_seqJ (ι := Int) (fun i => ref01_seen_part_j1 r_ref01_seen_part a0 a1 a2 i = some r) (fun i => [(2, (I64 a2)), (3, (PV.rf 0 0)), (4, (PV.rf 1 0)), (6, (PV.rf 2 0))]) (fun i => [.box 72 [(I64 ((IntKind.i64.wrap (a0.f_n + 1)))), (I64 i), (I64 a0.f_at), (I64 a0.f_why)], .box 29 [(I64 a1.kind), (BO a1.bool), (I64 a1.int), (PV.v (.float .f64 a1.float)), (ofStr a1.text), (PV.sl none 5 1 (List.map ofB a1.bytes)), (PV.v (.int .u64 a1.ref)), (PV.sl none 29 11 (List.map ofTerm a1.list)), (PV.sl none 66 12 (List.map ofEntry a1.fields)), (ofStr a1.cls), (I64 a1.ver)], .box 72 [(I64 0), (I64 0), (I64 0), (I64 0)]]) ?_ ?_ ?_
  ·intro i; exact ⟨Nat.le_of_ble_eq_true rfl, ⟨(il_nil rfl), ⟨(il_rf rfl), ⟨(il_rf rfl), ⟨(il_rf rfl), trivial⟩⟩⟩⟩, ⟨⟨(il_nil rfl), ⟨(il_nil rfl), ⟨(il_nil rfl), ⟨(il_nil rfl), trivial⟩⟩⟩⟩, ⟨⟨(il_nil rfl), ⟨(il_nil rfl), ⟨(il_nil rfl), ⟨(il_nil rfl), ⟨(il_nil rfl), ⟨(il_nil (ids_slM (fun _ => rfl) _)), ⟨(il_nil rfl), ⟨(il_nil (ids_slM ids_Term _)), ⟨(il_nil (ids_slM ids_Entry _)), ⟨(il_nil rfl), ⟨(il_nil rfl), trivial⟩⟩⟩⟩⟩⟩⟩⟩⟩⟩⟩, ⟨⟨(il_nil rfl), ⟨(il_nil rfl), ⟨(il_nil rfl), ⟨(il_nil rfl), trivial⟩⟩⟩⟩, trivial⟩⟩⟩⟩
  ·rintro s3 h; replace h : ref01_seen_part_j1 r_ref01_seen_part a0 a1 a2 s3 = some r := h; unfold ref01_seen_part_j1 at h
   change BW _ _ _ ⟨[(2, (I64 a2)), (3, (PV.rf 0 0)), (4, (PV.rf 1 0)), (6, (PV.rf 2 0))], [.box 72 [(I64 ((IntKind.i64.wrap (a0.f_n + 1)))), (I64 s3), (I64 a0.f_at), (I64 a0.f_why)], .box 29 [(I64 a1.kind), (BO a1.bool), (I64 a1.int), (PV.v (.float .f64 a1.float)), (ofStr a1.text), (PV.sl none 5 1 (List.map ofB a1.bytes)), (PV.v (.int .u64 a1.ref)), (PV.sl none 29 11 (List.map ofTerm a1.list)), (PV.sl none 66 12 (List.map ofEntry a1.fields)), (ofStr a1.cls), (I64 a1.ver)], .box 72 [(I64 0), (I64 0), (I64 0), (I64 0)]], _⟩ _
   refine bR ?_
   refine sS rfl rfl rfl ((op1_ldRA inf_29 Try.underlying29 rfl rfl rfl rfl rfl rfl)) ?_
   obtain ⟨x4, hx4, h⟩ := obind h
   refine sS rfl rfl rfl (op1_pcall rfl en_51 rfl (.cons (Wk.refl _) .nil) ⟨(ids_TermX a1), trivial⟩ (s_ref01_Parts a1 x4 hx4) (ids_slM ids_Term x4)) ?_
   refine sA rfl rfl rfl rfl rfl (ao_nil ?_)
   change BW _ _ _ _ _
   refine bw_seq ?_
   refine bR ?_
   refine sA rfl rfl rfl rfl rfl (ao_nil ?_)
   change BW _ _ _ _ _
   refine bw_block ?_
   change BW _ _ _ _ _
   unfold ref01_seen_part_l1 at h
   refine bw_loop (σ := (Nat × Int × Int × Int × Int)) (fun i => [(2, (I64 a2)), (3, (PV.rf 0 0)), (6, (PV.rf 2 0)), (8, (PV.sl none 29 11 (List.map ofTerm x4))), (9, (I64 (((i.1 : Nat) : Int))))]) (fun i => [.box 72 [(I64 i.2.1), (I64 i.2.2.1), (I64 i.2.2.2.1), (I64 i.2.2.2.2)], .dead, .box 72 [(I64 0), (I64 0), (I64 0), (I64 0)]]) (0, (IntKind.i64.wrap (a0.f_n + 1)), s3, a0.f_at, a0.f_why) h ?_ ?_ ?_
   ·intro i; exact ⟨Nat.le_of_ble_eq_true rfl, ⟨(il_nil rfl), ⟨(il_rf rfl), ⟨(il_rf rfl), ⟨(il_nil (ids_slM ids_Term _)), ⟨(il_nil rfl), trivial⟩⟩⟩⟩⟩, ⟨⟨(il_nil rfl), ⟨(il_nil rfl), ⟨(il_nil rfl), ⟨(il_nil rfl), trivial⟩⟩⟩⟩, ⟨⟨(il_nil rfl), ⟨(il_nil rfl), ⟨(il_nil rfl), ⟨(il_nil rfl), trivial⟩⟩⟩⟩, trivial⟩⟩⟩
   ·exact ⟨(.cons .same (.cons .dead (.cons .same .nil))), (sC rfl (sC rfl (sC rfl (sC rfl (sC rfl sub_nil)))))⟩
   ·rintro g1_f ⟨s5, s6, s7, s8, s9⟩ h; replace h : ref01_seen_part_l1b r_ref01_seen_part a2 x4 (fun y0 y1 y2 y3 y4 => g1_f (y0, y1, y2, y3, y4)) s5 s6 s7 s8 s9 = some r := h; unfold ref01_seen_part_l1b at h
    change BW _ _ _ ⟨[(2, (I64 a2)), (3, (PV.rf 0 0)), (6, (PV.rf 2 0)), (8, (PV.sl none 29 11 (List.map ofTerm x4))), (9, (I64 (((s5 : Nat) : Int))))], [.box 72 [(I64 s6), (I64 s7), (I64 s8), (I64 s9)], .dead, .box 72 [(I64 0), (I64 0), (I64 0), (I64 0)]], _⟩ _
    refine bw_seq ?_
    refine bR ?_
    refine sM rfl rfl rfl rfl rfl ?_
    refine sM rfl rfl rfl rfl rfl ?_
    refine sS rfl rfl rfl (op1_lenM Try.underlying26 rfl rfl) ?_
    refine sS rfl rfl rfl ((op1_cmp rfl rfl rfl rfl).cast (y := (BO ((decide (((s5 : Nat) : Int) < (((x4).length : Nat) : Int)))))) rfl rfl) (ao_nil ?_)
    change BW _ _ _ _ _
    refine bw_len (t := 36) rfl fun hb11 => ?_
    try rw [List.length_map] at hb11
    refine bw_cond rfl ?_ ?_
    ·intro hc10; replace h := ocond_t hc10 h
     have hc10_ := of_decide_eq_true hc10
     refine bw_skip ?_
     change BW _ _ _ _ _
     refine bw_seq ?_
     refine bw_block ?_
     change BW _ _ _ _ _
     refine bw_seq (bw_tail 7 [] [0] mo (by kernel_rfl) ?_)
     refine ac_go rfl rfl rfl rfl (fun H hp => (op1_ldRA inf_72 Try.underlying72 rfl rfl rfl (hp.at rfl rfl) rfl rfl)) ?_
     refine ac_go rfl rfl rfl rfl (fun H hp => op1_move rfl rfl) ?_
     refine ac_go rfl rfl rfl rfl (fun H hp => op1_move rfl rfl) ?_
     obtain ⟨x12, hx12, h⟩ := obind h
     refine ac_go rfl rfl rfl rfl (fun H hp => op1_idxN (i := s5) Try.underlying26 inf_29 rfl rfl rfl hx12 (ofTerm_eq _)) ?_
     refine ac_go rfl rfl rfl rfl (fun H hp => op1_ldPW inf_29 Try.underlying29 rfl rfl rfl rfl rfl) ?_
     refine ac_go rfl rfl rfl rfl (fun H hp => op1_move rfl rfl) ?_
     refine ac_go rfl rfl rfl rfl (fun H hp => op1_addW rfl rfl rfl) ?_
     refine ac_nil ?_
     change AO _ _ _ _ _
     obtain ⟨x13, hx13, h⟩ := obind h
     refine sS rfl rfl rfl (op1_pcall rfl en_35 rfl (.cons (Wk.refl _) (.cons (Wk.refl _) (.cons (Wk.refl _) .nil))) ⟨(ids_S_ref01_seen (S_ref01_seen.mk s6 s7 s8 s9)), ⟨(ids_TermX x12), ⟨rfl, trivial⟩⟩⟩ (c_ref01_seen_part (S_ref01_seen.mk s6 s7 s8 s9) x12 (IntKind.i64.wrap (a2 + 1)) x13 hx13) (ids_S_ref01_seen x13)) ?_
     refine ao_step0 rfl rfl (op1_store inf_72 rfl rfl rfl rfl rfl rfl (Nat.le_of_ble_eq_true rfl) rfl) ?_
     refine ao_nil ?_
     change BW _ _ _ _ _
     refine bR ?_
     refine sS rfl rfl rfl (op1_faR st_72 (i := 3) rfl rfl rfl) ?_
     refine sS rfl rfl rfl ((op1_ldR Try.underlying31 rfl rfl rfl rfl rfl)) ?_
     refine sS rfl rfl rfl ((op1_cmp rfl rfl rfl rfl).cast (y := (BO ((x13.f_why != 0)))) rfl rfl) (ao_nil ?_)
     change BW _ _ _ _ _
     refine bw_cond rfl ?_ ?_
     ·intro hc14; replace h := ocond_t hc14 h
      refine bR ?_
      refine sS rfl rfl rfl ((op1_ldRA inf_72 Try.underlying72 rfl rfl rfl rfl rfl rfl)) ?_
      refine ao_step0 rfl rfl (op1_store inf_72 rfl rfl rfl rfl rfl rfl (Nat.le_of_ble_eq_true rfl) rfl) ?_
      refine ao_nil ?_
      change BW _ _ _ _ _
      refine bw_ret ?_
      change ∃ xs, _ = some xs ∧ EndOk _ _ _ _
      obtain rfl := Option.some.inj h
      exact ⟨_, rfl, endOk0 (y := (of_ref01_seen x13)) (Wk.refl _) (ids_S_ref01_seen x13) ⟨rfl, rfl⟩⟩
     ·intro hc14; replace h := ocond_f hc14 h
      refine bw_skip ?_
      change BW _ _ _ _ _
      refine bw_region ?_
      refine sM rfl rfl rfl rfl rfl ?_
      refine sS rfl rfl rfl (op1_incN (k := s5) (c := 1) rfl rfl rfl (by omega)) ?_
      refine sA rfl rfl rfl rfl rfl (ao_nil ?_)
      exact ⟨rfl, ((s5 + 1), x13.f_n, x13.f_deep, x13.f_at, x13.f_why), h, ⟨(.cons .same (.cons .dead (.cons .same .nil))), (sC rfl (sC rfl (sC rfl (sC rfl (sC rfl sub_nil)))))⟩⟩
    ·intro hc10; replace h := ocond_f hc10 h
     refine bw_exit ?_
     change BW _ _ _ _ _
     refine bR ?_
     refine sS rfl rfl rfl ((op1_ldRA inf_72 Try.underlying72 rfl rfl rfl rfl rfl rfl)) ?_
     refine ao_step0 rfl rfl (op1_store inf_72 rfl rfl rfl rfl rfl rfl (Nat.le_of_ble_eq_true rfl) rfl) ?_
     refine ao_nil ?_
     change BW _ _ _ _ _
     refine bw_ret ?_
     change ∃ xs, _ = some xs ∧ EndOk _ _ _ _
     obtain rfl := Option.some.inj h
     exact ⟨_, rfl, endOk0 (y := (of_ref01_seen (S_ref01_seen.mk s6 s7 s8 s9))) (Wk.refl _) (ids_S_ref01_seen (S_ref01_seen.mk s6 s7 s8 s9)) ⟨rfl, rfl⟩⟩
  ·refine bR ?_
   refine sM rfl rfl rfl rfl rfl ?_
   refine sS rfl rfl rfl (op1_faR st_72 (i := 1) rfl rfl rfl) ?_
   refine sS rfl rfl rfl ((op1_ldR Try.underlying3 rfl rfl rfl rfl rfl)) ?_
   refine sS rfl rfl rfl ((op1_cmp rfl rfl rfl rfl).cast (y := (BO ((decide (a2 > a0.f_deep))))) rfl rfl) (ao_nil ?_)
   change BW _ _ _ _ _
   refine bw_cond rfl ?_ ?_
   ·intro hc15; replace h := ocond_t hc15 h
    refine bw_region ?_
    refine sM rfl rfl rfl rfl rfl ?_
    refine sS rfl rfl rfl (op1_faR st_72 (i := 1) rfl rfl rfl) ?_
    refine ao_step0 rfl rfl (op1_store inf_3 rfl rfl rfl rfl rfl rfl (Nat.le_of_ble_eq_true rfl) rfl) ?_
    refine ao_nil ?_
    exact ⟨rfl, a2, h, ⟨(.cons .same (.cons .same (.cons .same .nil))), (sC rfl (sC rfl (sC rfl (sC rfl sub_nil))))⟩⟩
   ·intro hc15; replace h := ocond_f hc15 h
    refine bw_skip ?_
    exact ⟨rfl, a0.f_deep, h, ⟨(.cons .same (.cons .same (.cons .same .nil))), (sC rfl (sC rfl (sC rfl (sC rfl sub_nil))))⟩⟩
theorem C_ref01_seen_part.sound : ∀ (i : C_ref01_seen_part) (r : i.R), fixO C_ref01_seen_part.F i = some r → C_ref01_seen_part.Q i r := by
 refine fixO_ind (Φ := C_ref01_seen_part.F) (Q := C_ref01_seen_part.Q) ?_
 intro g hg i r h
 cases i with
 | k_ref01_seen_part a0 a1 a2 => exact t_ref01_seen_part (fun a0 a1 a2 => g (.k_ref01_seen_part a0 a1 a2)) (fun a0 a1 a2 r hr => hg (.k_ref01_seen_part a0 a1 a2) r hr) a0 a1 a2 r h
theorem s_ref01_seen_part (a0 : S_ref01_seen) (a1 : Term) (a2 : Int) (r : S_ref01_seen) (h : p_ref01_seen_part a0 a1 a2 = some r) : PCalls Try.prog 35 [(of_ref01_seen a0), (ofTermX a1), (I64 a2)] (of_ref01_seen r) := C_ref01_seen_part.sound (.k_ref01_seen_part a0 a1 a2) r h
noncomputable def p_ref01_Check (a0 : Term) : Option (Int × Int) :=
 Option.bind (p_ref01_seen_part (S_ref01_seen.mk 0 0 0 0) a0 1) fun x1 =>
 some (x1.f_at, x1.f_why)
theorem s_ref01_Check (a0 : Term) (r : (Int × Int)) (h : p_ref01_Check a0 = some r) : PCalls Try.prog 13 [(ofTermX a0)] (PV.tup [(I64 r.1), (I64 r.2)]) := by
 unfold p_ref01_Check at h
 refine acalls_of Try.func13 rfl Try.ntmps13 Try.results13 rfl (aw_of_bw ?_)
 change BW _ _ _ ⟨[(0, (ofTermX a0))], [], _⟩ _
 refine bR ?_
 refine sS rfl rfl rfl (op1_box rfl rfl rfl) ?_
 refine sA rfl rfl rfl rfl rfl ?_
 refine sA rfl rfl rfl rfl rfl (ao_nil ?_)
 change BW _ _ _ _ _
 refine bR ?_
 refine sS rfl rfl rfl (op1_build (cs := [(I64 0), (I64 0), (I64 0), (I64 0)]) st_72 inf_72 rfl rfl rfl rfl) ?_
 refine sS rfl rfl rfl ((op1_ldRA inf_29 Try.underlying29 rfl rfl rfl rfl rfl rfl)) ?_
 obtain ⟨x1, hx1, h⟩ := obind h
 refine sS rfl rfl rfl (op1_pcall rfl en_35 rfl (.cons (Wk.refl _) (.cons (Wk.refl _) (.cons (Wk.refl _) .nil))) ⟨(ids_S_ref01_seen (S_ref01_seen.mk 0 0 0 0)), ⟨(ids_TermX a0), ⟨rfl, trivial⟩⟩⟩ (s_ref01_seen_part (S_ref01_seen.mk 0 0 0 0) a0 1 x1 hx1) (ids_S_ref01_seen x1)) ?_
 refine sS rfl rfl rfl (op1_alloc inf_72 rfl) ?_
 refine ao_step0 rfl rfl (op1_store inf_72 rfl rfl rfl rfl rfl rfl (Nat.le_of_ble_eq_true rfl) rfl) ?_
 refine ao_nil ?_
 change BW _ _ _ _ _
 refine bw_seq (bw_tail 5 [] [1] mo (by kernel_rfl) ?_)
 refine ac_go rfl rfl rfl rfl (fun H hp => op1_faR st_72 (i := 2) rfl rfl rfl) ?_
 refine ac_go rfl rfl rfl rfl (fun H hp => (op1_ldR Try.underlying3 rfl rfl rfl (hp.at rfl rfl) rfl)) ?_
 refine ac_go rfl rfl rfl rfl (fun H hp => op1_faR st_72 (i := 3) rfl rfl rfl) ?_
 refine ac_go rfl rfl rfl rfl (fun H hp => (op1_ldR Try.underlying31 rfl rfl rfl (hp.at rfl rfl) rfl)) ?_
 refine ac_go rfl rfl rfl rfl (fun H hp => op1_assign rfl rfl) ?_
 refine ac_nil ?_
 change AO _ _ _ _ _
 refine sA rfl rfl rfl rfl rfl (ao_nil ?_)
 change BW _ _ _ _ _
 refine bw_ret ?_
 change ∃ xs, _ = some xs ∧ EndOk _ _ _ _
 obtain rfl := Option.some.inj h
 exact ⟨_, rfl, endOk0 (y := (PV.tup [(I64 x1.f_at), (I64 x1.f_why)])) (Wk.refl _) (ids_tup_cons rfl (ids_tup_cons rfl ids_tup_nil)) ⟨rfl, rfl⟩⟩
end Go.Proofs.Ythfdpaboekoncaa
