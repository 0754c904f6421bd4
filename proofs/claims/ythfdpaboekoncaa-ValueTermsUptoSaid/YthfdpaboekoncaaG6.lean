/- Pure functions, and that calls answer as they say. Written by gen.py. -/
import Derived.Test.YthfdpaboekoncaaG5
namespace Go.Proofs.Ythfdpaboekoncaa
open Go Aw
set_option linter.unusedVariables false
set_option linter.unusedSimpArgs false
set_option maxRecDepth 20000
set_option maxHeartbeats 2000000
noncomputable def law01_same_l2b (r_law01_same : Term → Term → Option Bool) (a0 : Term) (a1 : Term) (g2 : Nat → Option Bool) (s12 : Nat) : Option Bool :=
 bif (decide (((s12 : Nat) : Int) < (((a0.fields).length : Nat) : Int))) then (
  Option.bind ((a0.fields)[s12]?) fun x15 =>
  Option.bind ((a1.fields)[s12]?) fun x16 =>
  Option.bind (r_law01_same (x15.2) (x16.2)) fun x17 =>
  bif (!x17) then (
   some false
  ) else (
   g2 (s12 + 1)
  )
 ) else (
  some true
 )
theorem law01_same_l2b_cm {ι : Type} {ρ : ι → Type} (r_law01_same : (∀ i, Option (ρ i)) → Term → Term → Option Bool) (h_r_law01_same : ∀ y0 y1, CM (fun G => r_law01_same G y0 y1)) (g2 : (∀ i, Option (ρ i)) → Nat → Option Bool) (h_g2 : ∀ y0, CM (fun G => g2 G y0)) (a0 : Term) (a1 : Term) (s12 : Nat) : CM (fun G : (∀ i, Option (ρ i)) => law01_same_l2b (r_law01_same G) a0 a1 (g2 G) s12) := by
 simp only [law01_same_l2b]
 repeat (first | exact cm_const | exact h_r_law01_same _ _ | exact h_g2 _ | refine cm_cond ?_ ?_ | refine cm_bind ?_ (fun _ => ?_))
noncomputable def law01_same_l2 (r_law01_same : Term → Term → Option Bool) (a0 : Term) (a1 : Term) (s12 : Nat) : Option Bool :=
 fixO (ι := Nat) (ρ := fun _ => Bool) (fun g i => law01_same_l2b r_law01_same a0 a1 (fun s12 => g s12) i) s12
theorem law01_same_l2_eq (r_law01_same : Term → Term → Option Bool) (a0 : Term) (a1 : Term) (s12 : Nat) : law01_same_l2 r_law01_same a0 a1 s12 = law01_same_l2b r_law01_same a0 a1 (law01_same_l2 r_law01_same a0 a1) s12 :=
 fixO_eq (ι := Nat) (ρ := fun _ => Bool) (Φ := fun g i => law01_same_l2b r_law01_same a0 a1 (fun s12 => g s12) i) (fun i => law01_same_l2b_cm (ι := Nat) (ρ := fun _ => Bool) (fun _ => r_law01_same) (fun _ _ => cm_const) (fun g => (fun s12 => g s12)) (fun _ => cm_app) a0 a1 i) s12
theorem law01_same_l2_cm {ι : Type} {ρ : ι → Type} (r_law01_same : (∀ i, Option (ρ i)) → Term → Term → Option Bool) (h_r_law01_same : ∀ y0 y1, CM (fun G => r_law01_same G y0 y1)) (a0 : Term) (a1 : Term) (s12 : Nat) : CM (fun G : (∀ i, Option (ρ i)) => law01_same_l2 (r_law01_same G) a0 a1 s12) :=
 cm_fix (κ := Nat) (τ := fun _ => Bool) (Φ := fun G g i => law01_same_l2b (r_law01_same G) a0 a1 (fun s12 => g s12) i) (fun g i => law01_same_l2b_cm r_law01_same h_r_law01_same (fun _ => (fun s12 => g s12)) (fun _ => cm_const) a0 a1 i) (fun G i => law01_same_l2b_cm (ι := Nat) (ρ := fun _ => Bool) (fun _ => r_law01_same G) (fun _ _ => cm_const) (fun g => (fun s12 => g s12)) (fun _ => cm_app) a0 a1 i) s12
noncomputable def law01_same_l1b (r_law01_same : Term → Term → Option Bool) (a0 : Term) (a1 : Term) (g1 : Nat → Option Bool) (s5 : Nat) : Option Bool :=
 bif (decide (((s5 : Nat) : Int) < (((a0.list).length : Nat) : Int))) then (
  Option.bind ((a0.list)[s5]?) fun x8 =>
  Option.bind ((a1.list)[s5]?) fun x9 =>
  Option.bind (r_law01_same x8 x9) fun x10 =>
  bif (!x10) then (
   some false
  ) else (
   g1 (s5 + 1)
  )
 ) else (
  law01_same_l2 r_law01_same a0 a1 0
 )
theorem law01_same_l1b_cm {ι : Type} {ρ : ι → Type} (r_law01_same : (∀ i, Option (ρ i)) → Term → Term → Option Bool) (h_r_law01_same : ∀ y0 y1, CM (fun G => r_law01_same G y0 y1)) (g1 : (∀ i, Option (ρ i)) → Nat → Option Bool) (h_g1 : ∀ y0, CM (fun G => g1 G y0)) (a0 : Term) (a1 : Term) (s5 : Nat) : CM (fun G : (∀ i, Option (ρ i)) => law01_same_l1b (r_law01_same G) a0 a1 (g1 G) s5) := by
 simp only [law01_same_l1b]
 repeat (first | exact cm_const | exact h_r_law01_same _ _ | exact h_g1 _ | apply law01_same_l2_cm | refine cm_cond ?_ ?_ | refine cm_bind ?_ (fun _ => ?_) | intro _ | assumption)
noncomputable def law01_same_l1 (r_law01_same : Term → Term → Option Bool) (a0 : Term) (a1 : Term) (s5 : Nat) : Option Bool :=
 fixO (ι := Nat) (ρ := fun _ => Bool) (fun g i => law01_same_l1b r_law01_same a0 a1 (fun s5 => g s5) i) s5
theorem law01_same_l1_eq (r_law01_same : Term → Term → Option Bool) (a0 : Term) (a1 : Term) (s5 : Nat) : law01_same_l1 r_law01_same a0 a1 s5 = law01_same_l1b r_law01_same a0 a1 (law01_same_l1 r_law01_same a0 a1) s5 :=
 fixO_eq (ι := Nat) (ρ := fun _ => Bool) (Φ := fun g i => law01_same_l1b r_law01_same a0 a1 (fun s5 => g s5) i) (fun i => law01_same_l1b_cm (ι := Nat) (ρ := fun _ => Bool) (fun _ => r_law01_same) (fun _ _ => cm_const) (fun g => (fun s5 => g s5)) (fun _ => cm_app) a0 a1 i) s5
theorem law01_same_l1_cm {ι : Type} {ρ : ι → Type} (r_law01_same : (∀ i, Option (ρ i)) → Term → Term → Option Bool) (h_r_law01_same : ∀ y0 y1, CM (fun G => r_law01_same G y0 y1)) (a0 : Term) (a1 : Term) (s5 : Nat) : CM (fun G : (∀ i, Option (ρ i)) => law01_same_l1 (r_law01_same G) a0 a1 s5) :=
 cm_fix (κ := Nat) (τ := fun _ => Bool) (Φ := fun G g i => law01_same_l1b (r_law01_same G) a0 a1 (fun s5 => g s5) i) (fun g i => law01_same_l1b_cm r_law01_same h_r_law01_same (fun _ => (fun s5 => g s5)) (fun _ => cm_const) a0 a1 i) (fun G i => law01_same_l1b_cm (ι := Nat) (ρ := fun _ => Bool) (fun _ => r_law01_same G) (fun _ _ => cm_const) (fun g => (fun s5 => g s5)) (fun _ => cm_app) a0 a1 i) s5
noncomputable def law01_same_j2 (r_law01_same : Term → Term → Option Bool) (a0 : Term) (a1 : Term) (s3 : Bool) : Option Bool :=
 bif s3 then (
  some false
 ) else (
  law01_same_l1 r_law01_same a0 a1 0
 )
theorem law01_same_j2_cm {ι : Type} {ρ : ι → Type} (r_law01_same : (∀ i, Option (ρ i)) → Term → Term → Option Bool) (h_r_law01_same : ∀ y0 y1, CM (fun G => r_law01_same G y0 y1)) (a0 : Term) (a1 : Term) (s3 : Bool) : CM (fun G : (∀ i, Option (ρ i)) => law01_same_j2 (r_law01_same G) a0 a1 s3) := by
 simp only [law01_same_j2]
 repeat (first | exact cm_const | exact h_r_law01_same _ _ | apply law01_same_l1_cm | refine cm_cond ?_ ?_ | refine cm_bind ?_ (fun _ => ?_) | intro _ | assumption)
noncomputable def law01_same_j1 (r_law01_same : Term → Term → Option Bool) (a0 : Term) (a1 : Term) (s1 : Bool) : Option Bool :=
 bif s1 then (
  some false
 ) else (
  bif (a0.kind != 4) then (
   law01_same_j2 r_law01_same a0 a1 (FloatKind.f64.format.order a0.float 0 != some Ordering.eq)
  ) else (
   law01_same_j2 r_law01_same a0 a1 false
  )
 )
theorem law01_same_j1_cm {ι : Type} {ρ : ι → Type} (r_law01_same : (∀ i, Option (ρ i)) → Term → Term → Option Bool) (h_r_law01_same : ∀ y0 y1, CM (fun G => r_law01_same G y0 y1)) (a0 : Term) (a1 : Term) (s1 : Bool) : CM (fun G : (∀ i, Option (ρ i)) => law01_same_j1 (r_law01_same G) a0 a1 s1) := by
 simp only [law01_same_j1]
 repeat (first | exact cm_const | exact h_r_law01_same _ _ | apply law01_same_j2_cm | refine cm_cond ?_ ?_ | refine cm_bind ?_ (fun _ => ?_) | intro _ | assumption)
noncomputable def b_law01_same (r_law01_same : Term → Term → Option Bool) (a0 : Term) (a1 : Term) : Option Bool :=
 Option.bind (p_mk_Same a0 a1) fun x20 =>
 bif (!x20) then (
  law01_same_j1 r_law01_same a0 a1 true
 ) else (
  bif (!(a0.bool == a1.bool)) then (
   law01_same_j1 r_law01_same a0 a1 true
  ) else (
   bif (a0.int != a1.int) then (
    law01_same_j1 r_law01_same a0 a1 true
   ) else (
    bif (!(a0.text == a1.text)) then (
     law01_same_j1 r_law01_same a0 a1 true
    ) else (
     bif (!(a0.bytes == a1.bytes)) then (
      law01_same_j1 r_law01_same a0 a1 true
     ) else (
      bif (a0.ref != a1.ref) then (
       law01_same_j1 r_law01_same a0 a1 true
      ) else (
       bif (!(a0.cls == a1.cls)) then (
        law01_same_j1 r_law01_same a0 a1 true
       ) else (
        bif (a0.ver != a1.ver) then (
         law01_same_j1 r_law01_same a0 a1 true
        ) else (
         bif ((((a0.list).length : Nat) : Int) != (((a1.list).length : Nat) : Int)) then (
          law01_same_j1 r_law01_same a0 a1 true
         ) else (
          law01_same_j1 r_law01_same a0 a1 ((((a0.fields).length : Nat) : Int) != (((a1.fields).length : Nat) : Int))
         )
        )
       )
      )
     )
    )
   )
  )
 )
theorem b_law01_same_cm {ι : Type} {ρ : ι → Type} (r_law01_same : (∀ i, Option (ρ i)) → Term → Term → Option Bool) (h_r_law01_same : ∀ y0 y1, CM (fun G => r_law01_same G y0 y1)) (a0 : Term) (a1 : Term) : CM (fun G : (∀ i, Option (ρ i)) => b_law01_same (r_law01_same G) a0 a1) := by
 simp only [b_law01_same]
 repeat (first | exact cm_const | exact h_r_law01_same _ _ | apply law01_same_j1_cm | refine cm_cond ?_ ?_ | refine cm_bind ?_ (fun _ => ?_) | intro _ | assumption)
inductive C_law01_same where
 | k_law01_same (a0 : Term) (a1 : Term)
def C_law01_same.R : C_law01_same → Type
 | .k_law01_same _ _ => Bool
noncomputable def C_law01_same.F (g : ∀ i : C_law01_same, Option i.R) : ∀ i : C_law01_same, Option i.R
 | .k_law01_same a0 a1 => b_law01_same (fun a0 a1 => g (.k_law01_same a0 a1)) a0 a1
noncomputable def p_law01_same (a0 : Term) (a1 : Term) : Option Bool := fixO C_law01_same.F (.k_law01_same a0 a1)
theorem C_law01_same.cm (i : C_law01_same) : CM (fun g : (∀ i : C_law01_same, Option i.R) => C_law01_same.F g i) := by
 cases i with
 | k_law01_same a0 a1 => exact b_law01_same_cm (fun (g : ∀ i : C_law01_same, Option i.R) a0 a1 => g (.k_law01_same a0 a1)) (fun a0 a1 => cm_app (i := C_law01_same.k_law01_same a0 a1)) a0 a1
theorem e_law01_same (a0 : Term) (a1 : Term) : p_law01_same a0 a1 = b_law01_same p_law01_same a0 a1 := fixO_eq C_law01_same.cm (.k_law01_same a0 a1)
def C_law01_same.Q : ∀ i : C_law01_same, i.R → Prop
 | .k_law01_same a0 a1 => fun (r : Bool) => PCalls Try.prog 24 [(ofTermX a0), (ofTermX a1)] (BO r)
theorem t_law01_same (r_law01_same : Term → Term → Option Bool) (c_law01_same : ∀ (a0 : Term) (a1 : Term) r, r_law01_same a0 a1 = some r → PCalls Try.prog 24 [(ofTermX a0), (ofTermX a1)] (BO r)) (a0 : Term) (a1 : Term) (r : Bool) (h : b_law01_same r_law01_same a0 a1 = some r) : PCalls Try.prog 24 [(ofTermX a0), (ofTermX a1)] (BO r) := by
 unfold b_law01_same at h
 refine acalls_of Try.func24 rfl Try.ntmps24 Try.results24 rfl (aw_of_bw ?_)
 change BW _ _ _ ⟨[(0, (ofTermX a0)), (1, (ofTermX a1))], [], _⟩ _
 refine bR ?_
 refine sS rfl rfl rfl (op1_box rfl rfl rfl) ?_
 refine sS rfl rfl rfl (op1_box rfl rfl rfl) ?_
 refine sA rfl rfl rfl rfl rfl (ao_nil ?_)
 change BW _ _ _ _ _
 refine bw_seq ?_
 refine bw_seqJ (ι := Bool) (fun i => law01_same_j1 r_law01_same a0 a1 i = some r) (fun i => [(2, (PV.rf 0 0)), (3, (PV.rf 1 0)), (79, (BO i))]) (fun i => [.box 29 [(I64 a0.kind), (BO a0.bool), (I64 a0.int), (PV.v (.float .f64 a0.float)), (ofStr a0.text), (PV.sl none 5 1 (List.map ofB a0.bytes)), (PV.v (.int .u64 a0.ref)), (PV.sl none 29 11 (List.map ofTerm a0.list)), (PV.sl none 66 12 (List.map ofEntry a0.fields)), (ofStr a0.cls), (I64 a0.ver)], .box 29 [(I64 a1.kind), (BO a1.bool), (I64 a1.int), (PV.v (.float .f64 a1.float)), (ofStr a1.text), (PV.sl none 5 1 (List.map ofB a1.bytes)), (PV.v (.int .u64 a1.ref)), (PV.sl none 29 11 (List.map ofTerm a1.list)), (PV.sl none 66 12 (List.map ofEntry a1.fields)), (ofStr a1.cls), (I64 a1.ver)]]) ?_ ?_ ?_
 ·intro i; exact ⟨Nat.le_of_ble_eq_true rfl, ⟨(il_rf rfl), ⟨(il_rf rfl), ⟨(il_nil rfl), trivial⟩⟩⟩, ⟨⟨(il_nil rfl), ⟨(il_nil rfl), ⟨(il_nil rfl), ⟨(il_nil rfl), ⟨(il_nil rfl), ⟨(il_nil (ids_slM (fun _ => rfl) _)), ⟨(il_nil rfl), ⟨(il_nil (ids_slM ids_Term _)), ⟨(il_nil (ids_slM ids_Entry _)), ⟨(il_nil rfl), ⟨(il_nil rfl), trivial⟩⟩⟩⟩⟩⟩⟩⟩⟩⟩⟩, ⟨⟨(il_nil rfl), ⟨(il_nil rfl), ⟨(il_nil rfl), ⟨(il_nil rfl), ⟨(il_nil rfl), ⟨(il_nil (ids_slM (fun _ => rfl) _)), ⟨(il_nil rfl), ⟨(il_nil (ids_slM ids_Term _)), ⟨(il_nil (ids_slM ids_Entry _)), ⟨(il_nil rfl), ⟨(il_nil rfl), trivial⟩⟩⟩⟩⟩⟩⟩⟩⟩⟩⟩, trivial⟩⟩⟩
 ·rintro s1 h; replace h : law01_same_j1 r_law01_same a0 a1 s1 = some r := h; unfold law01_same_j1 at h
  change BW _ _ _ ⟨[(2, (PV.rf 0 0)), (3, (PV.rf 1 0)), (79, (BO s1))], [.box 29 [(I64 a0.kind), (BO a0.bool), (I64 a0.int), (PV.v (.float .f64 a0.float)), (ofStr a0.text), (PV.sl none 5 1 (List.map ofB a0.bytes)), (PV.v (.int .u64 a0.ref)), (PV.sl none 29 11 (List.map ofTerm a0.list)), (PV.sl none 66 12 (List.map ofEntry a0.fields)), (ofStr a0.cls), (I64 a0.ver)], .box 29 [(I64 a1.kind), (BO a1.bool), (I64 a1.int), (PV.v (.float .f64 a1.float)), (ofStr a1.text), (PV.sl none 5 1 (List.map ofB a1.bytes)), (PV.v (.int .u64 a1.ref)), (PV.sl none 29 11 (List.map ofTerm a1.list)), (PV.sl none 66 12 (List.map ofEntry a1.fields)), (ofStr a1.cls), (I64 a1.ver)]], _⟩ _
  refine bw_cond rfl ?_ ?_
  ·intro hc2; replace h := ocond_t hc2 h
   refine bR ?_
   refine sA rfl rfl rfl rfl rfl (ao_nil ?_)
   change BW _ _ _ _ _
   refine bw_ret ?_
   change ∃ xs, _ = some xs ∧ EndOk _ _ _ _
   obtain rfl := Option.some.inj h
   exact ⟨_, rfl, endOk0 (y := (BO false)) (Wk.refl _) rfl ⟨rfl, rfl⟩⟩
  ·intro hc2; replace h := ocond_f hc2 h
   refine bw_skip ?_
   change BW _ _ _ _ _
   refine bw_seq ?_
   refine bw_seqJ (ι := Bool) (fun i => law01_same_j2 r_law01_same a0 a1 i = some r) (fun i => [(2, (PV.rf 0 0)), (3, (PV.rf 1 0)), (87, (BO i))]) (fun i => [.box 29 [(I64 a0.kind), (BO a0.bool), (I64 a0.int), (PV.v (.float .f64 a0.float)), (ofStr a0.text), (PV.sl none 5 1 (List.map ofB a0.bytes)), (PV.v (.int .u64 a0.ref)), (PV.sl none 29 11 (List.map ofTerm a0.list)), (PV.sl none 66 12 (List.map ofEntry a0.fields)), (ofStr a0.cls), (I64 a0.ver)], .box 29 [(I64 a1.kind), (BO a1.bool), (I64 a1.int), (PV.v (.float .f64 a1.float)), (ofStr a1.text), (PV.sl none 5 1 (List.map ofB a1.bytes)), (PV.v (.int .u64 a1.ref)), (PV.sl none 29 11 (List.map ofTerm a1.list)), (PV.sl none 66 12 (List.map ofEntry a1.fields)), (ofStr a1.cls), (I64 a1.ver)]]) ?_ ?_ ?_
   ·intro i; exact ⟨Nat.le_of_ble_eq_true rfl, ⟨(il_rf rfl), ⟨(il_rf rfl), ⟨(il_nil rfl), trivial⟩⟩⟩, ⟨⟨(il_nil rfl), ⟨(il_nil rfl), ⟨(il_nil rfl), ⟨(il_nil rfl), ⟨(il_nil rfl), ⟨(il_nil (ids_slM (fun _ => rfl) _)), ⟨(il_nil rfl), ⟨(il_nil (ids_slM ids_Term _)), ⟨(il_nil (ids_slM ids_Entry _)), ⟨(il_nil rfl), ⟨(il_nil rfl), trivial⟩⟩⟩⟩⟩⟩⟩⟩⟩⟩⟩, ⟨⟨(il_nil rfl), ⟨(il_nil rfl), ⟨(il_nil rfl), ⟨(il_nil rfl), ⟨(il_nil rfl), ⟨(il_nil (ids_slM (fun _ => rfl) _)), ⟨(il_nil rfl), ⟨(il_nil (ids_slM ids_Term _)), ⟨(il_nil (ids_slM ids_Entry _)), ⟨(il_nil rfl), ⟨(il_nil rfl), trivial⟩⟩⟩⟩⟩⟩⟩⟩⟩⟩⟩, trivial⟩⟩⟩
   ·rintro s3 h; replace h : law01_same_j2 r_law01_same a0 a1 s3 = some r := h; unfold law01_same_j2 at h
    change BW _ _ _ ⟨[(2, (PV.rf 0 0)), (3, (PV.rf 1 0)), (87, (BO s3))], [.box 29 [(I64 a0.kind), (BO a0.bool), (I64 a0.int), (PV.v (.float .f64 a0.float)), (ofStr a0.text), (PV.sl none 5 1 (List.map ofB a0.bytes)), (PV.v (.int .u64 a0.ref)), (PV.sl none 29 11 (List.map ofTerm a0.list)), (PV.sl none 66 12 (List.map ofEntry a0.fields)), (ofStr a0.cls), (I64 a0.ver)], .box 29 [(I64 a1.kind), (BO a1.bool), (I64 a1.int), (PV.v (.float .f64 a1.float)), (ofStr a1.text), (PV.sl none 5 1 (List.map ofB a1.bytes)), (PV.v (.int .u64 a1.ref)), (PV.sl none 29 11 (List.map ofTerm a1.list)), (PV.sl none 66 12 (List.map ofEntry a1.fields)), (ofStr a1.cls), (I64 a1.ver)]], _⟩ _
    refine bw_cond rfl ?_ ?_
    ·intro hc4; replace h := ocond_t hc4 h
     refine bR ?_
     refine sA rfl rfl rfl rfl rfl (ao_nil ?_)
     change BW _ _ _ _ _
     refine bw_ret ?_
     change ∃ xs, _ = some xs ∧ EndOk _ _ _ _
     obtain rfl := Option.some.inj h
     exact ⟨_, rfl, endOk0 (y := (BO false)) (Wk.refl _) rfl ⟨rfl, rfl⟩⟩
    ·intro hc4; replace h := ocond_f hc4 h
     refine bw_skip ?_
     change BW _ _ _ _ _
     refine bw_seq ?_
     refine bR ?_
     refine sA rfl rfl rfl rfl rfl (ao_nil ?_)
     change BW _ _ _ _ _
     refine bw_block ?_
     change BW _ _ _ _ _
     unfold law01_same_l1 at h
     refine bw_loop (σ := Nat) (fun i => [(2, (PV.rf 0 0)), (3, (PV.rf 1 0)), (5, (I64 (((i : Nat) : Int))))]) (fun i => [.box 29 [(I64 a0.kind), (BO a0.bool), (I64 a0.int), (PV.v (.float .f64 a0.float)), (ofStr a0.text), (PV.sl none 5 1 (List.map ofB a0.bytes)), (PV.v (.int .u64 a0.ref)), (PV.sl none 29 11 (List.map ofTerm a0.list)), (PV.sl none 66 12 (List.map ofEntry a0.fields)), (ofStr a0.cls), (I64 a0.ver)], .box 29 [(I64 a1.kind), (BO a1.bool), (I64 a1.int), (PV.v (.float .f64 a1.float)), (ofStr a1.text), (PV.sl none 5 1 (List.map ofB a1.bytes)), (PV.v (.int .u64 a1.ref)), (PV.sl none 29 11 (List.map ofTerm a1.list)), (PV.sl none 66 12 (List.map ofEntry a1.fields)), (ofStr a1.cls), (I64 a1.ver)]]) 0 h ?_ ?_ ?_
     ·intro i; exact ⟨Nat.le_of_ble_eq_true rfl, ⟨(il_rf rfl), ⟨(il_rf rfl), ⟨(il_nil rfl), trivial⟩⟩⟩, ⟨⟨(il_nil rfl), ⟨(il_nil rfl), ⟨(il_nil rfl), ⟨(il_nil rfl), ⟨(il_nil rfl), ⟨(il_nil (ids_slM (fun _ => rfl) _)), ⟨(il_nil rfl), ⟨(il_nil (ids_slM ids_Term _)), ⟨(il_nil (ids_slM ids_Entry _)), ⟨(il_nil rfl), ⟨(il_nil rfl), trivial⟩⟩⟩⟩⟩⟩⟩⟩⟩⟩⟩, ⟨⟨(il_nil rfl), ⟨(il_nil rfl), ⟨(il_nil rfl), ⟨(il_nil rfl), ⟨(il_nil rfl), ⟨(il_nil (ids_slM (fun _ => rfl) _)), ⟨(il_nil rfl), ⟨(il_nil (ids_slM ids_Term _)), ⟨(il_nil (ids_slM ids_Entry _)), ⟨(il_nil rfl), ⟨(il_nil rfl), trivial⟩⟩⟩⟩⟩⟩⟩⟩⟩⟩⟩, trivial⟩⟩⟩
     ·exact ⟨(.cons .same (.cons .same .nil)), (sC rfl (sC rfl (sC rfl sub_nil)))⟩
     ·rintro g1_f s5 h; replace h : law01_same_l1b r_law01_same a0 a1 (fun y0 => g1_f y0) s5 = some r := h; unfold law01_same_l1b at h
      change BW _ _ _ ⟨[(2, (PV.rf 0 0)), (3, (PV.rf 1 0)), (5, (I64 (((s5 : Nat) : Int))))], [.box 29 [(I64 a0.kind), (BO a0.bool), (I64 a0.int), (PV.v (.float .f64 a0.float)), (ofStr a0.text), (PV.sl none 5 1 (List.map ofB a0.bytes)), (PV.v (.int .u64 a0.ref)), (PV.sl none 29 11 (List.map ofTerm a0.list)), (PV.sl none 66 12 (List.map ofEntry a0.fields)), (ofStr a0.cls), (I64 a0.ver)], .box 29 [(I64 a1.kind), (BO a1.bool), (I64 a1.int), (PV.v (.float .f64 a1.float)), (ofStr a1.text), (PV.sl none 5 1 (List.map ofB a1.bytes)), (PV.v (.int .u64 a1.ref)), (PV.sl none 29 11 (List.map ofTerm a1.list)), (PV.sl none 66 12 (List.map ofEntry a1.fields)), (ofStr a1.cls), (I64 a1.ver)]], _⟩ _
      refine bw_seq ?_
      refine bR ?_
      refine sM rfl rfl rfl rfl rfl ?_
      refine sS rfl rfl rfl (op1_faR st_29 (i := 7) rfl rfl rfl) ?_
      refine sS rfl rfl rfl ((op1_ldR Try.underlying26 rfl rfl rfl rfl rfl)) ?_
      refine sS rfl rfl rfl (op1_lenM Try.underlying26 rfl rfl) ?_
      refine sS rfl rfl rfl ((op1_cmp rfl rfl rfl rfl).cast (y := (BO ((decide (((s5 : Nat) : Int) < (((a0.list).length : Nat) : Int)))))) rfl rfl) (ao_nil ?_)
      change BW _ _ _ _ _
      refine bw_len (t := 90) rfl fun hb7 => ?_
      try rw [List.length_map] at hb7
      refine bw_cond rfl ?_ ?_
      ·intro hc6; replace h := ocond_t hc6 h
       have hc6_ := of_decide_eq_true hc6
       refine bw_skip ?_
       change BW _ _ _ _ _
       refine bw_seq ?_
       refine bw_block ?_
       change BW _ _ _ _ _
       refine bw_seq (bw_tail 10 [] [0, 1] mo (by kernel_rfl) ?_)
       refine ac_go rfl rfl rfl rfl (fun H hp => op1_faR st_29 (i := 7) rfl rfl rfl) ?_
       refine ac_go rfl rfl rfl rfl (fun H hp => (op1_ldR Try.underlying26 rfl rfl rfl (hp.at rfl rfl) rfl)) ?_
       refine ac_go rfl rfl rfl rfl (fun H hp => op1_move rfl rfl) ?_
       obtain ⟨x8, hx8, h⟩ := obind h
       refine ac_go rfl rfl rfl rfl (fun H hp => op1_idxN (i := s5) Try.underlying26 inf_29 rfl rfl rfl hx8 (ofTerm_eq _)) ?_
       refine ac_go rfl rfl rfl rfl (fun H hp => op1_ldPW inf_29 Try.underlying29 rfl rfl rfl rfl rfl) ?_
       refine ac_go rfl rfl rfl rfl (fun H hp => op1_faR st_29 (i := 7) rfl rfl rfl) ?_
       refine ac_go rfl rfl rfl rfl (fun H hp => (op1_ldR Try.underlying26 rfl rfl rfl (hp.at rfl rfl) rfl)) ?_
       refine ac_go rfl rfl rfl rfl (fun H hp => op1_move rfl rfl) ?_
       obtain ⟨x9, hx9, h⟩ := obind h
       refine ac_go rfl rfl rfl rfl (fun H hp => op1_idxN (i := s5) Try.underlying26 inf_29 rfl rfl rfl hx9 (ofTerm_eq _)) ?_
       refine ac_go rfl rfl rfl rfl (fun H hp => op1_ldPW inf_29 Try.underlying29 rfl rfl rfl rfl rfl) ?_
       refine ac_nil ?_
       change AO _ _ _ _ _
       obtain ⟨x10, hx10, h⟩ := obind h
       refine sS rfl rfl rfl (op1_pcall rfl en_24 rfl (.cons (Wk.refl _) (.cons (Wk.refl _) .nil)) ⟨(ids_TermX x8), ⟨(ids_TermX x9), trivial⟩⟩ (c_law01_same x8 x9 x10 hx10) rfl) ?_
       refine sS rfl rfl rfl (op1_not rfl rfl) (ao_nil ?_)
       change BW _ _ _ _ _
       refine bw_cond rfl ?_ ?_
       ·intro hc11; replace h := ocond_t hc11 h
        refine bR ?_
        refine sA rfl rfl rfl rfl rfl (ao_nil ?_)
        change BW _ _ _ _ _
        refine bw_ret ?_
        change ∃ xs, _ = some xs ∧ EndOk _ _ _ _
        obtain rfl := Option.some.inj h
        exact ⟨_, rfl, endOk0 (y := (BO false)) (Wk.refl _) rfl ⟨rfl, rfl⟩⟩
       ·intro hc11; replace h := ocond_f hc11 h
        refine bw_skip ?_
        change BW _ _ _ _ _
        refine bw_region ?_
        refine sM rfl rfl rfl rfl rfl ?_
        refine sS rfl rfl rfl (op1_incN (k := s5) (c := 1) rfl rfl rfl (by omega)) ?_
        refine sA rfl rfl rfl rfl rfl (ao_nil ?_)
        exact ⟨rfl, (s5 + 1), h, ⟨(.cons .same (.cons .same .nil)), (sC rfl (sC rfl (sC rfl sub_nil)))⟩⟩
      ·intro hc6; replace h := ocond_f hc6 h
       refine bw_exit ?_
       change BW _ _ _ _ _
       refine bw_seq ?_
       refine bR ?_
       refine sA rfl rfl rfl rfl rfl (ao_nil ?_)
       change BW _ _ _ _ _
       refine bw_block ?_
       change BW _ _ _ _ _
       unfold law01_same_l2 at h
       refine bw_loop (σ := Nat) (fun i => [(2, (PV.rf 0 0)), (3, (PV.rf 1 0)), (6, (I64 (((i : Nat) : Int))))]) (fun i => [.box 29 [(I64 a0.kind), (BO a0.bool), (I64 a0.int), (PV.v (.float .f64 a0.float)), (ofStr a0.text), (PV.sl none 5 1 (List.map ofB a0.bytes)), (PV.v (.int .u64 a0.ref)), (PV.sl none 29 11 (List.map ofTerm a0.list)), (PV.sl none 66 12 (List.map ofEntry a0.fields)), (ofStr a0.cls), (I64 a0.ver)], .box 29 [(I64 a1.kind), (BO a1.bool), (I64 a1.int), (PV.v (.float .f64 a1.float)), (ofStr a1.text), (PV.sl none 5 1 (List.map ofB a1.bytes)), (PV.v (.int .u64 a1.ref)), (PV.sl none 29 11 (List.map ofTerm a1.list)), (PV.sl none 66 12 (List.map ofEntry a1.fields)), (ofStr a1.cls), (I64 a1.ver)]]) 0 h ?_ ?_ ?_
       ·intro i; exact ⟨Nat.le_of_ble_eq_true rfl, ⟨(il_rf rfl), ⟨(il_rf rfl), ⟨(il_nil rfl), trivial⟩⟩⟩, ⟨⟨(il_nil rfl), ⟨(il_nil rfl), ⟨(il_nil rfl), ⟨(il_nil rfl), ⟨(il_nil rfl), ⟨(il_nil (ids_slM (fun _ => rfl) _)), ⟨(il_nil rfl), ⟨(il_nil (ids_slM ids_Term _)), ⟨(il_nil (ids_slM ids_Entry _)), ⟨(il_nil rfl), ⟨(il_nil rfl), trivial⟩⟩⟩⟩⟩⟩⟩⟩⟩⟩⟩, ⟨⟨(il_nil rfl), ⟨(il_nil rfl), ⟨(il_nil rfl), ⟨(il_nil rfl), ⟨(il_nil rfl), ⟨(il_nil (ids_slM (fun _ => rfl) _)), ⟨(il_nil rfl), ⟨(il_nil (ids_slM ids_Term _)), ⟨(il_nil (ids_slM ids_Entry _)), ⟨(il_nil rfl), ⟨(il_nil rfl), trivial⟩⟩⟩⟩⟩⟩⟩⟩⟩⟩⟩, trivial⟩⟩⟩
       ·exact ⟨(.cons .same (.cons .same .nil)), (sC rfl (sC rfl (sC rfl sub_nil)))⟩
       ·rintro g2_f s12 h; replace h : law01_same_l2b r_law01_same a0 a1 (fun y0 => g2_f y0) s12 = some r := h; unfold law01_same_l2b at h
        change BW _ _ _ ⟨[(2, (PV.rf 0 0)), (3, (PV.rf 1 0)), (6, (I64 (((s12 : Nat) : Int))))], [.box 29 [(I64 a0.kind), (BO a0.bool), (I64 a0.int), (PV.v (.float .f64 a0.float)), (ofStr a0.text), (PV.sl none 5 1 (List.map ofB a0.bytes)), (PV.v (.int .u64 a0.ref)), (PV.sl none 29 11 (List.map ofTerm a0.list)), (PV.sl none 66 12 (List.map ofEntry a0.fields)), (ofStr a0.cls), (I64 a0.ver)], .box 29 [(I64 a1.kind), (BO a1.bool), (I64 a1.int), (PV.v (.float .f64 a1.float)), (ofStr a1.text), (PV.sl none 5 1 (List.map ofB a1.bytes)), (PV.v (.int .u64 a1.ref)), (PV.sl none 29 11 (List.map ofTerm a1.list)), (PV.sl none 66 12 (List.map ofEntry a1.fields)), (ofStr a1.cls), (I64 a1.ver)]], _⟩ _
        refine bw_seq ?_
        refine bR ?_
        refine sM rfl rfl rfl rfl rfl ?_
        refine sS rfl rfl rfl (op1_faR st_29 (i := 8) rfl rfl rfl) ?_
        refine sS rfl rfl rfl ((op1_ldR Try.underlying27 rfl rfl rfl rfl rfl)) ?_
        refine sS rfl rfl rfl (op1_lenM Try.underlying27 rfl rfl) ?_
        refine sS rfl rfl rfl ((op1_cmp rfl rfl rfl rfl).cast (y := (BO ((decide (((s12 : Nat) : Int) < (((a0.fields).length : Nat) : Int)))))) rfl rfl) (ao_nil ?_)
        change BW _ _ _ _ _
        refine bw_len (t := 109) rfl fun hb14 => ?_
        try rw [List.length_map] at hb14
        refine bw_cond rfl ?_ ?_
        ·intro hc13; replace h := ocond_t hc13 h
         have hc13_ := of_decide_eq_true hc13
         refine bw_skip ?_
         change BW _ _ _ _ _
         refine bw_seq ?_
         refine bw_block ?_
         change BW _ _ _ _ _
         refine bw_seq (bw_tail 12 [] [0, 1] mo (by kernel_rfl) ?_)
         refine ac_go rfl rfl rfl rfl (fun H hp => op1_faR st_29 (i := 8) rfl rfl rfl) ?_
         refine ac_go rfl rfl rfl rfl (fun H hp => (op1_ldR Try.underlying27 rfl rfl rfl (hp.at rfl rfl) rfl)) ?_
         refine ac_go rfl rfl rfl rfl (fun H hp => op1_move rfl rfl) ?_
         obtain ⟨x15, hx15, h⟩ := obind h
         refine ac_go rfl rfl rfl rfl (fun H hp => op1_idxN (i := s12) Try.underlying27 inf_66 rfl rfl rfl hx15 (ofEntry_eq _)) ?_
         refine ac_go rfl rfl rfl rfl (fun H hp => op1_faP st_66 (i := 1) rfl rfl rfl) ?_
         refine ac_go rfl rfl rfl rfl (fun H hp => (op1_ldPA inf_29 Try.underlying29 rfl rfl rfl rfl rfl)) ?_
         refine ac_go rfl rfl rfl rfl (fun H hp => op1_faR st_29 (i := 8) rfl rfl rfl) ?_
         refine ac_go rfl rfl rfl rfl (fun H hp => (op1_ldR Try.underlying27 rfl rfl rfl (hp.at rfl rfl) rfl)) ?_
         refine ac_go rfl rfl rfl rfl (fun H hp => op1_move rfl rfl) ?_
         obtain ⟨x16, hx16, h⟩ := obind h
         refine ac_go rfl rfl rfl rfl (fun H hp => op1_idxN (i := s12) Try.underlying27 inf_66 rfl rfl rfl hx16 (ofEntry_eq _)) ?_
         refine ac_go rfl rfl rfl rfl (fun H hp => op1_faP st_66 (i := 1) rfl rfl rfl) ?_
         refine ac_go rfl rfl rfl rfl (fun H hp => (op1_ldPA inf_29 Try.underlying29 rfl rfl rfl rfl rfl)) ?_
         refine ac_nil ?_
         change AO _ _ _ _ _
         obtain ⟨x17, hx17, h⟩ := obind h
         refine sS rfl rfl rfl (op1_pcall rfl en_24 rfl (.cons (Wk.refl _) (.cons (Wk.refl _) .nil)) ⟨(ids_TermX (x15.2)), ⟨(ids_TermX (x16.2)), trivial⟩⟩ (c_law01_same (x15.2) (x16.2) x17 hx17) rfl) ?_
         refine sS rfl rfl rfl (op1_not rfl rfl) (ao_nil ?_)
         change BW _ _ _ _ _
         refine bw_cond rfl ?_ ?_
         ·intro hc18; replace h := ocond_t hc18 h
          refine bR ?_
          refine sA rfl rfl rfl rfl rfl (ao_nil ?_)
          change BW _ _ _ _ _
          refine bw_ret ?_
          change ∃ xs, _ = some xs ∧ EndOk _ _ _ _
          obtain rfl := Option.some.inj h
          exact ⟨_, rfl, endOk0 (y := (BO false)) (Wk.refl _) rfl ⟨rfl, rfl⟩⟩
         ·intro hc18; replace h := ocond_f hc18 h
          refine bw_skip ?_
          change BW _ _ _ _ _
          refine bw_region ?_
          refine sM rfl rfl rfl rfl rfl ?_
          refine sS rfl rfl rfl (op1_incN (k := s12) (c := 1) rfl rfl rfl (by omega)) ?_
          refine sA rfl rfl rfl rfl rfl (ao_nil ?_)
          exact ⟨rfl, (s12 + 1), h, ⟨(.cons .same (.cons .same .nil)), (sC rfl (sC rfl (sC rfl sub_nil)))⟩⟩
        ·intro hc13; replace h := ocond_f hc13 h
         refine bw_exit ?_
         change BW _ _ _ _ _
         refine bR ?_
         refine sA rfl rfl rfl rfl rfl (ao_nil ?_)
         change BW _ _ _ _ _
         refine bw_ret ?_
         change ∃ xs, _ = some xs ∧ EndOk _ _ _ _
         obtain rfl := Option.some.inj h
         exact ⟨_, rfl, endOk0 (y := (BO true)) (Wk.refl _) rfl ⟨rfl, rfl⟩⟩
   ·refine bw_region ?_
    refine sS rfl rfl rfl (op1_faR st_29 (i := 0) rfl rfl rfl) ?_
    refine sS rfl rfl rfl ((op1_ldR Try.underlying3 rfl rfl rfl rfl rfl)) ?_
    refine sS rfl rfl rfl ((op1_cmp rfl rfl rfl rfl).cast (y := (BO ((a0.kind != 4)))) rfl rfl) ?_
    refine sM rfl rfl rfl rfl rfl ?_
    refine ao_cases (t := 83) rfl ?_ ?_
    ·intro hb19; replace h := ocond_t hb19 h
     refine ao_yes rfl rfl rfl rfl rfl rfl (op1_faR st_29 (i := 3) rfl rfl rfl) ?_
     refine ao_yes rfl rfl rfl rfl rfl rfl ((op1_ldR Try.underlying22 rfl rfl rfl rfl rfl)) ?_
     refine ao_yes rfl rfl rfl rfl rfl rfl (op1_neF rfl rfl rfl) ?_
     refine sS rfl rfl rfl (op1_pickT rfl rfl rfl) (ao_nil ?_)
     exact ⟨rfl, (FloatKind.f64.format.order a0.float 0 != some Ordering.eq), h, ⟨(.cons .same (.cons .same .nil)), (sC rfl (sC rfl (sC rfl sub_nil)))⟩⟩
    ·intro hb19; replace h := ocond_f hb19 h
     refine ao_no rfl rfl rfl rfl rfl rfl ?_
     refine ao_no rfl rfl rfl rfl rfl rfl ?_
     refine ao_no rfl rfl rfl rfl rfl rfl ?_
     refine sS rfl rfl rfl (op1_pickF rfl rfl rfl) (ao_nil ?_)
     exact ⟨rfl, false, h, ⟨(.cons .same (.cons .same .nil)), (sC rfl (sC rfl (sC rfl sub_nil)))⟩⟩
 ·refine bw_regionA ?_
  refine sS rfl rfl rfl ((op1_ldRA inf_29 Try.underlying29 rfl rfl rfl rfl rfl rfl)) ?_
  refine sS rfl rfl rfl ((op1_ldRA inf_29 Try.underlying29 rfl rfl rfl rfl rfl rfl)) ?_
  obtain ⟨x20, hx20, h⟩ := obind h
  refine sS rfl rfl rfl (op1_pcall rfl en_32 rfl (.cons (Wk.refl _) (.cons (Wk.refl _) .nil)) ⟨(ids_TermX a0), ⟨(ids_TermX a1), trivial⟩⟩ (s_mk_Same a0 a1 x20 hx20) rfl) ?_
  refine sS rfl rfl rfl (op1_not rfl rfl) ?_
  refine sM rfl rfl rfl rfl rfl ?_
  refine ao_cases (t := 11) rfl ?_ ?_
  ·intro hb21; replace h := ocond_t hb21 h
   refine ao_no rfl rfl rfl rfl rfl rfl ?_
   refine ao_no rfl rfl rfl rfl rfl rfl ?_
   refine ao_no rfl rfl rfl rfl rfl rfl ?_
   refine ao_no rfl rfl rfl rfl rfl rfl ?_
   refine ao_no rfl rfl rfl rfl rfl rfl ?_
   refine sS rfl rfl rfl (op1_pickT rfl rfl rfl) ?_
   refine sM rfl rfl rfl rfl rfl ?_
   refine ao_no rfl rfl rfl rfl rfl rfl ?_
   refine ao_no rfl rfl rfl rfl rfl rfl ?_
   refine ao_no rfl rfl rfl rfl rfl rfl ?_
   refine ao_no rfl rfl rfl rfl rfl rfl ?_
   refine ao_no rfl rfl rfl rfl rfl rfl ?_
   refine sS rfl rfl rfl (op1_pickT rfl rfl rfl) ?_
   refine sM rfl rfl rfl rfl rfl ?_
   refine ao_no rfl rfl rfl rfl rfl rfl ?_
   refine ao_no rfl rfl rfl rfl rfl rfl ?_
   refine ao_no rfl rfl rfl rfl rfl rfl ?_
   refine ao_no rfl rfl rfl rfl rfl rfl ?_
   refine ao_no rfl rfl rfl rfl rfl rfl ?_
   refine sS rfl rfl rfl (op1_pickT rfl rfl rfl) ?_
   refine sM rfl rfl rfl rfl rfl ?_
   refine ao_no rfl rfl rfl rfl rfl rfl ?_
   refine ao_no rfl rfl rfl rfl rfl rfl ?_
   refine ao_no rfl rfl rfl rfl rfl rfl ?_
   refine ao_no rfl rfl rfl rfl rfl rfl ?_
   refine ao_no rfl rfl rfl rfl rfl rfl ?_
   refine ao_no rfl rfl rfl rfl rfl rfl ?_
   refine ao_no rfl rfl rfl rfl rfl rfl ?_
   refine sS rfl rfl rfl (op1_pickT rfl rfl rfl) ?_
   refine sM rfl rfl rfl rfl rfl ?_
   refine ao_no rfl rfl rfl rfl rfl rfl ?_
   refine ao_no rfl rfl rfl rfl rfl rfl ?_
   refine ao_no rfl rfl rfl rfl rfl rfl ?_
   refine ao_no rfl rfl rfl rfl rfl rfl ?_
   refine ao_no rfl rfl rfl rfl rfl rfl ?_
   refine sS rfl rfl rfl (op1_pickT rfl rfl rfl) ?_
   refine sM rfl rfl rfl rfl rfl ?_
   refine ao_no rfl rfl rfl rfl rfl rfl ?_
   refine ao_no rfl rfl rfl rfl rfl rfl ?_
   refine ao_no rfl rfl rfl rfl rfl rfl ?_
   refine ao_no rfl rfl rfl rfl rfl rfl ?_
   refine ao_no rfl rfl rfl rfl rfl rfl ?_
   refine sS rfl rfl rfl (op1_pickT rfl rfl rfl) ?_
   refine sM rfl rfl rfl rfl rfl ?_
   refine ao_no rfl rfl rfl rfl rfl rfl ?_
   refine ao_no rfl rfl rfl rfl rfl rfl ?_
   refine ao_no rfl rfl rfl rfl rfl rfl ?_
   refine ao_no rfl rfl rfl rfl rfl rfl ?_
   refine ao_no rfl rfl rfl rfl rfl rfl ?_
   refine sS rfl rfl rfl (op1_pickT rfl rfl rfl) ?_
   refine sM rfl rfl rfl rfl rfl ?_
   refine ao_no rfl rfl rfl rfl rfl rfl ?_
   refine ao_no rfl rfl rfl rfl rfl rfl ?_
   refine ao_no rfl rfl rfl rfl rfl rfl ?_
   refine ao_no rfl rfl rfl rfl rfl rfl ?_
   refine ao_no rfl rfl rfl rfl rfl rfl ?_
   refine ao_no rfl rfl rfl rfl rfl rfl ?_
   refine ao_no rfl rfl rfl rfl rfl rfl ?_
   refine sS rfl rfl rfl (op1_pickT rfl rfl rfl) ?_
   refine sM rfl rfl rfl rfl rfl ?_
   refine ao_no rfl rfl rfl rfl rfl rfl ?_
   refine ao_no rfl rfl rfl rfl rfl rfl ?_
   refine ao_no rfl rfl rfl rfl rfl rfl ?_
   refine ao_no rfl rfl rfl rfl rfl rfl ?_
   refine ao_no rfl rfl rfl rfl rfl rfl ?_
   refine ao_no rfl rfl rfl rfl rfl rfl ?_
   refine ao_no rfl rfl rfl rfl rfl rfl ?_
   refine sS rfl rfl rfl (op1_pickT rfl rfl rfl) (ao_nil ?_)
   exact ⟨rfl, true, h, ⟨(.cons .same (.cons .same .nil)), (sC rfl (sC rfl (sC rfl sub_nil)))⟩⟩
  ·intro hb21; replace h := ocond_f hb21 h
   refine ao_yes rfl rfl rfl rfl rfl rfl (op1_faR st_29 (i := 1) rfl rfl rfl) ?_
   refine ao_yes rfl rfl rfl rfl rfl rfl ((op1_ldR Try.underlying4 rfl rfl rfl rfl rfl)) ?_
   refine ao_yes rfl rfl rfl rfl rfl rfl (op1_faR st_29 (i := 1) rfl rfl rfl) ?_
   refine ao_yes rfl rfl rfl rfl rfl rfl ((op1_ldR Try.underlying4 rfl rfl rfl rfl rfl)) ?_
   refine ao_yes rfl rfl rfl rfl rfl rfl (op1_neB Try.underlying4 rfl rfl rfl) ?_
   refine sS rfl rfl rfl (op1_pickF rfl rfl rfl) ?_
   refine sM rfl rfl rfl rfl rfl ?_
   refine ao_cases (t := 18) rfl ?_ ?_
   ·intro hb22; replace h := ocond_t hb22 h
    refine ao_no rfl rfl rfl rfl rfl rfl ?_
    refine ao_no rfl rfl rfl rfl rfl rfl ?_
    refine ao_no rfl rfl rfl rfl rfl rfl ?_
    refine ao_no rfl rfl rfl rfl rfl rfl ?_
    refine ao_no rfl rfl rfl rfl rfl rfl ?_
    refine sS rfl rfl rfl (op1_pickT rfl rfl rfl) ?_
    refine sM rfl rfl rfl rfl rfl ?_
    refine ao_no rfl rfl rfl rfl rfl rfl ?_
    refine ao_no rfl rfl rfl rfl rfl rfl ?_
    refine ao_no rfl rfl rfl rfl rfl rfl ?_
    refine ao_no rfl rfl rfl rfl rfl rfl ?_
    refine ao_no rfl rfl rfl rfl rfl rfl ?_
    refine sS rfl rfl rfl (op1_pickT rfl rfl rfl) ?_
    refine sM rfl rfl rfl rfl rfl ?_
    refine ao_no rfl rfl rfl rfl rfl rfl ?_
    refine ao_no rfl rfl rfl rfl rfl rfl ?_
    refine ao_no rfl rfl rfl rfl rfl rfl ?_
    refine ao_no rfl rfl rfl rfl rfl rfl ?_
    refine ao_no rfl rfl rfl rfl rfl rfl ?_
    refine ao_no rfl rfl rfl rfl rfl rfl ?_
    refine ao_no rfl rfl rfl rfl rfl rfl ?_
    refine sS rfl rfl rfl (op1_pickT rfl rfl rfl) ?_
    refine sM rfl rfl rfl rfl rfl ?_
    refine ao_no rfl rfl rfl rfl rfl rfl ?_
    refine ao_no rfl rfl rfl rfl rfl rfl ?_
    refine ao_no rfl rfl rfl rfl rfl rfl ?_
    refine ao_no rfl rfl rfl rfl rfl rfl ?_
    refine ao_no rfl rfl rfl rfl rfl rfl ?_
    refine sS rfl rfl rfl (op1_pickT rfl rfl rfl) ?_
    refine sM rfl rfl rfl rfl rfl ?_
    refine ao_no rfl rfl rfl rfl rfl rfl ?_
    refine ao_no rfl rfl rfl rfl rfl rfl ?_
    refine ao_no rfl rfl rfl rfl rfl rfl ?_
    refine ao_no rfl rfl rfl rfl rfl rfl ?_
    refine ao_no rfl rfl rfl rfl rfl rfl ?_
    refine sS rfl rfl rfl (op1_pickT rfl rfl rfl) ?_
    refine sM rfl rfl rfl rfl rfl ?_
    refine ao_no rfl rfl rfl rfl rfl rfl ?_
    refine ao_no rfl rfl rfl rfl rfl rfl ?_
    refine ao_no rfl rfl rfl rfl rfl rfl ?_
    refine ao_no rfl rfl rfl rfl rfl rfl ?_
    refine ao_no rfl rfl rfl rfl rfl rfl ?_
    refine sS rfl rfl rfl (op1_pickT rfl rfl rfl) ?_
    refine sM rfl rfl rfl rfl rfl ?_
    refine ao_no rfl rfl rfl rfl rfl rfl ?_
    refine ao_no rfl rfl rfl rfl rfl rfl ?_
    refine ao_no rfl rfl rfl rfl rfl rfl ?_
    refine ao_no rfl rfl rfl rfl rfl rfl ?_
    refine ao_no rfl rfl rfl rfl rfl rfl ?_
    refine ao_no rfl rfl rfl rfl rfl rfl ?_
    refine ao_no rfl rfl rfl rfl rfl rfl ?_
    refine sS rfl rfl rfl (op1_pickT rfl rfl rfl) ?_
    refine sM rfl rfl rfl rfl rfl ?_
    refine ao_no rfl rfl rfl rfl rfl rfl ?_
    refine ao_no rfl rfl rfl rfl rfl rfl ?_
    refine ao_no rfl rfl rfl rfl rfl rfl ?_
    refine ao_no rfl rfl rfl rfl rfl rfl ?_
    refine ao_no rfl rfl rfl rfl rfl rfl ?_
    refine ao_no rfl rfl rfl rfl rfl rfl ?_
    refine ao_no rfl rfl rfl rfl rfl rfl ?_
    refine sS rfl rfl rfl (op1_pickT rfl rfl rfl) (ao_nil ?_)
    exact ⟨rfl, true, h, ⟨(.cons .same (.cons .same .nil)), (sC rfl (sC rfl (sC rfl sub_nil)))⟩⟩
   ·intro hb22; replace h := ocond_f hb22 h
    refine ao_yes rfl rfl rfl rfl rfl rfl (op1_faR st_29 (i := 2) rfl rfl rfl) ?_
    refine ao_yes rfl rfl rfl rfl rfl rfl ((op1_ldR Try.underlying2 rfl rfl rfl rfl rfl)) ?_
    refine ao_yes rfl rfl rfl rfl rfl rfl (op1_faR st_29 (i := 2) rfl rfl rfl) ?_
    refine ao_yes rfl rfl rfl rfl rfl rfl ((op1_ldR Try.underlying2 rfl rfl rfl rfl rfl)) ?_
    refine ao_yes rfl rfl rfl rfl rfl rfl ((op1_cmp rfl rfl rfl rfl).cast (y := (BO ((a0.int != a1.int)))) rfl rfl) ?_
    refine sS rfl rfl rfl (op1_pickF rfl rfl rfl) ?_
    refine sM rfl rfl rfl rfl rfl ?_
    refine ao_cases (t := 25) rfl ?_ ?_
    ·intro hb23; replace h := ocond_t hb23 h
     refine ao_no rfl rfl rfl rfl rfl rfl ?_
     refine ao_no rfl rfl rfl rfl rfl rfl ?_
     refine ao_no rfl rfl rfl rfl rfl rfl ?_
     refine ao_no rfl rfl rfl rfl rfl rfl ?_
     refine ao_no rfl rfl rfl rfl rfl rfl ?_
     refine sS rfl rfl rfl (op1_pickT rfl rfl rfl) ?_
     refine sM rfl rfl rfl rfl rfl ?_
     refine ao_no rfl rfl rfl rfl rfl rfl ?_
     refine ao_no rfl rfl rfl rfl rfl rfl ?_
     refine ao_no rfl rfl rfl rfl rfl rfl ?_
     refine ao_no rfl rfl rfl rfl rfl rfl ?_
     refine ao_no rfl rfl rfl rfl rfl rfl ?_
     refine ao_no rfl rfl rfl rfl rfl rfl ?_
     refine ao_no rfl rfl rfl rfl rfl rfl ?_
     refine sS rfl rfl rfl (op1_pickT rfl rfl rfl) ?_
     refine sM rfl rfl rfl rfl rfl ?_
     refine ao_no rfl rfl rfl rfl rfl rfl ?_
     refine ao_no rfl rfl rfl rfl rfl rfl ?_
     refine ao_no rfl rfl rfl rfl rfl rfl ?_
     refine ao_no rfl rfl rfl rfl rfl rfl ?_
     refine ao_no rfl rfl rfl rfl rfl rfl ?_
     refine sS rfl rfl rfl (op1_pickT rfl rfl rfl) ?_
     refine sM rfl rfl rfl rfl rfl ?_
     refine ao_no rfl rfl rfl rfl rfl rfl ?_
     refine ao_no rfl rfl rfl rfl rfl rfl ?_
     refine ao_no rfl rfl rfl rfl rfl rfl ?_
     refine ao_no rfl rfl rfl rfl rfl rfl ?_
     refine ao_no rfl rfl rfl rfl rfl rfl ?_
     refine sS rfl rfl rfl (op1_pickT rfl rfl rfl) ?_
     refine sM rfl rfl rfl rfl rfl ?_
     refine ao_no rfl rfl rfl rfl rfl rfl ?_
     refine ao_no rfl rfl rfl rfl rfl rfl ?_
     refine ao_no rfl rfl rfl rfl rfl rfl ?_
     refine ao_no rfl rfl rfl rfl rfl rfl ?_
     refine ao_no rfl rfl rfl rfl rfl rfl ?_
     refine sS rfl rfl rfl (op1_pickT rfl rfl rfl) ?_
     refine sM rfl rfl rfl rfl rfl ?_
     refine ao_no rfl rfl rfl rfl rfl rfl ?_
     refine ao_no rfl rfl rfl rfl rfl rfl ?_
     refine ao_no rfl rfl rfl rfl rfl rfl ?_
     refine ao_no rfl rfl rfl rfl rfl rfl ?_
     refine ao_no rfl rfl rfl rfl rfl rfl ?_
     refine ao_no rfl rfl rfl rfl rfl rfl ?_
     refine ao_no rfl rfl rfl rfl rfl rfl ?_
     refine sS rfl rfl rfl (op1_pickT rfl rfl rfl) ?_
     refine sM rfl rfl rfl rfl rfl ?_
     refine ao_no rfl rfl rfl rfl rfl rfl ?_
     refine ao_no rfl rfl rfl rfl rfl rfl ?_
     refine ao_no rfl rfl rfl rfl rfl rfl ?_
     refine ao_no rfl rfl rfl rfl rfl rfl ?_
     refine ao_no rfl rfl rfl rfl rfl rfl ?_
     refine ao_no rfl rfl rfl rfl rfl rfl ?_
     refine ao_no rfl rfl rfl rfl rfl rfl ?_
     refine sS rfl rfl rfl (op1_pickT rfl rfl rfl) (ao_nil ?_)
     exact ⟨rfl, true, h, ⟨(.cons .same (.cons .same .nil)), (sC rfl (sC rfl (sC rfl sub_nil)))⟩⟩
    ·intro hb23; replace h := ocond_f hb23 h
     refine ao_yes rfl rfl rfl rfl rfl rfl (op1_faR st_29 (i := 4) rfl rfl rfl) ?_
     refine ao_yes rfl rfl rfl rfl rfl rfl ((op1_ldR Try.underlying9 rfl rfl rfl rfl rfl)) ?_
     refine ao_yes rfl rfl rfl rfl rfl rfl (op1_faR st_29 (i := 4) rfl rfl rfl) ?_
     refine ao_yes rfl rfl rfl rfl rfl rfl ((op1_ldR Try.underlying9 rfl rfl rfl rfl rfl)) ?_
     refine ao_yes rfl rfl rfl rfl rfl rfl ((op1_cmpT (a := a0.text) (b := a1.text) rfl rfl rfl rfl).cast (y := (BO ((!(a0.text == a1.text))))) rfl rfl) ?_
     refine sS rfl rfl rfl (op1_pickF rfl rfl rfl) ?_
     refine sM rfl rfl rfl rfl rfl ?_
     refine ao_cases (t := 32) rfl ?_ ?_
     ·intro hb24; replace h := ocond_t hb24 h
      refine ao_no rfl rfl rfl rfl rfl rfl ?_
      refine ao_no rfl rfl rfl rfl rfl rfl ?_
      refine ao_no rfl rfl rfl rfl rfl rfl ?_
      refine ao_no rfl rfl rfl rfl rfl rfl ?_
      refine ao_no rfl rfl rfl rfl rfl rfl ?_
      refine ao_no rfl rfl rfl rfl rfl rfl ?_
      refine ao_no rfl rfl rfl rfl rfl rfl ?_
      refine sS rfl rfl rfl (op1_pickT rfl rfl rfl) ?_
      refine sM rfl rfl rfl rfl rfl ?_
      refine ao_no rfl rfl rfl rfl rfl rfl ?_
      refine ao_no rfl rfl rfl rfl rfl rfl ?_
      refine ao_no rfl rfl rfl rfl rfl rfl ?_
      refine ao_no rfl rfl rfl rfl rfl rfl ?_
      refine ao_no rfl rfl rfl rfl rfl rfl ?_
      refine sS rfl rfl rfl (op1_pickT rfl rfl rfl) ?_
      refine sM rfl rfl rfl rfl rfl ?_
      refine ao_no rfl rfl rfl rfl rfl rfl ?_
      refine ao_no rfl rfl rfl rfl rfl rfl ?_
      refine ao_no rfl rfl rfl rfl rfl rfl ?_
      refine ao_no rfl rfl rfl rfl rfl rfl ?_
      refine ao_no rfl rfl rfl rfl rfl rfl ?_
      refine sS rfl rfl rfl (op1_pickT rfl rfl rfl) ?_
      refine sM rfl rfl rfl rfl rfl ?_
      refine ao_no rfl rfl rfl rfl rfl rfl ?_
      refine ao_no rfl rfl rfl rfl rfl rfl ?_
      refine ao_no rfl rfl rfl rfl rfl rfl ?_
      refine ao_no rfl rfl rfl rfl rfl rfl ?_
      refine ao_no rfl rfl rfl rfl rfl rfl ?_
      refine sS rfl rfl rfl (op1_pickT rfl rfl rfl) ?_
      refine sM rfl rfl rfl rfl rfl ?_
      refine ao_no rfl rfl rfl rfl rfl rfl ?_
      refine ao_no rfl rfl rfl rfl rfl rfl ?_
      refine ao_no rfl rfl rfl rfl rfl rfl ?_
      refine ao_no rfl rfl rfl rfl rfl rfl ?_
      refine ao_no rfl rfl rfl rfl rfl rfl ?_
      refine ao_no rfl rfl rfl rfl rfl rfl ?_
      refine ao_no rfl rfl rfl rfl rfl rfl ?_
      refine sS rfl rfl rfl (op1_pickT rfl rfl rfl) ?_
      refine sM rfl rfl rfl rfl rfl ?_
      refine ao_no rfl rfl rfl rfl rfl rfl ?_
      refine ao_no rfl rfl rfl rfl rfl rfl ?_
      refine ao_no rfl rfl rfl rfl rfl rfl ?_
      refine ao_no rfl rfl rfl rfl rfl rfl ?_
      refine ao_no rfl rfl rfl rfl rfl rfl ?_
      refine ao_no rfl rfl rfl rfl rfl rfl ?_
      refine ao_no rfl rfl rfl rfl rfl rfl ?_
      refine sS rfl rfl rfl (op1_pickT rfl rfl rfl) (ao_nil ?_)
      exact ⟨rfl, true, h, ⟨(.cons .same (.cons .same .nil)), (sC rfl (sC rfl (sC rfl sub_nil)))⟩⟩
     ·intro hb24; replace h := ocond_f hb24 h
      refine ao_yes rfl rfl rfl rfl rfl rfl (op1_faR st_29 (i := 5) rfl rfl rfl) ?_
      refine ao_yes rfl rfl rfl rfl rfl rfl ((op1_ldR Try.underlying23 rfl rfl rfl rfl rfl)) ?_
      refine ao_yes rfl rfl rfl rfl rfl rfl (op1_toT Try.underlying23 Try.underlying9 Try.underlying5 rfl rfl) ?_
      refine ao_yes rfl rfl rfl rfl rfl rfl (op1_faR st_29 (i := 5) rfl rfl rfl) ?_
      refine ao_yes rfl rfl rfl rfl rfl rfl ((op1_ldR Try.underlying23 rfl rfl rfl rfl rfl)) ?_
      refine ao_yes rfl rfl rfl rfl rfl rfl (op1_toT Try.underlying23 Try.underlying9 Try.underlying5 rfl rfl) ?_
      refine ao_yes rfl rfl rfl rfl rfl rfl ((op1_cmpT (a := a0.bytes) (b := a1.bytes) rfl rfl rfl rfl).cast (y := (BO ((!(a0.bytes == a1.bytes))))) rfl rfl) ?_
      refine sS rfl rfl rfl (op1_pickF rfl rfl rfl) ?_
      refine sM rfl rfl rfl rfl rfl ?_
      refine ao_cases (t := 41) rfl ?_ ?_
      ·intro hb25; replace h := ocond_t hb25 h
       refine ao_no rfl rfl rfl rfl rfl rfl ?_
       refine ao_no rfl rfl rfl rfl rfl rfl ?_
       refine ao_no rfl rfl rfl rfl rfl rfl ?_
       refine ao_no rfl rfl rfl rfl rfl rfl ?_
       refine ao_no rfl rfl rfl rfl rfl rfl ?_
       refine sS rfl rfl rfl (op1_pickT rfl rfl rfl) ?_
       refine sM rfl rfl rfl rfl rfl ?_
       refine ao_no rfl rfl rfl rfl rfl rfl ?_
       refine ao_no rfl rfl rfl rfl rfl rfl ?_
       refine ao_no rfl rfl rfl rfl rfl rfl ?_
       refine ao_no rfl rfl rfl rfl rfl rfl ?_
       refine ao_no rfl rfl rfl rfl rfl rfl ?_
       refine sS rfl rfl rfl (op1_pickT rfl rfl rfl) ?_
       refine sM rfl rfl rfl rfl rfl ?_
       refine ao_no rfl rfl rfl rfl rfl rfl ?_
       refine ao_no rfl rfl rfl rfl rfl rfl ?_
       refine ao_no rfl rfl rfl rfl rfl rfl ?_
       refine ao_no rfl rfl rfl rfl rfl rfl ?_
       refine ao_no rfl rfl rfl rfl rfl rfl ?_
       refine sS rfl rfl rfl (op1_pickT rfl rfl rfl) ?_
       refine sM rfl rfl rfl rfl rfl ?_
       refine ao_no rfl rfl rfl rfl rfl rfl ?_
       refine ao_no rfl rfl rfl rfl rfl rfl ?_
       refine ao_no rfl rfl rfl rfl rfl rfl ?_
       refine ao_no rfl rfl rfl rfl rfl rfl ?_
       refine ao_no rfl rfl rfl rfl rfl rfl ?_
       refine ao_no rfl rfl rfl rfl rfl rfl ?_
       refine ao_no rfl rfl rfl rfl rfl rfl ?_
       refine sS rfl rfl rfl (op1_pickT rfl rfl rfl) ?_
       refine sM rfl rfl rfl rfl rfl ?_
       refine ao_no rfl rfl rfl rfl rfl rfl ?_
       refine ao_no rfl rfl rfl rfl rfl rfl ?_
       refine ao_no rfl rfl rfl rfl rfl rfl ?_
       refine ao_no rfl rfl rfl rfl rfl rfl ?_
       refine ao_no rfl rfl rfl rfl rfl rfl ?_
       refine ao_no rfl rfl rfl rfl rfl rfl ?_
       refine ao_no rfl rfl rfl rfl rfl rfl ?_
       refine sS rfl rfl rfl (op1_pickT rfl rfl rfl) (ao_nil ?_)
       exact ⟨rfl, true, h, ⟨(.cons .same (.cons .same .nil)), (sC rfl (sC rfl (sC rfl sub_nil)))⟩⟩
      ·intro hb25; replace h := ocond_f hb25 h
       refine ao_yes rfl rfl rfl rfl rfl rfl (op1_faR st_29 (i := 6) rfl rfl rfl) ?_
       refine ao_yes rfl rfl rfl rfl rfl rfl ((op1_ldR Try.underlying25 rfl rfl rfl rfl rfl)) ?_
       refine ao_yes rfl rfl rfl rfl rfl rfl (op1_faR st_29 (i := 6) rfl rfl rfl) ?_
       refine ao_yes rfl rfl rfl rfl rfl rfl ((op1_ldR Try.underlying25 rfl rfl rfl rfl rfl)) ?_
       refine ao_yes rfl rfl rfl rfl rfl rfl ((op1_cmp rfl rfl rfl rfl).cast (y := (BO ((a0.ref != a1.ref)))) rfl rfl) ?_
       refine sS rfl rfl rfl (op1_pickF rfl rfl rfl) ?_
       refine sM rfl rfl rfl rfl rfl ?_
       refine ao_cases (t := 48) rfl ?_ ?_
       ·intro hb26; replace h := ocond_t hb26 h
        refine ao_no rfl rfl rfl rfl rfl rfl ?_
        refine ao_no rfl rfl rfl rfl rfl rfl ?_
        refine ao_no rfl rfl rfl rfl rfl rfl ?_
        refine ao_no rfl rfl rfl rfl rfl rfl ?_
        refine ao_no rfl rfl rfl rfl rfl rfl ?_
        refine sS rfl rfl rfl (op1_pickT rfl rfl rfl) ?_
        refine sM rfl rfl rfl rfl rfl ?_
        refine ao_no rfl rfl rfl rfl rfl rfl ?_
        refine ao_no rfl rfl rfl rfl rfl rfl ?_
        refine ao_no rfl rfl rfl rfl rfl rfl ?_
        refine ao_no rfl rfl rfl rfl rfl rfl ?_
        refine ao_no rfl rfl rfl rfl rfl rfl ?_
        refine sS rfl rfl rfl (op1_pickT rfl rfl rfl) ?_
        refine sM rfl rfl rfl rfl rfl ?_
        refine ao_no rfl rfl rfl rfl rfl rfl ?_
        refine ao_no rfl rfl rfl rfl rfl rfl ?_
        refine ao_no rfl rfl rfl rfl rfl rfl ?_
        refine ao_no rfl rfl rfl rfl rfl rfl ?_
        refine ao_no rfl rfl rfl rfl rfl rfl ?_
        refine ao_no rfl rfl rfl rfl rfl rfl ?_
        refine ao_no rfl rfl rfl rfl rfl rfl ?_
        refine sS rfl rfl rfl (op1_pickT rfl rfl rfl) ?_
        refine sM rfl rfl rfl rfl rfl ?_
        refine ao_no rfl rfl rfl rfl rfl rfl ?_
        refine ao_no rfl rfl rfl rfl rfl rfl ?_
        refine ao_no rfl rfl rfl rfl rfl rfl ?_
        refine ao_no rfl rfl rfl rfl rfl rfl ?_
        refine ao_no rfl rfl rfl rfl rfl rfl ?_
        refine ao_no rfl rfl rfl rfl rfl rfl ?_
        refine ao_no rfl rfl rfl rfl rfl rfl ?_
        refine sS rfl rfl rfl (op1_pickT rfl rfl rfl) (ao_nil ?_)
        exact ⟨rfl, true, h, ⟨(.cons .same (.cons .same .nil)), (sC rfl (sC rfl (sC rfl sub_nil)))⟩⟩
       ·intro hb26; replace h := ocond_f hb26 h
        refine ao_yes rfl rfl rfl rfl rfl rfl (op1_faR st_29 (i := 9) rfl rfl rfl) ?_
        refine ao_yes rfl rfl rfl rfl rfl rfl ((op1_ldR Try.underlying9 rfl rfl rfl rfl rfl)) ?_
        refine ao_yes rfl rfl rfl rfl rfl rfl (op1_faR st_29 (i := 9) rfl rfl rfl) ?_
        refine ao_yes rfl rfl rfl rfl rfl rfl ((op1_ldR Try.underlying9 rfl rfl rfl rfl rfl)) ?_
        refine ao_yes rfl rfl rfl rfl rfl rfl ((op1_cmpT (a := a0.cls) (b := a1.cls) rfl rfl rfl rfl).cast (y := (BO ((!(a0.cls == a1.cls))))) rfl rfl) ?_
        refine sS rfl rfl rfl (op1_pickF rfl rfl rfl) ?_
        refine sM rfl rfl rfl rfl rfl ?_
        refine ao_cases (t := 55) rfl ?_ ?_
        ·intro hb27; replace h := ocond_t hb27 h
         refine ao_no rfl rfl rfl rfl rfl rfl ?_
         refine ao_no rfl rfl rfl rfl rfl rfl ?_
         refine ao_no rfl rfl rfl rfl rfl rfl ?_
         refine ao_no rfl rfl rfl rfl rfl rfl ?_
         refine ao_no rfl rfl rfl rfl rfl rfl ?_
         refine sS rfl rfl rfl (op1_pickT rfl rfl rfl) ?_
         refine sM rfl rfl rfl rfl rfl ?_
         refine ao_no rfl rfl rfl rfl rfl rfl ?_
         refine ao_no rfl rfl rfl rfl rfl rfl ?_
         refine ao_no rfl rfl rfl rfl rfl rfl ?_
         refine ao_no rfl rfl rfl rfl rfl rfl ?_
         refine ao_no rfl rfl rfl rfl rfl rfl ?_
         refine ao_no rfl rfl rfl rfl rfl rfl ?_
         refine ao_no rfl rfl rfl rfl rfl rfl ?_
         refine sS rfl rfl rfl (op1_pickT rfl rfl rfl) ?_
         refine sM rfl rfl rfl rfl rfl ?_
         refine ao_no rfl rfl rfl rfl rfl rfl ?_
         refine ao_no rfl rfl rfl rfl rfl rfl ?_
         refine ao_no rfl rfl rfl rfl rfl rfl ?_
         refine ao_no rfl rfl rfl rfl rfl rfl ?_
         refine ao_no rfl rfl rfl rfl rfl rfl ?_
         refine ao_no rfl rfl rfl rfl rfl rfl ?_
         refine ao_no rfl rfl rfl rfl rfl rfl ?_
         refine sS rfl rfl rfl (op1_pickT rfl rfl rfl) (ao_nil ?_)
         exact ⟨rfl, true, h, ⟨(.cons .same (.cons .same .nil)), (sC rfl (sC rfl (sC rfl sub_nil)))⟩⟩
        ·intro hb27; replace h := ocond_f hb27 h
         refine ao_yes rfl rfl rfl rfl rfl rfl (op1_faR st_29 (i := 10) rfl rfl rfl) ?_
         refine ao_yes rfl rfl rfl rfl rfl rfl ((op1_ldR Try.underlying3 rfl rfl rfl rfl rfl)) ?_
         refine ao_yes rfl rfl rfl rfl rfl rfl (op1_faR st_29 (i := 10) rfl rfl rfl) ?_
         refine ao_yes rfl rfl rfl rfl rfl rfl ((op1_ldR Try.underlying3 rfl rfl rfl rfl rfl)) ?_
         refine ao_yes rfl rfl rfl rfl rfl rfl ((op1_cmp rfl rfl rfl rfl).cast (y := (BO ((a0.ver != a1.ver)))) rfl rfl) ?_
         refine sS rfl rfl rfl (op1_pickF rfl rfl rfl) ?_
         refine sM rfl rfl rfl rfl rfl ?_
         refine ao_cases (t := 62) rfl ?_ ?_
         ·intro hb28; replace h := ocond_t hb28 h
          refine ao_no rfl rfl rfl rfl rfl rfl ?_
          refine ao_no rfl rfl rfl rfl rfl rfl ?_
          refine ao_no rfl rfl rfl rfl rfl rfl ?_
          refine ao_no rfl rfl rfl rfl rfl rfl ?_
          refine ao_no rfl rfl rfl rfl rfl rfl ?_
          refine ao_no rfl rfl rfl rfl rfl rfl ?_
          refine ao_no rfl rfl rfl rfl rfl rfl ?_
          refine sS rfl rfl rfl (op1_pickT rfl rfl rfl) ?_
          refine sM rfl rfl rfl rfl rfl ?_
          refine ao_no rfl rfl rfl rfl rfl rfl ?_
          refine ao_no rfl rfl rfl rfl rfl rfl ?_
          refine ao_no rfl rfl rfl rfl rfl rfl ?_
          refine ao_no rfl rfl rfl rfl rfl rfl ?_
          refine ao_no rfl rfl rfl rfl rfl rfl ?_
          refine ao_no rfl rfl rfl rfl rfl rfl ?_
          refine ao_no rfl rfl rfl rfl rfl rfl ?_
          refine sS rfl rfl rfl (op1_pickT rfl rfl rfl) (ao_nil ?_)
          exact ⟨rfl, true, h, ⟨(.cons .same (.cons .same .nil)), (sC rfl (sC rfl (sC rfl sub_nil)))⟩⟩
         ·intro hb28; replace h := ocond_f hb28 h
          refine ao_yes rfl rfl rfl rfl rfl rfl (op1_faR st_29 (i := 7) rfl rfl rfl) ?_
          refine ao_yes rfl rfl rfl rfl rfl rfl ((op1_ldR Try.underlying26 rfl rfl rfl rfl rfl)) ?_
          refine ao_yes rfl rfl rfl rfl rfl rfl (op1_lenM Try.underlying26 rfl rfl) ?_
          refine ao_yes rfl rfl rfl rfl rfl rfl (op1_faR st_29 (i := 7) rfl rfl rfl) ?_
          refine ao_yes rfl rfl rfl rfl rfl rfl ((op1_ldR Try.underlying26 rfl rfl rfl rfl rfl)) ?_
          refine ao_yes rfl rfl rfl rfl rfl rfl (op1_lenM Try.underlying26 rfl rfl) ?_
          refine ao_yes rfl rfl rfl rfl rfl rfl ((op1_cmp rfl rfl rfl rfl).cast (y := (BO (((((a0.list).length : Nat) : Int) != (((a1.list).length : Nat) : Int))))) rfl rfl) ?_
          refine sS rfl rfl rfl (op1_pickF rfl rfl rfl) ?_
          refine sM rfl rfl rfl rfl rfl ?_
          refine ao_cases (t := 71) rfl ?_ ?_
          ·intro hb29; replace h := ocond_t hb29 h
           refine ao_no rfl rfl rfl rfl rfl rfl ?_
           refine ao_no rfl rfl rfl rfl rfl rfl ?_
           refine ao_no rfl rfl rfl rfl rfl rfl ?_
           refine ao_no rfl rfl rfl rfl rfl rfl ?_
           refine ao_no rfl rfl rfl rfl rfl rfl ?_
           refine ao_no rfl rfl rfl rfl rfl rfl ?_
           refine ao_no rfl rfl rfl rfl rfl rfl ?_
           refine sS rfl rfl rfl (op1_pickT rfl rfl rfl) (ao_nil ?_)
           exact ⟨rfl, true, h, ⟨(.cons .same (.cons .same .nil)), (sC rfl (sC rfl (sC rfl sub_nil)))⟩⟩
          ·intro hb29; replace h := ocond_f hb29 h
           refine ao_yes rfl rfl rfl rfl rfl rfl (op1_faR st_29 (i := 8) rfl rfl rfl) ?_
           refine ao_yes rfl rfl rfl rfl rfl rfl ((op1_ldR Try.underlying27 rfl rfl rfl rfl rfl)) ?_
           refine ao_yes rfl rfl rfl rfl rfl rfl (op1_lenM Try.underlying27 rfl rfl) ?_
           refine ao_yes rfl rfl rfl rfl rfl rfl (op1_faR st_29 (i := 8) rfl rfl rfl) ?_
           refine ao_yes rfl rfl rfl rfl rfl rfl ((op1_ldR Try.underlying27 rfl rfl rfl rfl rfl)) ?_
           refine ao_yes rfl rfl rfl rfl rfl rfl (op1_lenM Try.underlying27 rfl rfl) ?_
           refine ao_yes rfl rfl rfl rfl rfl rfl ((op1_cmp rfl rfl rfl rfl).cast (y := (BO (((((a0.fields).length : Nat) : Int) != (((a1.fields).length : Nat) : Int))))) rfl rfl) ?_
           refine sS rfl rfl rfl (op1_pickF rfl rfl rfl) (ao_nil ?_)
           exact ⟨rfl, ((((a0.fields).length : Nat) : Int) != (((a1.fields).length : Nat) : Int)), h, ⟨(.cons .same (.cons .same .nil)), (sC rfl (sC rfl (sC rfl sub_nil)))⟩⟩
theorem C_law01_same.sound : ∀ (i : C_law01_same) (r : i.R), fixO C_law01_same.F i = some r → C_law01_same.Q i r := by
 refine fixO_ind (Φ := C_law01_same.F) (Q := C_law01_same.Q) ?_
 intro g hg i r h
 cases i with
 | k_law01_same a0 a1 => exact t_law01_same (fun a0 a1 => g (.k_law01_same a0 a1)) (fun a0 a1 r hr => hg (.k_law01_same a0 a1) r hr) a0 a1 r h
theorem s_law01_same (a0 : Term) (a1 : Term) (r : Bool) (h : p_law01_same a0 a1 = some r) : PCalls Try.prog 24 [(ofTermX a0), (ofTermX a1)] (BO r) := C_law01_same.sound (.k_law01_same a0 a1) r h
noncomputable def law01_ValueTerms_j2 (x1 : (V × Int)) (x2 : (V × Int)) (x4 : (Term × Int)) (x6 : (Term × Int)) (x13 : Term) (s14 : Bool) : Option Bool :=
 bif s14 then (
  some false
 ) else (
  Option.bind (spoilO x1.1) fun x16 =>
  Option.bind (spoilTO (x4.1)) fun x17 =>
  Option.bind (p_mk_Is x2.1 x13) fun x18 =>
  bif x18 then (
   Option.bind (p_law01_same (x6.1) x13) fun x20 =>
   some x20
  ) else (
   some false
  )
 )
noncomputable def law01_ValueTerms_j1 (a0 : Term) (x1 : (V × Int)) (x2 : (V × Int)) (x4 : (Term × Int)) (x6 : (Term × Int)) (x7 : (Int × Int)) (s8 : Bool) : Option Bool :=
 bif s8 then (
  some false
 ) else (
  bif (x7.2 != 0) then (
   bif (x1.1).isNil then (
    bif ((x4.1).kind == 0) then (
     some ((IntKind.i64.wrap ((IntKind.i64.wrap ((IntKind.i64.wrap ((IntKind.i64.wrap (((((x4.1).list).length : Nat) : Int) + ((((x4.1).fields).length : Nat) : Int))) + ((((x4.1).bytes).length : Nat) : Int))) + ((((x4.1).text).length : Nat) : Int))) + ((((x4.1).cls).length : Nat) : Int))) == 0)
    ) else (
     some false
    )
   ) else (
    some false
   )
  ) else (
   Option.bind (p_ref01_Clean a0) fun x13 =>
   Option.bind (p_mk_Is x1.1 x13) fun x21 =>
   bif (!x21) then (
    law01_ValueTerms_j2 x1 x2 x4 x6 x13 true
   ) else (
    Option.bind (p_law01_same (x4.1) x13) fun x23 =>
    bif (!x23) then (
     law01_ValueTerms_j2 x1 x2 x4 x6 x13 true
    ) else (
     Option.bind (p_law01_same (x6.1) x13) fun x25 =>
     law01_ValueTerms_j2 x1 x2 x4 x6 x13 (!x25)
    )
   )
  )
 )
noncomputable def p_law01_ValueTerms (a0 : Term) : Option Bool :=
 Option.bind (p_value_Of a0) fun x1 =>
 Option.bind (p_value_Of a0) fun x2 =>
 Option.bind (p_mk_Built a0) fun x3 =>
 Option.bind (p_value_Plain x3) fun x4 =>
 Option.bind (p_mk_Built a0) fun x5 =>
 Option.bind (p_value_Plain x5) fun x6 =>
 Option.bind (p_ref01_Check a0) fun x7 =>
 bif (x1.2 != x7.2) then (
  law01_ValueTerms_j1 a0 x1 x2 x4 x6 x7 true
 ) else (
  law01_ValueTerms_j1 a0 x1 x2 x4 x6 x7 (x4.2 != x7.2)
 )
theorem s_law01_ValueTerms (a0 : Term) (r : Bool) (h : p_law01_ValueTerms a0 = some r) : PCalls Try.prog 5 [(ofTermX a0)] (BO r) := by
 unfold p_law01_ValueTerms at h
 refine acalls_of Try.func5 rfl Try.ntmps5 Try.results5 rfl (aw_of_bw ?_)
 change BW _ _ _ ⟨[(0, (ofTermX a0))], [], _⟩ _
 refine bR ?_
 refine sS rfl rfl rfl (op1_box rfl rfl rfl) ?_
 refine sA rfl rfl rfl rfl rfl (ao_nil ?_)
 change BW _ _ _ _ _
 refine bR ?_
 refine sS rfl rfl rfl ((op1_ldRA inf_29 Try.underlying29 rfl rfl rfl rfl rfl rfl)) ?_
 obtain ⟨x1, hx1, h⟩ := obind h
 refine sS rfl rfl rfl (op1_fcall rfl en_21 rfl (.cons (.old (.wk (Wk.refl _) (ids_TermX a0))) .nil) (s_value_Of a0 x1 hx1) (Pl.tup (.cons (pl_V x1.1) (.cons Pl.v .nil)))) ?_
 refine sM rfl rfl rfl rfl rfl ?_
 refine sS rfl rfl rfl (op1_extH rfl rfl rfl) ?_
 refine sS rfl rfl rfl ((op1_extH rfl rfl rfl).wk (Wk.hidSc Sc.v)) ?_
 refine sA rfl rfl rfl rfl rfl ?_
 refine sA rfl rfl rfl rfl rfl (ao_nil ?_)
 change BW _ _ _ _ _
 refine bR ?_
 refine sS rfl rfl rfl ((op1_ldRA inf_29 Try.underlying29 rfl rfl rfl rfl rfl rfl)) ?_
 obtain ⟨x2, hx2, h⟩ := obind h
 refine sS rfl rfl rfl (op1_fcall rfl en_21 rfl (.cons (.old (.wk (Wk.refl _) (ids_TermX a0))) .nil) (s_value_Of a0 x2 hx2) (Pl.tup (.cons (pl_V x2.1) (.cons Pl.v .nil)))) ?_
 refine sM rfl rfl rfl rfl rfl ?_
 refine sS rfl rfl rfl (op1_extH rfl rfl rfl) ?_
 refine sS rfl rfl rfl ((op1_extH rfl rfl rfl).wk (Wk.hidSc Sc.v)) ?_
 refine sA rfl rfl rfl rfl rfl ?_
 refine sA rfl rfl rfl rfl rfl (ao_nil ?_)
 change BW _ _ _ _ _
 refine bR ?_
 refine sS rfl rfl rfl ((op1_ldRA inf_29 Try.underlying29 rfl rfl rfl rfl rfl rfl)) ?_
 obtain ⟨x3, hx3, h⟩ := obind h
 refine sS rfl rfl rfl (op1_pcall rfl en_11 rfl (.cons (Wk.refl _) .nil) ⟨(ids_TermX a0), trivial⟩ (s_mk_Built a0 x3 hx3) (ids_V x3)) ?_
 obtain ⟨x4, hx4, h⟩ := obind h
 refine sS rfl rfl rfl (op1_fcall rfl en_22 rfl (.cons (.old (.wk (Wk.refl _) (ids_V x3))) .nil) (s_value_Plain x3 x4 hx4) (Pl.tup (.cons (pl_TermX x4.1) (.cons Pl.v .nil)))) ?_
 refine sM rfl rfl rfl rfl rfl ?_
 refine sS rfl rfl rfl (op1_extH rfl rfl rfl) ?_
 refine sS rfl rfl rfl ((op1_extH rfl rfl rfl).wk (Wk.hidSc Sc.v)) ?_
 refine sS rfl rfl rfl (op1_alloc inf_29 rfl) ?_
 refine ao_wk 28 rfl (Wk.openedH (k := 3) (cs := [(I64 ((x4.1).kind)), (BO ((x4.1).bool)), (I64 ((x4.1).int)), (PV.v (.float .f64 (x4.1).float)), (ofStr (x4.1).text), (PV.sl none 5 1 (List.map ofB (x4.1).bytes)), (PV.v (.int .u64 (x4.1).ref)), (PV.sl none 29 11 (List.map ofTerm (x4.1).list)), (PV.sl none 66 12 (List.map ofEntry (x4.1).fields)), (ofStr (x4.1).cls), (I64 ((x4.1).ver))]) (.cons (Wk.hidSc Sc.v) (.cons (Wk.hidSc Sc.v) (.cons (Wk.hidSc Sc.v) (.cons (Wk.hidSc Sc.v) (.cons (Wk.hidSc Sc.v) (.cons (Wk.refl _) (.cons (Wk.hidSc Sc.v) (.cons (Wk.refl _) (.cons (Wk.refl _) (.cons (Wk.hidSc Sc.v) (.cons (Wk.hidSc Sc.v) .nil)))))))))))) ?_
 refine ao_step0 rfl rfl (op1_store inf_29 rfl rfl rfl rfl rfl rfl (Nat.le_of_ble_eq_true rfl) rfl) ?_
 refine sA rfl rfl rfl rfl rfl (ao_nil ?_)
 change BW _ _ _ _ _
 refine bR ?_
 refine sS rfl rfl rfl ((op1_ldRA inf_29 Try.underlying29 rfl rfl rfl rfl rfl rfl)) ?_
 obtain ⟨x5, hx5, h⟩ := obind h
 refine sS rfl rfl rfl (op1_pcall rfl en_11 rfl (.cons (Wk.refl _) .nil) ⟨(ids_TermX a0), trivial⟩ (s_mk_Built a0 x5 hx5) (ids_V x5)) ?_
 obtain ⟨x6, hx6, h⟩ := obind h
 refine sS rfl rfl rfl (op1_fcall rfl en_22 rfl (.cons (.old (.wk (Wk.refl _) (ids_V x5))) .nil) (s_value_Plain x5 x6 hx6) (Pl.tup (.cons (pl_TermX x6.1) (.cons Pl.v .nil)))) ?_
 refine sM rfl rfl rfl rfl rfl ?_
 refine sS rfl rfl rfl (op1_extH rfl rfl rfl) ?_
 refine sS rfl rfl rfl ((op1_extH rfl rfl rfl).wk (Wk.hidSc Sc.v)) ?_
 refine sS rfl rfl rfl (op1_alloc inf_29 rfl) ?_
 refine ao_wk 34 rfl (Wk.openedH (k := 5) (cs := [(I64 ((x6.1).kind)), (BO ((x6.1).bool)), (I64 ((x6.1).int)), (PV.v (.float .f64 (x6.1).float)), (ofStr (x6.1).text), (PV.sl none 5 1 (List.map ofB (x6.1).bytes)), (PV.v (.int .u64 (x6.1).ref)), (PV.sl none 29 11 (List.map ofTerm (x6.1).list)), (PV.sl none 66 12 (List.map ofEntry (x6.1).fields)), (ofStr (x6.1).cls), (I64 ((x6.1).ver))]) (.cons (Wk.hidSc Sc.v) (.cons (Wk.hidSc Sc.v) (.cons (Wk.hidSc Sc.v) (.cons (Wk.hidSc Sc.v) (.cons (Wk.hidSc Sc.v) (.cons (Wk.refl _) (.cons (Wk.hidSc Sc.v) (.cons (Wk.refl _) (.cons (Wk.refl _) (.cons (Wk.hidSc Sc.v) (.cons (Wk.hidSc Sc.v) .nil)))))))))))) ?_
 refine ao_step0 rfl rfl (op1_store inf_29 rfl rfl rfl rfl rfl rfl (Nat.le_of_ble_eq_true rfl) rfl) ?_
 refine sA rfl rfl rfl rfl rfl (ao_nil ?_)
 change BW _ _ _ _ _
 refine bR ?_
 refine sS rfl rfl rfl ((op1_ldRA inf_29 Try.underlying29 rfl rfl rfl rfl rfl rfl)) ?_
 obtain ⟨x7, hx7, h⟩ := obind h
 refine sS rfl rfl rfl (op1_pcall rfl en_13 rfl (.cons (Wk.refl _) .nil) ⟨(ids_TermX a0), trivial⟩ (s_ref01_Check a0 x7 hx7) (ids_tup_cons rfl (ids_tup_cons rfl ids_tup_nil))) ?_
 refine sM rfl rfl rfl rfl rfl ?_
 refine sS rfl rfl rfl (op1_ext rfl rfl rfl) ?_
 refine sS rfl rfl rfl (op1_ext rfl rfl rfl) ?_
 refine sA rfl rfl rfl rfl rfl ?_
 refine sA rfl rfl rfl rfl rfl (ao_nil ?_)
 change BW _ _ _ _ _
 refine bw_seq ?_
 refine bw_seqJ (ι := Bool) (fun i => law01_ValueTerms_j1 a0 x1 x2 x4 x6 x7 i = some r) (fun i => [(1, (PV.rf 0 0)), (3, (PV.hid 1 (ofV x1.1))), (5, (PV.hid 2 (ofV x2.1))), (7, (PV.rf 4 0)), (9, (PV.rf 6 0)), (12, (I64 x7.2)), (48, (BO i))]) (fun i => [.box 29 [(I64 a0.kind), (BO a0.bool), (I64 a0.int), (PV.v (.float .f64 a0.float)), (ofStr a0.text), (PV.sl none 5 1 (List.map ofB a0.bytes)), (PV.v (.int .u64 a0.ref)), (PV.sl none 29 11 (List.map ofTerm a0.list)), (PV.sl none 66 12 (List.map ofEntry a0.fields)), (ofStr a0.cls), (I64 a0.ver)], .reg, .reg, .reg, .box 29 [(I64 ((x4.1).kind)), (BO ((x4.1).bool)), (I64 ((x4.1).int)), (PV.v (.float .f64 (x4.1).float)), (ofStr (x4.1).text), (PV.hid 3 (PV.sl none 5 1 (List.map ofB (x4.1).bytes))), (PV.v (.int .u64 (x4.1).ref)), (PV.hid 3 (PV.sl none 29 11 (List.map ofTerm (x4.1).list))), (PV.hid 3 (PV.sl none 66 12 (List.map ofEntry (x4.1).fields))), (ofStr (x4.1).cls), (I64 ((x4.1).ver))], .reg, .box 29 [(I64 ((x6.1).kind)), (BO ((x6.1).bool)), (I64 ((x6.1).int)), (PV.v (.float .f64 (x6.1).float)), (ofStr (x6.1).text), (PV.hid 5 (PV.sl none 5 1 (List.map ofB (x6.1).bytes))), (PV.v (.int .u64 (x6.1).ref)), (PV.hid 5 (PV.sl none 29 11 (List.map ofTerm (x6.1).list))), (PV.hid 5 (PV.sl none 66 12 (List.map ofEntry (x6.1).fields))), (ofStr (x6.1).cls), (I64 ((x6.1).ver))]]) ?_ ?_ ?_
 ·intro i; exact ⟨Nat.le_of_ble_eq_true rfl, ⟨(il_rf rfl), ⟨(il_hid rfl (ids_V _)), ⟨(il_hid rfl (ids_V _)), ⟨(il_rf rfl), ⟨(il_rf rfl), ⟨(il_nil rfl), ⟨(il_nil rfl), trivial⟩⟩⟩⟩⟩⟩⟩, ⟨⟨(il_nil rfl), ⟨(il_nil rfl), ⟨(il_nil rfl), ⟨(il_nil rfl), ⟨(il_nil rfl), ⟨(il_nil (ids_slM (fun _ => rfl) _)), ⟨(il_nil rfl), ⟨(il_nil (ids_slM ids_Term _)), ⟨(il_nil (ids_slM ids_Entry _)), ⟨(il_nil rfl), ⟨(il_nil rfl), trivial⟩⟩⟩⟩⟩⟩⟩⟩⟩⟩⟩, ⟨⟨(il_nil rfl), ⟨(il_nil rfl), ⟨(il_nil rfl), ⟨(il_nil rfl), ⟨(il_nil rfl), ⟨(il_hid rfl (ids_slM (fun _ => rfl) _)), ⟨(il_nil rfl), ⟨(il_hid rfl (ids_slM ids_Term _)), ⟨(il_hid rfl (ids_slM ids_Entry _)), ⟨(il_nil rfl), ⟨(il_nil rfl), trivial⟩⟩⟩⟩⟩⟩⟩⟩⟩⟩⟩, ⟨⟨(il_nil rfl), ⟨(il_nil rfl), ⟨(il_nil rfl), ⟨(il_nil rfl), ⟨(il_nil rfl), ⟨(il_hid rfl (ids_slM (fun _ => rfl) _)), ⟨(il_nil rfl), ⟨(il_hid rfl (ids_slM ids_Term _)), ⟨(il_hid rfl (ids_slM ids_Entry _)), ⟨(il_nil rfl), ⟨(il_nil rfl), trivial⟩⟩⟩⟩⟩⟩⟩⟩⟩⟩⟩, trivial⟩⟩⟩⟩
 ·rintro s8 h; replace h : law01_ValueTerms_j1 a0 x1 x2 x4 x6 x7 s8 = some r := h; unfold law01_ValueTerms_j1 at h
  change BW _ _ _ ⟨[(1, (PV.rf 0 0)), (3, (PV.hid 1 (ofV x1.1))), (5, (PV.hid 2 (ofV x2.1))), (7, (PV.rf 4 0)), (9, (PV.rf 6 0)), (12, (I64 x7.2)), (48, (BO s8))], [.box 29 [(I64 a0.kind), (BO a0.bool), (I64 a0.int), (PV.v (.float .f64 a0.float)), (ofStr a0.text), (PV.sl none 5 1 (List.map ofB a0.bytes)), (PV.v (.int .u64 a0.ref)), (PV.sl none 29 11 (List.map ofTerm a0.list)), (PV.sl none 66 12 (List.map ofEntry a0.fields)), (ofStr a0.cls), (I64 a0.ver)], .reg, .reg, .reg, .box 29 [(I64 ((x4.1).kind)), (BO ((x4.1).bool)), (I64 ((x4.1).int)), (PV.v (.float .f64 (x4.1).float)), (ofStr (x4.1).text), (PV.hid 3 (PV.sl none 5 1 (List.map ofB (x4.1).bytes))), (PV.v (.int .u64 (x4.1).ref)), (PV.hid 3 (PV.sl none 29 11 (List.map ofTerm (x4.1).list))), (PV.hid 3 (PV.sl none 66 12 (List.map ofEntry (x4.1).fields))), (ofStr (x4.1).cls), (I64 ((x4.1).ver))], .reg, .box 29 [(I64 ((x6.1).kind)), (BO ((x6.1).bool)), (I64 ((x6.1).int)), (PV.v (.float .f64 (x6.1).float)), (ofStr (x6.1).text), (PV.hid 5 (PV.sl none 5 1 (List.map ofB (x6.1).bytes))), (PV.v (.int .u64 (x6.1).ref)), (PV.hid 5 (PV.sl none 29 11 (List.map ofTerm (x6.1).list))), (PV.hid 5 (PV.sl none 66 12 (List.map ofEntry (x6.1).fields))), (ofStr (x6.1).cls), (I64 ((x6.1).ver))]], _⟩ _
  refine bw_cond rfl ?_ ?_
  ·intro hc9; replace h := ocond_t hc9 h
   refine bR ?_
   refine sA rfl rfl rfl rfl rfl (ao_nil ?_)
   change BW _ _ _ _ _
   refine bw_ret ?_
   change ∃ xs, _ = some xs ∧ EndOk _ _ _ _
   obtain rfl := Option.some.inj h
   exact ⟨_, rfl, endOk0 (y := (BO false)) (Wk.refl _) rfl ⟨rfl, rfl⟩⟩
  ·intro hc9; replace h := ocond_f hc9 h
   refine bw_skip ?_
   change BW _ _ _ _ _
   refine bw_seq ?_
   refine bR ?_
   refine sM rfl rfl rfl rfl rfl ?_
   refine sS rfl rfl rfl ((op1_cmp rfl rfl rfl rfl).cast (y := (BO ((x7.2 != 0)))) rfl rfl) (ao_nil ?_)
   change BW _ _ _ _ _
   refine bw_cond rfl ?_ ?_
   ·intro hc10; replace h := ocond_t hc10 h
    refine bR ?_
    refine sM rfl rfl rfl rfl rfl ?_
    refine sS rfl rfl rfl (op1_regS [1] ⟨rfl, trivial⟩ (op1_vEqNil Try.underlying20 rfl rfl) Sc.v) ?_
    refine sM rfl rfl rfl rfl rfl ?_
    refine ao_cases (t := 53) rfl ?_ ?_
    ·intro hb11; replace h := ocond_t hb11 h
     refine ao_yes rfl rfl rfl rfl rfl rfl (op1_faR st_29 (i := 0) rfl rfl rfl) ?_
     refine ao_yes rfl rfl rfl rfl rfl rfl ((op1_ldR Try.underlying3 rfl rfl rfl rfl rfl)) ?_
     refine ao_yes rfl rfl rfl rfl rfl rfl ((op1_cmp rfl rfl rfl rfl).cast (y := (BO (((x4.1).kind == 0)))) rfl rfl) ?_
     refine sS rfl rfl rfl (op1_pickT rfl rfl rfl) ?_
     refine sM rfl rfl rfl rfl rfl ?_
     refine ao_cases (t := 58) rfl ?_ ?_
     ·intro hb12; replace h := ocond_t hb12 h
      refine ao_yes rfl rfl rfl rfl rfl rfl (op1_faR st_29 (i := 7) rfl rfl rfl) ?_
      refine ao_yes rfl rfl rfl rfl rfl rfl ((op1_ldR Try.underlying26 rfl rfl rfl rfl rfl)) ?_
      refine ao_yes rfl rfl rfl rfl rfl rfl (op1_regS [3] ⟨rfl, trivial⟩ (op1_lenM Try.underlying26 rfl rfl) Sc.v) ?_
      refine ao_yes rfl rfl rfl rfl rfl rfl (op1_faR st_29 (i := 8) rfl rfl rfl) ?_
      refine ao_yes rfl rfl rfl rfl rfl rfl ((op1_ldR Try.underlying27 rfl rfl rfl rfl rfl)) ?_
      refine ao_yes rfl rfl rfl rfl rfl rfl (op1_regS [3] ⟨rfl, trivial⟩ (op1_lenM Try.underlying27 rfl rfl) Sc.v) ?_
      refine ao_yes rfl rfl rfl rfl rfl rfl (op1_addW rfl rfl rfl) ?_
      refine ao_yes rfl rfl rfl rfl rfl rfl (op1_faR st_29 (i := 5) rfl rfl rfl) ?_
      refine ao_yes rfl rfl rfl rfl rfl rfl ((op1_ldR Try.underlying23 rfl rfl rfl rfl rfl)) ?_
      refine ao_yes rfl rfl rfl rfl rfl rfl (op1_regS [3] ⟨rfl, trivial⟩ (op1_lenM Try.underlying23 rfl rfl) Sc.v) ?_
      refine ao_yes rfl rfl rfl rfl rfl rfl (op1_addW rfl rfl rfl) ?_
      refine ao_yes rfl rfl rfl rfl rfl rfl (op1_faR st_29 (i := 4) rfl rfl rfl) ?_
      refine ao_yes rfl rfl rfl rfl rfl rfl ((op1_ldR Try.underlying9 rfl rfl rfl rfl rfl)) ?_
      refine ao_yes rfl rfl rfl rfl rfl rfl (op1_lenT (s := ((x4.1).text)) Try.underlying9 rfl rfl) ?_
      refine ao_yes rfl rfl rfl rfl rfl rfl (op1_addW rfl rfl rfl) ?_
      refine ao_yes rfl rfl rfl rfl rfl rfl (op1_faR st_29 (i := 9) rfl rfl rfl) ?_
      refine ao_yes rfl rfl rfl rfl rfl rfl ((op1_ldR Try.underlying9 rfl rfl rfl rfl rfl)) ?_
      refine ao_yes rfl rfl rfl rfl rfl rfl (op1_lenT (s := ((x4.1).cls)) Try.underlying9 rfl rfl) ?_
      refine ao_yes rfl rfl rfl rfl rfl rfl (op1_addW rfl rfl rfl) ?_
      refine ao_yes rfl rfl rfl rfl rfl rfl ((op1_cmp rfl rfl rfl rfl).cast (y := (BO (((IntKind.i64.wrap ((IntKind.i64.wrap ((IntKind.i64.wrap ((IntKind.i64.wrap (((((x4.1).list).length : Nat) : Int) + ((((x4.1).fields).length : Nat) : Int))) + ((((x4.1).bytes).length : Nat) : Int))) + ((((x4.1).text).length : Nat) : Int))) + ((((x4.1).cls).length : Nat) : Int))) == 0)))) rfl rfl) ?_
      refine sS rfl rfl rfl (op1_pickT rfl rfl rfl) ?_
      refine sA rfl rfl rfl rfl rfl (ao_nil ?_)
      change BW _ _ _ _ _
      refine bw_ret ?_
      change ∃ xs, _ = some xs ∧ EndOk _ _ _ _
      obtain rfl := Option.some.inj h
      exact ⟨_, rfl, endOk0 (y := (BO (((IntKind.i64.wrap ((IntKind.i64.wrap ((IntKind.i64.wrap ((IntKind.i64.wrap (((((x4.1).list).length : Nat) : Int) + ((((x4.1).fields).length : Nat) : Int))) + ((((x4.1).bytes).length : Nat) : Int))) + ((((x4.1).text).length : Nat) : Int))) + ((((x4.1).cls).length : Nat) : Int))) == 0)))) (Wk.refl _) rfl ⟨rfl, rfl⟩⟩
     ·intro hb12; replace h := ocond_f hb12 h
      refine ao_no rfl rfl rfl rfl rfl rfl ?_
      refine ao_no rfl rfl rfl rfl rfl rfl ?_
      refine ao_no rfl rfl rfl rfl rfl rfl ?_
      refine ao_no rfl rfl rfl rfl rfl rfl ?_
      refine ao_no rfl rfl rfl rfl rfl rfl ?_
      refine ao_no rfl rfl rfl rfl rfl rfl ?_
      refine ao_no rfl rfl rfl rfl rfl rfl ?_
      refine ao_no rfl rfl rfl rfl rfl rfl ?_
      refine ao_no rfl rfl rfl rfl rfl rfl ?_
      refine ao_no rfl rfl rfl rfl rfl rfl ?_
      refine ao_no rfl rfl rfl rfl rfl rfl ?_
      refine ao_no rfl rfl rfl rfl rfl rfl ?_
      refine ao_no rfl rfl rfl rfl rfl rfl ?_
      refine ao_no rfl rfl rfl rfl rfl rfl ?_
      refine ao_no rfl rfl rfl rfl rfl rfl ?_
      refine ao_no rfl rfl rfl rfl rfl rfl ?_
      refine ao_no rfl rfl rfl rfl rfl rfl ?_
      refine ao_no rfl rfl rfl rfl rfl rfl ?_
      refine ao_no rfl rfl rfl rfl rfl rfl ?_
      refine ao_no rfl rfl rfl rfl rfl rfl ?_
      refine sS rfl rfl rfl (op1_pickF rfl rfl rfl) ?_
      refine sA rfl rfl rfl rfl rfl (ao_nil ?_)
      change BW _ _ _ _ _
      refine bw_ret ?_
      change ∃ xs, _ = some xs ∧ EndOk _ _ _ _
      obtain rfl := Option.some.inj h
      exact ⟨_, rfl, endOk0 (y := (BO false)) (Wk.refl _) rfl ⟨rfl, rfl⟩⟩
    ·intro hb11; replace h := ocond_f hb11 h
     refine ao_no rfl rfl rfl rfl rfl rfl ?_
     refine ao_no rfl rfl rfl rfl rfl rfl ?_
     refine ao_no rfl rfl rfl rfl rfl rfl ?_
     refine sS rfl rfl rfl (op1_pickF rfl rfl rfl) ?_
     refine sM rfl rfl rfl rfl rfl ?_
     refine ao_no rfl rfl rfl rfl rfl rfl ?_
     refine ao_no rfl rfl rfl rfl rfl rfl ?_
     refine ao_no rfl rfl rfl rfl rfl rfl ?_
     refine ao_no rfl rfl rfl rfl rfl rfl ?_
     refine ao_no rfl rfl rfl rfl rfl rfl ?_
     refine ao_no rfl rfl rfl rfl rfl rfl ?_
     refine ao_no rfl rfl rfl rfl rfl rfl ?_
     refine ao_no rfl rfl rfl rfl rfl rfl ?_
     refine ao_no rfl rfl rfl rfl rfl rfl ?_
     refine ao_no rfl rfl rfl rfl rfl rfl ?_
     refine ao_no rfl rfl rfl rfl rfl rfl ?_
     refine ao_no rfl rfl rfl rfl rfl rfl ?_
     refine ao_no rfl rfl rfl rfl rfl rfl ?_
     refine ao_no rfl rfl rfl rfl rfl rfl ?_
     refine ao_no rfl rfl rfl rfl rfl rfl ?_
     refine ao_no rfl rfl rfl rfl rfl rfl ?_
     refine ao_no rfl rfl rfl rfl rfl rfl ?_
     refine ao_no rfl rfl rfl rfl rfl rfl ?_
     refine ao_no rfl rfl rfl rfl rfl rfl ?_
     refine ao_no rfl rfl rfl rfl rfl rfl ?_
     refine sS rfl rfl rfl (op1_pickF rfl rfl rfl) ?_
     refine sA rfl rfl rfl rfl rfl (ao_nil ?_)
     change BW _ _ _ _ _
     refine bw_ret ?_
     change ∃ xs, _ = some xs ∧ EndOk _ _ _ _
     obtain rfl := Option.some.inj h
     exact ⟨_, rfl, endOk0 (y := (BO false)) (Wk.refl _) rfl ⟨rfl, rfl⟩⟩
   ·intro hc10; replace h := ocond_f hc10 h
    refine bw_skip ?_
    change BW _ _ _ _ _
    refine bR ?_
    refine sS rfl rfl rfl ((op1_ldRA inf_29 Try.underlying29 rfl rfl rfl rfl rfl rfl)) ?_
    obtain ⟨x13, hx13, h⟩ := obind h
    refine sS rfl rfl rfl (op1_pcall rfl en_23 rfl (.cons (Wk.refl _) .nil) ⟨(ids_TermX a0), trivial⟩ (s_ref01_Clean a0 x13 hx13) (ids_TermX x13)) ?_
    refine sS rfl rfl rfl (op1_alloc inf_29 rfl) ?_
    refine ao_step0 rfl rfl (op1_store inf_29 rfl rfl rfl rfl rfl rfl (Nat.le_of_ble_eq_true rfl) rfl) ?_
    refine ao_nil ?_
    change BW _ _ _ _ _
    refine bw_seq ?_
    refine bw_seqJ (ι := Bool) (fun i => law01_ValueTerms_j2 x1 x2 x4 x6 x13 i = some r) (fun i => [(3, (PV.hid 1 (ofV x1.1))), (5, (PV.hid 2 (ofV x2.1))), (7, (PV.rf 4 0)), (9, (PV.rf 6 0)), (13, (PV.rf 7 0)), (97, (BO i))]) (fun i => [.dead, .reg, .reg, .reg, .box 29 [(I64 ((x4.1).kind)), (BO ((x4.1).bool)), (I64 ((x4.1).int)), (PV.v (.float .f64 (x4.1).float)), (ofStr (x4.1).text), (PV.hid 3 (PV.sl none 5 1 (List.map ofB (x4.1).bytes))), (PV.v (.int .u64 (x4.1).ref)), (PV.hid 3 (PV.sl none 29 11 (List.map ofTerm (x4.1).list))), (PV.hid 3 (PV.sl none 66 12 (List.map ofEntry (x4.1).fields))), (ofStr (x4.1).cls), (I64 ((x4.1).ver))], .reg, .box 29 [(I64 ((x6.1).kind)), (BO ((x6.1).bool)), (I64 ((x6.1).int)), (PV.v (.float .f64 (x6.1).float)), (ofStr (x6.1).text), (PV.hid 5 (PV.sl none 5 1 (List.map ofB (x6.1).bytes))), (PV.v (.int .u64 (x6.1).ref)), (PV.hid 5 (PV.sl none 29 11 (List.map ofTerm (x6.1).list))), (PV.hid 5 (PV.sl none 66 12 (List.map ofEntry (x6.1).fields))), (ofStr (x6.1).cls), (I64 ((x6.1).ver))], .box 29 [(I64 x13.kind), (BO x13.bool), (I64 x13.int), (PV.v (.float .f64 x13.float)), (ofStr x13.text), (PV.sl none 5 1 (List.map ofB x13.bytes)), (PV.v (.int .u64 x13.ref)), (PV.sl none 29 11 (List.map ofTerm x13.list)), (PV.sl none 66 12 (List.map ofEntry x13.fields)), (ofStr x13.cls), (I64 x13.ver)]]) ?_ ?_ ?_
    ·intro i; exact ⟨Nat.le_of_ble_eq_true rfl, ⟨(il_hid rfl (ids_V _)), ⟨(il_hid rfl (ids_V _)), ⟨(il_rf rfl), ⟨(il_rf rfl), ⟨(il_rf rfl), ⟨(il_nil rfl), trivial⟩⟩⟩⟩⟩⟩, ⟨⟨(il_nil rfl), ⟨(il_nil rfl), ⟨(il_nil rfl), ⟨(il_nil rfl), ⟨(il_nil rfl), ⟨(il_hid rfl (ids_slM (fun _ => rfl) _)), ⟨(il_nil rfl), ⟨(il_hid rfl (ids_slM ids_Term _)), ⟨(il_hid rfl (ids_slM ids_Entry _)), ⟨(il_nil rfl), ⟨(il_nil rfl), trivial⟩⟩⟩⟩⟩⟩⟩⟩⟩⟩⟩, ⟨⟨(il_nil rfl), ⟨(il_nil rfl), ⟨(il_nil rfl), ⟨(il_nil rfl), ⟨(il_nil rfl), ⟨(il_hid rfl (ids_slM (fun _ => rfl) _)), ⟨(il_nil rfl), ⟨(il_hid rfl (ids_slM ids_Term _)), ⟨(il_hid rfl (ids_slM ids_Entry _)), ⟨(il_nil rfl), ⟨(il_nil rfl), trivial⟩⟩⟩⟩⟩⟩⟩⟩⟩⟩⟩, ⟨⟨(il_nil rfl), ⟨(il_nil rfl), ⟨(il_nil rfl), ⟨(il_nil rfl), ⟨(il_nil rfl), ⟨(il_nil (ids_slM (fun _ => rfl) _)), ⟨(il_nil rfl), ⟨(il_nil (ids_slM ids_Term _)), ⟨(il_nil (ids_slM ids_Entry _)), ⟨(il_nil rfl), ⟨(il_nil rfl), trivial⟩⟩⟩⟩⟩⟩⟩⟩⟩⟩⟩, trivial⟩⟩⟩⟩
    ·rintro s14 h; replace h : law01_ValueTerms_j2 x1 x2 x4 x6 x13 s14 = some r := h; unfold law01_ValueTerms_j2 at h
     change BW _ _ _ ⟨[(3, (PV.hid 1 (ofV x1.1))), (5, (PV.hid 2 (ofV x2.1))), (7, (PV.rf 4 0)), (9, (PV.rf 6 0)), (13, (PV.rf 7 0)), (97, (BO s14))], [.dead, .reg, .reg, .reg, .box 29 [(I64 ((x4.1).kind)), (BO ((x4.1).bool)), (I64 ((x4.1).int)), (PV.v (.float .f64 (x4.1).float)), (ofStr (x4.1).text), (PV.hid 3 (PV.sl none 5 1 (List.map ofB (x4.1).bytes))), (PV.v (.int .u64 (x4.1).ref)), (PV.hid 3 (PV.sl none 29 11 (List.map ofTerm (x4.1).list))), (PV.hid 3 (PV.sl none 66 12 (List.map ofEntry (x4.1).fields))), (ofStr (x4.1).cls), (I64 ((x4.1).ver))], .reg, .box 29 [(I64 ((x6.1).kind)), (BO ((x6.1).bool)), (I64 ((x6.1).int)), (PV.v (.float .f64 (x6.1).float)), (ofStr (x6.1).text), (PV.hid 5 (PV.sl none 5 1 (List.map ofB (x6.1).bytes))), (PV.v (.int .u64 (x6.1).ref)), (PV.hid 5 (PV.sl none 29 11 (List.map ofTerm (x6.1).list))), (PV.hid 5 (PV.sl none 66 12 (List.map ofEntry (x6.1).fields))), (ofStr (x6.1).cls), (I64 ((x6.1).ver))], .box 29 [(I64 x13.kind), (BO x13.bool), (I64 x13.int), (PV.v (.float .f64 x13.float)), (ofStr x13.text), (PV.sl none 5 1 (List.map ofB x13.bytes)), (PV.v (.int .u64 x13.ref)), (PV.sl none 29 11 (List.map ofTerm x13.list)), (PV.sl none 66 12 (List.map ofEntry x13.fields)), (ofStr x13.cls), (I64 x13.ver)]], _⟩ _
     refine bw_cond rfl ?_ ?_
     ·intro hc15; replace h := ocond_t hc15 h
      refine bR ?_
      refine sA rfl rfl rfl rfl rfl (ao_nil ?_)
      change BW _ _ _ _ _
      refine bw_ret ?_
      change ∃ xs, _ = some xs ∧ EndOk _ _ _ _
      obtain rfl := Option.some.inj h
      exact ⟨_, rfl, endOk0 (y := (BO false)) (Wk.refl _) rfl ⟨rfl, rfl⟩⟩
     ·intro hc15; replace h := ocond_f hc15 h
      refine bw_skip ?_
      change BW _ _ _ _ _
      refine bR ?_
      refine sM rfl rfl rfl rfl rfl ?_
      obtain ⟨x16, hx16, h⟩ := obind h
      refine sS rfl rfl rfl (op1_spoil 1 rfl en_20 rfl rfl (.cons .hid .nil) (sp_Spoil x1.1 hx16) (Sc.tup sc_nil)) (ao_nil ?_)
      change BW _ _ _ _ _
      refine bR ?_
      refine sS rfl rfl rfl (Op1.wk (x := (PV.agg [(I64 ((x4.1).kind)), (BO ((x4.1).bool)), (I64 ((x4.1).int)), (PV.v (.float .f64 (x4.1).float)), (ofStr (x4.1).text), (PV.hid 3 (PV.sl none 5 1 (List.map ofB (x4.1).bytes))), (PV.v (.int .u64 (x4.1).ref)), (PV.hid 3 (PV.sl none 29 11 (List.map ofTerm (x4.1).list))), (PV.hid 3 (PV.sl none 66 12 (List.map ofEntry (x4.1).fields))), (ofStr (x4.1).cls), (I64 ((x4.1).ver))])) ((op1_ldRA inf_29 Try.underlying29 rfl rfl rfl rfl rfl rfl)) (Wk.closedH (k := 3) (ys := [(I64 ((x4.1).kind)), (BO ((x4.1).bool)), (I64 ((x4.1).int)), (PV.v (.float .f64 (x4.1).float)), (ofStr (x4.1).text), (PV.sl none 5 1 (List.map ofB (x4.1).bytes)), (PV.v (.int .u64 (x4.1).ref)), (PV.sl none 29 11 (List.map ofTerm (x4.1).list)), (PV.sl none 66 12 (List.map ofEntry (x4.1).fields)), (ofStr (x4.1).cls), (I64 ((x4.1).ver))]) (.cons (Wk.scHid Sc.v) (.cons (Wk.scHid Sc.v) (.cons (Wk.scHid Sc.v) (.cons (Wk.scHid Sc.v) (.cons (Wk.scHid Sc.v) (.cons (Wk.refl _) (.cons (Wk.scHid Sc.v) (.cons (Wk.refl _) (.cons (Wk.refl _) (.cons (Wk.scHid Sc.v) (.cons (Wk.scHid Sc.v) .nil))))))))))))) ?_
      obtain ⟨x17, hx17, h⟩ := obind h
      refine sS rfl rfl rfl (op1_spoil 3 rfl en_25 rfl rfl (.cons .hid .nil) (sp_spoilT (x4.1) hx17) (Sc.tup sc_nil)) (ao_nil ?_)
      change BW _ _ _ _ _
      refine bR ?_
      refine sM rfl rfl rfl rfl rfl ?_
      refine sS rfl rfl rfl ((op1_ldRA inf_29 Try.underlying29 rfl rfl rfl rfl rfl rfl)) ?_
      obtain ⟨x18, hx18, h⟩ := obind h
      refine sS rfl rfl rfl (op1_hcall rfl en_19 rfl (.cons (.hid rfl) (.cons (.wk (Wk.refl _) (ids_TermX x13)) .nil)) (s_mk_Is x2.1 x13 x18 hx18) Sc.v) ?_
      refine sM rfl rfl rfl rfl rfl ?_
      refine ao_cases (t := 105) rfl ?_ ?_
      ·intro hb19; replace h := ocond_t hb19 h
       refine ao_yes rfl rfl rfl rfl rfl rfl (Op1.wk (x := (PV.agg [(I64 ((x6.1).kind)), (BO ((x6.1).bool)), (I64 ((x6.1).int)), (PV.v (.float .f64 (x6.1).float)), (ofStr (x6.1).text), (PV.hid 5 (PV.sl none 5 1 (List.map ofB (x6.1).bytes))), (PV.v (.int .u64 (x6.1).ref)), (PV.hid 5 (PV.sl none 29 11 (List.map ofTerm (x6.1).list))), (PV.hid 5 (PV.sl none 66 12 (List.map ofEntry (x6.1).fields))), (ofStr (x6.1).cls), (I64 ((x6.1).ver))])) ((op1_ldRA inf_29 Try.underlying29 rfl rfl rfl rfl rfl rfl)) (Wk.closedH (k := 5) (ys := [(I64 ((x6.1).kind)), (BO ((x6.1).bool)), (I64 ((x6.1).int)), (PV.v (.float .f64 (x6.1).float)), (ofStr (x6.1).text), (PV.sl none 5 1 (List.map ofB (x6.1).bytes)), (PV.v (.int .u64 (x6.1).ref)), (PV.sl none 29 11 (List.map ofTerm (x6.1).list)), (PV.sl none 66 12 (List.map ofEntry (x6.1).fields)), (ofStr (x6.1).cls), (I64 ((x6.1).ver))]) (.cons (Wk.scHid Sc.v) (.cons (Wk.scHid Sc.v) (.cons (Wk.scHid Sc.v) (.cons (Wk.scHid Sc.v) (.cons (Wk.scHid Sc.v) (.cons (Wk.refl _) (.cons (Wk.scHid Sc.v) (.cons (Wk.refl _) (.cons (Wk.refl _) (.cons (Wk.scHid Sc.v) (.cons (Wk.scHid Sc.v) .nil))))))))))))) ?_
       refine ao_yes rfl rfl rfl rfl rfl rfl ((op1_ldRA inf_29 Try.underlying29 rfl rfl rfl rfl rfl rfl)) ?_
       obtain ⟨x20, hx20, h⟩ := obind h
       refine ao_yes rfl rfl rfl rfl rfl rfl (op1_hcall rfl en_24 rfl (.cons (.hid rfl) (.cons (.wk (Wk.refl _) (ids_TermX x13)) .nil)) (s_law01_same (x6.1) x13 x20 hx20) Sc.v) ?_
       refine sS rfl rfl rfl (op1_pickT rfl rfl rfl) ?_
       refine sA rfl rfl rfl rfl rfl (ao_nil ?_)
       change BW _ _ _ _ _
       refine bw_ret ?_
       change ∃ xs, _ = some xs ∧ EndOk _ _ _ _
       obtain rfl := Option.some.inj h
       exact ⟨_, rfl, endOk0 (y := (BO x20)) (Wk.refl _) rfl ⟨rfl, rfl⟩⟩
      ·intro hb19; replace h := ocond_f hb19 h
       refine ao_no rfl rfl rfl rfl rfl rfl ?_
       refine ao_no rfl rfl rfl rfl rfl rfl ?_
       refine ao_no rfl rfl rfl rfl rfl rfl ?_
       refine sS rfl rfl rfl (op1_pickF rfl rfl rfl) ?_
       refine sA rfl rfl rfl rfl rfl (ao_nil ?_)
       change BW _ _ _ _ _
       refine bw_ret ?_
       change ∃ xs, _ = some xs ∧ EndOk _ _ _ _
       obtain rfl := Option.some.inj h
       exact ⟨_, rfl, endOk0 (y := (BO false)) (Wk.refl _) rfl ⟨rfl, rfl⟩⟩
    ·refine bw_region ?_
     refine sM rfl rfl rfl rfl rfl ?_
     refine sS rfl rfl rfl ((op1_ldRA inf_29 Try.underlying29 rfl rfl rfl rfl rfl rfl)) ?_
     obtain ⟨x21, hx21, h⟩ := obind h
     refine sS rfl rfl rfl (op1_hcall rfl en_19 rfl (.cons (.hid rfl) (.cons (.wk (Wk.refl _) (ids_TermX x13)) .nil)) (s_mk_Is x1.1 x13 x21 hx21) Sc.v) ?_
     refine sS rfl rfl rfl (op1_not rfl rfl) ?_
     refine sM rfl rfl rfl rfl rfl ?_
     refine ao_cases (t := 86) rfl ?_ ?_
     ·intro hb22; replace h := ocond_t hb22 h
      refine ao_no rfl rfl rfl rfl rfl rfl ?_
      refine ao_no rfl rfl rfl rfl rfl rfl ?_
      refine ao_no rfl rfl rfl rfl rfl rfl ?_
      refine ao_no rfl rfl rfl rfl rfl rfl ?_
      refine sS rfl rfl rfl (op1_pickT rfl rfl rfl) ?_
      refine sM rfl rfl rfl rfl rfl ?_
      refine ao_no rfl rfl rfl rfl rfl rfl ?_
      refine ao_no rfl rfl rfl rfl rfl rfl ?_
      refine ao_no rfl rfl rfl rfl rfl rfl ?_
      refine ao_no rfl rfl rfl rfl rfl rfl ?_
      refine sS rfl rfl rfl (op1_pickT rfl rfl rfl) (ao_nil ?_)
      exact ⟨rfl, true, h, ⟨(.cons .dead (.cons .same (.cons .same (.cons .same (.cons .same (.cons .same (.cons .same (.cons .same .nil)))))))), (sC rfl (sC rfl (sC rfl (sC rfl (sC rfl (sC rfl sub_nil))))))⟩⟩
     ·intro hb22; replace h := ocond_f hb22 h
      refine ao_yes rfl rfl rfl rfl rfl rfl (Op1.wk (x := (PV.agg [(I64 ((x4.1).kind)), (BO ((x4.1).bool)), (I64 ((x4.1).int)), (PV.v (.float .f64 (x4.1).float)), (ofStr (x4.1).text), (PV.hid 3 (PV.sl none 5 1 (List.map ofB (x4.1).bytes))), (PV.v (.int .u64 (x4.1).ref)), (PV.hid 3 (PV.sl none 29 11 (List.map ofTerm (x4.1).list))), (PV.hid 3 (PV.sl none 66 12 (List.map ofEntry (x4.1).fields))), (ofStr (x4.1).cls), (I64 ((x4.1).ver))])) ((op1_ldRA inf_29 Try.underlying29 rfl rfl rfl rfl rfl rfl)) (Wk.closedH (k := 3) (ys := [(I64 ((x4.1).kind)), (BO ((x4.1).bool)), (I64 ((x4.1).int)), (PV.v (.float .f64 (x4.1).float)), (ofStr (x4.1).text), (PV.sl none 5 1 (List.map ofB (x4.1).bytes)), (PV.v (.int .u64 (x4.1).ref)), (PV.sl none 29 11 (List.map ofTerm (x4.1).list)), (PV.sl none 66 12 (List.map ofEntry (x4.1).fields)), (ofStr (x4.1).cls), (I64 ((x4.1).ver))]) (.cons (Wk.scHid Sc.v) (.cons (Wk.scHid Sc.v) (.cons (Wk.scHid Sc.v) (.cons (Wk.scHid Sc.v) (.cons (Wk.scHid Sc.v) (.cons (Wk.refl _) (.cons (Wk.scHid Sc.v) (.cons (Wk.refl _) (.cons (Wk.refl _) (.cons (Wk.scHid Sc.v) (.cons (Wk.scHid Sc.v) .nil))))))))))))) ?_
      refine ao_yes rfl rfl rfl rfl rfl rfl ((op1_ldRA inf_29 Try.underlying29 rfl rfl rfl rfl rfl rfl)) ?_
      obtain ⟨x23, hx23, h⟩ := obind h
      refine ao_yes rfl rfl rfl rfl rfl rfl (op1_hcall rfl en_24 rfl (.cons (.hid rfl) (.cons (.wk (Wk.refl _) (ids_TermX x13)) .nil)) (s_law01_same (x4.1) x13 x23 hx23) Sc.v) ?_
      refine ao_yes rfl rfl rfl rfl rfl rfl (op1_not rfl rfl) ?_
      refine sS rfl rfl rfl (op1_pickF rfl rfl rfl) ?_
      refine sM rfl rfl rfl rfl rfl ?_
      refine ao_cases (t := 92) rfl ?_ ?_
      ·intro hb24; replace h := ocond_t hb24 h
       refine ao_no rfl rfl rfl rfl rfl rfl ?_
       refine ao_no rfl rfl rfl rfl rfl rfl ?_
       refine ao_no rfl rfl rfl rfl rfl rfl ?_
       refine ao_no rfl rfl rfl rfl rfl rfl ?_
       refine sS rfl rfl rfl (op1_pickT rfl rfl rfl) (ao_nil ?_)
       exact ⟨rfl, true, h, ⟨(.cons .dead (.cons .same (.cons .same (.cons .same (.cons .same (.cons .same (.cons .same (.cons .same .nil)))))))), (sC rfl (sC rfl (sC rfl (sC rfl (sC rfl (sC rfl sub_nil))))))⟩⟩
      ·intro hb24; replace h := ocond_f hb24 h
       refine ao_yes rfl rfl rfl rfl rfl rfl (Op1.wk (x := (PV.agg [(I64 ((x6.1).kind)), (BO ((x6.1).bool)), (I64 ((x6.1).int)), (PV.v (.float .f64 (x6.1).float)), (ofStr (x6.1).text), (PV.hid 5 (PV.sl none 5 1 (List.map ofB (x6.1).bytes))), (PV.v (.int .u64 (x6.1).ref)), (PV.hid 5 (PV.sl none 29 11 (List.map ofTerm (x6.1).list))), (PV.hid 5 (PV.sl none 66 12 (List.map ofEntry (x6.1).fields))), (ofStr (x6.1).cls), (I64 ((x6.1).ver))])) ((op1_ldRA inf_29 Try.underlying29 rfl rfl rfl rfl rfl rfl)) (Wk.closedH (k := 5) (ys := [(I64 ((x6.1).kind)), (BO ((x6.1).bool)), (I64 ((x6.1).int)), (PV.v (.float .f64 (x6.1).float)), (ofStr (x6.1).text), (PV.sl none 5 1 (List.map ofB (x6.1).bytes)), (PV.v (.int .u64 (x6.1).ref)), (PV.sl none 29 11 (List.map ofTerm (x6.1).list)), (PV.sl none 66 12 (List.map ofEntry (x6.1).fields)), (ofStr (x6.1).cls), (I64 ((x6.1).ver))]) (.cons (Wk.scHid Sc.v) (.cons (Wk.scHid Sc.v) (.cons (Wk.scHid Sc.v) (.cons (Wk.scHid Sc.v) (.cons (Wk.scHid Sc.v) (.cons (Wk.refl _) (.cons (Wk.scHid Sc.v) (.cons (Wk.refl _) (.cons (Wk.refl _) (.cons (Wk.scHid Sc.v) (.cons (Wk.scHid Sc.v) .nil))))))))))))) ?_
       refine ao_yes rfl rfl rfl rfl rfl rfl ((op1_ldRA inf_29 Try.underlying29 rfl rfl rfl rfl rfl rfl)) ?_
       obtain ⟨x25, hx25, h⟩ := obind h
       refine ao_yes rfl rfl rfl rfl rfl rfl (op1_hcall rfl en_24 rfl (.cons (.hid rfl) (.cons (.wk (Wk.refl _) (ids_TermX x13)) .nil)) (s_law01_same (x6.1) x13 x25 hx25) Sc.v) ?_
       refine ao_yes rfl rfl rfl rfl rfl rfl (op1_not rfl rfl) ?_
       refine sS rfl rfl rfl (op1_pickF rfl rfl rfl) (ao_nil ?_)
       exact ⟨rfl, (!x25), h, ⟨(.cons .dead (.cons .same (.cons .same (.cons .same (.cons .same (.cons .same (.cons .same (.cons .same .nil)))))))), (sC rfl (sC rfl (sC rfl (sC rfl (sC rfl (sC rfl sub_nil))))))⟩⟩
 ·refine bw_region ?_
  refine sM rfl rfl rfl rfl rfl ?_
  refine sM rfl rfl rfl rfl rfl ?_
  refine sS rfl rfl rfl ((op1_cmp rfl rfl rfl rfl).cast (y := (BO ((x1.2 != x7.2)))) rfl rfl) ?_
  refine sM rfl rfl rfl rfl rfl ?_
  refine ao_cases (t := 44) rfl ?_ ?_
  ·intro hb26; replace h := ocond_t hb26 h
   refine ao_no rfl rfl rfl rfl rfl rfl ?_
   refine ao_no rfl rfl rfl rfl rfl rfl ?_
   refine ao_no rfl rfl rfl rfl rfl rfl ?_
   refine sS rfl rfl rfl (op1_pickT rfl rfl rfl) (ao_nil ?_)
   exact ⟨rfl, true, h, ⟨(.cons .same (.cons .same (.cons .same (.cons .same (.cons .same (.cons .same (.cons .same .nil))))))), (sC rfl (sC rfl (sC rfl (sC rfl (sC rfl (sC rfl (sC rfl sub_nil)))))))⟩⟩
  ·intro hb26; replace h := ocond_f hb26 h
   refine ao_yes rfl rfl rfl rfl rfl rfl (op1_move rfl rfl) ?_
   refine ao_yes rfl rfl rfl rfl rfl rfl (op1_move rfl rfl) ?_
   refine ao_yes rfl rfl rfl rfl rfl rfl ((op1_cmp rfl rfl rfl rfl).cast (y := (BO ((x4.2 != x7.2)))) rfl rfl) ?_
   refine sS rfl rfl rfl (op1_pickF rfl rfl rfl) (ao_nil ?_)
   exact ⟨rfl, (x4.2 != x7.2), h, ⟨(.cons .same (.cons .same (.cons .same (.cons .same (.cons .same (.cons .same (.cons .same .nil))))))), (sC rfl (sC rfl (sC rfl (sC rfl (sC rfl (sC rfl (sC rfl sub_nil)))))))⟩⟩
end Go.Proofs.Ythfdpaboekoncaa
