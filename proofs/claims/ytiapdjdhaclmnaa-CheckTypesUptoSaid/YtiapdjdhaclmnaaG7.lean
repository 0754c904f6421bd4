/- Pure functions, and that calls answer as they say. Written by gen.py. -/
import Derived.Test.YtiapdjdhaclmnaaG6
namespace Go.Proofs.Ytiapdjdhaclmnaa
open Go Aw
set_option linter.unusedVariables false
set_option linter.unusedSimpArgs false
set_option maxRecDepth 20000
set_option maxHeartbeats 2000000
noncomputable def ref01_fields_j1 (r_ref01_Compare : Term → Term → Option Int) (g1 : Int → Option Int) (a0 : (List (Str × Term))) (a1 : (List (Str × Term))) (s1 : Int) (s2 : Bool) : Option Int :=
 bif s2 then (
  Option.bind (idxI a0 s1) fun x4 =>
  Option.bind (idxI a1 s1) fun x5 =>
  Option.bind (p_ref01_texts x4.1 x5.1) fun x6 =>
  bif (x6 != 0) then (
   some x6
  ) else (
   Option.bind (idxI a0 s1) fun x8 =>
   Option.bind (idxI a1 s1) fun x9 =>
   Option.bind (r_ref01_Compare (x8.2) (x9.2)) fun x10 =>
   bif (x10 != 0) then (
    some x10
   ) else (
    g1 (IntKind.i64.wrap (s1 + 1))
   )
  )
 ) else (
  Option.bind (p_ref01_numbers (IntKind.u64.wrap (((a0).length : Nat) : Int)) (IntKind.u64.wrap (((a1).length : Nat) : Int))) fun x12 =>
  some x12
 )
theorem ref01_fields_j1_cm {ι : Type} {ρ : ι → Type} (r_ref01_Compare : (∀ i, Option (ρ i)) → Term → Term → Option Int) (h_r_ref01_Compare : ∀ y0 y1, CM (fun G => r_ref01_Compare G y0 y1)) (g1 : (∀ i, Option (ρ i)) → Int → Option Int) (h_g1 : ∀ y0, CM (fun G => g1 G y0)) (a0 : (List (Str × Term))) (a1 : (List (Str × Term))) (s1 : Int) (s2 : Bool) : CM (fun G : (∀ i, Option (ρ i)) => ref01_fields_j1 (r_ref01_Compare G) (g1 G) a0 a1 s1 s2) := by
 simp only [ref01_fields_j1]
 repeat (first | exact cm_const | exact h_r_ref01_Compare _ _ | exact h_g1 _ | refine cm_cond ?_ ?_ | refine cm_bind ?_ (fun _ => ?_))
noncomputable def ref01_fields_l1b (r_ref01_Compare : Term → Term → Option Int) (a0 : (List (Str × Term))) (a1 : (List (Str × Term))) (g1 : Int → Option Int) (s1 : Int) : Option Int :=
 bif (decide (s1 < (((a0).length : Nat) : Int))) then (
  ref01_fields_j1 r_ref01_Compare g1 a0 a1 s1 (decide (s1 < (((a1).length : Nat) : Int)))
 ) else (
  ref01_fields_j1 r_ref01_Compare g1 a0 a1 s1 false
 )
theorem ref01_fields_l1b_cm {ι : Type} {ρ : ι → Type} (r_ref01_Compare : (∀ i, Option (ρ i)) → Term → Term → Option Int) (h_r_ref01_Compare : ∀ y0 y1, CM (fun G => r_ref01_Compare G y0 y1)) (g1 : (∀ i, Option (ρ i)) → Int → Option Int) (h_g1 : ∀ y0, CM (fun G => g1 G y0)) (a0 : (List (Str × Term))) (a1 : (List (Str × Term))) (s1 : Int) : CM (fun G : (∀ i, Option (ρ i)) => ref01_fields_l1b (r_ref01_Compare G) a0 a1 (g1 G) s1) := by
 simp only [ref01_fields_l1b]
 repeat (first | exact cm_const | exact h_r_ref01_Compare _ _ | exact h_g1 _ | apply ref01_fields_j1_cm | refine cm_cond ?_ ?_ | refine cm_bind ?_ (fun _ => ?_) | intro _ | assumption)
noncomputable def ref01_fields_l1 (r_ref01_Compare : Term → Term → Option Int) (a0 : (List (Str × Term))) (a1 : (List (Str × Term))) (s1 : Int) : Option Int :=
 fixO (ι := Int) (ρ := fun _ => Int) (fun g i => ref01_fields_l1b r_ref01_Compare a0 a1 (fun s1 => g s1) i) s1
theorem ref01_fields_l1_eq (r_ref01_Compare : Term → Term → Option Int) (a0 : (List (Str × Term))) (a1 : (List (Str × Term))) (s1 : Int) : ref01_fields_l1 r_ref01_Compare a0 a1 s1 = ref01_fields_l1b r_ref01_Compare a0 a1 (ref01_fields_l1 r_ref01_Compare a0 a1) s1 :=
 fixO_eq (ι := Int) (ρ := fun _ => Int) (Φ := fun g i => ref01_fields_l1b r_ref01_Compare a0 a1 (fun s1 => g s1) i) (fun i => ref01_fields_l1b_cm (ι := Int) (ρ := fun _ => Int) (fun _ => r_ref01_Compare) (fun _ _ => cm_const) (fun g => (fun s1 => g s1)) (fun _ => cm_app) a0 a1 i) s1
theorem ref01_fields_l1_cm {ι : Type} {ρ : ι → Type} (r_ref01_Compare : (∀ i, Option (ρ i)) → Term → Term → Option Int) (h_r_ref01_Compare : ∀ y0 y1, CM (fun G => r_ref01_Compare G y0 y1)) (a0 : (List (Str × Term))) (a1 : (List (Str × Term))) (s1 : Int) : CM (fun G : (∀ i, Option (ρ i)) => ref01_fields_l1 (r_ref01_Compare G) a0 a1 s1) :=
 cm_fix (κ := Int) (τ := fun _ => Int) (Φ := fun G g i => ref01_fields_l1b (r_ref01_Compare G) a0 a1 (fun s1 => g s1) i) (fun g i => ref01_fields_l1b_cm r_ref01_Compare h_r_ref01_Compare (fun _ => (fun s1 => g s1)) (fun _ => cm_const) a0 a1 i) (fun G i => ref01_fields_l1b_cm (ι := Int) (ρ := fun _ => Int) (fun _ => r_ref01_Compare G) (fun _ _ => cm_const) (fun g => (fun s1 => g s1)) (fun _ => cm_app) a0 a1 i) s1
noncomputable def b_ref01_fields (r_ref01_fields : (List (Str × Term)) → (List (Str × Term)) → Option Int) (r_ref01_Compare : Term → Term → Option Int) (a0 : (List (Str × Term))) (a1 : (List (Str × Term))) : Option Int :=
 ref01_fields_l1 r_ref01_Compare a0 a1 0
theorem b_ref01_fields_cm {ι : Type} {ρ : ι → Type} (r_ref01_fields : (∀ i, Option (ρ i)) → (List (Str × Term)) → (List (Str × Term)) → Option Int) (h_r_ref01_fields : ∀ y0 y1, CM (fun G => r_ref01_fields G y0 y1)) (r_ref01_Compare : (∀ i, Option (ρ i)) → Term → Term → Option Int) (h_r_ref01_Compare : ∀ y0 y1, CM (fun G => r_ref01_Compare G y0 y1)) (a0 : (List (Str × Term))) (a1 : (List (Str × Term))) : CM (fun G : (∀ i, Option (ρ i)) => b_ref01_fields (r_ref01_fields G) (r_ref01_Compare G) a0 a1) := by
 simp only [b_ref01_fields]
 repeat (first | exact cm_const | exact h_r_ref01_fields _ _ | exact h_r_ref01_Compare _ _ | apply ref01_fields_l1_cm | refine cm_cond ?_ ?_ | refine cm_bind ?_ (fun _ => ?_) | intro _ | assumption)
noncomputable def ref01_Compare_j1 (r_ref01_Compare : Term → Term → Option Int) (g1 : Int → Option Int) (a0 : Term) (a1 : Term) (s20 : Int) (s21 : Bool) : Option Int :=
 bif s21 then (
  Option.bind (idxI a0.list s20) fun x23 =>
  Option.bind (idxI a1.list s20) fun x24 =>
  Option.bind (r_ref01_Compare x23 x24) fun x25 =>
  bif (x25 != 0) then (
   some x25
  ) else (
   g1 (IntKind.i64.wrap (s20 + 1))
  )
 ) else (
  Option.bind (p_ref01_numbers (IntKind.u64.wrap (((a0.list).length : Nat) : Int)) (IntKind.u64.wrap (((a1.list).length : Nat) : Int))) fun x27 =>
  some x27
 )
theorem ref01_Compare_j1_cm {ι : Type} {ρ : ι → Type} (r_ref01_Compare : (∀ i, Option (ρ i)) → Term → Term → Option Int) (h_r_ref01_Compare : ∀ y0 y1, CM (fun G => r_ref01_Compare G y0 y1)) (g1 : (∀ i, Option (ρ i)) → Int → Option Int) (h_g1 : ∀ y0, CM (fun G => g1 G y0)) (a0 : Term) (a1 : Term) (s20 : Int) (s21 : Bool) : CM (fun G : (∀ i, Option (ρ i)) => ref01_Compare_j1 (r_ref01_Compare G) (g1 G) a0 a1 s20 s21) := by
 simp only [ref01_Compare_j1]
 repeat (first | exact cm_const | exact h_r_ref01_Compare _ _ | exact h_g1 _ | refine cm_cond ?_ ?_ | refine cm_bind ?_ (fun _ => ?_))
noncomputable def ref01_Compare_l1b (r_ref01_Compare : Term → Term → Option Int) (a0 : Term) (a1 : Term) (g1 : Int → Option Int) (s20 : Int) : Option Int :=
 bif (decide (s20 < (((a0.list).length : Nat) : Int))) then (
  ref01_Compare_j1 r_ref01_Compare g1 a0 a1 s20 (decide (s20 < (((a1.list).length : Nat) : Int)))
 ) else (
  ref01_Compare_j1 r_ref01_Compare g1 a0 a1 s20 false
 )
theorem ref01_Compare_l1b_cm {ι : Type} {ρ : ι → Type} (r_ref01_Compare : (∀ i, Option (ρ i)) → Term → Term → Option Int) (h_r_ref01_Compare : ∀ y0 y1, CM (fun G => r_ref01_Compare G y0 y1)) (g1 : (∀ i, Option (ρ i)) → Int → Option Int) (h_g1 : ∀ y0, CM (fun G => g1 G y0)) (a0 : Term) (a1 : Term) (s20 : Int) : CM (fun G : (∀ i, Option (ρ i)) => ref01_Compare_l1b (r_ref01_Compare G) a0 a1 (g1 G) s20) := by
 simp only [ref01_Compare_l1b]
 repeat (first | exact cm_const | exact h_r_ref01_Compare _ _ | exact h_g1 _ | apply ref01_Compare_j1_cm | refine cm_cond ?_ ?_ | refine cm_bind ?_ (fun _ => ?_) | intro _ | assumption)
noncomputable def ref01_Compare_l1 (r_ref01_Compare : Term → Term → Option Int) (a0 : Term) (a1 : Term) (s20 : Int) : Option Int :=
 fixO (ι := Int) (ρ := fun _ => Int) (fun g i => ref01_Compare_l1b r_ref01_Compare a0 a1 (fun s20 => g s20) i) s20
theorem ref01_Compare_l1_eq (r_ref01_Compare : Term → Term → Option Int) (a0 : Term) (a1 : Term) (s20 : Int) : ref01_Compare_l1 r_ref01_Compare a0 a1 s20 = ref01_Compare_l1b r_ref01_Compare a0 a1 (ref01_Compare_l1 r_ref01_Compare a0 a1) s20 :=
 fixO_eq (ι := Int) (ρ := fun _ => Int) (Φ := fun g i => ref01_Compare_l1b r_ref01_Compare a0 a1 (fun s20 => g s20) i) (fun i => ref01_Compare_l1b_cm (ι := Int) (ρ := fun _ => Int) (fun _ => r_ref01_Compare) (fun _ _ => cm_const) (fun g => (fun s20 => g s20)) (fun _ => cm_app) a0 a1 i) s20
theorem ref01_Compare_l1_cm {ι : Type} {ρ : ι → Type} (r_ref01_Compare : (∀ i, Option (ρ i)) → Term → Term → Option Int) (h_r_ref01_Compare : ∀ y0 y1, CM (fun G => r_ref01_Compare G y0 y1)) (a0 : Term) (a1 : Term) (s20 : Int) : CM (fun G : (∀ i, Option (ρ i)) => ref01_Compare_l1 (r_ref01_Compare G) a0 a1 s20) :=
 cm_fix (κ := Int) (τ := fun _ => Int) (Φ := fun G g i => ref01_Compare_l1b (r_ref01_Compare G) a0 a1 (fun s20 => g s20) i) (fun g i => ref01_Compare_l1b_cm r_ref01_Compare h_r_ref01_Compare (fun _ => (fun s20 => g s20)) (fun _ => cm_const) a0 a1 i) (fun G i => ref01_Compare_l1b_cm (ι := Int) (ρ := fun _ => Int) (fun _ => r_ref01_Compare G) (fun _ _ => cm_const) (fun g => (fun s20 => g s20)) (fun _ => cm_app) a0 a1 i) s20
noncomputable def b_ref01_Compare (r_ref01_fields : (List (Str × Term)) → (List (Str × Term)) → Option Int) (r_ref01_Compare : Term → Term → Option Int) (a0 : Term) (a1 : Term) : Option Int :=
 bif (a0.kind != a1.kind) then (
  Option.bind (p_ref01_numbers (IntKind.u64.wrap a0.kind) (IntKind.u64.wrap a1.kind)) fun x2 =>
  some x2
 ) else (
  bif (a0.kind == 2) then (
   Option.bind (p_ref01_flag a0.bool) fun x4 =>
   Option.bind (p_ref01_flag a1.bool) fun x5 =>
   Option.bind (p_ref01_numbers x4 x5) fun x6 =>
   some x6
  ) else (
   bif (a0.kind == 3) then (
    Option.bind (p_ref01_numbers (IntKind.u64.wrap ((IntKind.u64.wrap a0.int) + 9223372036854775808)) (IntKind.u64.wrap ((IntKind.u64.wrap a1.int) + 9223372036854775808))) fun x8 =>
    some x8
   ) else (
    bif (a0.kind == 4) then (
     Option.bind (p_ref01_place a0.float) fun x10 =>
     Option.bind (p_ref01_place a1.float) fun x11 =>
     Option.bind (p_ref01_numbers x10 x11) fun x12 =>
     some x12
    ) else (
     bif (a0.kind == 5) then (
      Option.bind (p_ref01_texts a0.text a1.text) fun x14 =>
      some x14
     ) else (
      bif (a0.kind == 6) then (
       Option.bind (p_ref01_texts a0.bytes a1.bytes) fun x16 =>
       some x16
      ) else (
       bif (a0.kind == 7) then (
        Option.bind (p_ref01_numbers a0.ref a1.ref) fun x18 =>
        some x18
       ) else (
        bif (a0.kind == 8) then (
         ref01_Compare_l1 r_ref01_Compare a0 a1 0
        ) else (
         bif (a0.kind == 9) then (
          Option.bind (r_ref01_fields a0.fields a1.fields) fun x30 =>
          some x30
         ) else (
          bif (a0.kind == 10) then (
           Option.bind (p_ref01_texts a0.cls a1.cls) fun x32 =>
           bif (x32 != 0) then (
            some x32
           ) else (
            bif (a0.ver != a1.ver) then (
             Option.bind (p_ref01_numbers (IntKind.u64.wrap a0.ver) (IntKind.u64.wrap a1.ver)) fun x35 =>
             some x35
            ) else (
             Option.bind (r_ref01_fields a0.fields a1.fields) fun x36 =>
             some x36
            )
           )
          ) else (
           some 0
          )
         )
        )
       )
      )
     )
    )
   )
  )
 )
theorem b_ref01_Compare_cm {ι : Type} {ρ : ι → Type} (r_ref01_fields : (∀ i, Option (ρ i)) → (List (Str × Term)) → (List (Str × Term)) → Option Int) (h_r_ref01_fields : ∀ y0 y1, CM (fun G => r_ref01_fields G y0 y1)) (r_ref01_Compare : (∀ i, Option (ρ i)) → Term → Term → Option Int) (h_r_ref01_Compare : ∀ y0 y1, CM (fun G => r_ref01_Compare G y0 y1)) (a0 : Term) (a1 : Term) : CM (fun G : (∀ i, Option (ρ i)) => b_ref01_Compare (r_ref01_fields G) (r_ref01_Compare G) a0 a1) := by
 simp only [b_ref01_Compare]
 repeat (first | exact cm_const | exact h_r_ref01_fields _ _ | exact h_r_ref01_Compare _ _ | apply ref01_Compare_l1_cm | refine cm_cond ?_ ?_ | refine cm_bind ?_ (fun _ => ?_) | intro _ | assumption)
inductive C_ref01_fields where
 | k_ref01_fields (a0 : (List (Str × Term))) (a1 : (List (Str × Term)))
 | k_ref01_Compare (a0 : Term) (a1 : Term)
def C_ref01_fields.R : C_ref01_fields → Type
 | .k_ref01_fields _ _ => Int
 | .k_ref01_Compare _ _ => Int
noncomputable def C_ref01_fields.F (g : ∀ i : C_ref01_fields, Option i.R) : ∀ i : C_ref01_fields, Option i.R
 | .k_ref01_fields a0 a1 => b_ref01_fields (fun a0 a1 => g (.k_ref01_fields a0 a1)) (fun a0 a1 => g (.k_ref01_Compare a0 a1)) a0 a1
 | .k_ref01_Compare a0 a1 => b_ref01_Compare (fun a0 a1 => g (.k_ref01_fields a0 a1)) (fun a0 a1 => g (.k_ref01_Compare a0 a1)) a0 a1
noncomputable def p_ref01_fields (a0 : (List (Str × Term))) (a1 : (List (Str × Term))) : Option Int := fixO C_ref01_fields.F (.k_ref01_fields a0 a1)
noncomputable def p_ref01_Compare (a0 : Term) (a1 : Term) : Option Int := fixO C_ref01_fields.F (.k_ref01_Compare a0 a1)
theorem C_ref01_fields.cm (i : C_ref01_fields) : CM (fun g : (∀ i : C_ref01_fields, Option i.R) => C_ref01_fields.F g i) := by
 cases i with
 | k_ref01_fields a0 a1 => exact b_ref01_fields_cm (fun (g : ∀ i : C_ref01_fields, Option i.R) a0 a1 => g (.k_ref01_fields a0 a1)) (fun a0 a1 => cm_app (i := C_ref01_fields.k_ref01_fields a0 a1)) (fun (g : ∀ i : C_ref01_fields, Option i.R) a0 a1 => g (.k_ref01_Compare a0 a1)) (fun a0 a1 => cm_app (i := C_ref01_fields.k_ref01_Compare a0 a1)) a0 a1
 | k_ref01_Compare a0 a1 => exact b_ref01_Compare_cm (fun (g : ∀ i : C_ref01_fields, Option i.R) a0 a1 => g (.k_ref01_fields a0 a1)) (fun a0 a1 => cm_app (i := C_ref01_fields.k_ref01_fields a0 a1)) (fun (g : ∀ i : C_ref01_fields, Option i.R) a0 a1 => g (.k_ref01_Compare a0 a1)) (fun a0 a1 => cm_app (i := C_ref01_fields.k_ref01_Compare a0 a1)) a0 a1
theorem e_ref01_fields (a0 : (List (Str × Term))) (a1 : (List (Str × Term))) : p_ref01_fields a0 a1 = b_ref01_fields p_ref01_fields p_ref01_Compare a0 a1 := fixO_eq C_ref01_fields.cm (.k_ref01_fields a0 a1)
theorem e_ref01_Compare (a0 : Term) (a1 : Term) : p_ref01_Compare a0 a1 = b_ref01_Compare p_ref01_fields p_ref01_Compare a0 a1 := fixO_eq C_ref01_fields.cm (.k_ref01_Compare a0 a1)
def C_ref01_fields.Q : ∀ i : C_ref01_fields, i.R → Prop
 | .k_ref01_fields a0 a1 => fun (r : Int) => PCalls Try.prog 81 [(PV.sl none 12 (List.map ofEntry a0)), (PV.sl none 12 (List.map ofEntry a1))] (I64 r)
 | .k_ref01_Compare a0 a1 => fun (r : Int) => PCalls Try.prog 46 [(ofTermX a0), (ofTermX a1)] (I64 r)
theorem t_ref01_fields (r_ref01_fields : (List (Str × Term)) → (List (Str × Term)) → Option Int) (c_ref01_fields : ∀ (a0 : (List (Str × Term))) (a1 : (List (Str × Term))) r, r_ref01_fields a0 a1 = some r → PCalls Try.prog 81 [(PV.sl none 12 (List.map ofEntry a0)), (PV.sl none 12 (List.map ofEntry a1))] (I64 r)) (r_ref01_Compare : Term → Term → Option Int) (c_ref01_Compare : ∀ (a0 : Term) (a1 : Term) r, r_ref01_Compare a0 a1 = some r → PCalls Try.prog 46 [(ofTermX a0), (ofTermX a1)] (I64 r)) (a0 : (List (Str × Term))) (a1 : (List (Str × Term))) (r : Int) (h : b_ref01_fields r_ref01_fields r_ref01_Compare a0 a1 = some r) : PCalls Try.prog 81 [(PV.sl none 12 (List.map ofEntry a0)), (PV.sl none 12 (List.map ofEntry a1))] (I64 r) := by
 unfold b_ref01_fields at h
 refine acalls_of Try.func81 rfl Try.ntmps81 Try.results81 rfl (aw_of_bw ?_)
 change BW _ _ _ ⟨[(0, (PV.sl none 12 (List.map ofEntry a0))), (1, (PV.sl none 12 (List.map ofEntry a1)))], [], _⟩ _
 refine bR ?_
 refine sA rfl rfl rfl rfl rfl (ao_nil ?_)
 change BW _ _ _ _ _
 refine bw_seq ?_
 refine bR ?_
 refine sA rfl rfl rfl rfl rfl (ao_nil ?_)
 change BW _ _ _ _ _
 refine bw_block ?_
 change BW _ _ _ _ _
 unfold ref01_fields_l1 at h
 refine bw_loop (σ := Int) (fun i => [(0, (PV.sl none 12 (List.map ofEntry a0))), (1, (PV.sl none 12 (List.map ofEntry a1))), (5, (I64 i))]) (fun i => []) 0 h ?_ ?_ ?_
 ·intro i; exact ⟨Nat.le_of_ble_eq_true rfl, ⟨(il_nil (ids_slM ids_Entry _)), ⟨(il_nil (ids_slM ids_Entry _)), ⟨(il_nil rfl), trivial⟩⟩⟩, trivial⟩
 ·exact ⟨.nil, (sC rfl (sC rfl (sC rfl sub_nil)))⟩
 ·rintro g1_f s1 h; replace h : ref01_fields_l1b r_ref01_Compare a0 a1 (fun y0 => g1_f y0) s1 = some r := h; unfold ref01_fields_l1b at h
  change BW _ _ _ ⟨[(0, (PV.sl none 12 (List.map ofEntry a0))), (1, (PV.sl none 12 (List.map ofEntry a1))), (5, (I64 s1))], [], _⟩ _
  refine bw_seq ?_
  refine bw_seqJ (ι := Bool) (fun i => ref01_fields_j1 r_ref01_Compare (fun y0 => g1_f y0) a0 a1 s1 i = some r) (fun i => [(0, (PV.sl none 12 (List.map ofEntry a0))), (1, (PV.sl none 12 (List.map ofEntry a1))), (5, (I64 s1)), (17, (BO i))]) (fun i => []) ?_ ?_ ?_
  ·intro i; exact ⟨Nat.le_of_ble_eq_true rfl, ⟨(il_nil (ids_slM ids_Entry _)), ⟨(il_nil (ids_slM ids_Entry _)), ⟨(il_nil rfl), ⟨(il_nil rfl), trivial⟩⟩⟩⟩, trivial⟩
  ·rintro s2 h; replace h : ref01_fields_j1 r_ref01_Compare (fun y0 => g1_f y0) a0 a1 s1 s2 = some r := h; unfold ref01_fields_j1 at h
   change BW _ _ _ ⟨[(0, (PV.sl none 12 (List.map ofEntry a0))), (1, (PV.sl none 12 (List.map ofEntry a1))), (5, (I64 s1)), (17, (BO s2))], [], _⟩ _
   refine bw_cond rfl ?_ ?_
   ·intro hc3; replace h := ocond_t hc3 h
    refine bw_skip ?_
    change BW _ _ _ _ _
    refine bw_seq ?_
    refine bw_block ?_
    change BW _ _ _ _ _
    refine bw_seq ?_
    refine bw_seq (bw_tail 10 [] [] mo (by kernel_rfl) ?_)
    refine ac_go rfl rfl rfl rfl (fun H hp => op1_move rfl rfl) ?_
    refine ac_go rfl rfl rfl rfl (fun H hp => op1_move rfl rfl) ?_
    obtain ⟨x4, hx4, h⟩ := obind h
    refine ac_go rfl rfl rfl rfl (fun H hp => op1_idxM Try.underlying27 inf_101 rfl rfl rfl hx4 (ofEntry_eq _)) ?_
    refine ac_go rfl rfl rfl rfl (fun H hp => op1_faP st_101 (i := 0) rfl rfl rfl) ?_
    refine ac_go rfl rfl rfl rfl (fun H hp => op1_ldP (y := (ofStr x4.1)) Try.underlying9 rfl rfl rfl rfl) ?_
    refine ac_go rfl rfl rfl rfl (fun H hp => op1_move rfl rfl) ?_
    refine ac_go rfl rfl rfl rfl (fun H hp => op1_move rfl rfl) ?_
    obtain ⟨x5, hx5, h⟩ := obind h
    refine ac_go rfl rfl rfl rfl (fun H hp => op1_idxM Try.underlying27 inf_101 rfl rfl rfl hx5 (ofEntry_eq _)) ?_
    refine ac_go rfl rfl rfl rfl (fun H hp => op1_faP st_101 (i := 0) rfl rfl rfl) ?_
    refine ac_go rfl rfl rfl rfl (fun H hp => op1_ldP (y := (ofStr x5.1)) Try.underlying9 rfl rfl rfl rfl) ?_
    refine ac_nil ?_
    change AO _ _ _ _ _
    obtain ⟨x6, hx6, h⟩ := obind h
    refine sS rfl rfl rfl (op1_pcall rfl en_80 rfl (.cons (Wk.refl _) (.cons (Wk.refl _) .nil)) ⟨rfl, ⟨rfl, trivial⟩⟩ (s_ref01_texts x4.1 x5.1 x6 hx6) rfl) ?_
    refine sA rfl rfl rfl rfl rfl (ao_nil ?_)
    change BW _ _ _ _ _
    refine bR ?_
    refine sM rfl rfl rfl rfl rfl ?_
    refine sS rfl rfl rfl ((op1_cmp rfl rfl rfl rfl).cast (y := (BO ((x6 != 0)))) rfl rfl) (ao_nil ?_)
    change BW _ _ _ _ _
    refine bw_cond rfl ?_ ?_
    ·intro hc7; replace h := ocond_t hc7 h
     refine bR ?_
     refine sM rfl rfl rfl rfl rfl ?_
     refine sA rfl rfl rfl rfl rfl (ao_nil ?_)
     change BW _ _ _ _ _
     refine bw_ret ?_
     change ∃ xs, _ = some xs ∧ EndOk _ _ _ _
     obtain rfl := Option.some.inj h
     exact ⟨_, rfl, endOk0 (y := (I64 x6)) (Wk.refl _) rfl ⟨rfl, rfl⟩⟩
    ·intro hc7; replace h := ocond_f hc7 h
     refine bw_skip ?_
     change BW _ _ _ _ _
     refine bw_seq (bw_tail 10 [] [] mo (by kernel_rfl) ?_)
     refine ac_go rfl rfl rfl rfl (fun H hp => op1_move rfl rfl) ?_
     refine ac_go rfl rfl rfl rfl (fun H hp => op1_move rfl rfl) ?_
     obtain ⟨x8, hx8, h⟩ := obind h
     refine ac_go rfl rfl rfl rfl (fun H hp => op1_idxM Try.underlying27 inf_101 rfl rfl rfl hx8 (ofEntry_eq _)) ?_
     refine ac_go rfl rfl rfl rfl (fun H hp => op1_faP st_101 (i := 1) rfl rfl rfl) ?_
     refine ac_go rfl rfl rfl rfl (fun H hp => (op1_ldPA inf_29 Try.underlying29 rfl rfl rfl rfl rfl)) ?_
     refine ac_go rfl rfl rfl rfl (fun H hp => op1_move rfl rfl) ?_
     refine ac_go rfl rfl rfl rfl (fun H hp => op1_move rfl rfl) ?_
     obtain ⟨x9, hx9, h⟩ := obind h
     refine ac_go rfl rfl rfl rfl (fun H hp => op1_idxM Try.underlying27 inf_101 rfl rfl rfl hx9 (ofEntry_eq _)) ?_
     refine ac_go rfl rfl rfl rfl (fun H hp => op1_faP st_101 (i := 1) rfl rfl rfl) ?_
     refine ac_go rfl rfl rfl rfl (fun H hp => (op1_ldPA inf_29 Try.underlying29 rfl rfl rfl rfl rfl)) ?_
     refine ac_nil ?_
     change AO _ _ _ _ _
     obtain ⟨x10, hx10, h⟩ := obind h
     refine sS rfl rfl rfl (op1_pcall rfl en_46 rfl (.cons (Wk.refl _) (.cons (Wk.refl _) .nil)) ⟨(ids_TermX (x8.2)), ⟨(ids_TermX (x9.2)), trivial⟩⟩ (c_ref01_Compare (x8.2) (x9.2) x10 hx10) rfl) ?_
     refine sA rfl rfl rfl rfl rfl (ao_nil ?_)
     change BW _ _ _ _ _
     refine bR ?_
     refine sM rfl rfl rfl rfl rfl ?_
     refine sS rfl rfl rfl ((op1_cmp rfl rfl rfl rfl).cast (y := (BO ((x10 != 0)))) rfl rfl) (ao_nil ?_)
     change BW _ _ _ _ _
     refine bw_cond rfl ?_ ?_
     ·intro hc11; replace h := ocond_t hc11 h
      refine bR ?_
      refine sM rfl rfl rfl rfl rfl ?_
      refine sA rfl rfl rfl rfl rfl (ao_nil ?_)
      change BW _ _ _ _ _
      refine bw_ret ?_
      change ∃ xs, _ = some xs ∧ EndOk _ _ _ _
      obtain rfl := Option.some.inj h
      exact ⟨_, rfl, endOk0 (y := (I64 x10)) (Wk.refl _) rfl ⟨rfl, rfl⟩⟩
     ·intro hc11; replace h := ocond_f hc11 h
      refine bw_skip ?_
      change BW _ _ _ _ _
      refine bw_region ?_
      refine sM rfl rfl rfl rfl rfl ?_
      refine sS rfl rfl rfl (op1_addW rfl rfl rfl) ?_
      refine sA rfl rfl rfl rfl rfl (ao_nil ?_)
      exact ⟨rfl, (IntKind.i64.wrap (s1 + 1)), h, ⟨.nil, (sC rfl (sC rfl (sC rfl sub_nil)))⟩⟩
   ·intro hc3; replace h := ocond_f hc3 h
    refine bw_exit ?_
    change BW _ _ _ _ _
    refine bR ?_
    refine sM rfl rfl rfl rfl rfl ?_
    refine sS rfl rfl rfl (op1_lenM Try.underlying27 rfl rfl) ?_
    refine sS rfl rfl rfl (op1_convI Try.underlying3 Try.underlying24 rfl rfl) ?_
    refine sM rfl rfl rfl rfl rfl ?_
    refine sS rfl rfl rfl (op1_lenM Try.underlying27 rfl rfl) ?_
    refine sS rfl rfl rfl (op1_convI Try.underlying3 Try.underlying24 rfl rfl) ?_
    obtain ⟨x12, hx12, h⟩ := obind h
    refine sS rfl rfl rfl (op1_pcall rfl en_77 rfl (.cons (Wk.refl _) (.cons (Wk.refl _) .nil)) ⟨rfl, ⟨rfl, trivial⟩⟩ (s_ref01_numbers (IntKind.u64.wrap (((a0).length : Nat) : Int)) (IntKind.u64.wrap (((a1).length : Nat) : Int)) x12 hx12) rfl) ?_
    refine sA rfl rfl rfl rfl rfl (ao_nil ?_)
    change BW _ _ _ _ _
    refine bw_ret ?_
    change ∃ xs, _ = some xs ∧ EndOk _ _ _ _
    obtain rfl := Option.some.inj h
    exact ⟨_, rfl, endOk0 (y := (I64 x12)) (Wk.refl _) rfl ⟨rfl, rfl⟩⟩
  ·refine bw_region ?_
   refine sM rfl rfl rfl rfl rfl ?_
   refine sM rfl rfl rfl rfl rfl ?_
   refine sS rfl rfl rfl (op1_lenM Try.underlying27 rfl rfl) ?_
   refine sS rfl rfl rfl ((op1_cmp rfl rfl rfl rfl).cast (y := (BO ((decide (s1 < (((a0).length : Nat) : Int)))))) rfl rfl) ?_
   refine sM rfl rfl rfl rfl rfl ?_
   refine ao_cases (t := 12) rfl ?_ ?_
   ·intro hb13; replace h := ocond_t hb13 h
    refine ao_yes rfl rfl rfl rfl rfl rfl (op1_move rfl rfl) ?_
    refine ao_yes rfl rfl rfl rfl rfl rfl (op1_move rfl rfl) ?_
    refine ao_yes rfl rfl rfl rfl rfl rfl (op1_lenM Try.underlying27 rfl rfl) ?_
    refine ao_yes rfl rfl rfl rfl rfl rfl ((op1_cmp rfl rfl rfl rfl).cast (y := (BO ((decide (s1 < (((a1).length : Nat) : Int)))))) rfl rfl) ?_
    refine sS rfl rfl rfl (op1_pickT rfl rfl rfl) (ao_nil ?_)
    exact ⟨rfl, (decide (s1 < (((a1).length : Nat) : Int))), h, ⟨.nil, (sC rfl (sC rfl (sC rfl (sC rfl sub_nil))))⟩⟩
   ·intro hb13; replace h := ocond_f hb13 h
    refine ao_no rfl rfl rfl rfl rfl rfl ?_
    refine ao_no rfl rfl rfl rfl rfl rfl ?_
    refine ao_no rfl rfl rfl rfl rfl rfl ?_
    refine ao_no rfl rfl rfl rfl rfl rfl ?_
    refine sS rfl rfl rfl (op1_pickF rfl rfl rfl) (ao_nil ?_)
    exact ⟨rfl, false, h, ⟨.nil, (sC rfl (sC rfl (sC rfl (sC rfl sub_nil))))⟩⟩
theorem t_ref01_Compare (r_ref01_fields : (List (Str × Term)) → (List (Str × Term)) → Option Int) (c_ref01_fields : ∀ (a0 : (List (Str × Term))) (a1 : (List (Str × Term))) r, r_ref01_fields a0 a1 = some r → PCalls Try.prog 81 [(PV.sl none 12 (List.map ofEntry a0)), (PV.sl none 12 (List.map ofEntry a1))] (I64 r)) (r_ref01_Compare : Term → Term → Option Int) (c_ref01_Compare : ∀ (a0 : Term) (a1 : Term) r, r_ref01_Compare a0 a1 = some r → PCalls Try.prog 46 [(ofTermX a0), (ofTermX a1)] (I64 r)) (a0 : Term) (a1 : Term) (r : Int) (h : b_ref01_Compare r_ref01_fields r_ref01_Compare a0 a1 = some r) : PCalls Try.prog 46 [(ofTermX a0), (ofTermX a1)] (I64 r) := by
 unfold b_ref01_Compare at h
 refine acalls_of Try.func46 rfl Try.ntmps46 Try.results46 rfl (aw_of_bw ?_)
 change BW _ _ _ ⟨[(0, (ofTermX a0)), (1, (ofTermX a1))], [], _⟩ _
 refine bR ?_
 refine sS rfl rfl rfl (op1_box rfl rfl rfl) ?_
 refine sS rfl rfl rfl (op1_box rfl rfl rfl) ?_
 refine sA rfl rfl rfl rfl rfl (ao_nil ?_)
 change BW _ _ _ _ _
 refine bw_seq ?_
 refine bR ?_
 refine sS rfl rfl rfl (op1_faR st_29 (i := 0) rfl rfl rfl) ?_
 refine sS rfl rfl rfl ((op1_ldR Try.underlying3 rfl rfl rfl rfl rfl)) ?_
 refine sS rfl rfl rfl (op1_faR st_29 (i := 0) rfl rfl rfl) ?_
 refine sS rfl rfl rfl ((op1_ldR Try.underlying3 rfl rfl rfl rfl rfl)) ?_
 refine sS rfl rfl rfl ((op1_cmp rfl rfl rfl rfl).cast (y := (BO ((a0.kind != a1.kind)))) rfl rfl) (ao_nil ?_)
 change BW _ _ _ _ _
 refine bw_cond rfl ?_ ?_
 ·intro hc1; replace h := ocond_t hc1 h
  refine bR ?_
  refine sS rfl rfl rfl (op1_faR st_29 (i := 0) rfl rfl rfl) ?_
  refine sS rfl rfl rfl ((op1_ldR Try.underlying3 rfl rfl rfl rfl rfl)) ?_
  refine sS rfl rfl rfl (op1_convI Try.underlying3 Try.underlying24 rfl rfl) ?_
  refine sS rfl rfl rfl (op1_faR st_29 (i := 0) rfl rfl rfl) ?_
  refine sS rfl rfl rfl ((op1_ldR Try.underlying3 rfl rfl rfl rfl rfl)) ?_
  refine sS rfl rfl rfl (op1_convI Try.underlying3 Try.underlying24 rfl rfl) ?_
  obtain ⟨x2, hx2, h⟩ := obind h
  refine sS rfl rfl rfl (op1_pcall rfl en_77 rfl (.cons (Wk.refl _) (.cons (Wk.refl _) .nil)) ⟨rfl, ⟨rfl, trivial⟩⟩ (s_ref01_numbers (IntKind.u64.wrap a0.kind) (IntKind.u64.wrap a1.kind) x2 hx2) rfl) ?_
  refine sA rfl rfl rfl rfl rfl (ao_nil ?_)
  change BW _ _ _ _ _
  refine bw_ret ?_
  change ∃ xs, _ = some xs ∧ EndOk _ _ _ _
  obtain rfl := Option.some.inj h
  exact ⟨_, rfl, endOk0 (y := (I64 x2)) (Wk.refl _) rfl ⟨rfl, rfl⟩⟩
 ·intro hc1; replace h := ocond_f hc1 h
  refine bw_skip ?_
  change BW _ _ _ _ _
  refine bw_seq ?_
  refine bR ?_
  refine sS rfl rfl rfl (op1_faR st_29 (i := 0) rfl rfl rfl) ?_
  refine sS rfl rfl rfl ((op1_ldR Try.underlying3 rfl rfl rfl rfl rfl)) (ao_nil ?_)
  change BW _ _ _ _ _
  refine bw_block ?_
  change BW _ _ _ _ _
  refine bR ?_
  refine sS rfl rfl rfl ((op1_cmp rfl rfl rfl rfl).cast (y := (BO ((a0.kind == 2)))) rfl rfl) ?_
  refine sA rfl rfl rfl rfl rfl (ao_nil ?_)
  change BW _ _ _ _ _
  refine bw_cond rfl ?_ ?_
  ·intro hc3; replace h := ocond_t hc3 h
   refine bw_seq (bw_tail 5 [] [0, 1] mo (by kernel_rfl) ?_)
   refine ac_go rfl rfl rfl rfl (fun H hp => op1_faR st_29 (i := 1) rfl rfl rfl) ?_
   refine ac_go rfl rfl rfl rfl (fun H hp => (op1_ldR Try.underlying4 rfl rfl rfl (hp.at rfl rfl) rfl)) ?_
   obtain ⟨x4, hx4, h⟩ := obind h
   refine ac_go rfl rfl rfl rfl (fun H hp => op1_pcall rfl en_78 rfl (.cons (Wk.refl _) .nil) ⟨rfl, trivial⟩ (s_ref01_flag a0.bool x4 hx4) rfl) ?_
   refine ac_go rfl rfl rfl rfl (fun H hp => op1_faR st_29 (i := 1) rfl rfl rfl) ?_
   refine ac_go rfl rfl rfl rfl (fun H hp => (op1_ldR Try.underlying4 rfl rfl rfl (hp.at rfl rfl) rfl)) ?_
   refine ac_nil ?_
   change AO _ _ _ _ _
   obtain ⟨x5, hx5, h⟩ := obind h
   refine sS rfl rfl rfl (op1_pcall rfl en_78 rfl (.cons (Wk.refl _) .nil) ⟨rfl, trivial⟩ (s_ref01_flag a1.bool x5 hx5) rfl) ?_
   obtain ⟨x6, hx6, h⟩ := obind h
   refine sS rfl rfl rfl (op1_pcall rfl en_77 rfl (.cons (Wk.refl _) (.cons (Wk.refl _) .nil)) ⟨rfl, ⟨rfl, trivial⟩⟩ (s_ref01_numbers x4 x5 x6 hx6) rfl) ?_
   refine sA rfl rfl rfl rfl rfl (ao_nil ?_)
   change BW _ _ _ _ _
   refine bw_ret ?_
   change ∃ xs, _ = some xs ∧ EndOk _ _ _ _
   obtain rfl := Option.some.inj h
   exact ⟨_, rfl, endOk0 (y := (I64 x6)) (Wk.refl _) rfl ⟨rfl, rfl⟩⟩
  ·intro hc3; replace h := ocond_f hc3 h
   refine bR ?_
   refine sS rfl rfl rfl ((op1_cmp rfl rfl rfl rfl).cast (y := (BO ((a0.kind == 3)))) rfl rfl) ?_
   refine sA rfl rfl rfl rfl rfl (ao_nil ?_)
   change BW _ _ _ _ _
   refine bw_cond rfl ?_ ?_
   ·intro hc7; replace h := ocond_t hc7 h
    refine bR ?_
    refine sS rfl rfl rfl (op1_faR st_29 (i := 2) rfl rfl rfl) ?_
    refine sS rfl rfl rfl ((op1_ldR Try.underlying2 rfl rfl rfl rfl rfl)) ?_
    refine sS rfl rfl rfl (op1_convI Try.underlying2 Try.underlying24 rfl rfl) ?_
    refine sS rfl rfl rfl (op1_addW rfl rfl rfl) ?_
    refine sS rfl rfl rfl (op1_faR st_29 (i := 2) rfl rfl rfl) ?_
    refine sS rfl rfl rfl ((op1_ldR Try.underlying2 rfl rfl rfl rfl rfl)) ?_
    refine sS rfl rfl rfl (op1_convI Try.underlying2 Try.underlying24 rfl rfl) ?_
    refine sS rfl rfl rfl (op1_addW rfl rfl rfl) ?_
    obtain ⟨x8, hx8, h⟩ := obind h
    refine sS rfl rfl rfl (op1_pcall rfl en_77 rfl (.cons (Wk.refl _) (.cons (Wk.refl _) .nil)) ⟨rfl, ⟨rfl, trivial⟩⟩ (s_ref01_numbers (IntKind.u64.wrap ((IntKind.u64.wrap a0.int) + 9223372036854775808)) (IntKind.u64.wrap ((IntKind.u64.wrap a1.int) + 9223372036854775808)) x8 hx8) rfl) ?_
    refine sA rfl rfl rfl rfl rfl (ao_nil ?_)
    change BW _ _ _ _ _
    refine bw_ret ?_
    change ∃ xs, _ = some xs ∧ EndOk _ _ _ _
    obtain rfl := Option.some.inj h
    exact ⟨_, rfl, endOk0 (y := (I64 x8)) (Wk.refl _) rfl ⟨rfl, rfl⟩⟩
   ·intro hc7; replace h := ocond_f hc7 h
    refine bR ?_
    refine sS rfl rfl rfl ((op1_cmp rfl rfl rfl rfl).cast (y := (BO ((a0.kind == 4)))) rfl rfl) ?_
    refine sA rfl rfl rfl rfl rfl (ao_nil ?_)
    change BW _ _ _ _ _
    refine bw_cond rfl ?_ ?_
    ·intro hc9; replace h := ocond_t hc9 h
     refine bw_seq (bw_tail 5 [] [0, 1] mo (by kernel_rfl) ?_)
     refine ac_go rfl rfl rfl rfl (fun H hp => op1_faR st_29 (i := 3) rfl rfl rfl) ?_
     refine ac_go rfl rfl rfl rfl (fun H hp => (op1_ldR Try.underlying22 rfl rfl rfl (hp.at rfl rfl) rfl)) ?_
     obtain ⟨x10, hx10, h⟩ := obind h
     refine ac_go rfl rfl rfl rfl (fun H hp => op1_pcall rfl en_79 rfl (.cons (Wk.refl _) .nil) ⟨rfl, trivial⟩ (s_ref01_place a0.float x10 hx10) rfl) ?_
     refine ac_go rfl rfl rfl rfl (fun H hp => op1_faR st_29 (i := 3) rfl rfl rfl) ?_
     refine ac_go rfl rfl rfl rfl (fun H hp => (op1_ldR Try.underlying22 rfl rfl rfl (hp.at rfl rfl) rfl)) ?_
     refine ac_nil ?_
     change AO _ _ _ _ _
     obtain ⟨x11, hx11, h⟩ := obind h
     refine sS rfl rfl rfl (op1_pcall rfl en_79 rfl (.cons (Wk.refl _) .nil) ⟨rfl, trivial⟩ (s_ref01_place a1.float x11 hx11) rfl) ?_
     obtain ⟨x12, hx12, h⟩ := obind h
     refine sS rfl rfl rfl (op1_pcall rfl en_77 rfl (.cons (Wk.refl _) (.cons (Wk.refl _) .nil)) ⟨rfl, ⟨rfl, trivial⟩⟩ (s_ref01_numbers x10 x11 x12 hx12) rfl) ?_
     refine sA rfl rfl rfl rfl rfl (ao_nil ?_)
     change BW _ _ _ _ _
     refine bw_ret ?_
     change ∃ xs, _ = some xs ∧ EndOk _ _ _ _
     obtain rfl := Option.some.inj h
     exact ⟨_, rfl, endOk0 (y := (I64 x12)) (Wk.refl _) rfl ⟨rfl, rfl⟩⟩
    ·intro hc9; replace h := ocond_f hc9 h
     refine bR ?_
     refine sS rfl rfl rfl ((op1_cmp rfl rfl rfl rfl).cast (y := (BO ((a0.kind == 5)))) rfl rfl) ?_
     refine sA rfl rfl rfl rfl rfl (ao_nil ?_)
     change BW _ _ _ _ _
     refine bw_cond rfl ?_ ?_
     ·intro hc13; replace h := ocond_t hc13 h
      refine bR ?_
      refine sS rfl rfl rfl (op1_faR st_29 (i := 4) rfl rfl rfl) ?_
      refine sS rfl rfl rfl ((op1_ldR Try.underlying9 rfl rfl rfl rfl rfl)) ?_
      refine sS rfl rfl rfl (op1_faR st_29 (i := 4) rfl rfl rfl) ?_
      refine sS rfl rfl rfl ((op1_ldR Try.underlying9 rfl rfl rfl rfl rfl)) ?_
      obtain ⟨x14, hx14, h⟩ := obind h
      refine sS rfl rfl rfl (op1_pcall rfl en_80 rfl (.cons (Wk.refl _) (.cons (Wk.refl _) .nil)) ⟨rfl, ⟨rfl, trivial⟩⟩ (s_ref01_texts a0.text a1.text x14 hx14) rfl) ?_
      refine sA rfl rfl rfl rfl rfl (ao_nil ?_)
      change BW _ _ _ _ _
      refine bw_ret ?_
      change ∃ xs, _ = some xs ∧ EndOk _ _ _ _
      obtain rfl := Option.some.inj h
      exact ⟨_, rfl, endOk0 (y := (I64 x14)) (Wk.refl _) rfl ⟨rfl, rfl⟩⟩
     ·intro hc13; replace h := ocond_f hc13 h
      refine bR ?_
      refine sS rfl rfl rfl ((op1_cmp rfl rfl rfl rfl).cast (y := (BO ((a0.kind == 6)))) rfl rfl) ?_
      refine sA rfl rfl rfl rfl rfl (ao_nil ?_)
      change BW _ _ _ _ _
      refine bw_cond rfl ?_ ?_
      ·intro hc15; replace h := ocond_t hc15 h
       refine bR ?_
       refine sS rfl rfl rfl (op1_faR st_29 (i := 5) rfl rfl rfl) ?_
       refine sS rfl rfl rfl ((op1_ldR Try.underlying23 rfl rfl rfl rfl rfl)) ?_
       refine sS rfl rfl rfl (op1_toT Try.underlying23 Try.underlying9 Try.underlying5 rfl rfl) ?_
       refine sS rfl rfl rfl (op1_faR st_29 (i := 5) rfl rfl rfl) ?_
       refine sS rfl rfl rfl ((op1_ldR Try.underlying23 rfl rfl rfl rfl rfl)) ?_
       refine sS rfl rfl rfl (op1_toT Try.underlying23 Try.underlying9 Try.underlying5 rfl rfl) ?_
       obtain ⟨x16, hx16, h⟩ := obind h
       refine sS rfl rfl rfl (op1_pcall rfl en_80 rfl (.cons (Wk.refl _) (.cons (Wk.refl _) .nil)) ⟨rfl, ⟨rfl, trivial⟩⟩ (s_ref01_texts a0.bytes a1.bytes x16 hx16) rfl) ?_
       refine sA rfl rfl rfl rfl rfl (ao_nil ?_)
       change BW _ _ _ _ _
       refine bw_ret ?_
       change ∃ xs, _ = some xs ∧ EndOk _ _ _ _
       obtain rfl := Option.some.inj h
       exact ⟨_, rfl, endOk0 (y := (I64 x16)) (Wk.refl _) rfl ⟨rfl, rfl⟩⟩
      ·intro hc15; replace h := ocond_f hc15 h
       refine bR ?_
       refine sS rfl rfl rfl ((op1_cmp rfl rfl rfl rfl).cast (y := (BO ((a0.kind == 7)))) rfl rfl) ?_
       refine sA rfl rfl rfl rfl rfl (ao_nil ?_)
       change BW _ _ _ _ _
       refine bw_cond rfl ?_ ?_
       ·intro hc17; replace h := ocond_t hc17 h
        refine bR ?_
        refine sS rfl rfl rfl (op1_faR st_29 (i := 6) rfl rfl rfl) ?_
        refine sS rfl rfl rfl ((op1_ldR Try.underlying25 rfl rfl rfl rfl rfl)) ?_
        refine sS rfl rfl rfl (op1_faR st_29 (i := 6) rfl rfl rfl) ?_
        refine sS rfl rfl rfl ((op1_ldR Try.underlying25 rfl rfl rfl rfl rfl)) ?_
        obtain ⟨x18, hx18, h⟩ := obind h
        refine sS rfl rfl rfl (op1_pcall rfl en_77 rfl (.cons (Wk.refl _) (.cons (Wk.refl _) .nil)) ⟨rfl, ⟨rfl, trivial⟩⟩ (s_ref01_numbers a0.ref a1.ref x18 hx18) rfl) ?_
        refine sA rfl rfl rfl rfl rfl (ao_nil ?_)
        change BW _ _ _ _ _
        refine bw_ret ?_
        change ∃ xs, _ = some xs ∧ EndOk _ _ _ _
        obtain rfl := Option.some.inj h
        exact ⟨_, rfl, endOk0 (y := (I64 x18)) (Wk.refl _) rfl ⟨rfl, rfl⟩⟩
       ·intro hc17; replace h := ocond_f hc17 h
        refine bR ?_
        refine sS rfl rfl rfl ((op1_cmp rfl rfl rfl rfl).cast (y := (BO ((a0.kind == 8)))) rfl rfl) ?_
        refine sA rfl rfl rfl rfl rfl (ao_nil ?_)
        change BW _ _ _ _ _
        refine bw_cond rfl ?_ ?_
        ·intro hc19; replace h := ocond_t hc19 h
         refine bw_seq ?_
         refine bR ?_
         refine sA rfl rfl rfl rfl rfl (ao_nil ?_)
         change BW _ _ _ _ _
         refine bw_block ?_
         change BW _ _ _ _ _
         unfold ref01_Compare_l1 at h
         refine bw_loop (σ := Int) (fun i => [(2, (PV.rf 0 0)), (3, (PV.rf 1 0)), (5, (I64 i))]) (fun i => [.box 29 [(I64 a0.kind), (BO a0.bool), (I64 a0.int), (PV.v (.float .f64 a0.float)), (ofStr a0.text), (PV.sl none 1 (List.map ofB a0.bytes)), (PV.v (.int .u64 a0.ref)), (PV.sl none 11 (List.map ofTerm a0.list)), (PV.sl none 12 (List.map ofEntry a0.fields)), (ofStr a0.cls), (I64 a0.ver)], .box 29 [(I64 a1.kind), (BO a1.bool), (I64 a1.int), (PV.v (.float .f64 a1.float)), (ofStr a1.text), (PV.sl none 1 (List.map ofB a1.bytes)), (PV.v (.int .u64 a1.ref)), (PV.sl none 11 (List.map ofTerm a1.list)), (PV.sl none 12 (List.map ofEntry a1.fields)), (ofStr a1.cls), (I64 a1.ver)]]) 0 h ?_ ?_ ?_
         ·intro i; exact ⟨Nat.le_of_ble_eq_true rfl, ⟨(il_rf rfl), ⟨(il_rf rfl), ⟨(il_nil rfl), trivial⟩⟩⟩, ⟨⟨(il_nil rfl), ⟨(il_nil rfl), ⟨(il_nil rfl), ⟨(il_nil rfl), ⟨(il_nil rfl), ⟨(il_nil (ids_slM (fun _ => rfl) _)), ⟨(il_nil rfl), ⟨(il_nil (ids_slM ids_Term _)), ⟨(il_nil (ids_slM ids_Entry _)), ⟨(il_nil rfl), ⟨(il_nil rfl), trivial⟩⟩⟩⟩⟩⟩⟩⟩⟩⟩⟩, ⟨⟨(il_nil rfl), ⟨(il_nil rfl), ⟨(il_nil rfl), ⟨(il_nil rfl), ⟨(il_nil rfl), ⟨(il_nil (ids_slM (fun _ => rfl) _)), ⟨(il_nil rfl), ⟨(il_nil (ids_slM ids_Term _)), ⟨(il_nil (ids_slM ids_Entry _)), ⟨(il_nil rfl), ⟨(il_nil rfl), trivial⟩⟩⟩⟩⟩⟩⟩⟩⟩⟩⟩, trivial⟩⟩⟩
         ·exact ⟨(.cons .same (.cons .same .nil)), (sC rfl (sC rfl (sC rfl sub_nil)))⟩
         ·rintro g1_f s20 h; replace h : ref01_Compare_l1b r_ref01_Compare a0 a1 (fun y0 => g1_f y0) s20 = some r := h; unfold ref01_Compare_l1b at h
          change BW _ _ _ ⟨[(2, (PV.rf 0 0)), (3, (PV.rf 1 0)), (5, (I64 s20))], [.box 29 [(I64 a0.kind), (BO a0.bool), (I64 a0.int), (PV.v (.float .f64 a0.float)), (ofStr a0.text), (PV.sl none 1 (List.map ofB a0.bytes)), (PV.v (.int .u64 a0.ref)), (PV.sl none 11 (List.map ofTerm a0.list)), (PV.sl none 12 (List.map ofEntry a0.fields)), (ofStr a0.cls), (I64 a0.ver)], .box 29 [(I64 a1.kind), (BO a1.bool), (I64 a1.int), (PV.v (.float .f64 a1.float)), (ofStr a1.text), (PV.sl none 1 (List.map ofB a1.bytes)), (PV.v (.int .u64 a1.ref)), (PV.sl none 11 (List.map ofTerm a1.list)), (PV.sl none 12 (List.map ofEntry a1.fields)), (ofStr a1.cls), (I64 a1.ver)]], _⟩ _
          refine bw_seq ?_
          refine bw_seqJ (ι := Bool) (fun i => ref01_Compare_j1 r_ref01_Compare (fun y0 => g1_f y0) a0 a1 s20 i = some r) (fun i => [(2, (PV.rf 0 0)), (3, (PV.rf 1 0)), (5, (I64 s20)), (87, (BO i))]) (fun i => [.box 29 [(I64 a0.kind), (BO a0.bool), (I64 a0.int), (PV.v (.float .f64 a0.float)), (ofStr a0.text), (PV.sl none 1 (List.map ofB a0.bytes)), (PV.v (.int .u64 a0.ref)), (PV.sl none 11 (List.map ofTerm a0.list)), (PV.sl none 12 (List.map ofEntry a0.fields)), (ofStr a0.cls), (I64 a0.ver)], .box 29 [(I64 a1.kind), (BO a1.bool), (I64 a1.int), (PV.v (.float .f64 a1.float)), (ofStr a1.text), (PV.sl none 1 (List.map ofB a1.bytes)), (PV.v (.int .u64 a1.ref)), (PV.sl none 11 (List.map ofTerm a1.list)), (PV.sl none 12 (List.map ofEntry a1.fields)), (ofStr a1.cls), (I64 a1.ver)]]) ?_ ?_ ?_
          ·intro i; exact ⟨Nat.le_of_ble_eq_true rfl, ⟨(il_rf rfl), ⟨(il_rf rfl), ⟨(il_nil rfl), ⟨(il_nil rfl), trivial⟩⟩⟩⟩, ⟨⟨(il_nil rfl), ⟨(il_nil rfl), ⟨(il_nil rfl), ⟨(il_nil rfl), ⟨(il_nil rfl), ⟨(il_nil (ids_slM (fun _ => rfl) _)), ⟨(il_nil rfl), ⟨(il_nil (ids_slM ids_Term _)), ⟨(il_nil (ids_slM ids_Entry _)), ⟨(il_nil rfl), ⟨(il_nil rfl), trivial⟩⟩⟩⟩⟩⟩⟩⟩⟩⟩⟩, ⟨⟨(il_nil rfl), ⟨(il_nil rfl), ⟨(il_nil rfl), ⟨(il_nil rfl), ⟨(il_nil rfl), ⟨(il_nil (ids_slM (fun _ => rfl) _)), ⟨(il_nil rfl), ⟨(il_nil (ids_slM ids_Term _)), ⟨(il_nil (ids_slM ids_Entry _)), ⟨(il_nil rfl), ⟨(il_nil rfl), trivial⟩⟩⟩⟩⟩⟩⟩⟩⟩⟩⟩, trivial⟩⟩⟩
          ·rintro s21 h; replace h : ref01_Compare_j1 r_ref01_Compare (fun y0 => g1_f y0) a0 a1 s20 s21 = some r := h; unfold ref01_Compare_j1 at h
           change BW _ _ _ ⟨[(2, (PV.rf 0 0)), (3, (PV.rf 1 0)), (5, (I64 s20)), (87, (BO s21))], [.box 29 [(I64 a0.kind), (BO a0.bool), (I64 a0.int), (PV.v (.float .f64 a0.float)), (ofStr a0.text), (PV.sl none 1 (List.map ofB a0.bytes)), (PV.v (.int .u64 a0.ref)), (PV.sl none 11 (List.map ofTerm a0.list)), (PV.sl none 12 (List.map ofEntry a0.fields)), (ofStr a0.cls), (I64 a0.ver)], .box 29 [(I64 a1.kind), (BO a1.bool), (I64 a1.int), (PV.v (.float .f64 a1.float)), (ofStr a1.text), (PV.sl none 1 (List.map ofB a1.bytes)), (PV.v (.int .u64 a1.ref)), (PV.sl none 11 (List.map ofTerm a1.list)), (PV.sl none 12 (List.map ofEntry a1.fields)), (ofStr a1.cls), (I64 a1.ver)]], _⟩ _
           refine bw_cond rfl ?_ ?_
           ·intro hc22; replace h := ocond_t hc22 h
            refine bw_skip ?_
            change BW _ _ _ _ _
            refine bw_seq ?_
            refine bw_block ?_
            change BW _ _ _ _ _
            refine bw_seq (bw_tail 10 [] [0, 1] mo (by kernel_rfl) ?_)
            refine ac_go rfl rfl rfl rfl (fun H hp => op1_faR st_29 (i := 7) rfl rfl rfl) ?_
            refine ac_go rfl rfl rfl rfl (fun H hp => (op1_ldR Try.underlying26 rfl rfl rfl (hp.at rfl rfl) rfl)) ?_
            refine ac_go rfl rfl rfl rfl (fun H hp => op1_move rfl rfl) ?_
            obtain ⟨x23, hx23, h⟩ := obind h
            refine ac_go rfl rfl rfl rfl (fun H hp => op1_idxM Try.underlying26 inf_29 rfl rfl rfl hx23 (ofTerm_eq _)) ?_
            refine ac_go rfl rfl rfl rfl (fun H hp => op1_ldPW inf_29 Try.underlying29 rfl rfl rfl rfl rfl) ?_
            refine ac_go rfl rfl rfl rfl (fun H hp => op1_faR st_29 (i := 7) rfl rfl rfl) ?_
            refine ac_go rfl rfl rfl rfl (fun H hp => (op1_ldR Try.underlying26 rfl rfl rfl (hp.at rfl rfl) rfl)) ?_
            refine ac_go rfl rfl rfl rfl (fun H hp => op1_move rfl rfl) ?_
            obtain ⟨x24, hx24, h⟩ := obind h
            refine ac_go rfl rfl rfl rfl (fun H hp => op1_idxM Try.underlying26 inf_29 rfl rfl rfl hx24 (ofTerm_eq _)) ?_
            refine ac_go rfl rfl rfl rfl (fun H hp => op1_ldPW inf_29 Try.underlying29 rfl rfl rfl rfl rfl) ?_
            refine ac_nil ?_
            change AO _ _ _ _ _
            obtain ⟨x25, hx25, h⟩ := obind h
            refine sS rfl rfl rfl (op1_pcall rfl en_46 rfl (.cons (Wk.refl _) (.cons (Wk.refl _) .nil)) ⟨(ids_TermX x23), ⟨(ids_TermX x24), trivial⟩⟩ (c_ref01_Compare x23 x24 x25 hx25) rfl) ?_
            refine sA rfl rfl rfl rfl rfl (ao_nil ?_)
            change BW _ _ _ _ _
            refine bR ?_
            refine sM rfl rfl rfl rfl rfl ?_
            refine sS rfl rfl rfl ((op1_cmp rfl rfl rfl rfl).cast (y := (BO ((x25 != 0)))) rfl rfl) (ao_nil ?_)
            change BW _ _ _ _ _
            refine bw_cond rfl ?_ ?_
            ·intro hc26; replace h := ocond_t hc26 h
             refine bR ?_
             refine sM rfl rfl rfl rfl rfl ?_
             refine sA rfl rfl rfl rfl rfl (ao_nil ?_)
             change BW _ _ _ _ _
             refine bw_ret ?_
             change ∃ xs, _ = some xs ∧ EndOk _ _ _ _
             obtain rfl := Option.some.inj h
             exact ⟨_, rfl, endOk0 (y := (I64 x25)) (Wk.refl _) rfl ⟨rfl, rfl⟩⟩
            ·intro hc26; replace h := ocond_f hc26 h
             refine bw_skip ?_
             change BW _ _ _ _ _
             refine bw_region ?_
             refine sM rfl rfl rfl rfl rfl ?_
             refine sS rfl rfl rfl (op1_addW rfl rfl rfl) ?_
             refine sA rfl rfl rfl rfl rfl (ao_nil ?_)
             exact ⟨rfl, (IntKind.i64.wrap (s20 + 1)), h, ⟨(.cons .same (.cons .same .nil)), (sC rfl (sC rfl (sC rfl sub_nil)))⟩⟩
           ·intro hc22; replace h := ocond_f hc22 h
            refine bw_exit ?_
            change BW _ _ _ _ _
            refine bR ?_
            refine sS rfl rfl rfl (op1_faR st_29 (i := 7) rfl rfl rfl) ?_
            refine sS rfl rfl rfl ((op1_ldR Try.underlying26 rfl rfl rfl rfl rfl)) ?_
            refine sS rfl rfl rfl (op1_lenM Try.underlying26 rfl rfl) ?_
            refine sS rfl rfl rfl (op1_convI Try.underlying3 Try.underlying24 rfl rfl) ?_
            refine sS rfl rfl rfl (op1_faR st_29 (i := 7) rfl rfl rfl) ?_
            refine sS rfl rfl rfl ((op1_ldR Try.underlying26 rfl rfl rfl rfl rfl)) ?_
            refine sS rfl rfl rfl (op1_lenM Try.underlying26 rfl rfl) ?_
            refine sS rfl rfl rfl (op1_convI Try.underlying3 Try.underlying24 rfl rfl) ?_
            obtain ⟨x27, hx27, h⟩ := obind h
            refine sS rfl rfl rfl (op1_pcall rfl en_77 rfl (.cons (Wk.refl _) (.cons (Wk.refl _) .nil)) ⟨rfl, ⟨rfl, trivial⟩⟩ (s_ref01_numbers (IntKind.u64.wrap (((a0.list).length : Nat) : Int)) (IntKind.u64.wrap (((a1.list).length : Nat) : Int)) x27 hx27) rfl) ?_
            refine sA rfl rfl rfl rfl rfl (ao_nil ?_)
            change BW _ _ _ _ _
            refine bw_ret ?_
            change ∃ xs, _ = some xs ∧ EndOk _ _ _ _
            obtain rfl := Option.some.inj h
            exact ⟨_, rfl, endOk0 (y := (I64 x27)) (Wk.refl _) rfl ⟨rfl, rfl⟩⟩
          ·refine bw_region ?_
           refine sM rfl rfl rfl rfl rfl ?_
           refine sS rfl rfl rfl (op1_faR st_29 (i := 7) rfl rfl rfl) ?_
           refine sS rfl rfl rfl ((op1_ldR Try.underlying26 rfl rfl rfl rfl rfl)) ?_
           refine sS rfl rfl rfl (op1_lenM Try.underlying26 rfl rfl) ?_
           refine sS rfl rfl rfl ((op1_cmp rfl rfl rfl rfl).cast (y := (BO ((decide (s20 < (((a0.list).length : Nat) : Int)))))) rfl rfl) ?_
           refine sM rfl rfl rfl rfl rfl ?_
           refine ao_cases (t := 81) rfl ?_ ?_
           ·intro hb28; replace h := ocond_t hb28 h
            refine ao_yes rfl rfl rfl rfl rfl rfl (op1_move rfl rfl) ?_
            refine ao_yes rfl rfl rfl rfl rfl rfl (op1_faR st_29 (i := 7) rfl rfl rfl) ?_
            refine ao_yes rfl rfl rfl rfl rfl rfl ((op1_ldR Try.underlying26 rfl rfl rfl rfl rfl)) ?_
            refine ao_yes rfl rfl rfl rfl rfl rfl (op1_lenM Try.underlying26 rfl rfl) ?_
            refine ao_yes rfl rfl rfl rfl rfl rfl ((op1_cmp rfl rfl rfl rfl).cast (y := (BO ((decide (s20 < (((a1.list).length : Nat) : Int)))))) rfl rfl) ?_
            refine sS rfl rfl rfl (op1_pickT rfl rfl rfl) (ao_nil ?_)
            exact ⟨rfl, (decide (s20 < (((a1.list).length : Nat) : Int))), h, ⟨(.cons .same (.cons .same .nil)), (sC rfl (sC rfl (sC rfl (sC rfl sub_nil))))⟩⟩
           ·intro hb28; replace h := ocond_f hb28 h
            refine ao_no rfl rfl rfl rfl rfl rfl ?_
            refine ao_no rfl rfl rfl rfl rfl rfl ?_
            refine ao_no rfl rfl rfl rfl rfl rfl ?_
            refine ao_no rfl rfl rfl rfl rfl rfl ?_
            refine ao_no rfl rfl rfl rfl rfl rfl ?_
            refine sS rfl rfl rfl (op1_pickF rfl rfl rfl) (ao_nil ?_)
            exact ⟨rfl, false, h, ⟨(.cons .same (.cons .same .nil)), (sC rfl (sC rfl (sC rfl (sC rfl sub_nil))))⟩⟩
        ·intro hc19; replace h := ocond_f hc19 h
         refine bR ?_
         refine sS rfl rfl rfl ((op1_cmp rfl rfl rfl rfl).cast (y := (BO ((a0.kind == 9)))) rfl rfl) ?_
         refine sA rfl rfl rfl rfl rfl (ao_nil ?_)
         change BW _ _ _ _ _
         refine bw_cond rfl ?_ ?_
         ·intro hc29; replace h := ocond_t hc29 h
          refine bR ?_
          refine sS rfl rfl rfl (op1_faR st_29 (i := 8) rfl rfl rfl) ?_
          refine sS rfl rfl rfl ((op1_ldR Try.underlying27 rfl rfl rfl rfl rfl)) ?_
          refine sS rfl rfl rfl (op1_faR st_29 (i := 8) rfl rfl rfl) ?_
          refine sS rfl rfl rfl ((op1_ldR Try.underlying27 rfl rfl rfl rfl rfl)) ?_
          obtain ⟨x30, hx30, h⟩ := obind h
          refine sS rfl rfl rfl (op1_pcall rfl en_81 rfl (.cons (Wk.refl _) (.cons (Wk.refl _) .nil)) ⟨(ids_slM ids_Entry a0.fields), ⟨(ids_slM ids_Entry a1.fields), trivial⟩⟩ (c_ref01_fields a0.fields a1.fields x30 hx30) rfl) ?_
          refine sA rfl rfl rfl rfl rfl (ao_nil ?_)
          change BW _ _ _ _ _
          refine bw_ret ?_
          change ∃ xs, _ = some xs ∧ EndOk _ _ _ _
          obtain rfl := Option.some.inj h
          exact ⟨_, rfl, endOk0 (y := (I64 x30)) (Wk.refl _) rfl ⟨rfl, rfl⟩⟩
         ·intro hc29; replace h := ocond_f hc29 h
          refine bR ?_
          refine sS rfl rfl rfl ((op1_cmp rfl rfl rfl rfl).cast (y := (BO ((a0.kind == 10)))) rfl rfl) ?_
          refine sA rfl rfl rfl rfl rfl (ao_nil ?_)
          change BW _ _ _ _ _
          refine bw_cond rfl ?_ ?_
          ·intro hc31; replace h := ocond_t hc31 h
           refine bw_seq ?_
           refine bR ?_
           refine sS rfl rfl rfl (op1_faR st_29 (i := 9) rfl rfl rfl) ?_
           refine sS rfl rfl rfl ((op1_ldR Try.underlying9 rfl rfl rfl rfl rfl)) ?_
           refine sS rfl rfl rfl (op1_faR st_29 (i := 9) rfl rfl rfl) ?_
           refine sS rfl rfl rfl ((op1_ldR Try.underlying9 rfl rfl rfl rfl rfl)) ?_
           obtain ⟨x32, hx32, h⟩ := obind h
           refine sS rfl rfl rfl (op1_pcall rfl en_80 rfl (.cons (Wk.refl _) (.cons (Wk.refl _) .nil)) ⟨rfl, ⟨rfl, trivial⟩⟩ (s_ref01_texts a0.cls a1.cls x32 hx32) rfl) ?_
           refine sA rfl rfl rfl rfl rfl (ao_nil ?_)
           change BW _ _ _ _ _
           refine bR ?_
           refine sM rfl rfl rfl rfl rfl ?_
           refine sS rfl rfl rfl ((op1_cmp rfl rfl rfl rfl).cast (y := (BO ((x32 != 0)))) rfl rfl) (ao_nil ?_)
           change BW _ _ _ _ _
           refine bw_cond rfl ?_ ?_
           ·intro hc33; replace h := ocond_t hc33 h
            refine bR ?_
            refine sM rfl rfl rfl rfl rfl ?_
            refine sA rfl rfl rfl rfl rfl (ao_nil ?_)
            change BW _ _ _ _ _
            refine bw_ret ?_
            change ∃ xs, _ = some xs ∧ EndOk _ _ _ _
            obtain rfl := Option.some.inj h
            exact ⟨_, rfl, endOk0 (y := (I64 x32)) (Wk.refl _) rfl ⟨rfl, rfl⟩⟩
           ·intro hc33; replace h := ocond_f hc33 h
            refine bw_skip ?_
            change BW _ _ _ _ _
            refine bw_seq ?_
            refine bR ?_
            refine sS rfl rfl rfl (op1_faR st_29 (i := 10) rfl rfl rfl) ?_
            refine sS rfl rfl rfl ((op1_ldR Try.underlying3 rfl rfl rfl rfl rfl)) ?_
            refine sS rfl rfl rfl (op1_faR st_29 (i := 10) rfl rfl rfl) ?_
            refine sS rfl rfl rfl ((op1_ldR Try.underlying3 rfl rfl rfl rfl rfl)) ?_
            refine sS rfl rfl rfl ((op1_cmp rfl rfl rfl rfl).cast (y := (BO ((a0.ver != a1.ver)))) rfl rfl) (ao_nil ?_)
            change BW _ _ _ _ _
            refine bw_cond rfl ?_ ?_
            ·intro hc34; replace h := ocond_t hc34 h
             refine bR ?_
             refine sS rfl rfl rfl (op1_faR st_29 (i := 10) rfl rfl rfl) ?_
             refine sS rfl rfl rfl ((op1_ldR Try.underlying3 rfl rfl rfl rfl rfl)) ?_
             refine sS rfl rfl rfl (op1_convI Try.underlying3 Try.underlying24 rfl rfl) ?_
             refine sS rfl rfl rfl (op1_faR st_29 (i := 10) rfl rfl rfl) ?_
             refine sS rfl rfl rfl ((op1_ldR Try.underlying3 rfl rfl rfl rfl rfl)) ?_
             refine sS rfl rfl rfl (op1_convI Try.underlying3 Try.underlying24 rfl rfl) ?_
             obtain ⟨x35, hx35, h⟩ := obind h
             refine sS rfl rfl rfl (op1_pcall rfl en_77 rfl (.cons (Wk.refl _) (.cons (Wk.refl _) .nil)) ⟨rfl, ⟨rfl, trivial⟩⟩ (s_ref01_numbers (IntKind.u64.wrap a0.ver) (IntKind.u64.wrap a1.ver) x35 hx35) rfl) ?_
             refine sA rfl rfl rfl rfl rfl (ao_nil ?_)
             change BW _ _ _ _ _
             refine bw_ret ?_
             change ∃ xs, _ = some xs ∧ EndOk _ _ _ _
             obtain rfl := Option.some.inj h
             exact ⟨_, rfl, endOk0 (y := (I64 x35)) (Wk.refl _) rfl ⟨rfl, rfl⟩⟩
            ·intro hc34; replace h := ocond_f hc34 h
             refine bw_skip ?_
             change BW _ _ _ _ _
             refine bR ?_
             refine sS rfl rfl rfl (op1_faR st_29 (i := 8) rfl rfl rfl) ?_
             refine sS rfl rfl rfl ((op1_ldR Try.underlying27 rfl rfl rfl rfl rfl)) ?_
             refine sS rfl rfl rfl (op1_faR st_29 (i := 8) rfl rfl rfl) ?_
             refine sS rfl rfl rfl ((op1_ldR Try.underlying27 rfl rfl rfl rfl rfl)) ?_
             obtain ⟨x36, hx36, h⟩ := obind h
             refine sS rfl rfl rfl (op1_pcall rfl en_81 rfl (.cons (Wk.refl _) (.cons (Wk.refl _) .nil)) ⟨(ids_slM ids_Entry a0.fields), ⟨(ids_slM ids_Entry a1.fields), trivial⟩⟩ (c_ref01_fields a0.fields a1.fields x36 hx36) rfl) ?_
             refine sA rfl rfl rfl rfl rfl (ao_nil ?_)
             change BW _ _ _ _ _
             refine bw_ret ?_
             change ∃ xs, _ = some xs ∧ EndOk _ _ _ _
             obtain rfl := Option.some.inj h
             exact ⟨_, rfl, endOk0 (y := (I64 x36)) (Wk.refl _) rfl ⟨rfl, rfl⟩⟩
          ·intro hc31; replace h := ocond_f hc31 h
           refine bw_skip ?_
           change BW _ _ _ _ _
           refine bR ?_
           refine sA rfl rfl rfl rfl rfl (ao_nil ?_)
           change BW _ _ _ _ _
           refine bw_ret ?_
           change ∃ xs, _ = some xs ∧ EndOk _ _ _ _
           obtain rfl := Option.some.inj h
           exact ⟨_, rfl, endOk0 (y := (I64 0)) (Wk.refl _) rfl ⟨rfl, rfl⟩⟩
theorem C_ref01_fields.sound : ∀ (i : C_ref01_fields) (r : i.R), fixO C_ref01_fields.F i = some r → C_ref01_fields.Q i r := by
 refine fixO_ind (Φ := C_ref01_fields.F) (Q := C_ref01_fields.Q) ?_
 intro g hg i r h
 cases i with
 | k_ref01_fields a0 a1 => exact t_ref01_fields (fun a0 a1 => g (.k_ref01_fields a0 a1)) (fun a0 a1 r hr => hg (.k_ref01_fields a0 a1) r hr) (fun a0 a1 => g (.k_ref01_Compare a0 a1)) (fun a0 a1 r hr => hg (.k_ref01_Compare a0 a1) r hr) a0 a1 r h
 | k_ref01_Compare a0 a1 => exact t_ref01_Compare (fun a0 a1 => g (.k_ref01_fields a0 a1)) (fun a0 a1 r hr => hg (.k_ref01_fields a0 a1) r hr) (fun a0 a1 => g (.k_ref01_Compare a0 a1)) (fun a0 a1 r hr => hg (.k_ref01_Compare a0 a1) r hr) a0 a1 r h
theorem s_ref01_fields (a0 : (List (Str × Term))) (a1 : (List (Str × Term))) (r : Int) (h : p_ref01_fields a0 a1 = some r) : PCalls Try.prog 81 [(PV.sl none 12 (List.map ofEntry a0)), (PV.sl none 12 (List.map ofEntry a1))] (I64 r) := C_ref01_fields.sound (.k_ref01_fields a0 a1) r h
theorem s_ref01_Compare (a0 : Term) (a1 : Term) (r : Int) (h : p_ref01_Compare a0 a1 = some r) : PCalls Try.prog 46 [(ofTermX a0), (ofTermX a1)] (I64 r) := C_ref01_fields.sound (.k_ref01_Compare a0 a1) r h
noncomputable def ref07_parts_l1b (r_ref07_parts : Term → Option Int) (x1 : (List Term)) (g1 : Int → Nat → Option Int) (s2 : Int) (s3 : Nat) : Option Int :=
 bif (decide (((s3 : Nat) : Int) < (((x1).length : Nat) : Int))) then (
  Option.bind ((x1)[s3]?) fun x6 =>
  Option.bind (r_ref07_parts x6) fun x7 =>
  g1 (IntKind.i64.wrap (s2 + x7)) (s3 + 1)
 ) else (
  some s2
 )
theorem ref07_parts_l1b_cm {ι : Type} {ρ : ι → Type} (r_ref07_parts : (∀ i, Option (ρ i)) → Term → Option Int) (h_r_ref07_parts : ∀ y0, CM (fun G => r_ref07_parts G y0)) (g1 : (∀ i, Option (ρ i)) → Int → Nat → Option Int) (h_g1 : ∀ y0 y1, CM (fun G => g1 G y0 y1)) (x1 : (List Term)) (s2 : Int) (s3 : Nat) : CM (fun G : (∀ i, Option (ρ i)) => ref07_parts_l1b (r_ref07_parts G) x1 (g1 G) s2 s3) := by
 simp only [ref07_parts_l1b]
 repeat (first | exact cm_const | exact h_r_ref07_parts _ | exact h_g1 _ _ | refine cm_cond ?_ ?_ | refine cm_bind ?_ (fun _ => ?_))
noncomputable def ref07_parts_l1 (r_ref07_parts : Term → Option Int) (x1 : (List Term)) (s2 : Int) (s3 : Nat) : Option Int :=
 fixO (ι := (Int × Nat)) (ρ := fun _ => Int) (fun g i => ref07_parts_l1b r_ref07_parts x1 (fun s2 s3 => g (s2, s3)) i.1 i.2) (s2, s3)
theorem ref07_parts_l1_eq (r_ref07_parts : Term → Option Int) (x1 : (List Term)) (s2 : Int) (s3 : Nat) : ref07_parts_l1 r_ref07_parts x1 s2 s3 = ref07_parts_l1b r_ref07_parts x1 (ref07_parts_l1 r_ref07_parts x1) s2 s3 :=
 fixO_eq (ι := (Int × Nat)) (ρ := fun _ => Int) (Φ := fun g i => ref07_parts_l1b r_ref07_parts x1 (fun s2 s3 => g (s2, s3)) i.1 i.2) (fun i => ref07_parts_l1b_cm (ι := (Int × Nat)) (ρ := fun _ => Int) (fun _ => r_ref07_parts) (fun _ => cm_const) (fun g => (fun s2 s3 => g (s2, s3))) (fun _ _ => cm_app) x1 i.1 i.2) (s2, s3)
theorem ref07_parts_l1_cm {ι : Type} {ρ : ι → Type} (r_ref07_parts : (∀ i, Option (ρ i)) → Term → Option Int) (h_r_ref07_parts : ∀ y0, CM (fun G => r_ref07_parts G y0)) (x1 : (List Term)) (s2 : Int) (s3 : Nat) : CM (fun G : (∀ i, Option (ρ i)) => ref07_parts_l1 (r_ref07_parts G) x1 s2 s3) :=
 cm_fix (κ := (Int × Nat)) (τ := fun _ => Int) (Φ := fun G g i => ref07_parts_l1b (r_ref07_parts G) x1 (fun s2 s3 => g (s2, s3)) i.1 i.2) (fun g i => ref07_parts_l1b_cm r_ref07_parts h_r_ref07_parts (fun _ => (fun s2 s3 => g (s2, s3))) (fun _ _ => cm_const) x1 i.1 i.2) (fun G i => ref07_parts_l1b_cm (ι := (Int × Nat)) (ρ := fun _ => Int) (fun _ => r_ref07_parts G) (fun _ => cm_const) (fun g => (fun s2 s3 => g (s2, s3))) (fun _ _ => cm_app) x1 i.1 i.2) (s2, s3)
noncomputable def b_ref07_parts (r_ref07_parts : Term → Option Int) (a0 : Term) : Option Int :=
 Option.bind (p_ref01_Parts a0) fun x1 =>
 ref07_parts_l1 r_ref07_parts x1 1 0
theorem b_ref07_parts_cm {ι : Type} {ρ : ι → Type} (r_ref07_parts : (∀ i, Option (ρ i)) → Term → Option Int) (h_r_ref07_parts : ∀ y0, CM (fun G => r_ref07_parts G y0)) (a0 : Term) : CM (fun G : (∀ i, Option (ρ i)) => b_ref07_parts (r_ref07_parts G) a0) := by
 simp only [b_ref07_parts]
 repeat (first | exact cm_const | exact h_r_ref07_parts _ | apply ref07_parts_l1_cm | refine cm_cond ?_ ?_ | refine cm_bind ?_ (fun _ => ?_) | intro _ | assumption)
inductive C_ref07_parts where
 | k_ref07_parts (a0 : Term)
def C_ref07_parts.R : C_ref07_parts → Type
 | .k_ref07_parts _ => Int
noncomputable def C_ref07_parts.F (g : ∀ i : C_ref07_parts, Option i.R) : ∀ i : C_ref07_parts, Option i.R
 | .k_ref07_parts a0 => b_ref07_parts (fun a0 => g (.k_ref07_parts a0)) a0
noncomputable def p_ref07_parts (a0 : Term) : Option Int := fixO C_ref07_parts.F (.k_ref07_parts a0)
theorem C_ref07_parts.cm (i : C_ref07_parts) : CM (fun g : (∀ i : C_ref07_parts, Option i.R) => C_ref07_parts.F g i) := by
 cases i with
 | k_ref07_parts a0 => exact b_ref07_parts_cm (fun (g : ∀ i : C_ref07_parts, Option i.R) a0 => g (.k_ref07_parts a0)) (fun a0 => cm_app (i := C_ref07_parts.k_ref07_parts a0)) a0
theorem e_ref07_parts (a0 : Term) : p_ref07_parts a0 = b_ref07_parts p_ref07_parts a0 := fixO_eq C_ref07_parts.cm (.k_ref07_parts a0)
def C_ref07_parts.Q : ∀ i : C_ref07_parts, i.R → Prop
 | .k_ref07_parts a0 => fun (r : Int) => PCalls Try.prog 90 [(ofTermX a0)] (I64 r)
theorem t_ref07_parts (r_ref07_parts : Term → Option Int) (c_ref07_parts : ∀ (a0 : Term) r, r_ref07_parts a0 = some r → PCalls Try.prog 90 [(ofTermX a0)] (I64 r)) (a0 : Term) (r : Int) (h : b_ref07_parts r_ref07_parts a0 = some r) : PCalls Try.prog 90 [(ofTermX a0)] (I64 r) := by
 unfold b_ref07_parts at h
 refine acalls_of Try.func90 rfl Try.ntmps90 Try.results90 rfl (aw_of_bw ?_)
 change BW _ _ _ ⟨[(0, (ofTermX a0))], [], _⟩ _
 refine bR ?_
 refine sS rfl rfl rfl (op1_box rfl rfl rfl) ?_
 refine sA rfl rfl rfl rfl rfl (ao_nil ?_)
 change BW _ _ _ _ _
 refine bR ?_
 refine sA rfl rfl rfl rfl rfl (ao_nil ?_)
 change BW _ _ _ _ _
 refine bR ?_
 refine sS rfl rfl rfl ((op1_ldRA inf_29 Try.underlying29 rfl rfl rfl rfl rfl rfl)) ?_
 obtain ⟨x1, hx1, h⟩ := obind h
 refine sS rfl rfl rfl (op1_pcall rfl en_85 rfl (.cons (Wk.refl _) .nil) ⟨(ids_TermX a0), trivial⟩ (s_ref01_Parts a0 x1 hx1) (ids_slM ids_Term x1)) ?_
 refine sA rfl rfl rfl rfl rfl (ao_nil ?_)
 change BW _ _ _ _ _
 refine bw_seq ?_
 refine bR ?_
 refine sA rfl rfl rfl rfl rfl (ao_nil ?_)
 change BW _ _ _ _ _
 refine bw_block ?_
 change BW _ _ _ _ _
 unfold ref07_parts_l1 at h
 refine bw_loop (σ := (Int × Nat)) (fun i => [(3, (I64 i.1)), (4, (PV.sl none 11 (List.map ofTerm x1))), (5, (I64 (((i.2 : Nat) : Int))))]) (fun i => []) (1, 0) h ?_ ?_ ?_
 ·intro i; exact ⟨Nat.le_of_ble_eq_true rfl, ⟨(il_nil rfl), ⟨(il_nil (ids_slM ids_Term _)), ⟨(il_nil rfl), trivial⟩⟩⟩, trivial⟩
 ·exact ⟨.nil, (sC rfl (sC rfl (sC rfl sub_nil)))⟩
 ·rintro g1_f ⟨s2, s3⟩ h; replace h : ref07_parts_l1b r_ref07_parts x1 (fun y0 y1 => g1_f (y0, y1)) s2 s3 = some r := h; unfold ref07_parts_l1b at h
  change BW _ _ _ ⟨[(3, (I64 s2)), (4, (PV.sl none 11 (List.map ofTerm x1))), (5, (I64 (((s3 : Nat) : Int))))], [], _⟩ _
  refine bw_seq ?_
  refine bR ?_
  refine sM rfl rfl rfl rfl rfl ?_
  refine sM rfl rfl rfl rfl rfl ?_
  refine sS rfl rfl rfl (op1_lenM Try.underlying26 rfl rfl) ?_
  refine sS rfl rfl rfl ((op1_cmp rfl rfl rfl rfl).cast (y := (BO ((decide (((s3 : Nat) : Int) < (((x1).length : Nat) : Int)))))) rfl rfl) (ao_nil ?_)
  change BW _ _ _ _ _
  refine bw_len (t := 9) rfl fun hb5 => ?_
  try rw [List.length_map] at hb5
  refine bw_cond rfl ?_ ?_
  ·intro hc4; replace h := ocond_t hc4 h
   have hc4_ := of_decide_eq_true hc4
   refine bw_skip ?_
   change BW _ _ _ _ _
   refine bw_seq ?_
   refine bw_block ?_
   change BW _ _ _ _ _
   refine bw_region ?_
   refine sM rfl rfl rfl rfl rfl ?_
   refine sM rfl rfl rfl rfl rfl ?_
   refine sM rfl rfl rfl rfl rfl ?_
   obtain ⟨x6, hx6, h⟩ := obind h
   refine sS rfl rfl rfl (op1_idxN (i := s3) Try.underlying26 inf_29 rfl rfl rfl hx6 (ofTerm_eq _)) ?_
   refine sS rfl rfl rfl (op1_ldPW inf_29 Try.underlying29 rfl rfl rfl rfl rfl) ?_
   obtain ⟨x7, hx7, h⟩ := obind h
   refine sS rfl rfl rfl (op1_pcall rfl en_90 rfl (.cons (Wk.refl _) .nil) ⟨(ids_TermX x6), trivial⟩ (c_ref07_parts x6 x7 hx7) rfl) ?_
   refine sS rfl rfl rfl (op1_addW rfl rfl rfl) ?_
   refine sA rfl rfl rfl rfl rfl (ao_nil ?_)
   change BW _ _ _ _ _
   refine bw_region ?_
   refine sM rfl rfl rfl rfl rfl ?_
   refine sS rfl rfl rfl (op1_incN (k := s3) (c := 1) rfl rfl rfl (by omega)) ?_
   refine sA rfl rfl rfl rfl rfl (ao_nil ?_)
   exact ⟨rfl, ((IntKind.i64.wrap (s2 + x7)), (s3 + 1)), h, ⟨.nil, (sC rfl (sC rfl (sC rfl sub_nil)))⟩⟩
  ·intro hc4; replace h := ocond_f hc4 h
   refine bw_exit ?_
   change BW _ _ _ _ _
   refine bR ?_
   refine sM rfl rfl rfl rfl rfl ?_
   refine sA rfl rfl rfl rfl rfl (ao_nil ?_)
   change BW _ _ _ _ _
   refine bw_ret ?_
   change ∃ xs, _ = some xs ∧ EndOk _ _ _ _
   obtain rfl := Option.some.inj h
   exact ⟨_, rfl, endOk0 (y := (I64 s2)) (Wk.refl _) rfl ⟨rfl, rfl⟩⟩
theorem C_ref07_parts.sound : ∀ (i : C_ref07_parts) (r : i.R), fixO C_ref07_parts.F i = some r → C_ref07_parts.Q i r := by
 refine fixO_ind (Φ := C_ref07_parts.F) (Q := C_ref07_parts.Q) ?_
 intro g hg i r h
 cases i with
 | k_ref07_parts a0 => exact t_ref07_parts (fun a0 => g (.k_ref07_parts a0)) (fun a0 r hr => hg (.k_ref07_parts a0) r hr) a0 r h
theorem s_ref07_parts (a0 : Term) (r : Int) (h : p_ref07_parts a0 = some r) : PCalls Try.prog 90 [(ofTermX a0)] (I64 r) := C_ref07_parts.sound (.k_ref07_parts a0) r h
end Go.Proofs.Ytiapdjdhaclmnaa
