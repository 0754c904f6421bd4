/- Pure functions, and that calls answer as they say. Written by gen.py. -/
import Derived.Test.YtigadhiciinicaaG4
namespace Go.Proofs.Ytigadhiciinicaa
open Go Aw
set_option linter.unusedVariables false
set_option linter.unusedSimpArgs false
set_option maxRecDepth 20000
set_option maxHeartbeats 2000000
noncomputable def ref03_fields_l1b (r_ref03_Bytes : Term → Option Str) (a0 : (List (Str × Term))) (g1 : Str → Nat → Option Str) (s2 : Str) (s3 : Nat) : Option Str :=
 bif (decide (((s3 : Nat) : Int) < (((a0).length : Nat) : Int))) then (
  Option.bind ((a0)[s3]?) fun x6 =>
  Option.bind (p_ref03_text x6.1) fun x7 =>
  Option.bind (appO 1 s2 x7) fun x8 =>
  Option.bind ((a0)[s3]?) fun x9 =>
  Option.bind (r_ref03_Bytes (x9.2)) fun x10 =>
  Option.bind (appO 1 x8 x10) fun x11 =>
  g1 x11 (s3 + 1)
 ) else (
  some s2
 )
theorem ref03_fields_l1b_cm {ι : Type} {ρ : ι → Type} (r_ref03_Bytes : (∀ i, Option (ρ i)) → Term → Option Str) (h_r_ref03_Bytes : ∀ y0, CM (fun G => r_ref03_Bytes G y0)) (g1 : (∀ i, Option (ρ i)) → Str → Nat → Option Str) (h_g1 : ∀ y0 y1, CM (fun G => g1 G y0 y1)) (a0 : (List (Str × Term))) (s2 : Str) (s3 : Nat) : CM (fun G : (∀ i, Option (ρ i)) => ref03_fields_l1b (r_ref03_Bytes G) a0 (g1 G) s2 s3) := by
 simp only [ref03_fields_l1b]
 repeat (first | exact cm_const | exact h_r_ref03_Bytes _ | exact h_g1 _ _ | refine cm_cond ?_ ?_ | refine cm_bind ?_ (fun _ => ?_))
noncomputable def ref03_fields_l1 (r_ref03_Bytes : Term → Option Str) (a0 : (List (Str × Term))) (s2 : Str) (s3 : Nat) : Option Str :=
 fixO (ι := (Str × Nat)) (ρ := fun _ => Str) (fun g i => ref03_fields_l1b r_ref03_Bytes a0 (fun s2 s3 => g (s2, s3)) i.1 i.2) (s2, s3)
theorem ref03_fields_l1_eq (r_ref03_Bytes : Term → Option Str) (a0 : (List (Str × Term))) (s2 : Str) (s3 : Nat) : ref03_fields_l1 r_ref03_Bytes a0 s2 s3 = ref03_fields_l1b r_ref03_Bytes a0 (ref03_fields_l1 r_ref03_Bytes a0) s2 s3 :=
 fixO_eq (ι := (Str × Nat)) (ρ := fun _ => Str) (Φ := fun g i => ref03_fields_l1b r_ref03_Bytes a0 (fun s2 s3 => g (s2, s3)) i.1 i.2) (fun i => ref03_fields_l1b_cm (ι := (Str × Nat)) (ρ := fun _ => Str) (fun _ => r_ref03_Bytes) (fun _ => cm_const) (fun g => (fun s2 s3 => g (s2, s3))) (fun _ _ => cm_app) a0 i.1 i.2) (s2, s3)
theorem ref03_fields_l1_cm {ι : Type} {ρ : ι → Type} (r_ref03_Bytes : (∀ i, Option (ρ i)) → Term → Option Str) (h_r_ref03_Bytes : ∀ y0, CM (fun G => r_ref03_Bytes G y0)) (a0 : (List (Str × Term))) (s2 : Str) (s3 : Nat) : CM (fun G : (∀ i, Option (ρ i)) => ref03_fields_l1 (r_ref03_Bytes G) a0 s2 s3) :=
 cm_fix (κ := (Str × Nat)) (τ := fun _ => Str) (Φ := fun G g i => ref03_fields_l1b (r_ref03_Bytes G) a0 (fun s2 s3 => g (s2, s3)) i.1 i.2) (fun g i => ref03_fields_l1b_cm r_ref03_Bytes h_r_ref03_Bytes (fun _ => (fun s2 s3 => g (s2, s3))) (fun _ _ => cm_const) a0 i.1 i.2) (fun G i => ref03_fields_l1b_cm (ι := (Str × Nat)) (ρ := fun _ => Str) (fun _ => r_ref03_Bytes G) (fun _ => cm_const) (fun g => (fun s2 s3 => g (s2, s3))) (fun _ _ => cm_app) a0 i.1 i.2) (s2, s3)
noncomputable def b_ref03_fields (r_ref03_fields : (List (Str × Term)) → Option Str) (r_ref03_Bytes : Term → Option Str) (a0 : (List (Str × Term))) : Option Str :=
 Option.bind (p_ref03_Number (IntKind.u64.wrap (((a0).length : Nat) : Int))) fun x1 =>
 ref03_fields_l1 r_ref03_Bytes a0 x1 0
theorem b_ref03_fields_cm {ι : Type} {ρ : ι → Type} (r_ref03_fields : (∀ i, Option (ρ i)) → (List (Str × Term)) → Option Str) (h_r_ref03_fields : ∀ y0, CM (fun G => r_ref03_fields G y0)) (r_ref03_Bytes : (∀ i, Option (ρ i)) → Term → Option Str) (h_r_ref03_Bytes : ∀ y0, CM (fun G => r_ref03_Bytes G y0)) (a0 : (List (Str × Term))) : CM (fun G : (∀ i, Option (ρ i)) => b_ref03_fields (r_ref03_fields G) (r_ref03_Bytes G) a0) := by
 simp only [b_ref03_fields]
 repeat (first | exact cm_const | exact h_r_ref03_fields _ | exact h_r_ref03_Bytes _ | apply ref03_fields_l1_cm | refine cm_cond ?_ ?_ | refine cm_bind ?_ (fun _ => ?_) | intro _ | assumption)
noncomputable def ref03_Bytes_j1 (s1 : Str) : Option Str :=
 some s1
noncomputable def ref03_Bytes_l1b (a0 : Term) (g1 : Str → Int → Option Str) (s13 : Str) (s14 : Int) : Option Str :=
 bif (decide (s14 < 8)) then (
  Option.bind (negO (IntKind.u64.wrap (IntKind.i64.wrap (56 - (IntKind.i64.wrap (8 * s14)))))) fun x16 =>
  Option.bind (appO 1 s13 ([(UInt8.ofInt (shrK .u64 ((a0.float : Nat) : Int) (IntKind.u64.wrap (IntKind.i64.wrap (56 - (IntKind.i64.wrap (8 * s14)))))))] : Str)) fun x17 =>
  g1 x17 (IntKind.i64.wrap (s14 + 1))
 ) else (
  ref03_Bytes_j1 s13
 )
theorem ref03_Bytes_l1b_cm {ι : Type} {ρ : ι → Type} (g1 : (∀ i, Option (ρ i)) → Str → Int → Option Str) (h_g1 : ∀ y0 y1, CM (fun G => g1 G y0 y1)) (a0 : Term) (s13 : Str) (s14 : Int) : CM (fun G : (∀ i, Option (ρ i)) => ref03_Bytes_l1b a0 (g1 G) s13 s14) := by
 simp only [ref03_Bytes_l1b]
 repeat (first | exact cm_const | exact h_g1 _ _ | apply ref03_Bytes_j1_cm | refine cm_cond ?_ ?_ | refine cm_bind ?_ (fun _ => ?_) | intro _ | assumption)
noncomputable def ref03_Bytes_l1 (a0 : Term) (s13 : Str) (s14 : Int) : Option Str :=
 fixO (ι := (Str × Int)) (ρ := fun _ => Str) (fun g i => ref03_Bytes_l1b a0 (fun s13 s14 => g (s13, s14)) i.1 i.2) (s13, s14)
theorem ref03_Bytes_l1_eq (a0 : Term) (s13 : Str) (s14 : Int) : ref03_Bytes_l1 a0 s13 s14 = ref03_Bytes_l1b a0 (ref03_Bytes_l1 a0) s13 s14 :=
 fixO_eq (ι := (Str × Int)) (ρ := fun _ => Str) (Φ := fun g i => ref03_Bytes_l1b a0 (fun s13 s14 => g (s13, s14)) i.1 i.2) (fun i => ref03_Bytes_l1b_cm (ι := (Str × Int)) (ρ := fun _ => Str) (fun g => (fun s13 s14 => g (s13, s14))) (fun _ _ => cm_app) a0 i.1 i.2) (s13, s14)
noncomputable def ref03_Bytes_l2b (r_ref03_Bytes : Term → Option Str) (a0 : Term) (g1 : Str → Nat → Option Str) (s30 : Str) (s31 : Nat) : Option Str :=
 bif (decide (((s31 : Nat) : Int) < (((a0.list).length : Nat) : Int))) then (
  Option.bind ((a0.list)[s31]?) fun x34 =>
  Option.bind (r_ref03_Bytes x34) fun x35 =>
  Option.bind (appO 1 s30 x35) fun x36 =>
  g1 x36 (s31 + 1)
 ) else (
  ref03_Bytes_j1 s30
 )
theorem ref03_Bytes_l2b_cm {ι : Type} {ρ : ι → Type} (r_ref03_Bytes : (∀ i, Option (ρ i)) → Term → Option Str) (h_r_ref03_Bytes : ∀ y0, CM (fun G => r_ref03_Bytes G y0)) (g1 : (∀ i, Option (ρ i)) → Str → Nat → Option Str) (h_g1 : ∀ y0 y1, CM (fun G => g1 G y0 y1)) (a0 : Term) (s30 : Str) (s31 : Nat) : CM (fun G : (∀ i, Option (ρ i)) => ref03_Bytes_l2b (r_ref03_Bytes G) a0 (g1 G) s30 s31) := by
 simp only [ref03_Bytes_l2b]
 repeat (first | exact cm_const | exact h_r_ref03_Bytes _ | exact h_g1 _ _ | apply ref03_Bytes_j1_cm | refine cm_cond ?_ ?_ | refine cm_bind ?_ (fun _ => ?_) | intro _ | assumption)
noncomputable def ref03_Bytes_l2 (r_ref03_Bytes : Term → Option Str) (a0 : Term) (s30 : Str) (s31 : Nat) : Option Str :=
 fixO (ι := (Str × Nat)) (ρ := fun _ => Str) (fun g i => ref03_Bytes_l2b r_ref03_Bytes a0 (fun s30 s31 => g (s30, s31)) i.1 i.2) (s30, s31)
theorem ref03_Bytes_l2_eq (r_ref03_Bytes : Term → Option Str) (a0 : Term) (s30 : Str) (s31 : Nat) : ref03_Bytes_l2 r_ref03_Bytes a0 s30 s31 = ref03_Bytes_l2b r_ref03_Bytes a0 (ref03_Bytes_l2 r_ref03_Bytes a0) s30 s31 :=
 fixO_eq (ι := (Str × Nat)) (ρ := fun _ => Str) (Φ := fun g i => ref03_Bytes_l2b r_ref03_Bytes a0 (fun s30 s31 => g (s30, s31)) i.1 i.2) (fun i => ref03_Bytes_l2b_cm (ι := (Str × Nat)) (ρ := fun _ => Str) (fun _ => r_ref03_Bytes) (fun _ => cm_const) (fun g => (fun s30 s31 => g (s30, s31))) (fun _ _ => cm_app) a0 i.1 i.2) (s30, s31)
theorem ref03_Bytes_l2_cm {ι : Type} {ρ : ι → Type} (r_ref03_Bytes : (∀ i, Option (ρ i)) → Term → Option Str) (h_r_ref03_Bytes : ∀ y0, CM (fun G => r_ref03_Bytes G y0)) (a0 : Term) (s30 : Str) (s31 : Nat) : CM (fun G : (∀ i, Option (ρ i)) => ref03_Bytes_l2 (r_ref03_Bytes G) a0 s30 s31) :=
 cm_fix (κ := (Str × Nat)) (τ := fun _ => Str) (Φ := fun G g i => ref03_Bytes_l2b (r_ref03_Bytes G) a0 (fun s30 s31 => g (s30, s31)) i.1 i.2) (fun g i => ref03_Bytes_l2b_cm r_ref03_Bytes h_r_ref03_Bytes (fun _ => (fun s30 s31 => g (s30, s31))) (fun _ _ => cm_const) a0 i.1 i.2) (fun G i => ref03_Bytes_l2b_cm (ι := (Str × Nat)) (ρ := fun _ => Str) (fun _ => r_ref03_Bytes G) (fun _ => cm_const) (fun g => (fun s30 s31 => g (s30, s31))) (fun _ _ => cm_app) a0 i.1 i.2) (s30, s31)
noncomputable def b_ref03_Bytes (r_ref03_fields : (List (Str × Term)) → Option Str) (r_ref03_Bytes : Term → Option Str) (a0 : Term) : Option Str :=
 bif (a0.kind == 2) then (
  bif a0.bool then (
   Option.bind (appO 1 ([(UInt8.ofInt a0.kind)] : Str) ([(1 : UInt8)] : Str)) fun x4 =>
   some x4
  ) else (
   Option.bind (appO 1 ([(UInt8.ofInt a0.kind)] : Str) ([(0 : UInt8)] : Str)) fun x5 =>
   some x5
  )
 ) else (
  bif (a0.kind == 3) then (
   bif (decide (a0.int < 0)) then (
    Option.bind (p_ref03_Number (IntKind.u64.wrap ((IntKind.u64.wrap (2 * (IntKind.u64.wrap (IntKind.i64.wrap (0 - (IntKind.i64.wrap (a0.int + 1))))))) + 1))) fun x8 =>
    Option.bind (appO 1 ([(UInt8.ofInt a0.kind)] : Str) x8) fun x9 =>
    some x9
   ) else (
    Option.bind (p_ref03_Number (IntKind.u64.wrap (2 * (IntKind.u64.wrap a0.int)))) fun x10 =>
    Option.bind (appO 1 ([(UInt8.ofInt a0.kind)] : Str) x10) fun x11 =>
    some x11
   )
  ) else (
   bif (a0.kind == 4) then (
    ref03_Bytes_l1 a0 ([(UInt8.ofInt a0.kind)] : Str) 0
   ) else (
    bif (a0.kind == 5) then (
     Option.bind (p_ref03_text a0.text) fun x19 =>
     Option.bind (appO 1 ([(UInt8.ofInt a0.kind)] : Str) x19) fun x20 =>
     ref03_Bytes_j1 x20
    ) else (
     bif (a0.kind == 6) then (
      Option.bind (p_ref03_text a0.bytes) fun x22 =>
      Option.bind (appO 1 ([(UInt8.ofInt a0.kind)] : Str) x22) fun x23 =>
      ref03_Bytes_j1 x23
     ) else (
      bif (a0.kind == 7) then (
       Option.bind (p_ref03_Number a0.ref) fun x25 =>
       Option.bind (appO 1 ([(UInt8.ofInt a0.kind)] : Str) x25) fun x26 =>
       ref03_Bytes_j1 x26
      ) else (
       bif (a0.kind == 8) then (
        Option.bind (p_ref03_Number (IntKind.u64.wrap (((a0.list).length : Nat) : Int))) fun x28 =>
        Option.bind (appO 1 ([(UInt8.ofInt a0.kind)] : Str) x28) fun x29 =>
        ref03_Bytes_l2 r_ref03_Bytes a0 x29 0
       ) else (
        bif (a0.kind == 9) then (
         Option.bind (r_ref03_fields a0.fields) fun x38 =>
         Option.bind (appO 1 ([(UInt8.ofInt a0.kind)] : Str) x38) fun x39 =>
         ref03_Bytes_j1 x39
        ) else (
         bif (a0.kind == 10) then (
          Option.bind (p_ref03_text a0.cls) fun x41 =>
          Option.bind (appO 1 ([(UInt8.ofInt a0.kind)] : Str) x41) fun x42 =>
          Option.bind (p_ref03_Number (IntKind.u64.wrap a0.ver)) fun x43 =>
          Option.bind (appO 1 x42 x43) fun x44 =>
          Option.bind (r_ref03_fields a0.fields) fun x45 =>
          Option.bind (appO 1 x44 x45) fun x46 =>
          ref03_Bytes_j1 x46
         ) else (
          ref03_Bytes_j1 ([(UInt8.ofInt a0.kind)] : Str)
         )
        )
       )
      )
     )
    )
   )
  )
 )
theorem b_ref03_Bytes_cm {ι : Type} {ρ : ι → Type} (r_ref03_fields : (∀ i, Option (ρ i)) → (List (Str × Term)) → Option Str) (h_r_ref03_fields : ∀ y0, CM (fun G => r_ref03_fields G y0)) (r_ref03_Bytes : (∀ i, Option (ρ i)) → Term → Option Str) (h_r_ref03_Bytes : ∀ y0, CM (fun G => r_ref03_Bytes G y0)) (a0 : Term) : CM (fun G : (∀ i, Option (ρ i)) => b_ref03_Bytes (r_ref03_fields G) (r_ref03_Bytes G) a0) := by
 simp only [b_ref03_Bytes]
 repeat (first | exact cm_const | exact h_r_ref03_fields _ | exact h_r_ref03_Bytes _ | apply ref03_Bytes_j1_cm | apply ref03_Bytes_l1_cm | apply ref03_Bytes_l2_cm | refine cm_cond ?_ ?_ | refine cm_bind ?_ (fun _ => ?_) | intro _ | assumption)
inductive C_ref03_fields where
 | k_ref03_fields (a0 : (List (Str × Term)))
 | k_ref03_Bytes (a0 : Term)
def C_ref03_fields.R : C_ref03_fields → Type
 | .k_ref03_fields _ => Str
 | .k_ref03_Bytes _ => Str
noncomputable def C_ref03_fields.F (g : ∀ i : C_ref03_fields, Option i.R) : ∀ i : C_ref03_fields, Option i.R
 | .k_ref03_fields a0 => b_ref03_fields (fun a0 => g (.k_ref03_fields a0)) (fun a0 => g (.k_ref03_Bytes a0)) a0
 | .k_ref03_Bytes a0 => b_ref03_Bytes (fun a0 => g (.k_ref03_fields a0)) (fun a0 => g (.k_ref03_Bytes a0)) a0
noncomputable def p_ref03_fields (a0 : (List (Str × Term))) : Option Str := fixO C_ref03_fields.F (.k_ref03_fields a0)
noncomputable def p_ref03_Bytes (a0 : Term) : Option Str := fixO C_ref03_fields.F (.k_ref03_Bytes a0)
theorem C_ref03_fields.cm (i : C_ref03_fields) : CM (fun g : (∀ i : C_ref03_fields, Option i.R) => C_ref03_fields.F g i) := by
 cases i with
 | k_ref03_fields a0 => exact b_ref03_fields_cm (fun (g : ∀ i : C_ref03_fields, Option i.R) a0 => g (.k_ref03_fields a0)) (fun a0 => cm_app (i := C_ref03_fields.k_ref03_fields a0)) (fun (g : ∀ i : C_ref03_fields, Option i.R) a0 => g (.k_ref03_Bytes a0)) (fun a0 => cm_app (i := C_ref03_fields.k_ref03_Bytes a0)) a0
 | k_ref03_Bytes a0 => exact b_ref03_Bytes_cm (fun (g : ∀ i : C_ref03_fields, Option i.R) a0 => g (.k_ref03_fields a0)) (fun a0 => cm_app (i := C_ref03_fields.k_ref03_fields a0)) (fun (g : ∀ i : C_ref03_fields, Option i.R) a0 => g (.k_ref03_Bytes a0)) (fun a0 => cm_app (i := C_ref03_fields.k_ref03_Bytes a0)) a0
theorem e_ref03_fields (a0 : (List (Str × Term))) : p_ref03_fields a0 = b_ref03_fields p_ref03_fields p_ref03_Bytes a0 := fixO_eq C_ref03_fields.cm (.k_ref03_fields a0)
theorem e_ref03_Bytes (a0 : Term) : p_ref03_Bytes a0 = b_ref03_Bytes p_ref03_fields p_ref03_Bytes a0 := fixO_eq C_ref03_fields.cm (.k_ref03_Bytes a0)
def C_ref03_fields.Q : ∀ i : C_ref03_fields, i.R → Prop
 | .k_ref03_fields a0 => fun (r : Str) => PCalls Try.prog 49 [(PV.sl none 12 (List.map ofEntry a0))] (PV.sl none 1 (List.map ofB r))
 | .k_ref03_Bytes a0 => fun (r : Str) => PCalls Try.prog 31 [(ofTermX a0)] (PV.sl none 1 (List.map ofB r))
theorem t_ref03_fields (r_ref03_fields : (List (Str × Term)) → Option Str) (c_ref03_fields : ∀ (a0 : (List (Str × Term))) r, r_ref03_fields a0 = some r → PCalls Try.prog 49 [(PV.sl none 12 (List.map ofEntry a0))] (PV.sl none 1 (List.map ofB r))) (r_ref03_Bytes : Term → Option Str) (c_ref03_Bytes : ∀ (a0 : Term) r, r_ref03_Bytes a0 = some r → PCalls Try.prog 31 [(ofTermX a0)] (PV.sl none 1 (List.map ofB r))) (a0 : (List (Str × Term))) (r : Str) (h : b_ref03_fields r_ref03_fields r_ref03_Bytes a0 = some r) : PCalls Try.prog 49 [(PV.sl none 12 (List.map ofEntry a0))] (PV.sl none 1 (List.map ofB r)) := by
 unfold b_ref03_fields at h
 refine acalls_of Try.func49 rfl Try.ntmps49 Try.results49 rfl (aw_of_bw ?_)
 change BW _ _ _ ⟨[(0, (PV.sl none 12 (List.map ofEntry a0)))], [], _⟩ _
 refine bR ?_
 refine sA rfl rfl rfl rfl rfl (ao_nil ?_)
 change BW _ _ _ _ _
 refine bR ?_
 refine sM rfl rfl rfl rfl rfl ?_
 refine sS rfl rfl rfl (op1_lenM Try.underlying27 rfl rfl) ?_
 refine sS rfl rfl rfl (op1_convI Try.underlying3 Try.underlying24 rfl rfl) ?_
 obtain ⟨x1, hx1, h⟩ := obind h
 refine sS rfl rfl rfl (op1_ocall rfl en_47 rfl (.cons (Wk.refl _) .nil) ⟨rfl, trivial⟩ (s_ref03_Number (IntKind.u64.wrap (((a0).length : Nat) : Int)) x1 hx1) (ren_ownrow (ids_map (fun _ => rfl) _) rfl) rfl) ?_
 refine sA rfl rfl rfl rfl rfl (ao_nil ?_)
 change BW _ _ _ _ _
 refine bw_seq ?_
 refine bR ?_
 refine sA rfl rfl rfl rfl rfl (ao_nil ?_)
 change BW _ _ _ _ _
 refine bw_block ?_
 change BW _ _ _ _ _
 unfold ref03_fields_l1 at h
 refine bw_loop (σ := (Str × Nat)) (fun i => [(0, (PV.sl none 12 (List.map ofEntry a0))), (3, (PV.sl (some 0) 1 (List.map ofB i.1))), (4, (I64 (((i.2 : Nat) : Int))))]) (fun i => [.arr 5 (i.1).length]) (x1, 0) h ?_ ?_ ?_
 ·intro i; exact ⟨Nat.le_of_ble_eq_true rfl, ⟨(il_nil (ids_slM ids_Entry _)), ⟨(il_tok rfl (ids_map (fun _ => rfl) _)), ⟨(il_nil rfl), trivial⟩⟩⟩, trivial⟩
 ·exact ⟨(.cons .same .nil), (sC rfl (sC rfl (sC rfl sub_nil)))⟩
 ·rintro g1_f ⟨s2, s3⟩ h; replace h : ref03_fields_l1b r_ref03_Bytes a0 (fun y0 y1 => g1_f (y0, y1)) s2 s3 = some r := h; unfold ref03_fields_l1b at h
  change BW _ _ _ ⟨[(0, (PV.sl none 12 (List.map ofEntry a0))), (3, (PV.sl (some 0) 1 (List.map ofB s2))), (4, (I64 (((s3 : Nat) : Int))))], [.arr 5 (s2).length], _⟩ _
  refine bw_seq ?_
  refine bR ?_
  refine sM rfl rfl rfl rfl rfl ?_
  refine sM rfl rfl rfl rfl rfl ?_
  refine sS rfl rfl rfl (op1_lenM Try.underlying27 rfl rfl) ?_
  refine sS rfl rfl rfl ((op1_cmp rfl rfl rfl rfl).cast (y := (BO ((decide (((s3 : Nat) : Int) < (((a0).length : Nat) : Int)))))) rfl rfl) (ao_nil ?_)
  change BW _ _ _ _ _
  refine bw_len (t := 10) rfl fun hb5 => ?_
  try rw [List.length_map] at hb5
  refine bw_cond rfl ?_ ?_
  ·intro hc4; replace h := ocond_t hc4 h
   have hc4_ := of_decide_eq_true hc4
   refine bw_skip ?_
   change BW _ _ _ _ _
   refine bw_seq ?_
   refine bw_block ?_
   change BW _ _ _ _ _
   refine bR ?_
   refine sM rfl rfl rfl rfl rfl ?_
   refine sM rfl rfl rfl rfl rfl ?_
   refine sM rfl rfl rfl rfl rfl ?_
   obtain ⟨x6, hx6, h⟩ := obind h
   refine sS rfl rfl rfl (op1_idxN (i := s3) Try.underlying27 inf_86 rfl rfl rfl hx6 (ofEntry_eq _)) ?_
   refine sS rfl rfl rfl (op1_faP st_86 (i := 0) rfl rfl rfl) ?_
   refine sS rfl rfl rfl (op1_ldP (y := (ofStr x6.1)) Try.underlying9 rfl rfl rfl rfl) ?_
   obtain ⟨x7, hx7, h⟩ := obind h
   refine sS rfl rfl rfl (op1_pcall rfl en_48 rfl (.cons (Wk.refl _) .nil) ⟨rfl, trivial⟩ (s_ref03_text x6.1 x7 hx7) (ids_slM (fun _ => rfl) x7)) ?_
   obtain ⟨x8, hx8, h⟩ := obind h
   refine sS rfl rfl rfl (op1_appM Try.underlying23 inf_5 rfl Try.underlying23 rfl rfl rfl rfl (fun _ => rfl) (fun _ => rfl) hx8 rfl) ?_
   refine sA rfl rfl rfl rfl rfl (ao_nil ?_)
   change BW _ _ _ _ _
   refine bw_region ?_
   refine sM rfl rfl rfl rfl rfl ?_
   refine sM rfl rfl rfl rfl rfl ?_
   refine sM rfl rfl rfl rfl rfl ?_
   obtain ⟨x9, hx9, h⟩ := obind h
   refine sS rfl rfl rfl (op1_idxN (i := s3) Try.underlying27 inf_86 rfl rfl rfl hx9 (ofEntry_eq _)) ?_
   refine sS rfl rfl rfl (op1_faP st_86 (i := 1) rfl rfl rfl) ?_
   refine sS rfl rfl rfl ((op1_ldPA inf_29 Try.underlying29 rfl rfl rfl rfl rfl)) ?_
   obtain ⟨x10, hx10, h⟩ := obind h
   refine sS rfl rfl rfl (op1_pcall rfl en_31 rfl (.cons (Wk.refl _) .nil) ⟨(ids_TermX (x9.2)), trivial⟩ (c_ref03_Bytes (x9.2) x10 hx10) (ids_slM (fun _ => rfl) x10)) ?_
   obtain ⟨x11, hx11, h⟩ := obind h
   refine sS rfl rfl rfl (op1_appM Try.underlying23 inf_5 rfl Try.underlying23 rfl rfl rfl rfl (fun _ => rfl) (fun _ => rfl) hx11 rfl) ?_
   refine sA rfl rfl rfl rfl rfl (ao_nil ?_)
   change BW _ _ _ _ _
   refine bw_region ?_
   refine sM rfl rfl rfl rfl rfl ?_
   refine sS rfl rfl rfl (op1_incN (k := s3) (c := 1) rfl rfl rfl (by omega)) ?_
   refine sA rfl rfl rfl rfl rfl (ao_nil ?_)
   exact ⟨rfl, (x11, (s3 + 1)), h, ⟨(.cons .same .nil), (sC rfl (sC rfl (sC rfl sub_nil)))⟩⟩
  ·intro hc4; replace h := ocond_f hc4 h
   refine bw_exit ?_
   change BW _ _ _ _ _
   refine bR ?_
   refine sM rfl rfl rfl rfl rfl ?_
   refine sA rfl rfl rfl rfl rfl (ao_nil ?_)
   change BW _ _ _ _ _
   refine bw_ret ?_
   change ∃ xs, _ = some xs ∧ EndOk _ _ _ _
   obtain rfl := Option.some.inj h
   exact ⟨_, rfl, endOk0 (y := (PV.sl none 1 (List.map ofB s2))) Wk.tok (ids_slM (fun _ => rfl) s2) ⟨rfl, rfl⟩⟩
theorem t_ref03_Bytes (r_ref03_fields : (List (Str × Term)) → Option Str) (c_ref03_fields : ∀ (a0 : (List (Str × Term))) r, r_ref03_fields a0 = some r → PCalls Try.prog 49 [(PV.sl none 12 (List.map ofEntry a0))] (PV.sl none 1 (List.map ofB r))) (r_ref03_Bytes : Term → Option Str) (c_ref03_Bytes : ∀ (a0 : Term) r, r_ref03_Bytes a0 = some r → PCalls Try.prog 31 [(ofTermX a0)] (PV.sl none 1 (List.map ofB r))) (a0 : Term) (r : Str) (h : b_ref03_Bytes r_ref03_fields r_ref03_Bytes a0 = some r) : PCalls Try.prog 31 [(ofTermX a0)] (PV.sl none 1 (List.map ofB r)) := by
 unfold b_ref03_Bytes at h
 refine acalls_of Try.func31 rfl Try.ntmps31 Try.results31 rfl (aw_of_bw ?_)
 change BW _ _ _ ⟨[(0, (ofTermX a0))], [], _⟩ _
 refine bR ?_
 refine sS rfl rfl rfl (op1_box rfl rfl rfl) ?_
 refine sA rfl rfl rfl rfl rfl (ao_nil ?_)
 change BW _ _ _ _ _
 refine bR ?_
 refine sS rfl rfl rfl (op1_faR st_29 (i := 0) rfl rfl rfl) ?_
 refine sS rfl rfl rfl ((op1_ldR Try.underlying3 rfl rfl rfl rfl rfl)) ?_
 refine sS rfl rfl rfl (op1_toU8 Try.underlying3 Try.underlying5 rfl rfl) ?_
 refine sS rfl rfl rfl ((op1_bslice (xs := [(ofB (UInt8.ofInt a0.kind))]) Try.underlying23 inf_5 rfl rfl rfl rfl rfl rfl ⟨Nat.le_of_ble_eq_true rfl, Nat.le_of_ble_eq_true rfl⟩ rfl).cast (y := (PV.sl (some 1) 1 (List.map ofB ([(UInt8.ofInt a0.kind)] : Str)))) rfl rfl) ?_
 refine sA rfl rfl rfl rfl rfl (ao_nil ?_)
 change BW _ _ _ _ _
 refine bw_seqJ (ι := Str) (fun i => ref03_Bytes_j1 i = some r) (fun i => [(3, (PV.sl (some 1) 1 (List.map ofB i)))]) (fun i => [.dead, .arr 5 (i).length]) ?_ ?_ ?_
 ·intro i; exact ⟨Nat.le_of_ble_eq_true rfl, ⟨(il_tok rfl (ids_map (fun _ => rfl) _)), trivial⟩, trivial⟩
 ·rintro s1 h; replace h : ref03_Bytes_j1 s1 = some r := h; unfold ref03_Bytes_j1 at h
  change BW _ _ _ ⟨[(3, (PV.sl (some 1) 1 (List.map ofB s1)))], [.dead, .arr 5 (s1).length], _⟩ _
  refine bR ?_
  refine sM rfl rfl rfl rfl rfl ?_
  refine sA rfl rfl rfl rfl rfl (ao_nil ?_)
  change BW _ _ _ _ _
  refine bw_ret ?_
  change ∃ xs, _ = some xs ∧ EndOk _ _ _ _
  obtain rfl := Option.some.inj h
  exact ⟨_, rfl, endOk0 (y := (PV.sl none 1 (List.map ofB s1))) Wk.tok (ids_slM (fun _ => rfl) s1) ⟨rfl, rfl⟩⟩
 ·refine bR ?_
  refine sS rfl rfl rfl (op1_faR st_29 (i := 0) rfl rfl rfl) ?_
  refine sS rfl rfl rfl ((op1_ldR Try.underlying3 rfl rfl rfl rfl rfl)) (ao_nil ?_)
  change BW _ _ _ _ _
  refine bw_block ?_
  change BW _ _ _ _ _
  refine bR ?_
  refine sS rfl rfl rfl ((op1_cmp rfl rfl rfl rfl).cast (y := (BO ((a0.kind == 2)))) rfl rfl) ?_
  refine sA rfl rfl rfl rfl rfl (ao_nil ?_)
  change BW _ _ _ _ _
  refine bw_cond rfl ?_ ?_
  ·intro hc2; replace h := ocond_t hc2 h
   refine bw_seq ?_
   refine bR ?_
   refine sS rfl rfl rfl (op1_faR st_29 (i := 1) rfl rfl rfl) ?_
   refine sS rfl rfl rfl ((op1_ldR Try.underlying4 rfl rfl rfl rfl rfl)) (ao_nil ?_)
   change BW _ _ _ _ _
   refine bw_cond rfl ?_ ?_
   ·intro hc3; replace h := ocond_t hc3 h
    refine bR ?_
    refine sM rfl rfl rfl rfl rfl ?_
    refine sS rfl rfl rfl ((op1_bslice (xs := [(ofB (1 : UInt8))]) Try.underlying23 inf_5 rfl rfl rfl rfl rfl rfl ⟨Nat.le_of_ble_eq_true rfl, Nat.le_of_ble_eq_true rfl⟩ rfl).cast (y := (PV.sl (some 2) 1 (List.map ofB ([(1 : UInt8)] : Str)))) rfl rfl) ?_
    obtain ⟨x4, hx4, h⟩ := obind h
    refine sS rfl rfl rfl (op1_appM Try.underlying23 inf_5 rfl Try.underlying23 rfl rfl rfl rfl (fun _ => rfl) (fun _ => rfl) hx4 rfl) ?_
    refine sA rfl rfl rfl rfl rfl (ao_nil ?_)
    change BW _ _ _ _ _
    refine bw_ret ?_
    change ∃ xs, _ = some xs ∧ EndOk _ _ _ _
    obtain rfl := Option.some.inj h
    exact ⟨_, rfl, endOk0 (y := (PV.sl none 1 (List.map ofB x4))) Wk.tok (ids_slM (fun _ => rfl) x4) ⟨rfl, rfl⟩⟩
   ·intro hc3; replace h := ocond_f hc3 h
    refine bw_skip ?_
    change BW _ _ _ _ _
    refine bR ?_
    refine sM rfl rfl rfl rfl rfl ?_
    refine sS rfl rfl rfl ((op1_bslice (xs := [(ofB (0 : UInt8))]) Try.underlying23 inf_5 rfl rfl rfl rfl rfl rfl ⟨Nat.le_of_ble_eq_true rfl, Nat.le_of_ble_eq_true rfl⟩ rfl).cast (y := (PV.sl (some 2) 1 (List.map ofB ([(0 : UInt8)] : Str)))) rfl rfl) ?_
    obtain ⟨x5, hx5, h⟩ := obind h
    refine sS rfl rfl rfl (op1_appM Try.underlying23 inf_5 rfl Try.underlying23 rfl rfl rfl rfl (fun _ => rfl) (fun _ => rfl) hx5 rfl) ?_
    refine sA rfl rfl rfl rfl rfl (ao_nil ?_)
    change BW _ _ _ _ _
    refine bw_ret ?_
    change ∃ xs, _ = some xs ∧ EndOk _ _ _ _
    obtain rfl := Option.some.inj h
    exact ⟨_, rfl, endOk0 (y := (PV.sl none 1 (List.map ofB x5))) Wk.tok (ids_slM (fun _ => rfl) x5) ⟨rfl, rfl⟩⟩
  ·intro hc2; replace h := ocond_f hc2 h
   refine bR ?_
   refine sS rfl rfl rfl ((op1_cmp rfl rfl rfl rfl).cast (y := (BO ((a0.kind == 3)))) rfl rfl) ?_
   refine sA rfl rfl rfl rfl rfl (ao_nil ?_)
   change BW _ _ _ _ _
   refine bw_cond rfl ?_ ?_
   ·intro hc6; replace h := ocond_t hc6 h
    refine bw_seq ?_
    refine bR ?_
    refine sS rfl rfl rfl (op1_faR st_29 (i := 2) rfl rfl rfl) ?_
    refine sS rfl rfl rfl ((op1_ldR Try.underlying2 rfl rfl rfl rfl rfl)) ?_
    refine sS rfl rfl rfl ((op1_cmp rfl rfl rfl rfl).cast (y := (BO ((decide (a0.int < 0))))) rfl rfl) (ao_nil ?_)
    change BW _ _ _ _ _
    refine bw_cond rfl ?_ ?_
    ·intro hc7; replace h := ocond_t hc7 h
     refine bR ?_
     refine sM rfl rfl rfl rfl rfl ?_
     refine sS rfl rfl rfl (op1_faR st_29 (i := 2) rfl rfl rfl) ?_
     refine sS rfl rfl rfl ((op1_ldR Try.underlying2 rfl rfl rfl rfl rfl)) ?_
     refine sS rfl rfl rfl (op1_addW rfl rfl rfl) ?_
     refine sS rfl rfl rfl (op1_neg rfl rfl) ?_
     refine sS rfl rfl rfl (op1_convI Try.underlying2 Try.underlying24 rfl rfl) ?_
     refine sS rfl rfl rfl (op1_mulW rfl rfl rfl) ?_
     refine sS rfl rfl rfl (op1_addW rfl rfl rfl) ?_
     obtain ⟨x8, hx8, h⟩ := obind h
     refine sS rfl rfl rfl (op1_ocall rfl en_47 rfl (.cons (Wk.refl _) .nil) ⟨rfl, trivial⟩ (s_ref03_Number (IntKind.u64.wrap ((IntKind.u64.wrap (2 * (IntKind.u64.wrap (IntKind.i64.wrap (0 - (IntKind.i64.wrap (a0.int + 1))))))) + 1)) x8 hx8) (ren_ownrow (ids_map (fun _ => rfl) _) rfl) rfl) ?_
     obtain ⟨x9, hx9, h⟩ := obind h
     refine sS rfl rfl rfl (op1_appM Try.underlying23 inf_5 rfl Try.underlying23 rfl rfl rfl rfl (fun _ => rfl) (fun _ => rfl) hx9 rfl) ?_
     refine sA rfl rfl rfl rfl rfl (ao_nil ?_)
     change BW _ _ _ _ _
     refine bw_ret ?_
     change ∃ xs, _ = some xs ∧ EndOk _ _ _ _
     obtain rfl := Option.some.inj h
     exact ⟨_, rfl, endOk0 (y := (PV.sl none 1 (List.map ofB x9))) Wk.tok (ids_slM (fun _ => rfl) x9) ⟨rfl, rfl⟩⟩
    ·intro hc7; replace h := ocond_f hc7 h
     refine bw_skip ?_
     change BW _ _ _ _ _
     refine bR ?_
     refine sM rfl rfl rfl rfl rfl ?_
     refine sS rfl rfl rfl (op1_faR st_29 (i := 2) rfl rfl rfl) ?_
     refine sS rfl rfl rfl ((op1_ldR Try.underlying2 rfl rfl rfl rfl rfl)) ?_
     refine sS rfl rfl rfl (op1_convI Try.underlying2 Try.underlying24 rfl rfl) ?_
     refine sS rfl rfl rfl (op1_mulW rfl rfl rfl) ?_
     obtain ⟨x10, hx10, h⟩ := obind h
     refine sS rfl rfl rfl (op1_ocall rfl en_47 rfl (.cons (Wk.refl _) .nil) ⟨rfl, trivial⟩ (s_ref03_Number (IntKind.u64.wrap (2 * (IntKind.u64.wrap a0.int))) x10 hx10) (ren_ownrow (ids_map (fun _ => rfl) _) rfl) rfl) ?_
     obtain ⟨x11, hx11, h⟩ := obind h
     refine sS rfl rfl rfl (op1_appM Try.underlying23 inf_5 rfl Try.underlying23 rfl rfl rfl rfl (fun _ => rfl) (fun _ => rfl) hx11 rfl) ?_
     refine sA rfl rfl rfl rfl rfl (ao_nil ?_)
     change BW _ _ _ _ _
     refine bw_ret ?_
     change ∃ xs, _ = some xs ∧ EndOk _ _ _ _
     obtain rfl := Option.some.inj h
     exact ⟨_, rfl, endOk0 (y := (PV.sl none 1 (List.map ofB x11))) Wk.tok (ids_slM (fun _ => rfl) x11) ⟨rfl, rfl⟩⟩
   ·intro hc6; replace h := ocond_f hc6 h
    refine bR ?_
    refine sS rfl rfl rfl ((op1_cmp rfl rfl rfl rfl).cast (y := (BO ((a0.kind == 4)))) rfl rfl) ?_
    refine sA rfl rfl rfl rfl rfl (ao_nil ?_)
    change BW _ _ _ _ _
    refine bw_cond rfl ?_ ?_
    ·intro hc12; replace h := ocond_t hc12 h
     refine bR ?_
     refine sS rfl rfl rfl (op1_faR st_29 (i := 3) rfl rfl rfl) ?_
     refine sS rfl rfl rfl ((op1_ldR Try.underlying22 rfl rfl rfl rfl rfl)) ?_
     refine sS rfl rfl rfl (op1_f64bits rfl rfl) ?_
     refine sA rfl rfl rfl rfl rfl (ao_nil ?_)
     change BW _ _ _ _ _
     refine bR ?_
     refine sA rfl rfl rfl rfl rfl (ao_nil ?_)
     change BW _ _ _ _ _
     refine bw_block ?_
     change BW _ _ _ _ _
     unfold ref03_Bytes_l1 at h
     refine bw_loop (σ := (Str × Int)) (fun i => [(3, (PV.sl (some 1) 1 (List.map ofB i.1))), (4, (PV.v (.int .u64 ((a0.float : Nat) : Int)))), (5, (I64 i.2))]) (fun i => [.dead, .arr 5 (i.1).length]) (([(UInt8.ofInt a0.kind)] : Str), 0) h ?_ ?_ ?_
     ·intro i; exact ⟨Nat.le_of_ble_eq_true rfl, ⟨(il_tok rfl (ids_map (fun _ => rfl) _)), ⟨(il_nil rfl), ⟨(il_nil rfl), trivial⟩⟩⟩, trivial⟩
     ·exact ⟨(.cons .dead (.cons .same .nil)), (sC rfl (sC rfl (sC rfl sub_nil)))⟩
     ·rintro g1_f ⟨s13, s14⟩ h; replace h : ref03_Bytes_l1b a0 (fun y0 y1 => g1_f (y0, y1)) s13 s14 = some r := h; unfold ref03_Bytes_l1b at h
      change BW _ _ _ ⟨[(3, (PV.sl (some 1) 1 (List.map ofB s13))), (4, (PV.v (.int .u64 ((a0.float : Nat) : Int)))), (5, (I64 s14))], [.dead, .arr 5 (s13).length], _⟩ _
      refine bw_seq ?_
      refine bR ?_
      refine sM rfl rfl rfl rfl rfl ?_
      refine sS rfl rfl rfl ((op1_cmp rfl rfl rfl rfl).cast (y := (BO ((decide (s14 < 8))))) rfl rfl) (ao_nil ?_)
      change BW _ _ _ _ _
      refine bw_cond rfl ?_ ?_
      ·intro hc15; replace h := ocond_t hc15 h
       refine bw_skip ?_
       change BW _ _ _ _ _
       refine bw_seq ?_
       refine bw_block ?_
       change BW _ _ _ _ _
       refine bw_region ?_
       refine sM rfl rfl rfl rfl rfl ?_
       refine sM rfl rfl rfl rfl rfl ?_
       refine sM rfl rfl rfl rfl rfl ?_
       refine sS rfl rfl rfl (op1_mulW rfl rfl rfl) ?_
       refine sS rfl rfl rfl (op1_subW rfl rfl rfl) ?_
       refine sS rfl rfl rfl (op1_convI Try.underlying3 Try.underlying104 rfl rfl) ?_
       obtain ⟨x16, hx16, h⟩ := obind h
       refine sS rfl rfl rfl ((op1_shr rfl rfl rfl (negO_some hx16)).cast (y := (PV.v (.int .u64 (shrK .u64 ((a0.float : Nat) : Int) (IntKind.u64.wrap (IntKind.i64.wrap (56 - (IntKind.i64.wrap (8 * s14))))))))) rfl rfl) ?_
       refine sS rfl rfl rfl (op1_toU8 Try.underlying24 Try.underlying5 rfl rfl) ?_
       refine sS rfl rfl rfl ((op1_bslice (xs := [(ofB (UInt8.ofInt (shrK .u64 ((a0.float : Nat) : Int) (IntKind.u64.wrap (IntKind.i64.wrap (56 - (IntKind.i64.wrap (8 * s14))))))))]) Try.underlying23 inf_5 rfl rfl rfl rfl rfl rfl ⟨Nat.le_of_ble_eq_true rfl, Nat.le_of_ble_eq_true rfl⟩ rfl).cast (y := (PV.sl (some 2) 1 (List.map ofB ([(UInt8.ofInt (shrK .u64 ((a0.float : Nat) : Int) (IntKind.u64.wrap (IntKind.i64.wrap (56 - (IntKind.i64.wrap (8 * s14)))))))] : Str)))) rfl rfl) ?_
       obtain ⟨x17, hx17, h⟩ := obind h
       refine sS rfl rfl rfl (op1_appM Try.underlying23 inf_5 rfl Try.underlying23 rfl rfl rfl rfl (fun _ => rfl) (fun _ => rfl) hx17 rfl) ?_
       refine sA rfl rfl rfl rfl rfl (ao_nil ?_)
       change BW _ _ _ _ _
       refine bw_region ?_
       refine sM rfl rfl rfl rfl rfl ?_
       refine sS rfl rfl rfl (op1_addW rfl rfl rfl) ?_
       refine sA rfl rfl rfl rfl rfl (ao_nil ?_)
       exact ⟨rfl, (x17, (IntKind.i64.wrap (s14 + 1))), h, ⟨(.cons .dead (.cons .same .nil)), (sC rfl (sC rfl (sC rfl sub_nil)))⟩⟩
      ·intro hc15; replace h := ocond_f hc15 h
       refine bw_exit ?_
       exact ⟨rfl, s13, h, ⟨(.cons .dead (.cons .same .nil)), (sC rfl sub_nil)⟩⟩
    ·intro hc12; replace h := ocond_f hc12 h
     refine bR ?_
     refine sS rfl rfl rfl ((op1_cmp rfl rfl rfl rfl).cast (y := (BO ((a0.kind == 5)))) rfl rfl) ?_
     refine sA rfl rfl rfl rfl rfl (ao_nil ?_)
     change BW _ _ _ _ _
     refine bw_cond rfl ?_ ?_
     ·intro hc18; replace h := ocond_t hc18 h
      refine bw_region ?_
      refine sM rfl rfl rfl rfl rfl ?_
      refine sS rfl rfl rfl (op1_faR st_29 (i := 4) rfl rfl rfl) ?_
      refine sS rfl rfl rfl ((op1_ldR Try.underlying9 rfl rfl rfl rfl rfl)) ?_
      obtain ⟨x19, hx19, h⟩ := obind h
      refine sS rfl rfl rfl (op1_pcall rfl en_48 rfl (.cons (Wk.refl _) .nil) ⟨rfl, trivial⟩ (s_ref03_text a0.text x19 hx19) (ids_slM (fun _ => rfl) x19)) ?_
      obtain ⟨x20, hx20, h⟩ := obind h
      refine sS rfl rfl rfl (op1_appM Try.underlying23 inf_5 rfl Try.underlying23 rfl rfl rfl rfl (fun _ => rfl) (fun _ => rfl) hx20 rfl) ?_
      refine sA rfl rfl rfl rfl rfl (ao_nil ?_)
      exact ⟨rfl, x20, h, ⟨(.cons .dead (.cons .same .nil)), (sC rfl sub_nil)⟩⟩
     ·intro hc18; replace h := ocond_f hc18 h
      refine bR ?_
      refine sS rfl rfl rfl ((op1_cmp rfl rfl rfl rfl).cast (y := (BO ((a0.kind == 6)))) rfl rfl) ?_
      refine sA rfl rfl rfl rfl rfl (ao_nil ?_)
      change BW _ _ _ _ _
      refine bw_cond rfl ?_ ?_
      ·intro hc21; replace h := ocond_t hc21 h
       refine bw_region ?_
       refine sM rfl rfl rfl rfl rfl ?_
       refine sS rfl rfl rfl (op1_faR st_29 (i := 5) rfl rfl rfl) ?_
       refine sS rfl rfl rfl ((op1_ldR Try.underlying23 rfl rfl rfl rfl rfl)) ?_
       refine sS rfl rfl rfl (op1_toT Try.underlying23 Try.underlying9 Try.underlying5 rfl rfl) ?_
       obtain ⟨x22, hx22, h⟩ := obind h
       refine sS rfl rfl rfl (op1_pcall rfl en_48 rfl (.cons (Wk.refl _) .nil) ⟨rfl, trivial⟩ (s_ref03_text a0.bytes x22 hx22) (ids_slM (fun _ => rfl) x22)) ?_
       obtain ⟨x23, hx23, h⟩ := obind h
       refine sS rfl rfl rfl (op1_appM Try.underlying23 inf_5 rfl Try.underlying23 rfl rfl rfl rfl (fun _ => rfl) (fun _ => rfl) hx23 rfl) ?_
       refine sA rfl rfl rfl rfl rfl (ao_nil ?_)
       exact ⟨rfl, x23, h, ⟨(.cons .dead (.cons .same .nil)), (sC rfl sub_nil)⟩⟩
      ·intro hc21; replace h := ocond_f hc21 h
       refine bR ?_
       refine sS rfl rfl rfl ((op1_cmp rfl rfl rfl rfl).cast (y := (BO ((a0.kind == 7)))) rfl rfl) ?_
       refine sA rfl rfl rfl rfl rfl (ao_nil ?_)
       change BW _ _ _ _ _
       refine bw_cond rfl ?_ ?_
       ·intro hc24; replace h := ocond_t hc24 h
        refine bw_region ?_
        refine sM rfl rfl rfl rfl rfl ?_
        refine sS rfl rfl rfl (op1_faR st_29 (i := 6) rfl rfl rfl) ?_
        refine sS rfl rfl rfl ((op1_ldR Try.underlying25 rfl rfl rfl rfl rfl)) ?_
        obtain ⟨x25, hx25, h⟩ := obind h
        refine sS rfl rfl rfl (op1_ocall rfl en_47 rfl (.cons (Wk.refl _) .nil) ⟨rfl, trivial⟩ (s_ref03_Number a0.ref x25 hx25) (ren_ownrow (ids_map (fun _ => rfl) _) rfl) rfl) ?_
        obtain ⟨x26, hx26, h⟩ := obind h
        refine sS rfl rfl rfl (op1_appM Try.underlying23 inf_5 rfl Try.underlying23 rfl rfl rfl rfl (fun _ => rfl) (fun _ => rfl) hx26 rfl) ?_
        refine sA rfl rfl rfl rfl rfl (ao_nil ?_)
        exact ⟨rfl, x26, h, ⟨(.cons .dead (.cons .same .nil)), (sC rfl sub_nil)⟩⟩
       ·intro hc24; replace h := ocond_f hc24 h
        refine bR ?_
        refine sS rfl rfl rfl ((op1_cmp rfl rfl rfl rfl).cast (y := (BO ((a0.kind == 8)))) rfl rfl) ?_
        refine sA rfl rfl rfl rfl rfl (ao_nil ?_)
        change BW _ _ _ _ _
        refine bw_cond rfl ?_ ?_
        ·intro hc27; replace h := ocond_t hc27 h
         refine bR ?_
         refine sM rfl rfl rfl rfl rfl ?_
         refine sS rfl rfl rfl (op1_faR st_29 (i := 7) rfl rfl rfl) ?_
         refine sS rfl rfl rfl ((op1_ldR Try.underlying26 rfl rfl rfl rfl rfl)) ?_
         refine sS rfl rfl rfl (op1_lenM Try.underlying26 rfl rfl) ?_
         refine sS rfl rfl rfl (op1_convI Try.underlying3 Try.underlying24 rfl rfl) ?_
         obtain ⟨x28, hx28, h⟩ := obind h
         refine sS rfl rfl rfl (op1_ocall rfl en_47 rfl (.cons (Wk.refl _) .nil) ⟨rfl, trivial⟩ (s_ref03_Number (IntKind.u64.wrap (((a0.list).length : Nat) : Int)) x28 hx28) (ren_ownrow (ids_map (fun _ => rfl) _) rfl) rfl) ?_
         obtain ⟨x29, hx29, h⟩ := obind h
         refine sS rfl rfl rfl (op1_appM Try.underlying23 inf_5 rfl Try.underlying23 rfl rfl rfl rfl (fun _ => rfl) (fun _ => rfl) hx29 rfl) ?_
         refine sA rfl rfl rfl rfl rfl (ao_nil ?_)
         change BW _ _ _ _ _
         refine bR ?_
         refine sA rfl rfl rfl rfl rfl (ao_nil ?_)
         change BW _ _ _ _ _
         refine bw_block ?_
         change BW _ _ _ _ _
         unfold ref03_Bytes_l2 at h
         refine bw_loop (σ := (Str × Nat)) (fun i => [(1, (PV.rf 0 0)), (3, (PV.sl (some 1) 1 (List.map ofB i.1))), (6, (I64 (((i.2 : Nat) : Int))))]) (fun i => [.box 29 [(I64 a0.kind), (BO a0.bool), (I64 a0.int), (PV.v (.float .f64 a0.float)), (ofStr a0.text), (PV.sl none 1 (List.map ofB a0.bytes)), (PV.v (.int .u64 a0.ref)), (PV.sl none 11 (List.map ofTerm a0.list)), (PV.sl none 12 (List.map ofEntry a0.fields)), (ofStr a0.cls), (I64 a0.ver)], .arr 5 (i.1).length]) (x29, 0) h ?_ ?_ ?_
         ·intro i; exact ⟨Nat.le_of_ble_eq_true rfl, ⟨(il_rf rfl), ⟨(il_tok rfl (ids_map (fun _ => rfl) _)), ⟨(il_nil rfl), trivial⟩⟩⟩, ⟨⟨(il_nil rfl), ⟨(il_nil rfl), ⟨(il_nil rfl), ⟨(il_nil rfl), ⟨(il_nil rfl), ⟨(il_nil (ids_slM (fun _ => rfl) _)), ⟨(il_nil rfl), ⟨(il_nil (ids_slM ids_Term _)), ⟨(il_nil (ids_slM ids_Entry _)), ⟨(il_nil rfl), ⟨(il_nil rfl), trivial⟩⟩⟩⟩⟩⟩⟩⟩⟩⟩⟩, trivial⟩⟩
         ·exact ⟨(.cons .same (.cons .same .nil)), (sC rfl (sC rfl (sC rfl sub_nil)))⟩
         ·rintro g1_f ⟨s30, s31⟩ h; replace h : ref03_Bytes_l2b r_ref03_Bytes a0 (fun y0 y1 => g1_f (y0, y1)) s30 s31 = some r := h; unfold ref03_Bytes_l2b at h
          change BW _ _ _ ⟨[(1, (PV.rf 0 0)), (3, (PV.sl (some 1) 1 (List.map ofB s30))), (6, (I64 (((s31 : Nat) : Int))))], [.box 29 [(I64 a0.kind), (BO a0.bool), (I64 a0.int), (PV.v (.float .f64 a0.float)), (ofStr a0.text), (PV.sl none 1 (List.map ofB a0.bytes)), (PV.v (.int .u64 a0.ref)), (PV.sl none 11 (List.map ofTerm a0.list)), (PV.sl none 12 (List.map ofEntry a0.fields)), (ofStr a0.cls), (I64 a0.ver)], .arr 5 (s30).length], _⟩ _
          refine bw_seq ?_
          refine bR ?_
          refine sM rfl rfl rfl rfl rfl ?_
          refine sS rfl rfl rfl (op1_faR st_29 (i := 7) rfl rfl rfl) ?_
          refine sS rfl rfl rfl ((op1_ldR Try.underlying26 rfl rfl rfl rfl rfl)) ?_
          refine sS rfl rfl rfl (op1_lenM Try.underlying26 rfl rfl) ?_
          refine sS rfl rfl rfl ((op1_cmp rfl rfl rfl rfl).cast (y := (BO ((decide (((s31 : Nat) : Int) < (((a0.list).length : Nat) : Int)))))) rfl rfl) (ao_nil ?_)
          change BW _ _ _ _ _
          refine bw_len (t := 97) rfl fun hb33 => ?_
          try rw [List.length_map] at hb33
          refine bw_cond rfl ?_ ?_
          ·intro hc32; replace h := ocond_t hc32 h
           have hc32_ := of_decide_eq_true hc32
           refine bw_skip ?_
           change BW _ _ _ _ _
           refine bw_seq ?_
           refine bw_block ?_
           change BW _ _ _ _ _
           refine bw_region ?_
           refine sM rfl rfl rfl rfl rfl ?_
           refine sS rfl rfl rfl (op1_faR st_29 (i := 7) rfl rfl rfl) ?_
           refine sS rfl rfl rfl ((op1_ldR Try.underlying26 rfl rfl rfl rfl rfl)) ?_
           refine sM rfl rfl rfl rfl rfl ?_
           obtain ⟨x34, hx34, h⟩ := obind h
           refine sS rfl rfl rfl (op1_idxN (i := s31) Try.underlying26 inf_29 rfl rfl rfl hx34 (ofTerm_eq _)) ?_
           refine sS rfl rfl rfl (op1_ldPW inf_29 Try.underlying29 rfl rfl rfl rfl rfl) ?_
           obtain ⟨x35, hx35, h⟩ := obind h
           refine sS rfl rfl rfl (op1_pcall rfl en_31 rfl (.cons (Wk.refl _) .nil) ⟨(ids_TermX x34), trivial⟩ (c_ref03_Bytes x34 x35 hx35) (ids_slM (fun _ => rfl) x35)) ?_
           obtain ⟨x36, hx36, h⟩ := obind h
           refine sS rfl rfl rfl (op1_appM Try.underlying23 inf_5 rfl Try.underlying23 rfl rfl rfl rfl (fun _ => rfl) (fun _ => rfl) hx36 rfl) ?_
           refine sA rfl rfl rfl rfl rfl (ao_nil ?_)
           change BW _ _ _ _ _
           refine bw_region ?_
           refine sM rfl rfl rfl rfl rfl ?_
           refine sS rfl rfl rfl (op1_incN (k := s31) (c := 1) rfl rfl rfl (by omega)) ?_
           refine sA rfl rfl rfl rfl rfl (ao_nil ?_)
           exact ⟨rfl, (x36, (s31 + 1)), h, ⟨(.cons .same (.cons .same .nil)), (sC rfl (sC rfl (sC rfl sub_nil)))⟩⟩
          ·intro hc32; replace h := ocond_f hc32 h
           refine bw_exit ?_
           exact ⟨rfl, s30, h, ⟨(.cons .dead (.cons .same .nil)), (sC rfl sub_nil)⟩⟩
        ·intro hc27; replace h := ocond_f hc27 h
         refine bR ?_
         refine sS rfl rfl rfl ((op1_cmp rfl rfl rfl rfl).cast (y := (BO ((a0.kind == 9)))) rfl rfl) ?_
         refine sA rfl rfl rfl rfl rfl (ao_nil ?_)
         change BW _ _ _ _ _
         refine bw_cond rfl ?_ ?_
         ·intro hc37; replace h := ocond_t hc37 h
          refine bw_region ?_
          refine sM rfl rfl rfl rfl rfl ?_
          refine sS rfl rfl rfl (op1_faR st_29 (i := 8) rfl rfl rfl) ?_
          refine sS rfl rfl rfl ((op1_ldR Try.underlying27 rfl rfl rfl rfl rfl)) ?_
          obtain ⟨x38, hx38, h⟩ := obind h
          refine sS rfl rfl rfl (op1_pcall rfl en_49 rfl (.cons (Wk.refl _) .nil) ⟨(ids_slM ids_Entry a0.fields), trivial⟩ (c_ref03_fields a0.fields x38 hx38) (ids_slM (fun _ => rfl) x38)) ?_
          obtain ⟨x39, hx39, h⟩ := obind h
          refine sS rfl rfl rfl (op1_appM Try.underlying23 inf_5 rfl Try.underlying23 rfl rfl rfl rfl (fun _ => rfl) (fun _ => rfl) hx39 rfl) ?_
          refine sA rfl rfl rfl rfl rfl (ao_nil ?_)
          exact ⟨rfl, x39, h, ⟨(.cons .dead (.cons .same .nil)), (sC rfl sub_nil)⟩⟩
         ·intro hc37; replace h := ocond_f hc37 h
          refine bR ?_
          refine sS rfl rfl rfl ((op1_cmp rfl rfl rfl rfl).cast (y := (BO ((a0.kind == 10)))) rfl rfl) ?_
          refine sA rfl rfl rfl rfl rfl (ao_nil ?_)
          change BW _ _ _ _ _
          refine bw_cond rfl ?_ ?_
          ·intro hc40; replace h := ocond_t hc40 h
           refine bR ?_
           refine sM rfl rfl rfl rfl rfl ?_
           refine sS rfl rfl rfl (op1_faR st_29 (i := 9) rfl rfl rfl) ?_
           refine sS rfl rfl rfl ((op1_ldR Try.underlying9 rfl rfl rfl rfl rfl)) ?_
           obtain ⟨x41, hx41, h⟩ := obind h
           refine sS rfl rfl rfl (op1_pcall rfl en_48 rfl (.cons (Wk.refl _) .nil) ⟨rfl, trivial⟩ (s_ref03_text a0.cls x41 hx41) (ids_slM (fun _ => rfl) x41)) ?_
           obtain ⟨x42, hx42, h⟩ := obind h
           refine sS rfl rfl rfl (op1_appM Try.underlying23 inf_5 rfl Try.underlying23 rfl rfl rfl rfl (fun _ => rfl) (fun _ => rfl) hx42 rfl) ?_
           refine sA rfl rfl rfl rfl rfl (ao_nil ?_)
           change BW _ _ _ _ _
           refine bR ?_
           refine sM rfl rfl rfl rfl rfl ?_
           refine sS rfl rfl rfl (op1_faR st_29 (i := 10) rfl rfl rfl) ?_
           refine sS rfl rfl rfl ((op1_ldR Try.underlying3 rfl rfl rfl rfl rfl)) ?_
           refine sS rfl rfl rfl (op1_convI Try.underlying3 Try.underlying24 rfl rfl) ?_
           obtain ⟨x43, hx43, h⟩ := obind h
           refine sS rfl rfl rfl (op1_ocall rfl en_47 rfl (.cons (Wk.refl _) .nil) ⟨rfl, trivial⟩ (s_ref03_Number (IntKind.u64.wrap a0.ver) x43 hx43) (ren_ownrow (ids_map (fun _ => rfl) _) rfl) rfl) ?_
           obtain ⟨x44, hx44, h⟩ := obind h
           refine sS rfl rfl rfl (op1_appM Try.underlying23 inf_5 rfl Try.underlying23 rfl rfl rfl rfl (fun _ => rfl) (fun _ => rfl) hx44 rfl) ?_
           refine sA rfl rfl rfl rfl rfl (ao_nil ?_)
           change BW _ _ _ _ _
           refine bw_region ?_
           refine sM rfl rfl rfl rfl rfl ?_
           refine sS rfl rfl rfl (op1_faR st_29 (i := 8) rfl rfl rfl) ?_
           refine sS rfl rfl rfl ((op1_ldR Try.underlying27 rfl rfl rfl rfl rfl)) ?_
           obtain ⟨x45, hx45, h⟩ := obind h
           refine sS rfl rfl rfl (op1_pcall rfl en_49 rfl (.cons (Wk.refl _) .nil) ⟨(ids_slM ids_Entry a0.fields), trivial⟩ (c_ref03_fields a0.fields x45 hx45) (ids_slM (fun _ => rfl) x45)) ?_
           obtain ⟨x46, hx46, h⟩ := obind h
           refine sS rfl rfl rfl (op1_appM Try.underlying23 inf_5 rfl Try.underlying23 rfl rfl rfl rfl (fun _ => rfl) (fun _ => rfl) hx46 rfl) ?_
           refine sA rfl rfl rfl rfl rfl (ao_nil ?_)
           exact ⟨rfl, x46, h, ⟨(.cons .dead (.cons .same .nil)), (sC rfl sub_nil)⟩⟩
          ·intro hc40; replace h := ocond_f hc40 h
           refine bw_skip ?_
           exact ⟨rfl, ([(UInt8.ofInt a0.kind)] : Str), h, ⟨(.cons .dead (.cons .same .nil)), (sC rfl sub_nil)⟩⟩
theorem C_ref03_fields.sound : ∀ (i : C_ref03_fields) (r : i.R), fixO C_ref03_fields.F i = some r → C_ref03_fields.Q i r := by
 refine fixO_ind (Φ := C_ref03_fields.F) (Q := C_ref03_fields.Q) ?_
 intro g hg i r h
 cases i with
 | k_ref03_fields a0 => exact t_ref03_fields (fun a0 => g (.k_ref03_fields a0)) (fun a0 r hr => hg (.k_ref03_fields a0) r hr) (fun a0 => g (.k_ref03_Bytes a0)) (fun a0 r hr => hg (.k_ref03_Bytes a0) r hr) a0 r h
 | k_ref03_Bytes a0 => exact t_ref03_Bytes (fun a0 => g (.k_ref03_fields a0)) (fun a0 r hr => hg (.k_ref03_fields a0) r hr) (fun a0 => g (.k_ref03_Bytes a0)) (fun a0 r hr => hg (.k_ref03_Bytes a0) r hr) a0 r h
theorem s_ref03_fields (a0 : (List (Str × Term))) (r : Str) (h : p_ref03_fields a0 = some r) : PCalls Try.prog 49 [(PV.sl none 12 (List.map ofEntry a0))] (PV.sl none 1 (List.map ofB r)) := C_ref03_fields.sound (.k_ref03_fields a0) r h
theorem s_ref03_Bytes (a0 : Term) (r : Str) (h : p_ref03_Bytes a0 = some r) : PCalls Try.prog 31 [(ofTermX a0)] (PV.sl none 1 (List.map ofB r)) := C_ref03_fields.sound (.k_ref03_Bytes a0) r h
noncomputable def p_ref03_Encode (a0 : Term) : Option (Str × Int) :=
 Option.bind (p_ref01_Check a0) fun x1 =>
 bif (x1.2 != 0) then (
  some ([], x1.2)
 ) else (
  Option.bind (p_ref03_Bytes a0) fun x3 =>
  some (x3, 0)
 )
theorem s_ref03_Encode (a0 : Term) (r : (Str × Int)) (h : p_ref03_Encode a0 = some r) : PCalls Try.prog 12 [(ofTermX a0)] (PV.tup [(PV.sl none 1 (List.map ofB r.1)), (I64 r.2)]) := by
 unfold p_ref03_Encode at h
 refine acalls_of Try.func12 rfl Try.ntmps12 Try.results12 rfl (aw_of_bw ?_)
 change BW _ _ _ ⟨[(0, (ofTermX a0))], [], _⟩ _
 refine bR ?_
 refine sS rfl rfl rfl (op1_box rfl rfl rfl) ?_
 refine sA rfl rfl rfl rfl rfl ?_
 refine sA rfl rfl rfl rfl rfl (ao_nil ?_)
 change BW _ _ _ _ _
 refine bw_seq ?_
 refine bR ?_
 refine sS rfl rfl rfl ((op1_ldRA inf_29 Try.underlying29 rfl rfl rfl rfl rfl rfl)) ?_
 obtain ⟨x1, hx1, h⟩ := obind h
 refine sS rfl rfl rfl (op1_pcall rfl en_26 rfl (.cons (Wk.refl _) .nil) ⟨(ids_TermX a0), trivial⟩ (s_ref01_Check a0 x1 hx1) (ids_tup_cons rfl (ids_tup_cons rfl ids_tup_nil))) ?_
 refine sM rfl rfl rfl rfl rfl ?_
 refine sS rfl rfl rfl (op1_ext rfl rfl rfl) ?_
 refine sS rfl rfl rfl (op1_ext rfl rfl rfl) ?_
 refine sA rfl rfl rfl rfl rfl ?_
 refine sA rfl rfl rfl rfl rfl (ao_nil ?_)
 change BW _ _ _ _ _
 refine bR ?_
 refine sM rfl rfl rfl rfl rfl ?_
 refine sS rfl rfl rfl ((op1_cmp rfl rfl rfl rfl).cast (y := (BO ((x1.2 != 0)))) rfl rfl) (ao_nil ?_)
 change BW _ _ _ _ _
 refine bw_cond rfl ?_ ?_
 ·intro hc2; replace h := ocond_t hc2 h
  refine bR ?_
  refine sM rfl rfl rfl rfl rfl ?_
  refine sA rfl rfl rfl rfl rfl ?_
  refine sA rfl rfl rfl rfl rfl (ao_nil ?_)
  change BW _ _ _ _ _
  refine bw_ret ?_
  change ∃ xs, _ = some xs ∧ EndOk _ _ _ _
  obtain rfl := Option.some.inj h
  exact ⟨_, rfl, endOk0 (y := (PV.tup [(PV.sl none 1 (List.map ofB [])), (I64 x1.2)])) (Wk.tup (.cons Wk.nil (.cons (Wk.refl _) .nil))) (ids_tup_cons (ids_slM (fun _ => rfl) ([])) (ids_tup_cons rfl ids_tup_nil)) ⟨rfl, rfl⟩⟩
 ·intro hc2; replace h := ocond_f hc2 h
  refine bw_skip ?_
  change BW _ _ _ _ _
  refine bR ?_
  refine sS rfl rfl rfl ((op1_ldRA inf_29 Try.underlying29 rfl rfl rfl rfl rfl rfl)) ?_
  obtain ⟨x3, hx3, h⟩ := obind h
  refine sS rfl rfl rfl (op1_pcall rfl en_31 rfl (.cons (Wk.refl _) .nil) ⟨(ids_TermX a0), trivial⟩ (s_ref03_Bytes a0 x3 hx3) (ids_slM (fun _ => rfl) x3)) ?_
  refine sA rfl rfl rfl rfl rfl ?_
  refine sA rfl rfl rfl rfl rfl (ao_nil ?_)
  change BW _ _ _ _ _
  refine bw_ret ?_
  change ∃ xs, _ = some xs ∧ EndOk _ _ _ _
  obtain rfl := Option.some.inj h
  exact ⟨_, rfl, endOk0 (y := (PV.tup [(PV.sl none 1 (List.map ofB x3)), (I64 0)])) (Wk.refl _) (ids_tup_cons (ids_slM (fun _ => rfl) x3) (ids_tup_cons rfl ids_tup_nil)) ⟨rfl, rfl⟩⟩
noncomputable def law03_same_l1b (a0 : Str) (a1 : Str) (g1 : Nat → Option Bool) (s2 : Nat) : Option Bool :=
 bif (decide (((s2 : Nat) : Int) < (((a0).length : Nat) : Int))) then (
  Option.bind ((a0)[s2]?) fun x5 =>
  Option.bind ((a1)[s2]?) fun x6 =>
  bif (((x5).toNat : Int) != ((x6).toNat : Int)) then (
   some false
  ) else (
   g1 (s2 + 1)
  )
 ) else (
  some true
 )
theorem law03_same_l1b_cm {ι : Type} {ρ : ι → Type} (g1 : (∀ i, Option (ρ i)) → Nat → Option Bool) (h_g1 : ∀ y0, CM (fun G => g1 G y0)) (a0 : Str) (a1 : Str) (s2 : Nat) : CM (fun G : (∀ i, Option (ρ i)) => law03_same_l1b a0 a1 (g1 G) s2) := by
 simp only [law03_same_l1b]
 repeat (first | exact cm_const | exact h_g1 _ | refine cm_cond ?_ ?_ | refine cm_bind ?_ (fun _ => ?_))
noncomputable def law03_same_l1 (a0 : Str) (a1 : Str) (s2 : Nat) : Option Bool :=
 fixO (ι := Nat) (ρ := fun _ => Bool) (fun g i => law03_same_l1b a0 a1 (fun s2 => g s2) i) s2
theorem law03_same_l1_eq (a0 : Str) (a1 : Str) (s2 : Nat) : law03_same_l1 a0 a1 s2 = law03_same_l1b a0 a1 (law03_same_l1 a0 a1) s2 :=
 fixO_eq (ι := Nat) (ρ := fun _ => Bool) (Φ := fun g i => law03_same_l1b a0 a1 (fun s2 => g s2) i) (fun i => law03_same_l1b_cm (ι := Nat) (ρ := fun _ => Bool) (fun g => (fun s2 => g s2)) (fun _ => cm_app) a0 a1 i) s2
noncomputable def p_law03_same (a0 : Str) (a1 : Str) : Option Bool :=
 bif ((((a0).length : Nat) : Int) != (((a1).length : Nat) : Int)) then (
  some false
 ) else (
  law03_same_l1 a0 a1 0
 )
theorem s_law03_same (a0 : Str) (a1 : Str) (r : Bool) (h : p_law03_same a0 a1 = some r) : PCalls Try.prog 13 [(PV.sl none 1 (List.map ofB a0)), (PV.sl none 1 (List.map ofB a1))] (BO r) := by
 unfold p_law03_same at h
 refine acalls_of Try.func13 rfl Try.ntmps13 Try.results13 rfl (aw_of_bw ?_)
 change BW _ _ _ ⟨[(0, (PV.sl none 1 (List.map ofB a0))), (1, (PV.sl none 1 (List.map ofB a1)))], [], _⟩ _
 refine bR ?_
 refine sA rfl rfl rfl rfl rfl (ao_nil ?_)
 change BW _ _ _ _ _
 refine bw_seq ?_
 refine bR ?_
 refine sM rfl rfl rfl rfl rfl ?_
 refine sS rfl rfl rfl (op1_lenM Try.underlying23 rfl rfl) ?_
 refine sM rfl rfl rfl rfl rfl ?_
 refine sS rfl rfl rfl (op1_lenM Try.underlying23 rfl rfl) ?_
 refine sS rfl rfl rfl ((op1_cmp rfl rfl rfl rfl).cast (y := (BO (((((a0).length : Nat) : Int) != (((a1).length : Nat) : Int))))) rfl rfl) (ao_nil ?_)
 change BW _ _ _ _ _
 refine bw_cond rfl ?_ ?_
 ·intro hc1; replace h := ocond_t hc1 h
  refine bR ?_
  refine sA rfl rfl rfl rfl rfl (ao_nil ?_)
  change BW _ _ _ _ _
  refine bw_ret ?_
  change ∃ xs, _ = some xs ∧ EndOk _ _ _ _
  obtain rfl := Option.some.inj h
  exact ⟨_, rfl, endOk0 (y := (BO false)) (Wk.refl _) rfl ⟨rfl, rfl⟩⟩
 ·intro hc1; replace h := ocond_f hc1 h
  refine bw_skip ?_
  change BW _ _ _ _ _
  refine bw_seq ?_
  refine bR ?_
  refine sA rfl rfl rfl rfl rfl (ao_nil ?_)
  change BW _ _ _ _ _
  refine bw_block ?_
  change BW _ _ _ _ _
  unfold law03_same_l1 at h
  refine bw_loop (σ := Nat) (fun i => [(0, (PV.sl none 1 (List.map ofB a0))), (1, (PV.sl none 1 (List.map ofB a1))), (5, (I64 (((i : Nat) : Int))))]) (fun i => []) 0 h ?_ ?_ ?_
  ·intro i; exact ⟨Nat.le_of_ble_eq_true rfl, ⟨(il_nil (ids_slM (fun _ => rfl) _)), ⟨(il_nil (ids_slM (fun _ => rfl) _)), ⟨(il_nil rfl), trivial⟩⟩⟩, trivial⟩
  ·exact ⟨.nil, (sC rfl (sC rfl (sC rfl sub_nil)))⟩
  ·rintro g1_f s2 h; replace h : law03_same_l1b a0 a1 (fun y0 => g1_f y0) s2 = some r := h; unfold law03_same_l1b at h
   change BW _ _ _ ⟨[(0, (PV.sl none 1 (List.map ofB a0))), (1, (PV.sl none 1 (List.map ofB a1))), (5, (I64 (((s2 : Nat) : Int))))], [], _⟩ _
   refine bw_seq ?_
   refine bR ?_
   refine sM rfl rfl rfl rfl rfl ?_
   refine sM rfl rfl rfl rfl rfl ?_
   refine sS rfl rfl rfl (op1_lenM Try.underlying23 rfl rfl) ?_
   refine sS rfl rfl rfl ((op1_cmp rfl rfl rfl rfl).cast (y := (BO ((decide (((s2 : Nat) : Int) < (((a0).length : Nat) : Int)))))) rfl rfl) (ao_nil ?_)
   change BW _ _ _ _ _
   refine bw_len (t := 12) rfl fun hb4 => ?_
   try rw [List.length_map] at hb4
   refine bw_cond rfl ?_ ?_
   ·intro hc3; replace h := ocond_t hc3 h
    have hc3_ := of_decide_eq_true hc3
    refine bw_skip ?_
    change BW _ _ _ _ _
    refine bw_seq ?_
    refine bw_block ?_
    change BW _ _ _ _ _
    refine bw_seq (bw_tail 8 [] [] mo (by kernel_rfl) ?_)
    refine ac_go rfl rfl rfl rfl (fun H hp => op1_move rfl rfl) ?_
    refine ac_go rfl rfl rfl rfl (fun H hp => op1_move rfl rfl) ?_
    obtain ⟨x5, hx5, h⟩ := obind h
    refine ac_go rfl rfl rfl rfl (fun H hp => op1_idxN (i := s2) Try.underlying23 inf_5 rfl rfl rfl hx5 rfl) ?_
    refine ac_go rfl rfl rfl rfl (fun H hp => op1_ldP (y := (ofB x5)) Try.underlying5 rfl rfl rfl rfl) ?_
    refine ac_go rfl rfl rfl rfl (fun H hp => op1_move rfl rfl) ?_
    refine ac_go rfl rfl rfl rfl (fun H hp => op1_move rfl rfl) ?_
    obtain ⟨x6, hx6, h⟩ := obind h
    refine ac_go rfl rfl rfl rfl (fun H hp => op1_idxN (i := s2) Try.underlying23 inf_5 rfl rfl rfl hx6 rfl) ?_
    refine ac_go rfl rfl rfl rfl (fun H hp => op1_ldP (y := (ofB x6)) Try.underlying5 rfl rfl rfl rfl) ?_
    refine ac_nil ?_
    change AO _ _ _ _ _
    refine sS rfl rfl rfl ((op1_cmp rfl rfl rfl rfl).cast (y := (BO ((((x5).toNat : Int) != ((x6).toNat : Int))))) rfl rfl) (ao_nil ?_)
    change BW _ _ _ _ _
    refine bw_cond rfl ?_ ?_
    ·intro hc7; replace h := ocond_t hc7 h
     refine bR ?_
     refine sA rfl rfl rfl rfl rfl (ao_nil ?_)
     change BW _ _ _ _ _
     refine bw_ret ?_
     change ∃ xs, _ = some xs ∧ EndOk _ _ _ _
     obtain rfl := Option.some.inj h
     exact ⟨_, rfl, endOk0 (y := (BO false)) (Wk.refl _) rfl ⟨rfl, rfl⟩⟩
    ·intro hc7; replace h := ocond_f hc7 h
     refine bw_skip ?_
     change BW _ _ _ _ _
     refine bw_region ?_
     refine sM rfl rfl rfl rfl rfl ?_
     refine sS rfl rfl rfl (op1_incN (k := s2) (c := 1) rfl rfl rfl (by omega)) ?_
     refine sA rfl rfl rfl rfl rfl (ao_nil ?_)
     exact ⟨rfl, (s2 + 1), h, ⟨.nil, (sC rfl (sC rfl (sC rfl sub_nil)))⟩⟩
   ·intro hc3; replace h := ocond_f hc3 h
    refine bw_exit ?_
    change BW _ _ _ _ _
    refine bR ?_
    refine sA rfl rfl rfl rfl rfl (ao_nil ?_)
    change BW _ _ _ _ _
    refine bw_ret ?_
    change ∃ xs, _ = some xs ∧ EndOk _ _ _ _
    obtain rfl := Option.some.inj h
    exact ⟨_, rfl, endOk0 (y := (BO true)) (Wk.refl _) rfl ⟨rfl, rfl⟩⟩
noncomputable def law03_WireEncodes_j1 (x2 : (Str × Int)) (x3 : (Str × Int)) (x4 : (Str × Int)) (s5 : Bool) : Option Bool :=
 bif s5 then (
  some false
 ) else (
  Option.bind (fullO x2.1 (3 : UInt8)) fun x7 =>
  Option.bind (p_wire_Encode (V.bool true)) fun x8 =>
  Option.bind (p_law03_same x3.1 x4.1) fun x9 =>
  bif x9 then (
   bif (x8.2 == 0) then (
    some ((((x8.1).length : Nat) : Int) == 2)
   ) else (
    some false
   )
  ) else (
   some false
  )
 )
noncomputable def p_law03_WireEncodes (a0 : Term) : Option Bool :=
 Option.bind (p_mk_Built a0) fun x1 =>
 Option.bind (p_wire_Encode x1) fun x2 =>
 Option.bind (p_wire_Encode x1) fun x3 =>
 Option.bind (p_ref03_Encode a0) fun x4 =>
 bif (x2.2 != x4.2) then (
  law03_WireEncodes_j1 x2 x3 x4 true
 ) else (
  Option.bind (p_law03_same x2.1 x4.1) fun x13 =>
  bif (!x13) then (
   law03_WireEncodes_j1 x2 x3 x4 true
  ) else (
   Option.bind (p_law03_same x3.1 x4.1) fun x15 =>
   bif (!x15) then (
    law03_WireEncodes_j1 x2 x3 x4 true
   ) else (
    Option.bind (p_mk_Plain x1) fun x17 =>
    Option.bind (p_mk_Built a0) fun x18 =>
    Option.bind (p_mk_Plain x18) fun x19 =>
    Option.bind (p_mk_Same x17 x19) fun x20 =>
    bif (!x20) then (
     law03_WireEncodes_j1 x2 x3 x4 (x4.2 == 0)
    ) else (
     law03_WireEncodes_j1 x2 x3 x4 false
    )
   )
  )
 )
theorem s_law03_WireEncodes (a0 : Term) (r : Bool) (h : p_law03_WireEncodes a0 = some r) : PCalls Try.prog 3 [(ofTermX a0)] (BO r) := by
 unfold p_law03_WireEncodes at h
 refine acalls_of Try.func3 rfl Try.ntmps3 Try.results3 rfl (aw_of_bw ?_)
 change BW _ _ _ ⟨[(0, (ofTermX a0))], [], _⟩ _
 refine bR ?_
 refine sS rfl rfl rfl (op1_box rfl rfl rfl) ?_
 refine sA rfl rfl rfl rfl rfl (ao_nil ?_)
 change BW _ _ _ _ _
 refine bR ?_
 refine sS rfl rfl rfl ((op1_ldRA inf_29 Try.underlying29 rfl rfl rfl rfl rfl rfl)) ?_
 obtain ⟨x1, hx1, h⟩ := obind h
 refine sS rfl rfl rfl (op1_pcall rfl en_10 rfl (.cons (Wk.refl _) .nil) ⟨(ids_TermX a0), trivial⟩ (s_mk_Built a0 x1 hx1) (ids_V x1)) ?_
 refine sA rfl rfl rfl rfl rfl (ao_nil ?_)
 change BW _ _ _ _ _
 refine bR ?_
 refine sM rfl rfl rfl rfl rfl ?_
 obtain ⟨x2, hx2, h⟩ := obind h
 refine sS rfl rfl rfl (op1_fcall rfl en_11 rfl (.cons (.old (.wk (Wk.refl _) (ids_V x1))) .nil) (s_wire_Encode x1 x2 hx2) (Pl.tup (.cons (pl_sl (fun _ => Pl.v) x2.1) (.cons Pl.v .nil)))) ?_
 refine sM rfl rfl rfl rfl rfl ?_
 refine sS rfl rfl rfl (op1_extH rfl rfl rfl) ?_
 refine sS rfl rfl rfl ((op1_extH rfl rfl rfl).wk (Wk.hidSc Sc.v)) ?_
 refine sA rfl rfl rfl rfl rfl ?_
 refine sA rfl rfl rfl rfl rfl (ao_nil ?_)
 change BW _ _ _ _ _
 refine bR ?_
 refine sM rfl rfl rfl rfl rfl ?_
 obtain ⟨x3, hx3, h⟩ := obind h
 refine sS rfl rfl rfl (op1_fcall rfl en_11 rfl (.cons (.old (.wk (Wk.refl _) (ids_V x1))) .nil) (s_wire_Encode x1 x3 hx3) (Pl.tup (.cons (pl_sl (fun _ => Pl.v) x3.1) (.cons Pl.v .nil)))) ?_
 refine sM rfl rfl rfl rfl rfl ?_
 refine sS rfl rfl rfl (op1_extH rfl rfl rfl) ?_
 refine sS rfl rfl rfl ((op1_extH rfl rfl rfl).wk (Wk.hidSc Sc.v)) ?_
 refine sA rfl rfl rfl rfl rfl ?_
 refine sA rfl rfl rfl rfl rfl (ao_nil ?_)
 change BW _ _ _ _ _
 refine bR ?_
 refine sS rfl rfl rfl ((op1_ldRA inf_29 Try.underlying29 rfl rfl rfl rfl rfl rfl)) ?_
 obtain ⟨x4, hx4, h⟩ := obind h
 refine sS rfl rfl rfl (op1_pcall rfl en_12 rfl (.cons (Wk.refl _) .nil) ⟨(ids_TermX a0), trivial⟩ (s_ref03_Encode a0 x4 hx4) (ids_tup_cons (ids_slM (fun _ => rfl) x4.1) (ids_tup_cons rfl ids_tup_nil))) ?_
 refine sM rfl rfl rfl rfl rfl ?_
 refine sS rfl rfl rfl (op1_ext rfl rfl rfl) ?_
 refine sS rfl rfl rfl (op1_ext rfl rfl rfl) ?_
 refine sA rfl rfl rfl rfl rfl ?_
 refine sA rfl rfl rfl rfl rfl (ao_nil ?_)
 change BW _ _ _ _ _
 refine bw_seq ?_
 refine bw_seqJ (ι := Bool) (fun i => law03_WireEncodes_j1 x2 x3 x4 i = some r) (fun i => [(4, (PV.hid 1 (PV.sl none 1 (List.map ofB x2.1)))), (6, (PV.hid 2 (PV.sl none 1 (List.map ofB x3.1)))), (8, (PV.sl none 1 (List.map ofB x4.1))), (56, (BO i))]) (fun i => [.dead, .reg, .reg]) ?_ ?_ ?_
 ·intro i; exact ⟨Nat.le_of_ble_eq_true rfl, ⟨(il_hid rfl (ids_slM (fun _ => rfl) _)), ⟨(il_hid rfl (ids_slM (fun _ => rfl) _)), ⟨(il_nil (ids_slM (fun _ => rfl) _)), ⟨(il_nil rfl), trivial⟩⟩⟩⟩, trivial⟩
 ·rintro s5 h; replace h : law03_WireEncodes_j1 x2 x3 x4 s5 = some r := h; unfold law03_WireEncodes_j1 at h
  change BW _ _ _ ⟨[(4, (PV.hid 1 (PV.sl none 1 (List.map ofB x2.1)))), (6, (PV.hid 2 (PV.sl none 1 (List.map ofB x3.1)))), (8, (PV.sl none 1 (List.map ofB x4.1))), (56, (BO s5))], [.dead, .reg, .reg], _⟩ _
  refine bw_cond rfl ?_ ?_
  ·intro hc6; replace h := ocond_t hc6 h
   refine bR ?_
   refine sA rfl rfl rfl rfl rfl (ao_nil ?_)
   change BW _ _ _ _ _
   refine bw_ret ?_
   change ∃ xs, _ = some xs ∧ EndOk _ _ _ _
   obtain rfl := Option.some.inj h
   exact ⟨_, rfl, endOk0 (y := (BO false)) (Wk.refl _) rfl ⟨rfl, rfl⟩⟩
  ·intro hc6; replace h := ocond_f hc6 h
   refine bw_skip ?_
   change BW _ _ _ _ _
   refine bR ?_
   refine sM rfl rfl rfl rfl rfl ?_
   obtain ⟨x7, hx7, h⟩ := obind h
   refine sS rfl rfl rfl (op1_spoil 1 rfl en_16 rfl rfl (.cons .hid (.cons (.sc (Wk.refl _) Sc.v) .nil)) (sp_full x2.1 (3 : UInt8) hx7) (Sc.tup sc_nil)) (ao_nil ?_)
   change BW _ _ _ _ _
   refine bR ?_
   refine sS rfl rfl rfl ((op1_mkI Try.underlying4 rfl rfl rfl).wk ((Wk.iface (Wk.refl _)).trans (Wk.eq (mk_bool _).symm))) ?_
   obtain ⟨x8, hx8, h⟩ := obind h
   refine sS rfl rfl rfl (op1_fcall rfl en_11 rfl (.cons (.old (.wk (Wk.refl _) (ids_V (V.bool true)))) .nil) (s_wire_Encode (V.bool true) x8 hx8) (Pl.tup (.cons (pl_sl (fun _ => Pl.v) x8.1) (.cons Pl.v .nil)))) ?_
   refine sM rfl rfl rfl rfl rfl ?_
   refine sS rfl rfl rfl (op1_extH rfl rfl rfl) ?_
   refine sS rfl rfl rfl ((op1_extH rfl rfl rfl).wk (Wk.hidSc Sc.v)) ?_
   refine sA rfl rfl rfl rfl rfl ?_
   refine sA rfl rfl rfl rfl rfl (ao_nil ?_)
   change BW _ _ _ _ _
   refine bR ?_
   refine sM rfl rfl rfl rfl rfl ?_
   refine sM rfl rfl rfl rfl rfl ?_
   obtain ⟨x9, hx9, h⟩ := obind h
   refine sS rfl rfl rfl (op1_hcall rfl en_13 rfl (.cons (.hid rfl) (.cons (.wk (Wk.refl _) (ids_slM (fun _ => rfl) x4.1)) .nil)) (s_law03_same x3.1 x4.1 x9 hx9) Sc.v) ?_
   refine sM rfl rfl rfl rfl rfl ?_
   refine ao_cases (t := 67) rfl ?_ ?_
   ·intro hb10; replace h := ocond_t hb10 h
    refine ao_yes rfl rfl rfl rfl rfl rfl (op1_move rfl rfl) ?_
    refine ao_yes rfl rfl rfl rfl rfl rfl ((op1_cmp rfl rfl rfl rfl).cast (y := (BO ((x8.2 == 0)))) rfl rfl) ?_
    refine sS rfl rfl rfl (op1_pickT rfl rfl rfl) ?_
    refine sM rfl rfl rfl rfl rfl ?_
    refine ao_cases (t := 71) rfl ?_ ?_
    ·intro hb11; replace h := ocond_t hb11 h
     refine ao_yes rfl rfl rfl rfl rfl rfl (op1_move rfl rfl) ?_
     refine ao_yes rfl rfl rfl rfl rfl rfl (op1_regS [3] ⟨rfl, trivial⟩ (op1_lenM Try.underlying23 rfl rfl) Sc.v) ?_
     refine ao_yes rfl rfl rfl rfl rfl rfl ((op1_cmp rfl rfl rfl rfl).cast (y := (BO (((((x8.1).length : Nat) : Int) == 2)))) rfl rfl) ?_
     refine sS rfl rfl rfl (op1_pickT rfl rfl rfl) ?_
     refine sA rfl rfl rfl rfl rfl (ao_nil ?_)
     change BW _ _ _ _ _
     refine bw_ret ?_
     change ∃ xs, _ = some xs ∧ EndOk _ _ _ _
     obtain rfl := Option.some.inj h
     exact ⟨_, rfl, endOk0 (y := (BO (((((x8.1).length : Nat) : Int) == 2)))) (Wk.refl _) rfl ⟨rfl, rfl⟩⟩
    ·intro hb11; replace h := ocond_f hb11 h
     refine ao_no rfl rfl rfl rfl rfl rfl ?_
     refine ao_no rfl rfl rfl rfl rfl rfl ?_
     refine ao_no rfl rfl rfl rfl rfl rfl ?_
     refine sS rfl rfl rfl (op1_pickF rfl rfl rfl) ?_
     refine sA rfl rfl rfl rfl rfl (ao_nil ?_)
     change BW _ _ _ _ _
     refine bw_ret ?_
     change ∃ xs, _ = some xs ∧ EndOk _ _ _ _
     obtain rfl := Option.some.inj h
     exact ⟨_, rfl, endOk0 (y := (BO false)) (Wk.refl _) rfl ⟨rfl, rfl⟩⟩
   ·intro hb10; replace h := ocond_f hb10 h
    refine ao_no rfl rfl rfl rfl rfl rfl ?_
    refine ao_no rfl rfl rfl rfl rfl rfl ?_
    refine sS rfl rfl rfl (op1_pickF rfl rfl rfl) ?_
    refine sM rfl rfl rfl rfl rfl ?_
    refine ao_no rfl rfl rfl rfl rfl rfl ?_
    refine ao_no rfl rfl rfl rfl rfl rfl ?_
    refine ao_no rfl rfl rfl rfl rfl rfl ?_
    refine sS rfl rfl rfl (op1_pickF rfl rfl rfl) ?_
    refine sA rfl rfl rfl rfl rfl (ao_nil ?_)
    change BW _ _ _ _ _
    refine bw_ret ?_
    change ∃ xs, _ = some xs ∧ EndOk _ _ _ _
    obtain rfl := Option.some.inj h
    exact ⟨_, rfl, endOk0 (y := (BO false)) (Wk.refl _) rfl ⟨rfl, rfl⟩⟩
 ·refine bw_tail 19 [] [0, 1, 2] mo (by kernel_rfl) ?_
  refine ac_go rfl rfl rfl rfl (fun H hp => op1_move rfl rfl) ?_
  refine ac_go rfl rfl rfl rfl (fun H hp => op1_move rfl rfl) ?_
  refine ac_go rfl rfl rfl rfl (fun H hp => (op1_cmp rfl rfl rfl rfl).cast (y := (BO ((x2.2 != x4.2)))) rfl rfl) ?_
  refine ac_go rfl rfl rfl rfl (fun H hp => op1_move rfl rfl) ?_
  refine ac_cases 32 rfl ?_ ?_
  ·intro hb12; replace h := ocond_t hb12 h
   refine ac_no rfl rfl rfl rfl rfl rfl rfl ?_
   refine ac_no rfl rfl rfl rfl rfl rfl rfl ?_
   refine ac_no rfl rfl rfl rfl rfl rfl rfl ?_
   refine ac_no rfl rfl rfl rfl rfl rfl rfl ?_
   refine ac_go rfl rfl rfl rfl (fun H hp => op1_pickT rfl rfl rfl) ?_
   refine ac_go rfl rfl rfl rfl (fun H hp => op1_move rfl rfl) ?_
   refine ac_no rfl rfl rfl rfl rfl rfl rfl ?_
   refine ac_no rfl rfl rfl rfl rfl rfl rfl ?_
   refine ac_no rfl rfl rfl rfl rfl rfl rfl ?_
   refine ac_no rfl rfl rfl rfl rfl rfl rfl ?_
   refine ac_go rfl rfl rfl rfl (fun H hp => op1_pickT rfl rfl rfl) ?_
   refine ac_go rfl rfl rfl rfl (fun H hp => op1_move rfl rfl) ?_
   refine ac_no rfl rfl rfl rfl rfl rfl rfl ?_
   refine ac_no rfl rfl rfl rfl rfl rfl rfl ?_
   refine ac_no rfl rfl rfl rfl rfl rfl rfl ?_
   refine ac_nil ?_
   change AO _ _ _ _ _
   refine ao_no rfl rfl rfl rfl rfl rfl ?_
   refine ao_no rfl rfl rfl rfl rfl rfl ?_
   refine ao_no rfl rfl rfl rfl rfl rfl ?_
   refine ao_no rfl rfl rfl rfl rfl rfl ?_
   refine ao_no rfl rfl rfl rfl rfl rfl ?_
   refine ao_no rfl rfl rfl rfl rfl rfl ?_
   refine ao_no rfl rfl rfl rfl rfl rfl ?_
   refine ao_no rfl rfl rfl rfl rfl rfl ?_
   refine sS rfl rfl rfl (op1_pickT rfl rfl rfl) (ao_nil ?_)
   exact ⟨rfl, true, h, ⟨(.cons .dead (.cons .same (.cons .same .nil))), (sC rfl (sC rfl (sC rfl (sC rfl sub_nil))))⟩⟩
  ·intro hb12; replace h := ocond_f hb12 h
   refine ac_yes rfl rfl rfl rfl rfl rfl rfl (fun H hp => op1_move rfl rfl) ?_
   refine ac_yes rfl rfl rfl rfl rfl rfl rfl (fun H hp => op1_move rfl rfl) ?_
   obtain ⟨x13, hx13, h⟩ := obind h
   refine ac_yes rfl rfl rfl rfl rfl rfl rfl (fun H hp => op1_hcall rfl en_13 rfl (.cons (.hid (hp.at rfl rfl)) (.cons (.wk (Wk.refl _) (ids_slM (fun _ => rfl) x4.1)) .nil)) (s_law03_same x2.1 x4.1 x13 hx13) Sc.v) ?_
   refine ac_yes rfl rfl rfl rfl rfl rfl rfl (fun H hp => op1_not rfl rfl) ?_
   refine ac_go rfl rfl rfl rfl (fun H hp => op1_pickF rfl rfl rfl) ?_
   refine ac_go rfl rfl rfl rfl (fun H hp => op1_move rfl rfl) ?_
   refine ac_cases 38 rfl ?_ ?_
   ·intro hb14; replace h := ocond_t hb14 h
    refine ac_no rfl rfl rfl rfl rfl rfl rfl ?_
    refine ac_no rfl rfl rfl rfl rfl rfl rfl ?_
    refine ac_no rfl rfl rfl rfl rfl rfl rfl ?_
    refine ac_no rfl rfl rfl rfl rfl rfl rfl ?_
    refine ac_go rfl rfl rfl rfl (fun H hp => op1_pickT rfl rfl rfl) ?_
    refine ac_go rfl rfl rfl rfl (fun H hp => op1_move rfl rfl) ?_
    refine ac_no rfl rfl rfl rfl rfl rfl rfl ?_
    refine ac_no rfl rfl rfl rfl rfl rfl rfl ?_
    refine ac_no rfl rfl rfl rfl rfl rfl rfl ?_
    refine ac_nil ?_
    change AO _ _ _ _ _
    refine ao_no rfl rfl rfl rfl rfl rfl ?_
    refine ao_no rfl rfl rfl rfl rfl rfl ?_
    refine ao_no rfl rfl rfl rfl rfl rfl ?_
    refine ao_no rfl rfl rfl rfl rfl rfl ?_
    refine ao_no rfl rfl rfl rfl rfl rfl ?_
    refine ao_no rfl rfl rfl rfl rfl rfl ?_
    refine ao_no rfl rfl rfl rfl rfl rfl ?_
    refine ao_no rfl rfl rfl rfl rfl rfl ?_
    refine sS rfl rfl rfl (op1_pickT rfl rfl rfl) (ao_nil ?_)
    exact ⟨rfl, true, h, ⟨(.cons .dead (.cons .same (.cons .same .nil))), (sC rfl (sC rfl (sC rfl (sC rfl sub_nil))))⟩⟩
   ·intro hb14; replace h := ocond_f hb14 h
    refine ac_yes rfl rfl rfl rfl rfl rfl rfl (fun H hp => op1_move rfl rfl) ?_
    refine ac_yes rfl rfl rfl rfl rfl rfl rfl (fun H hp => op1_move rfl rfl) ?_
    obtain ⟨x15, hx15, h⟩ := obind h
    refine ac_yes rfl rfl rfl rfl rfl rfl rfl (fun H hp => op1_hcall rfl en_13 rfl (.cons (.hid (hp.at rfl rfl)) (.cons (.wk (Wk.refl _) (ids_slM (fun _ => rfl) x4.1)) .nil)) (s_law03_same x3.1 x4.1 x15 hx15) Sc.v) ?_
    refine ac_yes rfl rfl rfl rfl rfl rfl rfl (fun H hp => op1_not rfl rfl) ?_
    refine ac_go rfl rfl rfl rfl (fun H hp => op1_pickF rfl rfl rfl) ?_
    refine ac_go rfl rfl rfl rfl (fun H hp => op1_move rfl rfl) ?_
    refine ac_cases 44 rfl ?_ ?_
    ·intro hb16; replace h := ocond_t hb16 h
     refine ac_no rfl rfl rfl rfl rfl rfl rfl ?_
     refine ac_no rfl rfl rfl rfl rfl rfl rfl ?_
     refine ac_no rfl rfl rfl rfl rfl rfl rfl ?_
     refine ac_nil ?_
     change AO _ _ _ _ _
     refine ao_no rfl rfl rfl rfl rfl rfl ?_
     refine ao_no rfl rfl rfl rfl rfl rfl ?_
     refine ao_no rfl rfl rfl rfl rfl rfl ?_
     refine ao_no rfl rfl rfl rfl rfl rfl ?_
     refine ao_no rfl rfl rfl rfl rfl rfl ?_
     refine ao_no rfl rfl rfl rfl rfl rfl ?_
     refine ao_no rfl rfl rfl rfl rfl rfl ?_
     refine ao_no rfl rfl rfl rfl rfl rfl ?_
     refine sS rfl rfl rfl (op1_pickT rfl rfl rfl) (ao_nil ?_)
     exact ⟨rfl, true, h, ⟨(.cons .dead (.cons .same (.cons .same .nil))), (sC rfl (sC rfl (sC rfl (sC rfl sub_nil))))⟩⟩
    ·intro hb16; replace h := ocond_f hb16 h
     refine ac_yes rfl rfl rfl rfl rfl rfl rfl (fun H hp => op1_move rfl rfl) ?_
     obtain ⟨x17, hx17, h⟩ := obind h
     refine ac_yes rfl rfl rfl rfl rfl rfl rfl (fun H hp => op1_pcall rfl en_15 rfl (.cons (Wk.refl _) .nil) ⟨(ids_V x1), trivial⟩ (s_mk_Plain x1 x17 hx17) (ids_TermX x17)) ?_
     refine ac_yes rfl rfl rfl rfl rfl rfl rfl (fun H hp => (op1_ldRA inf_29 Try.underlying29 rfl rfl rfl (hp.at rfl rfl) rfl rfl)) ?_
     refine ac_nil ?_
     change AO _ _ _ _ _
     obtain ⟨x18, hx18, h⟩ := obind h
     refine ao_yes rfl rfl rfl rfl rfl rfl (op1_pcall rfl en_10 rfl (.cons (Wk.refl _) .nil) ⟨(ids_TermX a0), trivial⟩ (s_mk_Built a0 x18 hx18) (ids_V x18)) ?_
     obtain ⟨x19, hx19, h⟩ := obind h
     refine ao_yes rfl rfl rfl rfl rfl rfl (op1_pcall rfl en_15 rfl (.cons (Wk.refl _) .nil) ⟨(ids_V x18), trivial⟩ (s_mk_Plain x18 x19 hx19) (ids_TermX x19)) ?_
     obtain ⟨x20, hx20, h⟩ := obind h
     refine ao_yes rfl rfl rfl rfl rfl rfl (op1_pcall rfl en_14 rfl (.cons (Wk.refl _) (.cons (Wk.refl _) .nil)) ⟨(ids_TermX x17), ⟨(ids_TermX x19), trivial⟩⟩ (s_mk_Same x17 x19 x20 hx20) rfl) ?_
     refine ao_yes rfl rfl rfl rfl rfl rfl (op1_not rfl rfl) ?_
     refine ao_yes rfl rfl rfl rfl rfl rfl (op1_move rfl rfl) ?_
     refine ao_cases (t := 52) rfl ?_ ?_
     ·intro hb21; replace h := ocond_t hb21 h
      refine ao_yes rfl rfl rfl rfl rfl rfl (op1_move rfl rfl) ?_
      refine ao_yes rfl rfl rfl rfl rfl rfl ((op1_cmp rfl rfl rfl rfl).cast (y := (BO ((x4.2 == 0)))) rfl rfl) ?_
      refine ao_yes rfl rfl rfl rfl rfl rfl (op1_pickT rfl rfl rfl) ?_
      refine sS rfl rfl rfl (op1_pickF rfl rfl rfl) (ao_nil ?_)
      exact ⟨rfl, (x4.2 == 0), h, ⟨(.cons .dead (.cons .same (.cons .same .nil))), (sC rfl (sC rfl (sC rfl (sC rfl sub_nil))))⟩⟩
     ·intro hb21; replace h := ocond_f hb21 h
      refine ao_no rfl rfl rfl rfl rfl rfl ?_
      refine ao_no rfl rfl rfl rfl rfl rfl ?_
      refine ao_yes rfl rfl rfl rfl rfl rfl (op1_pickF rfl rfl rfl) ?_
      refine sS rfl rfl rfl (op1_pickF rfl rfl rfl) (ao_nil ?_)
      exact ⟨rfl, false, h, ⟨(.cons .dead (.cons .same (.cons .same .nil))), (sC rfl (sC rfl (sC rfl (sC rfl sub_nil))))⟩⟩
end Go.Proofs.Ytigadhiciinicaa
