/- Pure functions, and that calls answer as they say. Written by gen.py. -/
import Derived.Test.YtigadhiciinicaaG2
namespace Go.Proofs.Ytigadhiciinicaa
open Go Aw
set_option linter.unusedVariables false
set_option linter.unusedSimpArgs false
set_option maxRecDepth 20000
set_option maxHeartbeats 2000000
noncomputable def wire_fields_l1b (r_wire_put : Str → V → Option Str) (a1 : (List (Str × V))) (g1 : Str → Nat → Option Str) (s2 : Str) (s3 : Nat) : Option Str :=
 bif (decide (((s3 : Nat) : Int) < (((a1).length : Nat) : Int))) then (
  Option.bind ((a1)[s3]?) fun x6 =>
  Option.bind (p_wire_text s2 x6.1) fun x7 =>
  Option.bind (r_wire_put x7 x6.2) fun x8 =>
  g1 x8 (s3 + 1)
 ) else (
  some s2
 )
theorem wire_fields_l1b_cm {ι : Type} {ρ : ι → Type} (r_wire_put : (∀ i, Option (ρ i)) → Str → V → Option Str) (h_r_wire_put : ∀ y0 y1, CM (fun G => r_wire_put G y0 y1)) (g1 : (∀ i, Option (ρ i)) → Str → Nat → Option Str) (h_g1 : ∀ y0 y1, CM (fun G => g1 G y0 y1)) (a1 : (List (Str × V))) (s2 : Str) (s3 : Nat) : CM (fun G : (∀ i, Option (ρ i)) => wire_fields_l1b (r_wire_put G) a1 (g1 G) s2 s3) := by
 simp only [wire_fields_l1b]
 repeat (first | exact cm_const | exact h_r_wire_put _ _ | exact h_g1 _ _ | refine cm_cond ?_ ?_ | refine cm_bind ?_ (fun _ => ?_))
noncomputable def wire_fields_l1 (r_wire_put : Str → V → Option Str) (a1 : (List (Str × V))) (s2 : Str) (s3 : Nat) : Option Str :=
 fixO (ι := (Str × Nat)) (ρ := fun _ => Str) (fun g i => wire_fields_l1b r_wire_put a1 (fun s2 s3 => g (s2, s3)) i.1 i.2) (s2, s3)
theorem wire_fields_l1_eq (r_wire_put : Str → V → Option Str) (a1 : (List (Str × V))) (s2 : Str) (s3 : Nat) : wire_fields_l1 r_wire_put a1 s2 s3 = wire_fields_l1b r_wire_put a1 (wire_fields_l1 r_wire_put a1) s2 s3 :=
 fixO_eq (ι := (Str × Nat)) (ρ := fun _ => Str) (Φ := fun g i => wire_fields_l1b r_wire_put a1 (fun s2 s3 => g (s2, s3)) i.1 i.2) (fun i => wire_fields_l1b_cm (ι := (Str × Nat)) (ρ := fun _ => Str) (fun _ => r_wire_put) (fun _ _ => cm_const) (fun g => (fun s2 s3 => g (s2, s3))) (fun _ _ => cm_app) a1 i.1 i.2) (s2, s3)
theorem wire_fields_l1_cm {ι : Type} {ρ : ι → Type} (r_wire_put : (∀ i, Option (ρ i)) → Str → V → Option Str) (h_r_wire_put : ∀ y0 y1, CM (fun G => r_wire_put G y0 y1)) (a1 : (List (Str × V))) (s2 : Str) (s3 : Nat) : CM (fun G : (∀ i, Option (ρ i)) => wire_fields_l1 (r_wire_put G) a1 s2 s3) :=
 cm_fix (κ := (Str × Nat)) (τ := fun _ => Str) (Φ := fun G g i => wire_fields_l1b (r_wire_put G) a1 (fun s2 s3 => g (s2, s3)) i.1 i.2) (fun g i => wire_fields_l1b_cm r_wire_put h_r_wire_put (fun _ => (fun s2 s3 => g (s2, s3))) (fun _ _ => cm_const) a1 i.1 i.2) (fun G i => wire_fields_l1b_cm (ι := (Str × Nat)) (ρ := fun _ => Str) (fun _ => r_wire_put G) (fun _ _ => cm_const) (fun g => (fun s2 s3 => g (s2, s3))) (fun _ _ => cm_app) a1 i.1 i.2) (s2, s3)
noncomputable def b_wire_fields (r_wire_fields : Str → (List (Str × V)) → Option Str) (r_wire_put : Str → V → Option Str) (a0 : Str) (a1 : (List (Str × V))) : Option Str :=
 Option.bind (p_wire_number a0 (IntKind.u64.wrap (((a1).length : Nat) : Int))) fun x1 =>
 wire_fields_l1 r_wire_put a1 x1 0
theorem b_wire_fields_cm {ι : Type} {ρ : ι → Type} (r_wire_fields : (∀ i, Option (ρ i)) → Str → (List (Str × V)) → Option Str) (h_r_wire_fields : ∀ y0 y1, CM (fun G => r_wire_fields G y0 y1)) (r_wire_put : (∀ i, Option (ρ i)) → Str → V → Option Str) (h_r_wire_put : ∀ y0 y1, CM (fun G => r_wire_put G y0 y1)) (a0 : Str) (a1 : (List (Str × V))) : CM (fun G : (∀ i, Option (ρ i)) => b_wire_fields (r_wire_fields G) (r_wire_put G) a0 a1) := by
 simp only [b_wire_fields]
 repeat (first | exact cm_const | exact h_r_wire_fields _ _ | exact h_r_wire_put _ _ | apply wire_fields_l1_cm | refine cm_cond ?_ ?_ | refine cm_bind ?_ (fun _ => ?_) | intro _ | assumption)
noncomputable def wire_put_j1 (s3 : Str) : Option Str :=
 some s3
noncomputable def wire_put_l1b (a1 : V) (g1 : Str → Int → Option Str) (s12 : Str) (s13 : Int) : Option Str :=
 bif (decide (s13 ≥ 0)) then (
  Option.bind (negO s13) fun x15 =>
  Option.bind (appO 1 s12 ([(UInt8.ofInt (shrK .u64 (((a1).asFloat : Nat) : Int) s13))] : Str)) fun x16 =>
  g1 x16 (IntKind.i64.wrap (s13 - 8))
 ) else (
  wire_put_j1 s12
 )
theorem wire_put_l1b_cm {ι : Type} {ρ : ι → Type} (g1 : (∀ i, Option (ρ i)) → Str → Int → Option Str) (h_g1 : ∀ y0 y1, CM (fun G => g1 G y0 y1)) (a1 : V) (s12 : Str) (s13 : Int) : CM (fun G : (∀ i, Option (ρ i)) => wire_put_l1b a1 (g1 G) s12 s13) := by
 simp only [wire_put_l1b]
 repeat (first | exact cm_const | exact h_g1 _ _ | apply wire_put_j1_cm | refine cm_cond ?_ ?_ | refine cm_bind ?_ (fun _ => ?_) | intro _ | assumption)
noncomputable def wire_put_l1 (a1 : V) (s12 : Str) (s13 : Int) : Option Str :=
 fixO (ι := (Str × Int)) (ρ := fun _ => Str) (fun g i => wire_put_l1b a1 (fun s12 s13 => g (s12, s13)) i.1 i.2) (s12, s13)
theorem wire_put_l1_eq (a1 : V) (s12 : Str) (s13 : Int) : wire_put_l1 a1 s12 s13 = wire_put_l1b a1 (wire_put_l1 a1) s12 s13 :=
 fixO_eq (ι := (Str × Int)) (ρ := fun _ => Str) (Φ := fun g i => wire_put_l1b a1 (fun s12 s13 => g (s12, s13)) i.1 i.2) (fun i => wire_put_l1b_cm (ι := (Str × Int)) (ρ := fun _ => Str) (fun g => (fun s12 s13 => g (s12, s13))) (fun _ _ => cm_app) a1 i.1 i.2) (s12, s13)
noncomputable def wire_put_l2b (r_wire_put : Str → V → Option Str) (a1 : V) (g1 : Str → Nat → Option Str) (s26 : Str) (s27 : Nat) : Option Str :=
 bif (decide (((s27 : Nat) : Int) < ((((a1).asList).length : Nat) : Int))) then (
  Option.bind (((a1).asList)[s27]?) fun x30 =>
  Option.bind (r_wire_put s26 x30) fun x31 =>
  g1 x31 (s27 + 1)
 ) else (
  wire_put_j1 s26
 )
theorem wire_put_l2b_cm {ι : Type} {ρ : ι → Type} (r_wire_put : (∀ i, Option (ρ i)) → Str → V → Option Str) (h_r_wire_put : ∀ y0 y1, CM (fun G => r_wire_put G y0 y1)) (g1 : (∀ i, Option (ρ i)) → Str → Nat → Option Str) (h_g1 : ∀ y0 y1, CM (fun G => g1 G y0 y1)) (a1 : V) (s26 : Str) (s27 : Nat) : CM (fun G : (∀ i, Option (ρ i)) => wire_put_l2b (r_wire_put G) a1 (g1 G) s26 s27) := by
 simp only [wire_put_l2b]
 repeat (first | exact cm_const | exact h_r_wire_put _ _ | exact h_g1 _ _ | apply wire_put_j1_cm | refine cm_cond ?_ ?_ | refine cm_bind ?_ (fun _ => ?_) | intro _ | assumption)
noncomputable def wire_put_l2 (r_wire_put : Str → V → Option Str) (a1 : V) (s26 : Str) (s27 : Nat) : Option Str :=
 fixO (ι := (Str × Nat)) (ρ := fun _ => Str) (fun g i => wire_put_l2b r_wire_put a1 (fun s26 s27 => g (s26, s27)) i.1 i.2) (s26, s27)
theorem wire_put_l2_eq (r_wire_put : Str → V → Option Str) (a1 : V) (s26 : Str) (s27 : Nat) : wire_put_l2 r_wire_put a1 s26 s27 = wire_put_l2b r_wire_put a1 (wire_put_l2 r_wire_put a1) s26 s27 :=
 fixO_eq (ι := (Str × Nat)) (ρ := fun _ => Str) (Φ := fun g i => wire_put_l2b r_wire_put a1 (fun s26 s27 => g (s26, s27)) i.1 i.2) (fun i => wire_put_l2b_cm (ι := (Str × Nat)) (ρ := fun _ => Str) (fun _ => r_wire_put) (fun _ _ => cm_const) (fun g => (fun s26 s27 => g (s26, s27))) (fun _ _ => cm_app) a1 i.1 i.2) (s26, s27)
theorem wire_put_l2_cm {ι : Type} {ρ : ι → Type} (r_wire_put : (∀ i, Option (ρ i)) → Str → V → Option Str) (h_r_wire_put : ∀ y0 y1, CM (fun G => r_wire_put G y0 y1)) (a1 : V) (s26 : Str) (s27 : Nat) : CM (fun G : (∀ i, Option (ρ i)) => wire_put_l2 (r_wire_put G) a1 s26 s27) :=
 cm_fix (κ := (Str × Nat)) (τ := fun _ => Str) (Φ := fun G g i => wire_put_l2b (r_wire_put G) a1 (fun s26 s27 => g (s26, s27)) i.1 i.2) (fun g i => wire_put_l2b_cm r_wire_put h_r_wire_put (fun _ => (fun s26 s27 => g (s26, s27))) (fun _ _ => cm_const) a1 i.1 i.2) (fun G i => wire_put_l2b_cm (ι := (Str × Nat)) (ρ := fun _ => Str) (fun _ => r_wire_put G) (fun _ _ => cm_const) (fun g => (fun s26 s27 => g (s26, s27))) (fun _ _ => cm_app) a1 i.1 i.2) (s26, s27)
noncomputable def b_wire_put (r_wire_fields : Str → (List (Str × V)) → Option Str) (r_wire_put : Str → V → Option Str) (a0 : Str) (a1 : V) : Option Str :=
 Option.bind (p_value_Kind a1) fun x1 =>
 Option.bind (appO 1 a0 ([(UInt8.ofInt x1)] : Str)) fun x2 =>
 bif (a1).isBool then (
  bif (a1).asBool then (
   Option.bind (appO 1 x2 ([(1 : UInt8)] : Str)) fun x6 =>
   some x6
  ) else (
   Option.bind (appO 1 x2 ([(0 : UInt8)] : Str)) fun x7 =>
   some x7
  )
 ) else (
  bif (a1).isInt then (
   Option.bind (p_wire_zigzag ((a1).asInt)) fun x9 =>
   Option.bind (p_wire_number x2 x9) fun x10 =>
   some x10
  ) else (
   bif (a1).isFloat then (
    wire_put_l1 a1 x2 56
   ) else (
    bif (a1).isText then (
     Option.bind (p_wire_text x2 ((a1).asText)) fun x18 =>
     some x18
    ) else (
     bif (a1).isBytes then (
      Option.bind (p_wire_number x2 (IntKind.u64.wrap ((((a1).asBytes).length : Nat) : Int))) fun x20 =>
      Option.bind (appO 1 x20 ((a1).asBytes)) fun x21 =>
      some x21
     ) else (
      bif (a1).isRef then (
       Option.bind (p_wire_number x2 ((a1).asRef)) fun x23 =>
       some x23
      ) else (
       bif (a1).isList then (
        Option.bind (p_wire_number x2 (IntKind.u64.wrap ((((a1).asList).length : Nat) : Int))) fun x25 =>
        wire_put_l2 r_wire_put a1 x25 0
       ) else (
        bif (a1).isDict then (
         Option.bind (r_wire_fields x2 ((a1).asDict)) fun x33 =>
         some x33
        ) else (
         bif (a1).isRec then (
          Option.bind ((a1).asRec) fun x35 =>
          Option.bind (p_wire_text x2 x35.cls) fun x36 =>
          Option.bind (p_wire_number x36 (IntKind.u64.wrap x35.ver)) fun x37 =>
          Option.bind (r_wire_fields x37 x35.fields) fun x38 =>
          some x38
         ) else (
          wire_put_j1 x2
         )
        )
       )
      )
     )
    )
   )
  )
 )
theorem b_wire_put_cm {ι : Type} {ρ : ι → Type} (r_wire_fields : (∀ i, Option (ρ i)) → Str → (List (Str × V)) → Option Str) (h_r_wire_fields : ∀ y0 y1, CM (fun G => r_wire_fields G y0 y1)) (r_wire_put : (∀ i, Option (ρ i)) → Str → V → Option Str) (h_r_wire_put : ∀ y0 y1, CM (fun G => r_wire_put G y0 y1)) (a0 : Str) (a1 : V) : CM (fun G : (∀ i, Option (ρ i)) => b_wire_put (r_wire_fields G) (r_wire_put G) a0 a1) := by
 simp only [b_wire_put]
 repeat (first | exact cm_const | exact h_r_wire_fields _ _ | exact h_r_wire_put _ _ | apply wire_put_j1_cm | apply wire_put_l1_cm | apply wire_put_l2_cm | refine cm_cond ?_ ?_ | refine cm_bind ?_ (fun _ => ?_) | intro _ | assumption)
inductive C_wire_fields where
 | k_wire_fields (a0 : Str) (a1 : (List (Str × V)))
 | k_wire_put (a0 : Str) (a1 : V)
def C_wire_fields.R : C_wire_fields → Type
 | .k_wire_fields _ _ => Str
 | .k_wire_put _ _ => Str
noncomputable def C_wire_fields.F (g : ∀ i : C_wire_fields, Option i.R) : ∀ i : C_wire_fields, Option i.R
 | .k_wire_fields a0 a1 => b_wire_fields (fun a0 a1 => g (.k_wire_fields a0 a1)) (fun a0 a1 => g (.k_wire_put a0 a1)) a0 a1
 | .k_wire_put a0 a1 => b_wire_put (fun a0 a1 => g (.k_wire_fields a0 a1)) (fun a0 a1 => g (.k_wire_put a0 a1)) a0 a1
noncomputable def p_wire_fields (a0 : Str) (a1 : (List (Str × V))) : Option Str := fixO C_wire_fields.F (.k_wire_fields a0 a1)
noncomputable def p_wire_put (a0 : Str) (a1 : V) : Option Str := fixO C_wire_fields.F (.k_wire_put a0 a1)
theorem C_wire_fields.cm (i : C_wire_fields) : CM (fun g : (∀ i : C_wire_fields, Option i.R) => C_wire_fields.F g i) := by
 cases i with
 | k_wire_fields a0 a1 => exact b_wire_fields_cm (fun (g : ∀ i : C_wire_fields, Option i.R) a0 a1 => g (.k_wire_fields a0 a1)) (fun a0 a1 => cm_app (i := C_wire_fields.k_wire_fields a0 a1)) (fun (g : ∀ i : C_wire_fields, Option i.R) a0 a1 => g (.k_wire_put a0 a1)) (fun a0 a1 => cm_app (i := C_wire_fields.k_wire_put a0 a1)) a0 a1
 | k_wire_put a0 a1 => exact b_wire_put_cm (fun (g : ∀ i : C_wire_fields, Option i.R) a0 a1 => g (.k_wire_fields a0 a1)) (fun a0 a1 => cm_app (i := C_wire_fields.k_wire_fields a0 a1)) (fun (g : ∀ i : C_wire_fields, Option i.R) a0 a1 => g (.k_wire_put a0 a1)) (fun a0 a1 => cm_app (i := C_wire_fields.k_wire_put a0 a1)) a0 a1
theorem e_wire_fields (a0 : Str) (a1 : (List (Str × V))) : p_wire_fields a0 a1 = b_wire_fields p_wire_fields p_wire_put a0 a1 := fixO_eq C_wire_fields.cm (.k_wire_fields a0 a1)
theorem e_wire_put (a0 : Str) (a1 : V) : p_wire_put a0 a1 = b_wire_put p_wire_fields p_wire_put a0 a1 := fixO_eq C_wire_fields.cm (.k_wire_put a0 a1)
def C_wire_fields.Q : ∀ i : C_wire_fields, i.R → Prop
 | .k_wire_fields a0 a1 => fun (r : Str) => MCalls Try.prog 46 [(PV.sl (some 0) 1 (List.map ofB a0)), (PV.old (PV.sl none 2 (List.map ofFld a1)))] [.arr 5 (a0).length] (PV.sl (some 0) 1 (List.map ofB r)) [.arr 5 (r).length]
 | .k_wire_put a0 a1 => fun (r : Str) => MCalls Try.prog 30 [(PV.sl (some 0) 1 (List.map ofB a0)), (PV.old (ofV a1))] [.arr 5 (a0).length] (PV.sl (some 0) 1 (List.map ofB r)) [.arr 5 (r).length]
theorem t_wire_fields (r_wire_fields : Str → (List (Str × V)) → Option Str) (c_wire_fields : ∀ (a0 : Str) (a1 : (List (Str × V))) r, r_wire_fields a0 a1 = some r → MCalls Try.prog 46 [(PV.sl (some 0) 1 (List.map ofB a0)), (PV.old (PV.sl none 2 (List.map ofFld a1)))] [.arr 5 (a0).length] (PV.sl (some 0) 1 (List.map ofB r)) [.arr 5 (r).length]) (r_wire_put : Str → V → Option Str) (c_wire_put : ∀ (a0 : Str) (a1 : V) r, r_wire_put a0 a1 = some r → MCalls Try.prog 30 [(PV.sl (some 0) 1 (List.map ofB a0)), (PV.old (ofV a1))] [.arr 5 (a0).length] (PV.sl (some 0) 1 (List.map ofB r)) [.arr 5 (r).length]) (a0 : Str) (a1 : (List (Str × V))) (r : Str) (h : b_wire_fields r_wire_fields r_wire_put a0 a1 = some r) : MCalls Try.prog 46 [(PV.sl (some 0) 1 (List.map ofB a0)), (PV.old (PV.sl none 2 (List.map ofFld a1)))] [.arr 5 (a0).length] (PV.sl (some 0) 1 (List.map ofB r)) [.arr 5 (r).length] := by
 unfold b_wire_fields at h
 refine acalls_of Try.func46 rfl Try.ntmps46 Try.results46 rfl (aw_of_bw ?_)
 change BW _ _ _ ⟨[(0, (PV.sl (some 0) 1 (List.map ofB a0))), (1, (PV.old (PV.sl none 2 (List.map ofFld a1))))], [.arr 5 (a0).length], _⟩ _
 refine bR ?_
 refine sA rfl rfl rfl rfl rfl (ao_nil ?_)
 change BW _ _ _ _ _
 refine bR ?_
 refine sM rfl rfl rfl rfl rfl ?_
 refine sM rfl rfl rfl rfl rfl ?_
 refine sS rfl rfl rfl (op1_oldS (op1_lenM Try.underlying63 rfl rfl) Sc.v) ?_
 refine sS rfl rfl rfl (op1_convI Try.underlying3 Try.underlying24 rfl rfl) ?_
 obtain ⟨x1, hx1, h⟩ := obind h
 refine sS rfl rfl rfl (op1_mcall [0] (.func rfl) en_43 rfl (.cons (Wk.refl _) (.cons (Wk.refl _) .nil)) rfl (.cons rfl .arr .nil) (.cons (.row rfl (ids_map (fun _ => rfl) _)) (.cons (.same rfl) .nil)) (s_wire_number a0 (IntKind.u64.wrap (((a1).length : Nat) : Int)) x1 hx1) (.row rfl (ids_map (fun _ => rfl) _)) (.cons .arr .nil) rfl) ?_
 refine sA rfl rfl rfl rfl rfl (ao_nil ?_)
 change BW _ _ _ _ _
 refine bw_seq ?_
 refine bR ?_
 refine sM rfl rfl rfl rfl rfl ?_
 refine sS rfl rfl rfl (op1_oldS (op1_lenM Try.underlying63 rfl rfl) Sc.v) ?_
 refine sM rfl rfl rfl rfl rfl (ao_nil ?_)
 change BW _ _ _ _ _
 refine bw_block ?_
 change BW _ _ _ _ _
 unfold wire_fields_l1 at h
 refine bw_loop (σ := (Str × Nat)) (fun i => [(0, (PV.sl (some 0) 1 (List.map ofB i.1))), (12, (PV.old (PV.sl none 2 (List.map ofFld a1)))), (13, (I64 ((((a1).length : Nat) : Int)))), (14, (I64 (((i.2 : Nat) : Int))))]) (fun i => [.arr 5 (i.1).length]) (x1, 0) h ?_ ?_ ?_
 ·intro i; exact ⟨Nat.le_of_ble_eq_true rfl, ⟨(il_tok rfl (ids_map (fun _ => rfl) _)), ⟨(il_nil (ids_old (ids_slM ids_Fld _))), ⟨(il_nil rfl), ⟨(il_nil rfl), trivial⟩⟩⟩⟩, trivial⟩
 ·exact ⟨(.cons .same .nil), (sC rfl (sC rfl (sC rfl (sC rfl sub_nil))))⟩
 ·rintro g1_f ⟨s2, s3⟩ h; replace h : wire_fields_l1b r_wire_put a1 (fun y0 y1 => g1_f (y0, y1)) s2 s3 = some r := h; unfold wire_fields_l1b at h
  change BW _ _ _ ⟨[(0, (PV.sl (some 0) 1 (List.map ofB s2))), (12, (PV.old (PV.sl none 2 (List.map ofFld a1)))), (13, (I64 ((((a1).length : Nat) : Int)))), (14, (I64 (((s3 : Nat) : Int))))], [.arr 5 (s2).length], _⟩ _
  refine bR ?_
  refine sS rfl rfl rfl ((op1_cmp rfl rfl rfl rfl).cast (y := (BO ((decide (((s3 : Nat) : Int) < (((a1).length : Nat) : Int)))))) rfl rfl) (ao_nil ?_)
  change BW _ _ _ _ _
  refine bw_seq ?_
  refine bw_lenO (t := 12) rfl fun hb5 => ?_
  try rw [List.length_map] at hb5
  refine bw_cond rfl ?_ ?_
  ·intro hc4; replace h := ocond_t hc4 h
   have hc4_ := of_decide_eq_true hc4
   refine bw_skip ?_
   change BW _ _ _ _ _
   refine bw_seq ?_
   refine bw_block ?_
   change BW _ _ _ _ _
   refine bR ?_
   obtain ⟨x6, hx6, h⟩ := obind h
   refine sS rfl rfl rfl (op1_old (op1_idxN (i := s3) Try.underlying63 inf_88 rfl rfl rfl hx6 rfl)) ?_
   refine sS rfl rfl rfl ((op1_old (op1_ldPW inf_88 Try.underlying88 rfl rfl rfl rfl rfl)).wk (Wk.opened (cs := [(ofStr x6.1), (ofV x6.2)]) (.cons (Wk.oldSc Sc.v) (.cons (Wk.refl _) .nil)))) ?_
   refine sS rfl rfl rfl ((op1_alloc inf_88 rfl).cast (H'' := [.arr 5 (s2).length, .box 88 [(ofStr []), (ofV V.nil)]]) rfl (by simp only [mk_nil]; rfl)) ?_
   refine ao_step0 rfl rfl (op1_store inf_88 rfl rfl rfl rfl rfl rfl (Nat.le_of_ble_eq_true rfl) (by show List.all [(ofStr x6.1), (PV.old (ofV x6.2))] one1 = true; simp only [List.all_cons, List.all_nil, one_old, one_V, one_RecP, Bool.and_true, Bool.true_and]; try rfl)) ?_
   refine ao_nil ?_
   change BW _ _ _ _ _
   refine bw_tail 6 [3] [1] mo (by kernel_rfl) ?_
   refine ac_go rfl rfl rfl rfl (fun H hp => op1_move rfl rfl) ?_
   refine ac_go rfl rfl rfl rfl (fun H hp => op1_faR st_88 (i := 0) rfl rfl rfl) ?_
   refine ac_go rfl rfl rfl rfl (fun H hp => (op1_ldR Try.underlying9 rfl rfl rfl (hp.at rfl rfl) rfl)) ?_
   obtain ⟨x7, hx7, h⟩ := obind h
   refine ac_lgo rfl rfl rfl rfl (op1_mcall [0] (.func rfl) en_45 rfl (.cons (Wk.refl _) (.cons (Wk.refl _) .nil)) rfl (.cons rfl .arr .nil) (.cons (.row rfl (ids_map (fun _ => rfl) _)) (.cons (.same rfl) .nil)) (s_wire_text s2 x6.1 x7 hx7) (.row rfl (ids_map (fun _ => rfl) _)) (.cons .arr .nil) rfl) ⟨rfl, trivial⟩ ?_
   refine ac_go rfl rfl rfl rfl (fun H hp => op1_faR st_88 (i := 1) rfl rfl rfl) ?_
   refine ac_go rfl rfl rfl rfl (fun H hp => (op1_ldR Try.underlying20 rfl rfl rfl (hp.at rfl rfl) rfl)) ?_
   refine ac_nil ?_
   change AO _ _ _ _ _
   obtain ⟨x8, hx8, h⟩ := obind h
   refine sS rfl rfl rfl (op1_mcall [0] (.func rfl) en_30 rfl (.cons (Wk.refl _) (.cons (Wk.refl _) .nil)) rfl (.cons rfl .arr .nil) (.cons (.row rfl (ids_map (fun _ => rfl) _)) (.cons (.same (ids_old (ids_V x6.2))) .nil)) (c_wire_put x7 x6.2 x8 hx8) (.row rfl (ids_map (fun _ => rfl) _)) (.cons .arr .nil) rfl) ?_
   refine sA rfl rfl rfl rfl rfl (ao_nil ?_)
   change BW _ _ _ _ _
   refine bw_region ?_
   refine sS rfl rfl rfl (op1_incN (k := s3) (c := 1) rfl rfl rfl (by omega)) ?_
   refine sM rfl rfl rfl rfl rfl (ao_nil ?_)
   exact ⟨rfl, (x8, (s3 + 1)), h, ⟨(.cons .same .nil), (sC rfl (sC rfl (sC rfl (sC rfl sub_nil))))⟩⟩
  ·intro hc4; replace h := ocond_f hc4 h
   refine bw_exit ?_
   change BW _ _ _ _ _
   refine bR ?_
   refine sM rfl rfl rfl rfl rfl ?_
   refine sA rfl rfl rfl rfl rfl (ao_nil ?_)
   change BW _ _ _ _ _
   refine bw_ret ?_
   change ∃ xs, _ = some xs ∧ EndOk _ _ _ _
   obtain rfl := Option.some.inj h
   exact ⟨_, rfl, endR (y := (PV.sl (some 0) 1 (List.map ofB s2))) 1 (Wk.refl _) rfl rfl (.row rfl (ids_map (fun _ => rfl) _)) (.cons .arr .nil) ⟨rfl, rfl⟩⟩
theorem t_wire_put (r_wire_fields : Str → (List (Str × V)) → Option Str) (c_wire_fields : ∀ (a0 : Str) (a1 : (List (Str × V))) r, r_wire_fields a0 a1 = some r → MCalls Try.prog 46 [(PV.sl (some 0) 1 (List.map ofB a0)), (PV.old (PV.sl none 2 (List.map ofFld a1)))] [.arr 5 (a0).length] (PV.sl (some 0) 1 (List.map ofB r)) [.arr 5 (r).length]) (r_wire_put : Str → V → Option Str) (c_wire_put : ∀ (a0 : Str) (a1 : V) r, r_wire_put a0 a1 = some r → MCalls Try.prog 30 [(PV.sl (some 0) 1 (List.map ofB a0)), (PV.old (ofV a1))] [.arr 5 (a0).length] (PV.sl (some 0) 1 (List.map ofB r)) [.arr 5 (r).length]) (a0 : Str) (a1 : V) (r : Str) (h : b_wire_put r_wire_fields r_wire_put a0 a1 = some r) : MCalls Try.prog 30 [(PV.sl (some 0) 1 (List.map ofB a0)), (PV.old (ofV a1))] [.arr 5 (a0).length] (PV.sl (some 0) 1 (List.map ofB r)) [.arr 5 (r).length] := by
 unfold b_wire_put at h
 refine acalls_of Try.func30 rfl Try.ntmps30 Try.results30 rfl (aw_of_bw ?_)
 change BW _ _ _ ⟨[(0, (PV.sl (some 0) 1 (List.map ofB a0))), (1, (PV.old (ofV a1)))], [.arr 5 (a0).length], _⟩ _
 refine bR ?_
 refine sA rfl rfl rfl rfl rfl (ao_nil ?_)
 change BW _ _ _ _ _
 refine bR ?_
 refine sM rfl rfl rfl rfl rfl ?_
 refine sM rfl rfl rfl rfl rfl ?_
 obtain ⟨x1, hx1, h⟩ := obind h
 refine sS rfl rfl rfl (op1_oldS (op1_pcall rfl en_42 rfl (.cons (Wk.refl _) .nil) ⟨(ids_V a1), trivial⟩ (s_value_Kind a1 x1 hx1) rfl) Sc.v) ?_
 refine sS rfl rfl rfl (op1_toU8 Try.underlying3 Try.underlying5 rfl rfl) ?_
 refine sS rfl rfl rfl ((op1_bslice (xs := [(ofB (UInt8.ofInt x1))]) Try.underlying23 inf_5 rfl rfl rfl rfl rfl rfl ⟨Nat.le_of_ble_eq_true rfl, Nat.le_of_ble_eq_true rfl⟩ rfl).cast (y := (PV.sl (some 1) 1 (List.map ofB ([(UInt8.ofInt x1)] : Str)))) rfl rfl) ?_
 obtain ⟨x2, hx2, h⟩ := obind h
 refine sS rfl rfl rfl (op1_appM Try.underlying23 inf_5 rfl Try.underlying23 rfl rfl rfl rfl (fun _ => rfl) (fun _ => rfl) hx2 rfl) ?_
 refine sA rfl rfl rfl rfl rfl (ao_nil ?_)
 change BW _ _ _ _ _
 refine bw_seqJ (ι := Str) (fun i => wire_put_j1 i = some r) (fun i => [(0, (PV.sl (some 0) 1 (List.map ofB i)))]) (fun i => [.arr 5 (i).length]) ?_ ?_ ?_
 ·intro i; exact ⟨Nat.le_of_ble_eq_true rfl, ⟨(il_tok rfl (ids_map (fun _ => rfl) _)), trivial⟩, trivial⟩
 ·rintro s3 h; replace h : wire_put_j1 s3 = some r := h; unfold wire_put_j1 at h
  change BW _ _ _ ⟨[(0, (PV.sl (some 0) 1 (List.map ofB s3)))], [.arr 5 (s3).length], _⟩ _
  refine bR ?_
  refine sM rfl rfl rfl rfl rfl ?_
  refine sA rfl rfl rfl rfl rfl (ao_nil ?_)
  change BW _ _ _ _ _
  refine bw_ret ?_
  change ∃ xs, _ = some xs ∧ EndOk _ _ _ _
  obtain rfl := Option.some.inj h
  exact ⟨_, rfl, endR (y := (PV.sl (some 0) 1 (List.map ofB s3))) 1 (Wk.refl _) rfl rfl (.row rfl (ids_map (fun _ => rfl) _)) (.cons .arr .nil) ⟨rfl, rfl⟩⟩
 ·refine bR ?_
  refine sM rfl rfl rfl rfl rfl (ao_nil ?_)
  change BW _ _ _ _ _
  refine bw_block ?_
  change BW _ _ _ _ _
  refine bR ?_
  refine sS rfl rfl rfl (op1_oldS (op1_taBool rfl rfl) (Sc.tup (sc_cons Sc.v (sc_cons Sc.v sc_nil)))) ?_
  refine sS rfl rfl rfl (op1_ext rfl rfl rfl) ?_
  refine sS rfl rfl rfl (op1_ext rfl rfl rfl) (ao_nil ?_)
  change BW _ _ _ _ _
  refine bw_cond rfl ?_ ?_
  ·intro hc4; replace h := ocond_t hc4 h
   refine bR ?_
   refine sA rfl rfl rfl rfl rfl (ao_nil ?_)
   change BW _ _ _ _ _
   refine bw_seq ?_
   refine bR ?_
   refine sM rfl rfl rfl rfl rfl (ao_nil ?_)
   change BW _ _ _ _ _
   refine bw_cond rfl ?_ ?_
   ·intro hc5; replace h := ocond_t hc5 h
    refine bR ?_
    refine sM rfl rfl rfl rfl rfl ?_
    refine sS rfl rfl rfl ((op1_bslice (xs := [(ofB (1 : UInt8))]) Try.underlying23 inf_5 rfl rfl rfl rfl rfl rfl ⟨Nat.le_of_ble_eq_true rfl, Nat.le_of_ble_eq_true rfl⟩ rfl).cast (y := (PV.sl (some 2) 1 (List.map ofB ([(1 : UInt8)] : Str)))) rfl rfl) ?_
    obtain ⟨x6, hx6, h⟩ := obind h
    refine sS rfl rfl rfl (op1_appM Try.underlying23 inf_5 rfl Try.underlying23 rfl rfl rfl rfl (fun _ => rfl) (fun _ => rfl) hx6 rfl) ?_
    refine sA rfl rfl rfl rfl rfl (ao_nil ?_)
    change BW _ _ _ _ _
    refine bw_ret ?_
    change ∃ xs, _ = some xs ∧ EndOk _ _ _ _
    obtain rfl := Option.some.inj h
    exact ⟨_, rfl, endR (y := (PV.sl (some 0) 1 (List.map ofB x6))) 1 (Wk.refl _) rfl rfl (.row rfl (ids_map (fun _ => rfl) _)) (.cons .arr .nil) ⟨rfl, rfl⟩⟩
   ·intro hc5; replace h := ocond_f hc5 h
    refine bw_skip ?_
    change BW _ _ _ _ _
    refine bR ?_
    refine sM rfl rfl rfl rfl rfl ?_
    refine sS rfl rfl rfl ((op1_bslice (xs := [(ofB (0 : UInt8))]) Try.underlying23 inf_5 rfl rfl rfl rfl rfl rfl ⟨Nat.le_of_ble_eq_true rfl, Nat.le_of_ble_eq_true rfl⟩ rfl).cast (y := (PV.sl (some 2) 1 (List.map ofB ([(0 : UInt8)] : Str)))) rfl rfl) ?_
    obtain ⟨x7, hx7, h⟩ := obind h
    refine sS rfl rfl rfl (op1_appM Try.underlying23 inf_5 rfl Try.underlying23 rfl rfl rfl rfl (fun _ => rfl) (fun _ => rfl) hx7 rfl) ?_
    refine sA rfl rfl rfl rfl rfl (ao_nil ?_)
    change BW _ _ _ _ _
    refine bw_ret ?_
    change ∃ xs, _ = some xs ∧ EndOk _ _ _ _
    obtain rfl := Option.some.inj h
    exact ⟨_, rfl, endR (y := (PV.sl (some 0) 1 (List.map ofB x7))) 1 (Wk.refl _) rfl rfl (.row rfl (ids_map (fun _ => rfl) _)) (.cons .arr .nil) ⟨rfl, rfl⟩⟩
  ·intro hc4; replace h := ocond_f hc4 h
   refine bR ?_
   refine sS rfl rfl rfl (op1_oldS (op1_taInt rfl rfl) (Sc.tup (sc_cons Sc.v (sc_cons Sc.v sc_nil)))) ?_
   refine sS rfl rfl rfl (op1_ext rfl rfl rfl) ?_
   refine sS rfl rfl rfl (op1_ext rfl rfl rfl) (ao_nil ?_)
   change BW _ _ _ _ _
   refine bw_cond rfl ?_ ?_
   ·intro hc8; replace h := ocond_t hc8 h
    refine bR ?_
    refine sA rfl rfl rfl rfl rfl (ao_nil ?_)
    change BW _ _ _ _ _
    refine bR ?_
    refine sM rfl rfl rfl rfl rfl ?_
    refine sM rfl rfl rfl rfl rfl ?_
    obtain ⟨x9, hx9, h⟩ := obind h
    refine sS rfl rfl rfl (op1_pcall rfl en_44 rfl (.cons (Wk.refl _) .nil) ⟨rfl, trivial⟩ (s_wire_zigzag ((a1).asInt) x9 hx9) rfl) ?_
    obtain ⟨x10, hx10, h⟩ := obind h
    refine sS rfl rfl rfl (op1_mcall [0] (.func rfl) en_43 rfl (.cons (Wk.refl _) (.cons (Wk.refl _) .nil)) rfl (.cons rfl .arr .nil) (.cons (.row rfl (ids_map (fun _ => rfl) _)) (.cons (.same rfl) .nil)) (s_wire_number x2 x9 x10 hx10) (.row rfl (ids_map (fun _ => rfl) _)) (.cons .arr .nil) rfl) ?_
    refine sA rfl rfl rfl rfl rfl (ao_nil ?_)
    change BW _ _ _ _ _
    refine bw_ret ?_
    change ∃ xs, _ = some xs ∧ EndOk _ _ _ _
    obtain rfl := Option.some.inj h
    exact ⟨_, rfl, endR (y := (PV.sl (some 0) 1 (List.map ofB x10))) 1 (Wk.refl _) rfl rfl (.row rfl (ids_map (fun _ => rfl) _)) (.cons .arr .nil) ⟨rfl, rfl⟩⟩
   ·intro hc8; replace h := ocond_f hc8 h
    refine bR ?_
    refine sS rfl rfl rfl (op1_oldS (op1_taFloat rfl rfl) (Sc.tup (sc_cons Sc.v (sc_cons Sc.v sc_nil)))) ?_
    refine sS rfl rfl rfl (op1_ext rfl rfl rfl) ?_
    refine sS rfl rfl rfl (op1_ext rfl rfl rfl) (ao_nil ?_)
    change BW _ _ _ _ _
    refine bw_cond rfl ?_ ?_
    ·intro hc11; replace h := ocond_t hc11 h
     refine bR ?_
     refine sA rfl rfl rfl rfl rfl (ao_nil ?_)
     change BW _ _ _ _ _
     refine bR ?_
     refine sM rfl rfl rfl rfl rfl ?_
     refine sS rfl rfl rfl (op1_f64bits rfl rfl) ?_
     refine sA rfl rfl rfl rfl rfl (ao_nil ?_)
     change BW _ _ _ _ _
     refine bR ?_
     refine sA rfl rfl rfl rfl rfl (ao_nil ?_)
     change BW _ _ _ _ _
     refine bw_block ?_
     change BW _ _ _ _ _
     unfold wire_put_l1 at h
     refine bw_loop (σ := (Str × Int)) (fun i => [(0, (PV.sl (some 0) 1 (List.map ofB i.1))), (8, (PV.v (.int .u64 (((a1).asFloat : Nat) : Int)))), (9, (I64 i.2))]) (fun i => [.arr 5 (i.1).length]) (x2, 56) h ?_ ?_ ?_
     ·intro i; exact ⟨Nat.le_of_ble_eq_true rfl, ⟨(il_tok rfl (ids_map (fun _ => rfl) _)), ⟨(il_nil rfl), ⟨(il_nil rfl), trivial⟩⟩⟩, trivial⟩
     ·exact ⟨(.cons .same .nil), (sC rfl (sC rfl (sC rfl sub_nil)))⟩
     ·rintro g1_f ⟨s12, s13⟩ h; replace h : wire_put_l1b a1 (fun y0 y1 => g1_f (y0, y1)) s12 s13 = some r := h; unfold wire_put_l1b at h
      change BW _ _ _ ⟨[(0, (PV.sl (some 0) 1 (List.map ofB s12))), (8, (PV.v (.int .u64 (((a1).asFloat : Nat) : Int)))), (9, (I64 s13))], [.arr 5 (s12).length], _⟩ _
      refine bw_seq ?_
      refine bR ?_
      refine sM rfl rfl rfl rfl rfl ?_
      refine sS rfl rfl rfl ((op1_cmp rfl rfl rfl rfl).cast (y := (BO ((decide (s13 ≥ 0))))) rfl rfl) (ao_nil ?_)
      change BW _ _ _ _ _
      refine bw_cond rfl ?_ ?_
      ·intro hc14; replace h := ocond_t hc14 h
       refine bw_skip ?_
       change BW _ _ _ _ _
       refine bw_seq ?_
       refine bw_block ?_
       change BW _ _ _ _ _
       refine bw_region ?_
       refine sM rfl rfl rfl rfl rfl ?_
       refine sM rfl rfl rfl rfl rfl ?_
       refine sM rfl rfl rfl rfl rfl ?_
       obtain ⟨x15, hx15, h⟩ := obind h
       refine sS rfl rfl rfl ((op1_shr rfl rfl rfl (negO_some hx15)).cast (y := (PV.v (.int .u64 (shrK .u64 (((a1).asFloat : Nat) : Int) s13)))) rfl rfl) ?_
       refine sS rfl rfl rfl (op1_toU8 Try.underlying24 Try.underlying5 rfl rfl) ?_
       refine sS rfl rfl rfl ((op1_bslice (xs := [(ofB (UInt8.ofInt (shrK .u64 (((a1).asFloat : Nat) : Int) s13)))]) Try.underlying23 inf_5 rfl rfl rfl rfl rfl rfl ⟨Nat.le_of_ble_eq_true rfl, Nat.le_of_ble_eq_true rfl⟩ rfl).cast (y := (PV.sl (some 1) 1 (List.map ofB ([(UInt8.ofInt (shrK .u64 (((a1).asFloat : Nat) : Int) s13))] : Str)))) rfl rfl) ?_
       obtain ⟨x16, hx16, h⟩ := obind h
       refine sS rfl rfl rfl (op1_appM Try.underlying23 inf_5 rfl Try.underlying23 rfl rfl rfl rfl (fun _ => rfl) (fun _ => rfl) hx16 rfl) ?_
       refine sA rfl rfl rfl rfl rfl (ao_nil ?_)
       change BW _ _ _ _ _
       refine bw_region ?_
       refine sM rfl rfl rfl rfl rfl ?_
       refine sS rfl rfl rfl (op1_subW rfl rfl rfl) ?_
       refine sA rfl rfl rfl rfl rfl (ao_nil ?_)
       exact ⟨rfl, (x16, (IntKind.i64.wrap (s13 - 8))), h, ⟨(.cons .same .nil), (sC rfl (sC rfl (sC rfl sub_nil)))⟩⟩
      ·intro hc14; replace h := ocond_f hc14 h
       refine bw_exit ?_
       exact ⟨rfl, s12, h, ⟨(.cons .same .nil), (sC rfl sub_nil)⟩⟩
    ·intro hc11; replace h := ocond_f hc11 h
     refine bR ?_
     refine sS rfl rfl rfl (op1_oldS (op1_taText rfl rfl) (Sc.tup (sc_cons Sc.v (sc_cons Sc.v sc_nil)))) ?_
     refine sS rfl rfl rfl (op1_ext rfl rfl rfl) ?_
     refine sS rfl rfl rfl (op1_ext rfl rfl rfl) (ao_nil ?_)
     change BW _ _ _ _ _
     refine bw_cond rfl ?_ ?_
     ·intro hc17; replace h := ocond_t hc17 h
      refine bR ?_
      refine sA rfl rfl rfl rfl rfl (ao_nil ?_)
      change BW _ _ _ _ _
      refine bR ?_
      refine sM rfl rfl rfl rfl rfl ?_
      refine sM rfl rfl rfl rfl rfl ?_
      obtain ⟨x18, hx18, h⟩ := obind h
      refine sS rfl rfl rfl (op1_mcall [0] (.func rfl) en_45 rfl (.cons (Wk.refl _) (.cons (Wk.refl _) .nil)) rfl (.cons rfl .arr .nil) (.cons (.row rfl (ids_map (fun _ => rfl) _)) (.cons (.same rfl) .nil)) (s_wire_text x2 ((a1).asText) x18 hx18) (.row rfl (ids_map (fun _ => rfl) _)) (.cons .arr .nil) rfl) ?_
      refine sA rfl rfl rfl rfl rfl (ao_nil ?_)
      change BW _ _ _ _ _
      refine bw_ret ?_
      change ∃ xs, _ = some xs ∧ EndOk _ _ _ _
      obtain rfl := Option.some.inj h
      exact ⟨_, rfl, endR (y := (PV.sl (some 0) 1 (List.map ofB x18))) 1 (Wk.refl _) rfl rfl (.row rfl (ids_map (fun _ => rfl) _)) (.cons .arr .nil) ⟨rfl, rfl⟩⟩
     ·intro hc17; replace h := ocond_f hc17 h
      refine bR ?_
      refine sS rfl rfl rfl (op1_old (op1_taBytes rfl rfl)) ?_
      refine sS rfl rfl rfl (op1_oldS (op1_ext rfl rfl rfl) Sc.v) ?_
      refine sS rfl rfl rfl (op1_old (op1_ext rfl rfl rfl)) (ao_nil ?_)
      change BW _ _ _ _ _
      refine bw_cond rfl ?_ ?_
      ·intro hc19; replace h := ocond_t hc19 h
       refine bR ?_
       refine sA rfl rfl rfl rfl rfl (ao_nil ?_)
       change BW _ _ _ _ _
       refine bR ?_
       refine sM rfl rfl rfl rfl rfl ?_
       refine sM rfl rfl rfl rfl rfl ?_
       refine sS rfl rfl rfl (op1_oldS (op1_lenM Try.underlying23 rfl rfl) Sc.v) ?_
       refine sS rfl rfl rfl (op1_convI Try.underlying3 Try.underlying24 rfl rfl) ?_
       obtain ⟨x20, hx20, h⟩ := obind h
       refine sS rfl rfl rfl (op1_mcall [0] (.func rfl) en_43 rfl (.cons (Wk.refl _) (.cons (Wk.refl _) .nil)) rfl (.cons rfl .arr .nil) (.cons (.row rfl (ids_map (fun _ => rfl) _)) (.cons (.same rfl) .nil)) (s_wire_number x2 (IntKind.u64.wrap ((((a1).asBytes).length : Nat) : Int)) x20 hx20) (.row rfl (ids_map (fun _ => rfl) _)) (.cons .arr .nil) rfl) ?_
       refine sM rfl rfl rfl rfl rfl ?_
       obtain ⟨x21, hx21, h⟩ := obind h
       refine sS rfl rfl rfl (op1_appMO Try.underlying23 inf_5 rfl Try.underlying23 rfl rfl rfl rfl (fun _ => rfl) (fun _ => rfl) hx21 rfl (fun _ => (sc_cons Sc.v sc_nil))) ?_
       refine sA rfl rfl rfl rfl rfl (ao_nil ?_)
       change BW _ _ _ _ _
       refine bw_ret ?_
       change ∃ xs, _ = some xs ∧ EndOk _ _ _ _
       obtain rfl := Option.some.inj h
       exact ⟨_, rfl, endR (y := (PV.sl (some 0) 1 (List.map ofB x21))) 1 (Wk.refl _) rfl rfl (.row rfl (ids_map (fun _ => rfl) _)) (.cons .arr .nil) ⟨rfl, rfl⟩⟩
      ·intro hc19; replace h := ocond_f hc19 h
       refine bR ?_
       refine sS rfl rfl rfl (op1_oldS (op1_taRef rfl rfl) (Sc.tup (sc_cons Sc.v (sc_cons Sc.v sc_nil)))) ?_
       refine sS rfl rfl rfl (op1_ext rfl rfl rfl) ?_
       refine sS rfl rfl rfl (op1_ext rfl rfl rfl) (ao_nil ?_)
       change BW _ _ _ _ _
       refine bw_cond rfl ?_ ?_
       ·intro hc22; replace h := ocond_t hc22 h
        refine bR ?_
        refine sA rfl rfl rfl rfl rfl (ao_nil ?_)
        change BW _ _ _ _ _
        refine bR ?_
        refine sM rfl rfl rfl rfl rfl ?_
        refine sM rfl rfl rfl rfl rfl ?_
        obtain ⟨x23, hx23, h⟩ := obind h
        refine sS rfl rfl rfl (op1_mcall [0] (.func rfl) en_43 rfl (.cons (Wk.refl _) (.cons (Wk.refl _) .nil)) rfl (.cons rfl .arr .nil) (.cons (.row rfl (ids_map (fun _ => rfl) _)) (.cons (.same rfl) .nil)) (s_wire_number x2 ((a1).asRef) x23 hx23) (.row rfl (ids_map (fun _ => rfl) _)) (.cons .arr .nil) rfl) ?_
        refine sA rfl rfl rfl rfl rfl (ao_nil ?_)
        change BW _ _ _ _ _
        refine bw_ret ?_
        change ∃ xs, _ = some xs ∧ EndOk _ _ _ _
        obtain rfl := Option.some.inj h
        exact ⟨_, rfl, endR (y := (PV.sl (some 0) 1 (List.map ofB x23))) 1 (Wk.refl _) rfl rfl (.row rfl (ids_map (fun _ => rfl) _)) (.cons .arr .nil) ⟨rfl, rfl⟩⟩
       ·intro hc22; replace h := ocond_f hc22 h
        refine bR ?_
        refine sS rfl rfl rfl (op1_old (op1_taList rfl rfl)) ?_
        refine sS rfl rfl rfl (op1_oldS (op1_ext rfl rfl rfl) Sc.v) ?_
        refine sS rfl rfl rfl (op1_old (op1_ext rfl rfl rfl)) (ao_nil ?_)
        change BW _ _ _ _ _
        refine bw_cond rfl ?_ ?_
        ·intro hc24; replace h := ocond_t hc24 h
         refine bR ?_
         refine sA rfl rfl rfl rfl rfl (ao_nil ?_)
         change BW _ _ _ _ _
         refine bR ?_
         refine sM rfl rfl rfl rfl rfl ?_
         refine sM rfl rfl rfl rfl rfl ?_
         refine sS rfl rfl rfl (op1_oldS (op1_lenM Try.underlying61 rfl rfl) Sc.v) ?_
         refine sS rfl rfl rfl (op1_convI Try.underlying3 Try.underlying24 rfl rfl) ?_
         obtain ⟨x25, hx25, h⟩ := obind h
         refine sS rfl rfl rfl (op1_mcall [0] (.func rfl) en_43 rfl (.cons (Wk.refl _) (.cons (Wk.refl _) .nil)) rfl (.cons rfl .arr .nil) (.cons (.row rfl (ids_map (fun _ => rfl) _)) (.cons (.same rfl) .nil)) (s_wire_number x2 (IntKind.u64.wrap ((((a1).asList).length : Nat) : Int)) x25 hx25) (.row rfl (ids_map (fun _ => rfl) _)) (.cons .arr .nil) rfl) ?_
         refine sA rfl rfl rfl rfl rfl (ao_nil ?_)
         change BW _ _ _ _ _
         refine bR ?_
         refine sM rfl rfl rfl rfl rfl ?_
         refine sS rfl rfl rfl (op1_oldS (op1_lenM Try.underlying61 rfl rfl) Sc.v) ?_
         refine sM rfl rfl rfl rfl rfl (ao_nil ?_)
         change BW _ _ _ _ _
         refine bw_block ?_
         change BW _ _ _ _ _
         unfold wire_put_l2 at h
         refine bw_loop (σ := (Str × Nat)) (fun i => [(0, (PV.sl (some 0) 1 (List.map ofB i.1))), (88, (PV.old (PV.sl none 1 (List.map ofV (a1).asList)))), (89, (I64 (((((a1).asList).length : Nat) : Int)))), (90, (I64 (((i.2 : Nat) : Int))))]) (fun i => [.arr 5 (i.1).length]) (x25, 0) h ?_ ?_ ?_
         ·intro i; exact ⟨Nat.le_of_ble_eq_true rfl, ⟨(il_tok rfl (ids_map (fun _ => rfl) _)), ⟨(il_nil (ids_old (ids_slM ids_V _))), ⟨(il_nil rfl), ⟨(il_nil rfl), trivial⟩⟩⟩⟩, trivial⟩
         ·exact ⟨(.cons .same .nil), (sC rfl (sC rfl (sC rfl (sC rfl sub_nil))))⟩
         ·rintro g1_f ⟨s26, s27⟩ h; replace h : wire_put_l2b r_wire_put a1 (fun y0 y1 => g1_f (y0, y1)) s26 s27 = some r := h; unfold wire_put_l2b at h
          change BW _ _ _ ⟨[(0, (PV.sl (some 0) 1 (List.map ofB s26))), (88, (PV.old (PV.sl none 1 (List.map ofV (a1).asList)))), (89, (I64 (((((a1).asList).length : Nat) : Int)))), (90, (I64 (((s27 : Nat) : Int))))], [.arr 5 (s26).length], _⟩ _
          refine bR ?_
          refine sS rfl rfl rfl ((op1_cmp rfl rfl rfl rfl).cast (y := (BO ((decide (((s27 : Nat) : Int) < ((((a1).asList).length : Nat) : Int)))))) rfl rfl) (ao_nil ?_)
          change BW _ _ _ _ _
          refine bw_seq ?_
          refine bw_lenO (t := 88) rfl fun hb29 => ?_
          try rw [List.length_map] at hb29
          refine bw_cond rfl ?_ ?_
          ·intro hc28; replace h := ocond_t hc28 h
           have hc28_ := of_decide_eq_true hc28
           refine bw_skip ?_
           change BW _ _ _ _ _
           refine bw_seq ?_
           refine bw_block ?_
           change BW _ _ _ _ _
           refine bR ?_
           obtain ⟨x30, hx30, h⟩ := obind h
           refine sS rfl rfl rfl (op1_old (op1_idxN (i := s27) Try.underlying61 inf_20 rfl rfl rfl hx30 rfl)) ?_
           refine sS rfl rfl rfl (op1_old (op1_ldP (y := (ofV x30)) Try.underlying20 rfl rfl rfl (by rw [cells_V]; rfl))) ?_
           refine sA rfl rfl rfl rfl rfl (ao_nil ?_)
           change BW _ _ _ _ _
           refine bw_region ?_
           refine sM rfl rfl rfl rfl rfl ?_
           refine sM rfl rfl rfl rfl rfl ?_
           obtain ⟨x31, hx31, h⟩ := obind h
           refine sS rfl rfl rfl (op1_mcall [0] (.func rfl) en_30 rfl (.cons (Wk.refl _) (.cons (Wk.refl _) .nil)) rfl (.cons rfl .arr .nil) (.cons (.row rfl (ids_map (fun _ => rfl) _)) (.cons (.same (ids_old (ids_V x30))) .nil)) (c_wire_put s26 x30 x31 hx31) (.row rfl (ids_map (fun _ => rfl) _)) (.cons .arr .nil) rfl) ?_
           refine sA rfl rfl rfl rfl rfl (ao_nil ?_)
           change BW _ _ _ _ _
           refine bw_region ?_
           refine sS rfl rfl rfl (op1_incN (k := s27) (c := 1) rfl rfl rfl (by omega)) ?_
           refine sM rfl rfl rfl rfl rfl (ao_nil ?_)
           exact ⟨rfl, (x31, (s27 + 1)), h, ⟨(.cons .same .nil), (sC rfl (sC rfl (sC rfl (sC rfl sub_nil))))⟩⟩
          ·intro hc28; replace h := ocond_f hc28 h
           refine bw_exit ?_
           exact ⟨rfl, s26, h, ⟨(.cons .same .nil), (sC rfl sub_nil)⟩⟩
        ·intro hc24; replace h := ocond_f hc24 h
         refine bR ?_
         refine sS rfl rfl rfl (op1_old (op1_taDict rfl rfl)) ?_
         refine sS rfl rfl rfl (op1_oldS (op1_ext rfl rfl rfl) Sc.v) ?_
         refine sS rfl rfl rfl (op1_old (op1_ext rfl rfl rfl)) (ao_nil ?_)
         change BW _ _ _ _ _
         refine bw_cond rfl ?_ ?_
         ·intro hc32; replace h := ocond_t hc32 h
          refine bR ?_
          refine sA rfl rfl rfl rfl rfl (ao_nil ?_)
          change BW _ _ _ _ _
          refine bR ?_
          refine sM rfl rfl rfl rfl rfl ?_
          refine sM rfl rfl rfl rfl rfl ?_
          obtain ⟨x33, hx33, h⟩ := obind h
          refine sS rfl rfl rfl (op1_mcall [0] (.func rfl) en_46 rfl (.cons (Wk.refl _) (.cons (Wk.refl _) .nil)) rfl (.cons rfl .arr .nil) (.cons (.row rfl (ids_map (fun _ => rfl) _)) (.cons (.same (ids_old (ids_slM ids_Fld ((a1).asDict)))) .nil)) (c_wire_fields x2 ((a1).asDict) x33 hx33) (.row rfl (ids_map (fun _ => rfl) _)) (.cons .arr .nil) rfl) ?_
          refine sA rfl rfl rfl rfl rfl (ao_nil ?_)
          change BW _ _ _ _ _
          refine bw_ret ?_
          change ∃ xs, _ = some xs ∧ EndOk _ _ _ _
          obtain rfl := Option.some.inj h
          exact ⟨_, rfl, endR (y := (PV.sl (some 0) 1 (List.map ofB x33))) 1 (Wk.refl _) rfl rfl (.row rfl (ids_map (fun _ => rfl) _)) (.cons .arr .nil) ⟨rfl, rfl⟩⟩
         ·intro hc32; replace h := ocond_f hc32 h
          refine bR ?_
          refine sS rfl rfl rfl (op1_old (op1_taRec rfl rfl)) ?_
          refine sS rfl rfl rfl (op1_oldS (op1_ext rfl rfl rfl) Sc.v) ?_
          refine sS rfl rfl rfl (op1_old (op1_ext rfl rfl rfl)) (ao_nil ?_)
          change BW _ _ _ _ _
          refine bw_cond rfl ?_ ?_
          ·intro hc34; replace h := ocond_t hc34 h
           refine bR ?_
           refine sA rfl rfl rfl rfl rfl (ao_nil ?_)
           change BW _ _ _ _ _
           refine bw_seq (bw_tail 16 [5, 11] [] mo (by kernel_rfl) ?_)
           refine ac_go rfl rfl rfl rfl (fun H hp => op1_move rfl rfl) ?_
           refine ac_go rfl rfl rfl rfl (fun H hp => op1_move rfl rfl) ?_
           obtain ⟨x35, hx35, h⟩ := obind h
           refine ac_go rfl rfl rfl rfl (fun H hp => op1_old (op1_pNil rfl rfl hx35)) ?_
           refine ac_go rfl rfl rfl rfl (fun H hp => op1_old (op1_faP st_67 (i := 0) rfl rfl rfl)) ?_
           refine ac_go rfl rfl rfl rfl (fun H hp => op1_oldS (op1_ldP (y := (ofStr x35.cls)) Try.underlying9 rfl rfl rfl rfl) Sc.v) ?_
           obtain ⟨x36, hx36, h⟩ := obind h
           refine ac_lgo rfl rfl rfl rfl (op1_mcall [0] (.func rfl) en_45 rfl (.cons (Wk.refl _) (.cons (Wk.refl _) .nil)) rfl (.cons rfl .arr .nil) (.cons (.row rfl (ids_map (fun _ => rfl) _)) (.cons (.same rfl) .nil)) (s_wire_text x2 x35.cls x36 hx36) (.row rfl (ids_map (fun _ => rfl) _)) (.cons .arr .nil) rfl) trivial ?_
           refine ac_go rfl rfl rfl rfl (fun H hp => op1_move rfl rfl) ?_
           refine ac_go rfl rfl rfl rfl (fun H hp => op1_old (op1_pNil rfl rfl hx35)) ?_
           refine ac_go rfl rfl rfl rfl (fun H hp => op1_old (op1_faP st_67 (i := 1) rfl rfl rfl)) ?_
           refine ac_go rfl rfl rfl rfl (fun H hp => op1_oldS (op1_ldP (y := (I64 x35.ver)) Try.underlying3 rfl rfl rfl rfl) Sc.v) ?_
           refine ac_go rfl rfl rfl rfl (fun H hp => op1_convI Try.underlying3 Try.underlying24 rfl rfl) ?_
           obtain ⟨x37, hx37, h⟩ := obind h
           refine ac_lgo rfl rfl rfl rfl (op1_mcall [0] (.func rfl) en_43 rfl (.cons (Wk.refl _) (.cons (Wk.refl _) .nil)) rfl (.cons rfl .arr .nil) (.cons (.row rfl (ids_map (fun _ => rfl) _)) (.cons (.same rfl) .nil)) (s_wire_number x36 (IntKind.u64.wrap x35.ver) x37 hx37) (.row rfl (ids_map (fun _ => rfl) _)) (.cons .arr .nil) rfl) trivial ?_
           refine ac_go rfl rfl rfl rfl (fun H hp => op1_move rfl rfl) ?_
           refine ac_go rfl rfl rfl rfl (fun H hp => op1_old (op1_pNil rfl rfl hx35)) ?_
           refine ac_go rfl rfl rfl rfl (fun H hp => op1_old (op1_faP st_67 (i := 2) rfl rfl rfl)) ?_
           refine ac_go rfl rfl rfl rfl (fun H hp => op1_old (op1_ldP (y := (PV.sl none 2 (List.map ofFld x35.fields))) Try.underlying63 rfl rfl rfl rfl)) ?_
           refine ac_nil ?_
           change AO _ _ _ _ _
           obtain ⟨x38, hx38, h⟩ := obind h
           refine sS rfl rfl rfl (op1_mcall [0] (.func rfl) en_46 rfl (.cons (Wk.refl _) (.cons (Wk.refl _) .nil)) rfl (.cons rfl .arr .nil) (.cons (.row rfl (ids_map (fun _ => rfl) _)) (.cons (.same (ids_old (ids_slM ids_Fld x35.fields))) .nil)) (c_wire_fields x37 x35.fields x38 hx38) (.row rfl (ids_map (fun _ => rfl) _)) (.cons .arr .nil) rfl) ?_
           refine sA rfl rfl rfl rfl rfl (ao_nil ?_)
           change BW _ _ _ _ _
           refine bw_ret ?_
           change ∃ xs, _ = some xs ∧ EndOk _ _ _ _
           obtain rfl := Option.some.inj h
           exact ⟨_, rfl, endR (y := (PV.sl (some 0) 1 (List.map ofB x38))) 1 (Wk.refl _) rfl rfl (.row rfl (ids_map (fun _ => rfl) _)) (.cons .arr .nil) ⟨rfl, rfl⟩⟩
          ·intro hc34; replace h := ocond_f hc34 h
           refine bw_skip ?_
           exact ⟨rfl, x2, h, ⟨(.cons .same .nil), (sC rfl sub_nil)⟩⟩
theorem C_wire_fields.sound : ∀ (i : C_wire_fields) (r : i.R), fixO C_wire_fields.F i = some r → C_wire_fields.Q i r := by
 refine fixO_ind (Φ := C_wire_fields.F) (Q := C_wire_fields.Q) ?_
 intro g hg i r h
 cases i with
 | k_wire_fields a0 a1 => exact t_wire_fields (fun a0 a1 => g (.k_wire_fields a0 a1)) (fun a0 a1 r hr => hg (.k_wire_fields a0 a1) r hr) (fun a0 a1 => g (.k_wire_put a0 a1)) (fun a0 a1 r hr => hg (.k_wire_put a0 a1) r hr) a0 a1 r h
 | k_wire_put a0 a1 => exact t_wire_put (fun a0 a1 => g (.k_wire_fields a0 a1)) (fun a0 a1 r hr => hg (.k_wire_fields a0 a1) r hr) (fun a0 a1 => g (.k_wire_put a0 a1)) (fun a0 a1 r hr => hg (.k_wire_put a0 a1) r hr) a0 a1 r h
theorem s_wire_fields (a0 : Str) (a1 : (List (Str × V))) (r : Str) (h : p_wire_fields a0 a1 = some r) : MCalls Try.prog 46 [(PV.sl (some 0) 1 (List.map ofB a0)), (PV.old (PV.sl none 2 (List.map ofFld a1)))] [.arr 5 (a0).length] (PV.sl (some 0) 1 (List.map ofB r)) [.arr 5 (r).length] := C_wire_fields.sound (.k_wire_fields a0 a1) r h
theorem s_wire_put (a0 : Str) (a1 : V) (r : Str) (h : p_wire_put a0 a1 = some r) : MCalls Try.prog 30 [(PV.sl (some 0) 1 (List.map ofB a0)), (PV.old (ofV a1))] [.arr 5 (a0).length] (PV.sl (some 0) 1 (List.map ofB r)) [.arr 5 (r).length] := C_wire_fields.sound (.k_wire_put a0 a1) r h
noncomputable def p_wire_Encode (a0 : V) : Option (Str × Int) :=
 Option.bind (p_value_Check a0) fun x1 =>
 bif (x1.2 != 0) then (
  some ([], x1.2)
 ) else (
  Option.bind (p_wire_put ([] : Str) a0) fun x3 =>
  some (x3, 0)
 )
theorem s_wire_Encode (a0 : V) (r : (Str × Int)) (h : p_wire_Encode a0 = some r) : PCalls Try.prog 11 [(PV.old (ofV a0))] (PV.tup [(PV.sl none 1 (List.map ofB r.1)), (I64 r.2)]) := by
 unfold p_wire_Encode at h
 refine acalls_of Try.func11 rfl Try.ntmps11 Try.results11 rfl (aw_of_bw ?_)
 change BW _ _ _ ⟨[(0, (PV.old (ofV a0)))], [], _⟩ _
 refine bR ?_
 refine sA rfl rfl rfl rfl rfl ?_
 refine sA rfl rfl rfl rfl rfl (ao_nil ?_)
 change BW _ _ _ _ _
 refine bw_seq ?_
 refine bR ?_
 refine sM rfl rfl rfl rfl rfl ?_
 obtain ⟨x1, hx1, h⟩ := obind h
 refine sS rfl rfl rfl (op1_oldS (op1_pcall rfl en_29 rfl (.cons (Wk.refl _) .nil) ⟨(ids_V a0), trivial⟩ (s_value_Check a0 x1 hx1) (ids_tup_cons rfl (ids_tup_cons rfl ids_tup_nil))) (Sc.tup (sc_cons Sc.v (sc_cons Sc.v sc_nil)))) ?_
 refine sM rfl rfl rfl rfl rfl ?_
 refine sS rfl rfl rfl (op1_ext rfl rfl rfl) ?_
 refine sS rfl rfl rfl (op1_ext rfl rfl rfl) ?_
 refine sA rfl rfl rfl rfl rfl ?_
 refine sA rfl rfl rfl rfl rfl (ao_nil ?_)
 change BW _ _ _ _ _
 refine bR ?_
 refine sM rfl rfl rfl rfl rfl ?_
 refine sS rfl rfl rfl ((op1_cmp rfl rfl rfl rfl).cast (y := (BO ((x1.2 != 0)))) rfl rfl) (ao_nil ?_)
 change BW _ _ _ _ _
 refine bw_cond rfl ?_ ?_
 ·intro hc2; replace h := ocond_t hc2 h
  refine bR ?_
  refine sM rfl rfl rfl rfl rfl ?_
  refine sA rfl rfl rfl rfl rfl ?_
  refine sA rfl rfl rfl rfl rfl (ao_nil ?_)
  change BW _ _ _ _ _
  refine bw_ret ?_
  change ∃ xs, _ = some xs ∧ EndOk _ _ _ _
  obtain rfl := Option.some.inj h
  exact ⟨_, rfl, endOk0 (y := (PV.tup [(PV.sl none 1 (List.map ofB [])), (I64 x1.2)])) (Wk.tup (.cons Wk.nil (.cons (Wk.refl _) .nil))) (ids_tup_cons (ids_slM (fun _ => rfl) ([])) (ids_tup_cons rfl ids_tup_nil)) ⟨rfl, rfl⟩⟩
 ·intro hc2; replace h := ocond_f hc2 h
  refine bw_skip ?_
  change BW _ _ _ _ _
  refine bR ?_
  refine sM rfl rfl rfl rfl rfl ?_
  obtain ⟨x3, hx3, h⟩ := obind h
  refine sS rfl rfl rfl (op1_mcallN 5 [0] rfl en_30 rfl rfl (.row (.val (Wk.refl _) .nil)) rfl (.cons rfl .arr .nil) (.cons (.row rfl rfl) (.cons (.same (ids_old (ids_V a0))) .nil)) (s_wire_put ([] : Str) a0 x3 hx3) (.row rfl (ids_map (fun _ => rfl) _)) (.cons .arr .nil) rfl) ?_
  refine sA rfl rfl rfl rfl rfl ?_
  refine sA rfl rfl rfl rfl rfl (ao_nil ?_)
  change BW _ _ _ _ _
  refine bw_ret ?_
  change ∃ xs, _ = some xs ∧ EndOk _ _ _ _
  obtain rfl := Option.some.inj h
  exact ⟨_, rfl, endOk0 (y := (PV.tup [(PV.sl none 1 (List.map ofB x3)), (I64 0)])) (Wk.tup (.cons Wk.tok (.cons (Wk.refl _) .nil))) (ids_tup_cons (ids_slM (fun _ => rfl) x3) (ids_tup_cons rfl ids_tup_nil)) ⟨rfl, rfl⟩⟩
noncomputable def ref01_Name_j3 (g1 : Int → Option Bool) (s3 : Int) (s6 : Bool) : Option Bool :=
 bif s6 then (
  some false
 ) else (
  g1 (IntKind.i64.wrap (s3 + 1))
 )
theorem ref01_Name_j3_cm {ι : Type} {ρ : ι → Type} (g1 : (∀ i, Option (ρ i)) → Int → Option Bool) (h_g1 : ∀ y0, CM (fun G => g1 G y0)) (s3 : Int) (s6 : Bool) : CM (fun G : (∀ i, Option (ρ i)) => ref01_Name_j3 (g1 G) s3 s6) := by
 simp only [ref01_Name_j3]
 repeat (first | exact cm_const | exact h_g1 _ | refine cm_cond ?_ ?_ | refine cm_bind ?_ (fun _ => ?_))
noncomputable def ref01_Name_j2 (g1 : Int → Option Bool) (a0 : Str) (s3 : Int) (s5 : Bool) : Option Bool :=
 bif (!s5) then (
  bif (s3 == 0) then (
   ref01_Name_j3 g1 s3 true
  ) else (
   Option.bind (idxI a0 s3) fun x10 =>
   bif (((x10).toNat : Int) != (((95 : UInt8)).toNat : Int)) then (
    Option.bind (idxI a0 s3) fun x12 =>
    bif (decide (((x12).toNat : Int) < (((48 : UInt8)).toNat : Int))) then (
     ref01_Name_j3 g1 s3 true
    ) else (
     Option.bind (idxI a0 s3) fun x14 =>
     ref01_Name_j3 g1 s3 (decide (((x14).toNat : Int) > (((57 : UInt8)).toNat : Int)))
    )
   ) else (
    ref01_Name_j3 g1 s3 false
   )
  )
 ) else (
  ref01_Name_j3 g1 s3 false
 )
theorem ref01_Name_j2_cm {ι : Type} {ρ : ι → Type} (g1 : (∀ i, Option (ρ i)) → Int → Option Bool) (h_g1 : ∀ y0, CM (fun G => g1 G y0)) (a0 : Str) (s3 : Int) (s5 : Bool) : CM (fun G : (∀ i, Option (ρ i)) => ref01_Name_j2 (g1 G) a0 s3 s5) := by
 simp only [ref01_Name_j2]
 repeat (first | exact cm_const | exact h_g1 _ | apply ref01_Name_j3_cm | refine cm_cond ?_ ?_ | refine cm_bind ?_ (fun _ => ?_) | intro _ | assumption)
noncomputable def ref01_Name_l1b (a0 : Str) (g1 : Int → Option Bool) (s3 : Int) : Option Bool :=
 bif (decide (s3 < (((a0).length : Nat) : Int))) then (
  Option.bind (idxI a0 s3) fun x15 =>
  bif (decide (((x15).toNat : Int) ≥ (((97 : UInt8)).toNat : Int))) then (
   Option.bind (idxI a0 s3) fun x17 =>
   ref01_Name_j2 g1 a0 s3 (decide (((x17).toNat : Int) ≤ (((122 : UInt8)).toNat : Int)))
  ) else (
   ref01_Name_j2 g1 a0 s3 false
  )
 ) else (
  some true
 )
theorem ref01_Name_l1b_cm {ι : Type} {ρ : ι → Type} (g1 : (∀ i, Option (ρ i)) → Int → Option Bool) (h_g1 : ∀ y0, CM (fun G => g1 G y0)) (a0 : Str) (s3 : Int) : CM (fun G : (∀ i, Option (ρ i)) => ref01_Name_l1b a0 (g1 G) s3) := by
 simp only [ref01_Name_l1b]
 repeat (first | exact cm_const | exact h_g1 _ | apply ref01_Name_j2_cm | refine cm_cond ?_ ?_ | refine cm_bind ?_ (fun _ => ?_) | intro _ | assumption)
noncomputable def ref01_Name_l1 (a0 : Str) (s3 : Int) : Option Bool :=
 fixO (ι := Int) (ρ := fun _ => Bool) (fun g i => ref01_Name_l1b a0 (fun s3 => g s3) i) s3
theorem ref01_Name_l1_eq (a0 : Str) (s3 : Int) : ref01_Name_l1 a0 s3 = ref01_Name_l1b a0 (ref01_Name_l1 a0) s3 :=
 fixO_eq (ι := Int) (ρ := fun _ => Bool) (Φ := fun g i => ref01_Name_l1b a0 (fun s3 => g s3) i) (fun i => ref01_Name_l1b_cm (ι := Int) (ρ := fun _ => Bool) (fun g => (fun s3 => g s3)) (fun _ => cm_app) a0 i) s3
noncomputable def ref01_Name_j1 (a0 : Str) (s1 : Bool) : Option Bool :=
 bif s1 then (
  some false
 ) else (
  ref01_Name_l1 a0 0
 )
noncomputable def p_ref01_Name (a0 : Str) : Option Bool :=
 bif (decide ((((a0).length : Nat) : Int) < 1)) then (
  ref01_Name_j1 a0 true
 ) else (
  ref01_Name_j1 a0 (decide ((((a0).length : Nat) : Int) > 32))
 )
theorem s_ref01_Name (a0 : Str) (r : Bool) (h : p_ref01_Name a0 = some r) : PCalls Try.prog 74 [(ofStr a0)] (BO r) := by
 unfold p_ref01_Name at h
 refine acalls_of Try.func74 rfl Try.ntmps74 Try.results74 rfl (aw_of_bw ?_)
 change BW _ _ _ ⟨[(0, (ofStr a0))], [], _⟩ _
 refine bR ?_
 refine sA rfl rfl rfl rfl rfl (ao_nil ?_)
 change BW _ _ _ _ _
 refine bw_seq ?_
 refine bw_seqJ (ι := Bool) (fun i => ref01_Name_j1 a0 i = some r) (fun i => [(0, (ofStr a0)), (12, (BO i))]) (fun i => []) ?_ ?_ ?_
 ·intro i; exact ⟨Nat.le_of_ble_eq_true rfl, ⟨(il_nil rfl), ⟨(il_nil rfl), trivial⟩⟩, trivial⟩
 ·rintro s1 h; replace h : ref01_Name_j1 a0 s1 = some r := h; unfold ref01_Name_j1 at h
  change BW _ _ _ ⟨[(0, (ofStr a0)), (12, (BO s1))], [], _⟩ _
  refine bw_cond rfl ?_ ?_
  ·intro hc2; replace h := ocond_t hc2 h
   refine bR ?_
   refine sA rfl rfl rfl rfl rfl (ao_nil ?_)
   change BW _ _ _ _ _
   refine bw_ret ?_
   change ∃ xs, _ = some xs ∧ EndOk _ _ _ _
   obtain rfl := Option.some.inj h
   exact ⟨_, rfl, endOk0 (y := (BO false)) (Wk.refl _) rfl ⟨rfl, rfl⟩⟩
  ·intro hc2; replace h := ocond_f hc2 h
   refine bw_skip ?_
   change BW _ _ _ _ _
   refine bw_seq ?_
   refine bR ?_
   refine sA rfl rfl rfl rfl rfl (ao_nil ?_)
   change BW _ _ _ _ _
   refine bw_block ?_
   change BW _ _ _ _ _
   unfold ref01_Name_l1 at h
   refine bw_loop (σ := Int) (fun i => [(0, (ofStr a0)), (3, (I64 i))]) (fun i => []) 0 h ?_ ?_ ?_
   ·intro i; exact ⟨Nat.le_of_ble_eq_true rfl, ⟨(il_nil rfl), ⟨(il_nil rfl), trivial⟩⟩, trivial⟩
   ·exact ⟨.nil, (sC rfl (sC rfl sub_nil))⟩
   ·rintro g1_f s3 h; replace h : ref01_Name_l1b a0 (fun y0 => g1_f y0) s3 = some r := h; unfold ref01_Name_l1b at h
    change BW _ _ _ ⟨[(0, (ofStr a0)), (3, (I64 s3))], [], _⟩ _
    refine bw_seq ?_
    refine bR ?_
    refine sM rfl rfl rfl rfl rfl ?_
    refine sM rfl rfl rfl rfl rfl ?_
    refine sS rfl rfl rfl (op1_lenT (s := a0) Try.underlying9 rfl rfl) ?_
    refine sS rfl rfl rfl ((op1_cmp rfl rfl rfl rfl).cast (y := (BO ((decide (s3 < (((a0).length : Nat) : Int)))))) rfl rfl) (ao_nil ?_)
    change BW _ _ _ _ _
    refine bw_cond rfl ?_ ?_
    ·intro hc4; replace h := ocond_t hc4 h
     refine bw_skip ?_
     change BW _ _ _ _ _
     refine bw_seq ?_
     refine bw_block ?_
     change BW _ _ _ _ _
     refine bw_seqJ (ι := Bool) (fun i => ref01_Name_j2 (fun y0 => g1_f y0) a0 s3 i = some r) (fun i => [(0, (ofStr a0)), (3, (I64 s3)), (4, (BO i))]) (fun i => []) ?_ ?_ ?_
     ·intro i; exact ⟨Nat.le_of_ble_eq_true rfl, ⟨(il_nil rfl), ⟨(il_nil rfl), ⟨(il_nil rfl), trivial⟩⟩⟩, trivial⟩
     ·rintro s5 h; replace h : ref01_Name_j2 (fun y0 => g1_f y0) a0 s3 s5 = some r := h; unfold ref01_Name_j2 at h
      change BW _ _ _ ⟨[(0, (ofStr a0)), (3, (I64 s3)), (4, (BO s5))], [], _⟩ _
      refine bw_seqJ (ι := Bool) (fun i => ref01_Name_j3 (fun y0 => g1_f y0) s3 i = some r) (fun i => [(0, (ofStr a0)), (3, (I64 s3)), (52, (BO i))]) (fun i => []) ?_ ?_ ?_
      ·intro i; exact ⟨Nat.le_of_ble_eq_true rfl, ⟨(il_nil rfl), ⟨(il_nil rfl), ⟨(il_nil rfl), trivial⟩⟩⟩, trivial⟩
      ·rintro s6 h; replace h : ref01_Name_j3 (fun y0 => g1_f y0) s3 s6 = some r := h; unfold ref01_Name_j3 at h
       change BW _ _ _ ⟨[(0, (ofStr a0)), (3, (I64 s3)), (52, (BO s6))], [], _⟩ _
       refine bw_cond rfl ?_ ?_
       ·intro hc7; replace h := ocond_t hc7 h
        refine bR ?_
        refine sA rfl rfl rfl rfl rfl (ao_nil ?_)
        change BW _ _ _ _ _
        refine bw_ret ?_
        change ∃ xs, _ = some xs ∧ EndOk _ _ _ _
        obtain rfl := Option.some.inj h
        exact ⟨_, rfl, endOk0 (y := (BO false)) (Wk.refl _) rfl ⟨rfl, rfl⟩⟩
       ·intro hc7; replace h := ocond_f hc7 h
        refine bw_skip ?_
        change BW _ _ _ _ _
        refine bw_region ?_
        refine sM rfl rfl rfl rfl rfl ?_
        refine sS rfl rfl rfl (op1_addW rfl rfl rfl) ?_
        refine sA rfl rfl rfl rfl rfl (ao_nil ?_)
        exact ⟨rfl, (IntKind.i64.wrap (s3 + 1)), h, ⟨.nil, (sC rfl (sC rfl sub_nil))⟩⟩
      ·refine bw_region ?_
       refine sM rfl rfl rfl rfl rfl ?_
       refine sS rfl rfl rfl (op1_not rfl rfl) ?_
       refine sM rfl rfl rfl rfl rfl ?_
       refine ao_cases (t := 31) rfl ?_ ?_
       ·intro hb8; replace h := ocond_t hb8 h
        refine ao_yes rfl rfl rfl rfl rfl rfl (op1_move rfl rfl) ?_
        refine ao_yes rfl rfl rfl rfl rfl rfl ((op1_cmp rfl rfl rfl rfl).cast (y := (BO ((s3 == 0)))) rfl rfl) ?_
        refine ao_yes rfl rfl rfl rfl rfl rfl (op1_move rfl rfl) ?_
        refine ao_cases (t := 34) rfl ?_ ?_
        ·intro hb9; replace h := ocond_t hb9 h
         refine ao_no rfl rfl rfl rfl rfl rfl ?_
         refine ao_no rfl rfl rfl rfl rfl rfl ?_
         refine ao_no rfl rfl rfl rfl rfl rfl ?_
         refine ao_no rfl rfl rfl rfl rfl rfl ?_
         refine ao_no rfl rfl rfl rfl rfl rfl ?_
         refine ao_no rfl rfl rfl rfl rfl rfl ?_
         refine ao_no rfl rfl rfl rfl rfl rfl ?_
         refine ao_no rfl rfl rfl rfl rfl rfl ?_
         refine ao_no rfl rfl rfl rfl rfl rfl ?_
         refine ao_no rfl rfl rfl rfl rfl rfl ?_
         refine ao_no rfl rfl rfl rfl rfl rfl ?_
         refine ao_no rfl rfl rfl rfl rfl rfl ?_
         refine ao_no rfl rfl rfl rfl rfl rfl ?_
         refine ao_no rfl rfl rfl rfl rfl rfl ?_
         refine ao_no rfl rfl rfl rfl rfl rfl ?_
         refine ao_no rfl rfl rfl rfl rfl rfl ?_
         refine ao_yes rfl rfl rfl rfl rfl rfl (op1_pickT rfl rfl rfl) ?_
         refine sS rfl rfl rfl (op1_pickT rfl rfl rfl) (ao_nil ?_)
         exact ⟨rfl, true, h, ⟨.nil, (sC rfl (sC rfl (sC rfl sub_nil)))⟩⟩
        ·intro hb9; replace h := ocond_f hb9 h
         refine ao_yes rfl rfl rfl rfl rfl rfl (op1_move rfl rfl) ?_
         refine ao_yes rfl rfl rfl rfl rfl rfl (op1_move rfl rfl) ?_
         obtain ⟨x10, hx10, h⟩ := obind h
         refine ao_yes rfl rfl rfl rfl rfl rfl (op1_idxT (s := a0) Try.underlying9 rfl rfl rfl hx10) ?_
         refine ao_yes rfl rfl rfl rfl rfl rfl ((op1_cmp rfl rfl rfl rfl).cast (y := (BO ((((x10).toNat : Int) != (((95 : UInt8)).toNat : Int))))) rfl rfl) ?_
         refine ao_yes rfl rfl rfl rfl rfl rfl (op1_move rfl rfl) ?_
         refine ao_cases (t := 39) rfl ?_ ?_
         ·intro hb11; replace h := ocond_t hb11 h
          refine ao_yes rfl rfl rfl rfl rfl rfl (op1_move rfl rfl) ?_
          refine ao_yes rfl rfl rfl rfl rfl rfl (op1_move rfl rfl) ?_
          obtain ⟨x12, hx12, h⟩ := obind h
          refine ao_yes rfl rfl rfl rfl rfl rfl (op1_idxT (s := a0) Try.underlying9 rfl rfl rfl hx12) ?_
          refine ao_yes rfl rfl rfl rfl rfl rfl ((op1_cmp rfl rfl rfl rfl).cast (y := (BO ((decide (((x12).toNat : Int) < (((48 : UInt8)).toNat : Int)))))) rfl rfl) ?_
          refine ao_yes rfl rfl rfl rfl rfl rfl (op1_move rfl rfl) ?_
          refine ao_cases (t := 44) rfl ?_ ?_
          ·intro hb13; replace h := ocond_t hb13 h
           refine ao_no rfl rfl rfl rfl rfl rfl ?_
           refine ao_no rfl rfl rfl rfl rfl rfl ?_
           refine ao_no rfl rfl rfl rfl rfl rfl ?_
           refine ao_no rfl rfl rfl rfl rfl rfl ?_
           refine ao_yes rfl rfl rfl rfl rfl rfl (op1_pickT rfl rfl rfl) ?_
           refine ao_yes rfl rfl rfl rfl rfl rfl (op1_pickT rfl rfl rfl) ?_
           refine ao_yes rfl rfl rfl rfl rfl rfl (op1_pickF rfl rfl rfl) ?_
           refine sS rfl rfl rfl (op1_pickT rfl rfl rfl) (ao_nil ?_)
           exact ⟨rfl, true, h, ⟨.nil, (sC rfl (sC rfl (sC rfl sub_nil)))⟩⟩
          ·intro hb13; replace h := ocond_f hb13 h
           refine ao_yes rfl rfl rfl rfl rfl rfl (op1_move rfl rfl) ?_
           refine ao_yes rfl rfl rfl rfl rfl rfl (op1_move rfl rfl) ?_
           obtain ⟨x14, hx14, h⟩ := obind h
           refine ao_yes rfl rfl rfl rfl rfl rfl (op1_idxT (s := a0) Try.underlying9 rfl rfl rfl hx14) ?_
           refine ao_yes rfl rfl rfl rfl rfl rfl ((op1_cmp rfl rfl rfl rfl).cast (y := (BO ((decide (((x14).toNat : Int) > (((57 : UInt8)).toNat : Int)))))) rfl rfl) ?_
           refine ao_yes rfl rfl rfl rfl rfl rfl (op1_pickF rfl rfl rfl) ?_
           refine ao_yes rfl rfl rfl rfl rfl rfl (op1_pickT rfl rfl rfl) ?_
           refine ao_yes rfl rfl rfl rfl rfl rfl (op1_pickF rfl rfl rfl) ?_
           refine sS rfl rfl rfl (op1_pickT rfl rfl rfl) (ao_nil ?_)
           exact ⟨rfl, (decide (((x14).toNat : Int) > (((57 : UInt8)).toNat : Int))), h, ⟨.nil, (sC rfl (sC rfl (sC rfl sub_nil)))⟩⟩
         ·intro hb11; replace h := ocond_f hb11 h
          refine ao_no rfl rfl rfl rfl rfl rfl ?_
          refine ao_no rfl rfl rfl rfl rfl rfl ?_
          refine ao_no rfl rfl rfl rfl rfl rfl ?_
          refine ao_no rfl rfl rfl rfl rfl rfl ?_
          refine ao_no rfl rfl rfl rfl rfl rfl ?_
          refine ao_no rfl rfl rfl rfl rfl rfl ?_
          refine ao_no rfl rfl rfl rfl rfl rfl ?_
          refine ao_no rfl rfl rfl rfl rfl rfl ?_
          refine ao_no rfl rfl rfl rfl rfl rfl ?_
          refine ao_no rfl rfl rfl rfl rfl rfl ?_
          refine ao_yes rfl rfl rfl rfl rfl rfl (op1_pickF rfl rfl rfl) ?_
          refine ao_yes rfl rfl rfl rfl rfl rfl (op1_pickF rfl rfl rfl) ?_
          refine sS rfl rfl rfl (op1_pickT rfl rfl rfl) (ao_nil ?_)
          exact ⟨rfl, false, h, ⟨.nil, (sC rfl (sC rfl (sC rfl sub_nil)))⟩⟩
       ·intro hb8; replace h := ocond_f hb8 h
        refine ao_no rfl rfl rfl rfl rfl rfl ?_
        refine ao_no rfl rfl rfl rfl rfl rfl ?_
        refine ao_no rfl rfl rfl rfl rfl rfl ?_
        refine ao_no rfl rfl rfl rfl rfl rfl ?_
        refine ao_no rfl rfl rfl rfl rfl rfl ?_
        refine ao_no rfl rfl rfl rfl rfl rfl ?_
        refine ao_no rfl rfl rfl rfl rfl rfl ?_
        refine ao_no rfl rfl rfl rfl rfl rfl ?_
        refine ao_no rfl rfl rfl rfl rfl rfl ?_
        refine ao_no rfl rfl rfl rfl rfl rfl ?_
        refine ao_no rfl rfl rfl rfl rfl rfl ?_
        refine ao_no rfl rfl rfl rfl rfl rfl ?_
        refine ao_no rfl rfl rfl rfl rfl rfl ?_
        refine ao_no rfl rfl rfl rfl rfl rfl ?_
        refine ao_no rfl rfl rfl rfl rfl rfl ?_
        refine ao_no rfl rfl rfl rfl rfl rfl ?_
        refine ao_no rfl rfl rfl rfl rfl rfl ?_
        refine ao_no rfl rfl rfl rfl rfl rfl ?_
        refine ao_no rfl rfl rfl rfl rfl rfl ?_
        refine ao_no rfl rfl rfl rfl rfl rfl ?_
        refine sS rfl rfl rfl (op1_pickF rfl rfl rfl) (ao_nil ?_)
        exact ⟨rfl, false, h, ⟨.nil, (sC rfl (sC rfl (sC rfl sub_nil)))⟩⟩
     ·refine bw_region ?_
      refine sM rfl rfl rfl rfl rfl ?_
      refine sM rfl rfl rfl rfl rfl ?_
      obtain ⟨x15, hx15, h⟩ := obind h
      refine sS rfl rfl rfl (op1_idxT (s := a0) Try.underlying9 rfl rfl rfl hx15) ?_
      refine sS rfl rfl rfl ((op1_cmp rfl rfl rfl rfl).cast (y := (BO ((decide (((x15).toNat : Int) ≥ (((97 : UInt8)).toNat : Int)))))) rfl rfl) ?_
      refine sM rfl rfl rfl rfl rfl ?_
      refine ao_cases (t := 23) rfl ?_ ?_
      ·intro hb16; replace h := ocond_t hb16 h
       refine ao_yes rfl rfl rfl rfl rfl rfl (op1_move rfl rfl) ?_
       refine ao_yes rfl rfl rfl rfl rfl rfl (op1_move rfl rfl) ?_
       obtain ⟨x17, hx17, h⟩ := obind h
       refine ao_yes rfl rfl rfl rfl rfl rfl (op1_idxT (s := a0) Try.underlying9 rfl rfl rfl hx17) ?_
       refine ao_yes rfl rfl rfl rfl rfl rfl ((op1_cmp rfl rfl rfl rfl).cast (y := (BO ((decide (((x17).toNat : Int) ≤ (((122 : UInt8)).toNat : Int)))))) rfl rfl) ?_
       refine sS rfl rfl rfl (op1_pickT rfl rfl rfl) ?_
       refine sA rfl rfl rfl rfl rfl (ao_nil ?_)
       exact ⟨rfl, (decide (((x17).toNat : Int) ≤ (((122 : UInt8)).toNat : Int))), h, ⟨.nil, (sC rfl (sC rfl (sC rfl sub_nil)))⟩⟩
      ·intro hb16; replace h := ocond_f hb16 h
       refine ao_no rfl rfl rfl rfl rfl rfl ?_
       refine ao_no rfl rfl rfl rfl rfl rfl ?_
       refine ao_no rfl rfl rfl rfl rfl rfl ?_
       refine ao_no rfl rfl rfl rfl rfl rfl ?_
       refine sS rfl rfl rfl (op1_pickF rfl rfl rfl) ?_
       refine sA rfl rfl rfl rfl rfl (ao_nil ?_)
       exact ⟨rfl, false, h, ⟨.nil, (sC rfl (sC rfl (sC rfl sub_nil)))⟩⟩
    ·intro hc4; replace h := ocond_f hc4 h
     refine bw_exit ?_
     change BW _ _ _ _ _
     refine bR ?_
     refine sA rfl rfl rfl rfl rfl (ao_nil ?_)
     change BW _ _ _ _ _
     refine bw_ret ?_
     change ∃ xs, _ = some xs ∧ EndOk _ _ _ _
     obtain rfl := Option.some.inj h
     exact ⟨_, rfl, endOk0 (y := (BO true)) (Wk.refl _) rfl ⟨rfl, rfl⟩⟩
 ·refine bw_region ?_
  refine sM rfl rfl rfl rfl rfl ?_
  refine sS rfl rfl rfl (op1_lenT (s := a0) Try.underlying9 rfl rfl) ?_
  refine sS rfl rfl rfl ((op1_cmp rfl rfl rfl rfl).cast (y := (BO ((decide ((((a0).length : Nat) : Int) < 1))))) rfl rfl) ?_
  refine sM rfl rfl rfl rfl rfl ?_
  refine ao_cases (t := 8) rfl ?_ ?_
  ·intro hb18; replace h := ocond_t hb18 h
   refine ao_no rfl rfl rfl rfl rfl rfl ?_
   refine ao_no rfl rfl rfl rfl rfl rfl ?_
   refine ao_no rfl rfl rfl rfl rfl rfl ?_
   refine sS rfl rfl rfl (op1_pickT rfl rfl rfl) (ao_nil ?_)
   exact ⟨rfl, true, h, ⟨.nil, (sC rfl (sC rfl sub_nil))⟩⟩
  ·intro hb18; replace h := ocond_f hb18 h
   refine ao_yes rfl rfl rfl rfl rfl rfl (op1_move rfl rfl) ?_
   refine ao_yes rfl rfl rfl rfl rfl rfl (op1_lenT (s := a0) Try.underlying9 rfl rfl) ?_
   refine ao_yes rfl rfl rfl rfl rfl rfl ((op1_cmp rfl rfl rfl rfl).cast (y := (BO ((decide ((((a0).length : Nat) : Int) > 32))))) rfl rfl) ?_
   refine sS rfl rfl rfl (op1_pickF rfl rfl rfl) (ao_nil ?_)
   exact ⟨rfl, (decide ((((a0).length : Nat) : Int) > 32)), h, ⟨.nil, (sC rfl (sC rfl sub_nil))⟩⟩
end Go.Proofs.Ytigadhiciinicaa
