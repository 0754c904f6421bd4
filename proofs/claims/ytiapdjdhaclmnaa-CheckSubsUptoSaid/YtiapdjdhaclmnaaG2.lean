/- Pure functions, and that calls answer as they say. -/
import Derived.Test.YtiapdjdhaclmnaaG1
namespace Go.Proofs.Ytiapdjdhaclmnaa
open Go Aw
set_option linter.unusedVariables false
set_option maxRecDepth 20000
set_option maxHeartbeats 2000000
variable {ι : Type} {ρ : ι → Type}
noncomputable def zod (r_q1r : (Str × V) → (Str × V) → Option Int) (r_q00 : (List (Str × V)) → (List (Str × V)) → Option Int) (r_q01 : (List V) → (List V) → Option Int) (r_q1u : V → V → Option Int) (a0 a1 : (Str × V)) : Option Int :=
 (znd a0.1 a1.1).bind fun x1 =>
 bif (x1 != 0) then (
 some x1
 ) else (
 (r_q1u a0.2 a1.2).bind fun x3 =>
 some x3
 )
theorem Z1f (r_q1r : OF ρ → (Str × V) → (Str × V) → Option Int) (h_r_q1r : ∀ y0 y1, CM (fun G => r_q1r G y0 y1)) (r_q00 : OF ρ → (List (Str × V)) → (List (Str × V)) → Option Int) (h_r_q00 : ∀ y0 y1, CM (fun G => r_q00 G y0 y1)) (r_q01 : OF ρ → (List V) → (List V) → Option Int) (h_r_q01 : ∀ y0 y1, CM (fun G => r_q01 G y0 y1)) (r_q1u : OF ρ → V → V → Option Int) (h_r_q1u : ∀ y0 y1, CM (fun G => r_q1u G y0 y1)) (a0 a1 : (Str × V)) : CM (fun G : OF ρ => zod (r_q1r G) (r_q00 G) (r_q01 G) (r_q1u G) a0 a1) := by
 simp only [zod]
 repeat (first | exact z01 | exact h_r_q1r _ _ | exact h_r_q00 _ _ | exact h_r_q01 _ _ | exact h_r_q1u _ _ | refine z0h ?_ ?_ | refine z0i ?_ (fun _ => ?_))
noncomputable def z6q (r_q1r : (Str × V) → (Str × V) → Option Int) (a0 a1 : (List (Str × V))) (g1 : Nat → Option Int) (s1 : Nat) : Option Int :=
 bif (decide (((s1 : Nat) : Int) < (((a0).length : Nat) : Int))) then (
 ((a0)[s1]?).bind fun x4 =>
 bif (decide (((s1 : Nat) : Int) ≥ (((a1).length : Nat) : Int))) then (
 some 1
 ) else (
 ((a1)[s1]?).bind fun x6 =>
 (r_q1r x4 x6).bind fun x7 =>
 bif (x7 != 0) then (
 some x7
 ) else (
 g1 (s1 + 1)
 )
 )
 ) else (
 bif (decide ((((a0).length : Nat) : Int) < (((a1).length : Nat) : Int))) then (
 some (-1)
 ) else (
 some 0
 )
 )
theorem zcv (r_q1r : OF ρ → (Str × V) → (Str × V) → Option Int) (h_r_q1r : ∀ y0 y1, CM (fun G => r_q1r G y0 y1)) (g1 : OF ρ → Nat → Option Int) (h_g1 : ∀ y0, CM (fun G => g1 G y0)) (a0 a1 : (List (Str × V))) (s1 : Nat) : CM (fun G : OF ρ => z6q (r_q1r G) a0 a1 (g1 G) s1) := by
 simp only [z6q]
 repeat (first | exact z01 | exact h_r_q1r _ _ | exact h_g1 _ | refine z0h ?_ ?_ | refine z0i ?_ (fun _ => ?_))
noncomputable def zhz (r_q1r : (Str × V) → (Str × V) → Option Int) (a0 a1 : (List (Str × V))) (s1 : Nat) : Option Int :=
 z22 (ι := Nat) (ρ := fun _ => Int) (fun g i => z6q r_q1r a0 a1 (fun s1 => g s1) i) s1
theorem zln (r_q1r : (Str × V) → (Str × V) → Option Int) (a0 a1 : (List (Str × V))) (s1 : Nat) : zhz r_q1r a0 a1 s1 = z6q r_q1r a0 a1 (zhz r_q1r a0 a1) s1 :=
 z0t (ι := Nat) (ρ := fun _ => Int) (Φ := fun g i => z6q r_q1r a0 a1 (fun s1 => g s1) i) (fun i => zcv (ι := Nat) (ρ := fun _ => Int) (fun _ => r_q1r) (fun _ _ => z01) (fun g => (fun s1 => g s1)) (fun _ => z0s) a0 a1 i) s1
theorem zvg (r_q1r : OF ρ → (Str × V) → (Str × V) → Option Int) (h_r_q1r : ∀ y0 y1, CM (fun G => r_q1r G y0 y1)) (a0 a1 : (List (Str × V))) (s1 : Nat) : CM (fun G : OF ρ => zhz (r_q1r G) a0 a1 s1) :=
 z28 (κ := Nat) (τ := fun _ => Int) (Φ := fun G g i => z6q (r_q1r G) a0 a1 (fun s1 => g s1) i) (fun g i => zcv r_q1r h_r_q1r (fun _ => (fun s1 => g s1)) (fun _ => z01) a0 a1 i) (fun G i => zcv (ι := Nat) (ρ := fun _ => Int) (fun _ => r_q1r G) (fun _ _ => z01) (fun g => (fun s1 => g s1)) (fun _ => z0s) a0 a1 i) s1
noncomputable def zp3 (r_q1r : (Str × V) → (Str × V) → Option Int) (r_q00 : (List (Str × V)) → (List (Str × V)) → Option Int) (r_q01 : (List V) → (List V) → Option Int) (r_q1u : V → V → Option Int) (a0 a1 : (List (Str × V))) : Option Int :=
 zhz r_q1r a0 a1 0
theorem Z26 (r_q1r : OF ρ → (Str × V) → (Str × V) → Option Int) (h_r_q1r : ∀ y0 y1, CM (fun G => r_q1r G y0 y1)) (r_q00 : OF ρ → (List (Str × V)) → (List (Str × V)) → Option Int) (h_r_q00 : ∀ y0 y1, CM (fun G => r_q00 G y0 y1)) (r_q01 : OF ρ → (List V) → (List V) → Option Int) (h_r_q01 : ∀ y0 y1, CM (fun G => r_q01 G y0 y1)) (r_q1u : OF ρ → V → V → Option Int) (h_r_q1u : ∀ y0 y1, CM (fun G => r_q1u G y0 y1)) (a0 a1 : (List (Str × V))) : CM (fun G : OF ρ => zp3 (r_q1r G) (r_q00 G) (r_q01 G) (r_q1u G) a0 a1) := by
 simp only [zp3]
 repeat (first | exact z01 | exact h_r_q1r _ _ | exact h_r_q00 _ _ | exact h_r_q01 _ _ | exact h_r_q1u _ _ | apply zvg | refine z0h ?_ ?_ | refine z0i ?_ (fun _ => ?_) | intro _ | assumption)
noncomputable def z6p (r_q1u : V → V → Option Int) (a0 a1 : (List V)) (g1 : Nat → Option Int) (s1 : Nat) : Option Int :=
 bif (decide (((s1 : Nat) : Int) < (((a0).length : Nat) : Int))) then (
 ((a0)[s1]?).bind fun x4 =>
 bif (decide (((s1 : Nat) : Int) ≥ (((a1).length : Nat) : Int))) then (
 some 1
 ) else (
 ((a1)[s1]?).bind fun x6 =>
 (r_q1u x4 x6).bind fun x7 =>
 bif (x7 != 0) then (
 some x7
 ) else (
 g1 (s1 + 1)
 )
 )
 ) else (
 bif (decide ((((a0).length : Nat) : Int) < (((a1).length : Nat) : Int))) then (
 some (-1)
 ) else (
 some 0
 )
 )
theorem zcu (r_q1u : OF ρ → V → V → Option Int) (h_r_q1u : ∀ y0 y1, CM (fun G => r_q1u G y0 y1)) (g1 : OF ρ → Nat → Option Int) (h_g1 : ∀ y0, CM (fun G => g1 G y0)) (a0 a1 : (List V)) (s1 : Nat) : CM (fun G : OF ρ => z6p (r_q1u G) a0 a1 (g1 G) s1) := by
 simp only [z6p]
 repeat (first | exact z01 | exact h_r_q1u _ _ | exact h_g1 _ | refine z0h ?_ ?_ | refine z0i ?_ (fun _ => ?_))
noncomputable def zhy (r_q1u : V → V → Option Int) (a0 a1 : (List V)) (s1 : Nat) : Option Int :=
 z22 (ι := Nat) (ρ := fun _ => Int) (fun g i => z6p r_q1u a0 a1 (fun s1 => g s1) i) s1
theorem zlm (r_q1u : V → V → Option Int) (a0 a1 : (List V)) (s1 : Nat) : zhy r_q1u a0 a1 s1 = z6p r_q1u a0 a1 (zhy r_q1u a0 a1) s1 :=
 z0t (ι := Nat) (ρ := fun _ => Int) (Φ := fun g i => z6p r_q1u a0 a1 (fun s1 => g s1) i) (fun i => zcu (ι := Nat) (ρ := fun _ => Int) (fun _ => r_q1u) (fun _ _ => z01) (fun g => (fun s1 => g s1)) (fun _ => z0s) a0 a1 i) s1
theorem zvf (r_q1u : OF ρ → V → V → Option Int) (h_r_q1u : ∀ y0 y1, CM (fun G => r_q1u G y0 y1)) (a0 a1 : (List V)) (s1 : Nat) : CM (fun G : OF ρ => zhy (r_q1u G) a0 a1 s1) :=
 z28 (κ := Nat) (τ := fun _ => Int) (Φ := fun G g i => z6p (r_q1u G) a0 a1 (fun s1 => g s1) i) (fun g i => zcu r_q1u h_r_q1u (fun _ => (fun s1 => g s1)) (fun _ => z01) a0 a1 i) (fun G i => zcu (ι := Nat) (ρ := fun _ => Int) (fun _ => r_q1u G) (fun _ _ => z01) (fun g => (fun s1 => g s1)) (fun _ => z0s) a0 a1 i) s1
noncomputable def zp2 (r_q1r : (Str × V) → (Str × V) → Option Int) (r_q00 : (List (Str × V)) → (List (Str × V)) → Option Int) (r_q01 : (List V) → (List V) → Option Int) (r_q1u : V → V → Option Int) (a0 a1 : (List V)) : Option Int :=
 zhy r_q1u a0 a1 0
theorem Z25 (r_q1r : OF ρ → (Str × V) → (Str × V) → Option Int) (h_r_q1r : ∀ y0 y1, CM (fun G => r_q1r G y0 y1)) (r_q00 : OF ρ → (List (Str × V)) → (List (Str × V)) → Option Int) (h_r_q00 : ∀ y0 y1, CM (fun G => r_q00 G y0 y1)) (r_q01 : OF ρ → (List V) → (List V) → Option Int) (h_r_q01 : ∀ y0 y1, CM (fun G => r_q01 G y0 y1)) (r_q1u : OF ρ → V → V → Option Int) (h_r_q1u : ∀ y0 y1, CM (fun G => r_q1u G y0 y1)) (a0 a1 : (List V)) : CM (fun G : OF ρ => zp2 (r_q1r G) (r_q00 G) (r_q01 G) (r_q1u G) a0 a1) := by
 simp only [zp2]
 repeat (first | exact z01 | exact h_r_q1r _ _ | exact h_r_q00 _ _ | exact h_r_q01 _ _ | exact h_r_q1u _ _ | apply zvf | refine z0h ?_ ?_ | refine z0i ?_ (fun _ => ?_) | intro _ | assumption)
noncomputable def zob (r_q1r : (Str × V) → (Str × V) → Option Int) (r_q00 : (List (Str × V)) → (List (Str × V)) → Option Int) (r_q01 : (List V) → (List V) → Option Int) (r_q1u : V → V → Option Int) (a0 a1 : V) : Option Int :=
 (zj8 a0).bind fun x1 =>
 (zj8 a1).bind fun x2 =>
 (zrv x1 x2).bind fun x3 =>
 bif (x3 != 0) then (
 some x3
 ) else (
 bif (a0).isBool then (
 (zw0 ((a0).asBool)).bind fun x6 =>
 ((a1).theBool).bind fun x7 =>
 (zw0 x7).bind fun x8 =>
 (zrv x6 x8).bind fun x9 =>
 some x9
 ) else (
 bif (a0).isInt then (
 ((a1).theInt).bind fun x11 =>
 (zz7 ((a0).asInt) x11).bind fun x12 =>
 some x12
 ) else (
 bif (a0).isFloat then (
 (zrq ((a0).asFloat)).bind fun x14 =>
 ((a1).theFloat).bind fun x15 =>
 (zrq x15).bind fun x16 =>
 (zz9 x14 x16).bind fun x17 =>
 some x17
 ) else (
 bif (a0).isText then (
 ((a1).theText).bind fun x19 =>
 (znd ((a0).asText) x19).bind fun x20 =>
 some x20
 ) else (
 bif (a0).isBytes then (
 ((a1).theBytes).bind fun x22 =>
 (zzb ((a0).asBytes) x22).bind fun x23 =>
 some x23
 ) else (
 bif (a0).isRef then (
 ((a1).theRef).bind fun x25 =>
 (zza ((a0).asRef) x25).bind fun x26 =>
 some x26
 ) else (
 bif (a0).isList then (
 ((a1).theList).bind fun x28 =>
 (r_q01 ((a0).asList) x28).bind fun x29 =>
 some x29
 ) else (
 bif (a0).isDict then (
 ((a1).theDict).bind fun x31 =>
 (r_q00 ((a0).asDict) x31).bind fun x32 =>
 some x32
 ) else (
 bif (a0).isRec then (
 ((a1).theRec).bind fun x34 =>
 ((a0).asRec).bind fun x35 =>
 (x34).bind fun x36 =>
 (znd x35.cls x36.cls).bind fun x37 =>
 bif (x37 != 0) then (
 some x37
 ) else (
 (zrv x35.ver x36.ver).bind fun x39 =>
 bif (x39 != 0) then (
 some x39
 ) else (
 (r_q00 x35.fields x36.fields).bind fun x41 =>
 some x41
 )
 )
 ) else (
 some 0
 )
 )
 )
 )
 )
 )
 )
 )
 )
 )
theorem Z1d (r_q1r : OF ρ → (Str × V) → (Str × V) → Option Int) (h_r_q1r : ∀ y0 y1, CM (fun G => r_q1r G y0 y1)) (r_q00 : OF ρ → (List (Str × V)) → (List (Str × V)) → Option Int) (h_r_q00 : ∀ y0 y1, CM (fun G => r_q00 G y0 y1)) (r_q01 : OF ρ → (List V) → (List V) → Option Int) (h_r_q01 : ∀ y0 y1, CM (fun G => r_q01 G y0 y1)) (r_q1u : OF ρ → V → V → Option Int) (h_r_q1u : ∀ y0 y1, CM (fun G => r_q1u G y0 y1)) (a0 a1 : V) : CM (fun G : OF ρ => zob (r_q1r G) (r_q00 G) (r_q01 G) (r_q1u G) a0 a1) := by
 simp only [zob]
 repeat (first | exact z01 | exact h_r_q1r _ _ | exact h_r_q00 _ _ | exact h_r_q01 _ _ | exact h_r_q1u _ _ | refine z0h ?_ ?_ | refine z0i ?_ (fun _ => ?_))
inductive C_q1r where
 | k_q1r (a0 : (Str × V)) (a1 : (Str × V))
 | k_q00 (a0 : (List (Str × V))) (a1 : (List (Str × V)))
 | k_q01 (a0 : (List V)) (a1 : (List V))
 | k_q1u (a0 : V) (a1 : V)
def C_q1r.R : C_q1r → Type
 | .k_q1r _ _ => Int
 | .k_q00 _ _ => Int
 | .k_q01 _ _ => Int
 | .k_q1u _ _ => Int
noncomputable def C_q1r.F (g : ∀ i : C_q1r, Option i.R) : ∀ i : C_q1r, Option i.R
 | .k_q1r a0 a1 => zod (fun a0 a1 => g (.k_q1r a0 a1)) (fun a0 a1 => g (.k_q00 a0 a1)) (fun a0 a1 => g (.k_q01 a0 a1)) (fun a0 a1 => g (.k_q1u a0 a1)) a0 a1
 | .k_q00 a0 a1 => zp3 (fun a0 a1 => g (.k_q1r a0 a1)) (fun a0 a1 => g (.k_q00 a0 a1)) (fun a0 a1 => g (.k_q01 a0 a1)) (fun a0 a1 => g (.k_q1u a0 a1)) a0 a1
 | .k_q01 a0 a1 => zp2 (fun a0 a1 => g (.k_q1r a0 a1)) (fun a0 a1 => g (.k_q00 a0 a1)) (fun a0 a1 => g (.k_q01 a0 a1)) (fun a0 a1 => g (.k_q1u a0 a1)) a0 a1
 | .k_q1u a0 a1 => zob (fun a0 a1 => g (.k_q1r a0 a1)) (fun a0 a1 => g (.k_q00 a0 a1)) (fun a0 a1 => g (.k_q01 a0 a1)) (fun a0 a1 => g (.k_q1u a0 a1)) a0 a1
noncomputable def zn9 (a0 a1 : (Str × V)) : Option Int := z22 C_q1r.F (.k_q1r a0 a1)
noncomputable def zs3 (a0 a1 : (List (Str × V))) : Option Int := z22 C_q1r.F (.k_q00 a0 a1)
noncomputable def zs2 (a0 a1 : (List V)) : Option Int := z22 C_q1r.F (.k_q01 a0 a1)
noncomputable def zay (a0 a1 : V) : Option Int := z22 C_q1r.F (.k_q1u a0 a1)
abbrev gg5 := fun (g : ∀ i : C_q1r, Option i.R) a0 a1 => g (.k_q1r a0 a1)
theorem hh5 (a0 a1 : _) : CM (ρ := C_q1r.R) (fun g => g (C_q1r.k_q1r a0 a1)) := z0s
abbrev gg6 := fun (g : ∀ i : C_q1r, Option i.R) a0 a1 => g (.k_q00 a0 a1)
theorem hh6 (a0 a1 : _) : CM (ρ := C_q1r.R) (fun g => g (C_q1r.k_q00 a0 a1)) := z0s
abbrev gg7 := fun (g : ∀ i : C_q1r, Option i.R) a0 a1 => g (.k_q01 a0 a1)
theorem hh7 (a0 a1 : _) : CM (ρ := C_q1r.R) (fun g => g (C_q1r.k_q01 a0 a1)) := z0s
abbrev gg8 := fun (g : ∀ i : C_q1r, Option i.R) a0 a1 => g (.k_q1u a0 a1)
theorem hh8 (a0 a1 : _) : CM (ρ := C_q1r.R) (fun g => g (C_q1r.k_q1u a0 a1)) := z0s
theorem C_q1r.cm (i : C_q1r) : CM (fun g : (∀ i : C_q1r, Option i.R) => C_q1r.F g i) := by
 cases i with
 | k_q1r a0 a1 => exact Z1f gg5 hh5 gg6 hh6 gg7 hh7 gg8 hh8 a0 a1
 | k_q00 a0 a1 => exact Z26 gg5 hh5 gg6 hh6 gg7 hh7 gg8 hh8 a0 a1
 | k_q01 a0 a1 => exact Z25 gg5 hh5 gg6 hh6 gg7 hh7 gg8 hh8 a0 a1
 | k_q1u a0 a1 => exact Z1d gg5 hh5 gg6 hh6 gg7 hh7 gg8 hh8 a0 a1
theorem Zd3 (a0 a1 : (Str × V)) : zn9 a0 a1 = zod zn9 zs3 zs2 zay a0 a1 := z0t C_q1r.cm (.k_q1r a0 a1)
theorem Zds (a0 a1 : (List (Str × V))) : zs3 a0 a1 = zp3 zn9 zs3 zs2 zay a0 a1 := z0t C_q1r.cm (.k_q00 a0 a1)
theorem Zdr (a0 a1 : (List V)) : zs2 a0 a1 = zp2 zn9 zs3 zs2 zay a0 a1 := z0t C_q1r.cm (.k_q01 a0 a1)
theorem Zd1 (a0 a1 : V) : zay a0 a1 = zob zn9 zs3 zs2 zay a0 a1 := z0t C_q1r.cm (.k_q1u a0 a1)
def C_q1r.Q : ∀ i : C_q1r, i.R → Prop
 | .k_q1r a0 a1 => fun (r : Int) => z08 Try.prog 114 [(ofFld a0), (ofFld a1)] (I64 r)
 | .k_q00 a0 a1 => fun (r : Int) => z08 Try.prog 113 [(PV.sl none 43 2 (List.map ofFld a0)), (PV.sl none 43 2 (List.map ofFld a1)), (PV.fn (.func 114) [] [])] (I64 r)
 | .k_q01 a0 a1 => fun (r : Int) => z08 Try.prog 112 [(PV.sl none 20 1 (List.map ofV a0)), (PV.sl none 20 1 (List.map ofV a1)), (PV.fn (.func 88) [] [])] (I64 r)
 | .k_q1u a0 a1 => fun (r : Int) => z08 Try.prog 88 [(ofV a0), (ofV a1)] (I64 r)
theorem ziq (r_q1r : (Str × V) → (Str × V) → Option Int) (c_q1r : ∀ (a0 : (Str × V)) (a1 : (Str × V)) r, r_q1r a0 a1 = some r → z08 Try.prog 114 [(ofFld a0), (ofFld a1)] (I64 r)) (r_q00 : (List (Str × V)) → (List (Str × V)) → Option Int) (c_q00 : ∀ (a0 : (List (Str × V))) (a1 : (List (Str × V))) r, r_q00 a0 a1 = some r → z08 Try.prog 113 [(PV.sl none 43 2 (List.map ofFld a0)), (PV.sl none 43 2 (List.map ofFld a1)), (PV.fn (.func 114) [] [])] (I64 r)) (r_q01 : (List V) → (List V) → Option Int) (c_q01 : ∀ (a0 : (List V)) (a1 : (List V)) r, r_q01 a0 a1 = some r → z08 Try.prog 112 [(PV.sl none 20 1 (List.map ofV a0)), (PV.sl none 20 1 (List.map ofV a1)), (PV.fn (.func 88) [] [])] (I64 r)) (r_q1u : V → V → Option Int) (c_q1u : ∀ (a0 : V) (a1 : V) r, r_q1u a0 a1 = some r → z08 Try.prog 88 [(ofV a0), (ofV a1)] (I64 r)) (a0 a1 : (Str × V)) (r : Int) (h : zod r_q1r r_q00 r_q01 r_q1u a0 a1 = some r) : z08 Try.prog 114 [(ofFld a0), (ofFld a1)] (I64 r) := by
 unfold zod at h
 refine z0g Try.func114 rfl Try.ntmps114 Try.results114 rfl (z0q ?_)
 change BW _ _ _ ⟨[(0, (ofFld a0)), (1, (ofFld a1))], [], _⟩ _
 refine bR ?_
 iterate 2 refine sX ?_
 refine eX ?_
 refine z09 ?_
 refine bR ?_
 iterate 4 refine sX ?_
 obtain ⟨x1, hx1, h⟩ := obind h
 refine sS rfl rfl rfl (z04 rfl zxs rfl (wkr (wkr .nil)) ⟨rfl, ⟨rfl, trivial⟩⟩ (Z4j a0.1 a1.1 x1 hx1) rfl) ?_
 refine eX ?_
 refine bR ?_
 refine sX ?_
 refine eX ?_
 refine cX h rfl ?_ ?_
 intro hc2 h
 refine bR ?_
 refine sX ?_
 refine eX ?_
 obtain rfl := eI h; exact z05 eK
 intro hc2 h
 refine z07 ?_
 refine cBx ?_
 refine bR ?_
 iterate 4 refine sX ?_
 obtain ⟨x3, hx3, h⟩ := obind h
 refine sS rfl rfl rfl (z04 rfl Z5q rfl (wkr (wkr .nil)) ⟨(ids_V a0.2), ⟨(ids_V a1.2), trivial⟩⟩ (c_q1u a0.2 a1.2 x3 hx3) rfl) ?_
 refine eX ?_
 obtain rfl := eI h; exact z05 eK
theorem z1z (r_q1r : (Str × V) → (Str × V) → Option Int) (c_q1r : ∀ (a0 : (Str × V)) (a1 : (Str × V)) r, r_q1r a0 a1 = some r → z08 Try.prog 114 [(ofFld a0), (ofFld a1)] (I64 r)) (r_q00 : (List (Str × V)) → (List (Str × V)) → Option Int) (c_q00 : ∀ (a0 : (List (Str × V))) (a1 : (List (Str × V))) r, r_q00 a0 a1 = some r → z08 Try.prog 113 [(PV.sl none 43 2 (List.map ofFld a0)), (PV.sl none 43 2 (List.map ofFld a1)), (PV.fn (.func 114) [] [])] (I64 r)) (r_q01 : (List V) → (List V) → Option Int) (c_q01 : ∀ (a0 : (List V)) (a1 : (List V)) r, r_q01 a0 a1 = some r → z08 Try.prog 112 [(PV.sl none 20 1 (List.map ofV a0)), (PV.sl none 20 1 (List.map ofV a1)), (PV.fn (.func 88) [] [])] (I64 r)) (r_q1u : V → V → Option Int) (c_q1u : ∀ (a0 : V) (a1 : V) r, r_q1u a0 a1 = some r → z08 Try.prog 88 [(ofV a0), (ofV a1)] (I64 r)) (a0 a1 : (List (Str × V))) (r : Int) (h : zp3 r_q1r r_q00 r_q01 r_q1u a0 a1 = some r) : z08 Try.prog 113 [(PV.sl none 43 2 (List.map ofFld a0)), (PV.sl none 43 2 (List.map ofFld a1)), (PV.fn (.func 114) [] [])] (I64 r) := by
 unfold zp3 at h
 refine z0g Try.func113 rfl Try.ntmps113 Try.results113 rfl (z0q ?_)
 change BW _ _ _ ⟨[(0, (PV.sl none 43 2 (List.map ofFld a0))), (1, (PV.sl none 43 2 (List.map ofFld a1))), (2, (PV.fn (.func 114) [] []))], [], _⟩ _
 refine bR ?_
 refine eX ?_
 refine z09 ?_
 refine bR ?_
 iterate 2 refine sX ?_
 refine eX ?_
 refine z0e ?_
 refine cBx ?_
 unfold zhz at h
 refine lX (σ := Nat) (fun i => [(0, (PV.sl none 43 2 (List.map ofFld a0))), (1, (PV.sl none 43 2 (List.map ofFld a1))), (2, (PV.fn (.func 114) [] [])), (11, (PV.sl none 43 2 (List.map ofFld a0))), (12, (I64 ((((a0).length : Nat) : Int)))), (13, (I64 (((i : Nat) : Int))))]) (fun i => []) 0 h ?_ ?_
 exact jN
 rintro g1_f s1 h; replace h : z6q r_q1r a0 a1 (fun y0 => g1_f y0) s1 = some r := h; unfold z6q at h
 change BW _ _ _ ⟨[(0, (PV.sl none 43 2 (List.map ofFld a0))), (1, (PV.sl none 43 2 (List.map ofFld a1))), (2, (PV.fn (.func 114) [] [])), (11, (PV.sl none 43 2 (List.map ofFld a0))), (12, (I64 ((((a0).length : Nat) : Int)))), (13, (I64 (((s1 : Nat) : Int))))], [], _⟩ _
 refine bR ?_
 refine eX ?_
 refine z09 ?_
 refine z2f (t := 11) rfl fun hb3 => ?_
 try rw [List.length_map] at hb3
 refine cX h rfl ?_ ?_
 intro hc2 h
 have hc2_ := of_decide_eq_true hc2
 refine z07 ?_
 refine cBx ?_
 refine z09 ?_
 refine z0e ?_
 refine cBx ?_
 refine bR ?_
 refine sX ?_
 obtain ⟨x4, hx4, h⟩ := obind h
 refine sS rfl rfl rfl (z0w (i := s1) Try.underlying45 z2z rfl rfl rfl hx4 rfl) ?_
 refine sX ?_
 refine sS rfl rfl rfl ((z16 z2z rfl).cast (H'' := [.box 43 [(ofStr []), (ofV V.nil)]]) rfl (by simp only [mk_nil]; rfl)) ?_
 refine sX ?_
 refine z0m rfl rfl (z0d z2z rfl rfl rfl rfl rfl rfl (lbE rfl) (by show List.all [(ofStr x4.1), (ofV x4.2)] z9g = true; simp only [List.all_cons, List.all_nil, zm0, z99, Bool.and_true, Bool.true_and]; try rfl)) ?_
 refine z06 ?_
 refine cBx ?_
 refine z09 ?_
 refine bR ?_
 iterate 3 refine sX ?_
 refine eX ?_
 refine cX h rfl ?_ ?_
 intro hc5 h
 refine bR ?_
 refine eX ?_
 obtain rfl := eI h; exact z05 eK
 intro hc5 h
 refine z07 ?_
 refine cBx ?_
 refine bR ?_
 iterate 2 refine sX ?_
 obtain ⟨x6, hx6, h⟩ := obind h
 refine sS rfl rfl rfl (z0w (i := s1) Try.underlying45 z2z rfl rfl rfl hx6 rfl) ?_
 refine sX ?_
 refine sS rfl rfl rfl ((z16 z2z rfl).cast (H'' := [.box 43 [(ofStr x4.1), (ofV x4.2)], .box 43 [(ofStr []), (ofV V.nil)]]) rfl (by simp only [mk_nil]; rfl)) ?_
 refine z0m rfl rfl (z0d z2z rfl rfl rfl rfl rfl rfl (lbE rfl) (by show List.all [(ofStr x6.1), (ofV x6.2)] z9g = true; simp only [List.all_cons, List.all_nil, zm0, z99, Bool.and_true, Bool.true_and]; try rfl)) ?_
 refine z06 ?_
 refine cBx ?_
 refine bR ?_
 iterate 3 refine sX ?_
 obtain ⟨x7, hx7, h⟩ := obind h
 refine sS rfl rfl rfl (z96 rfl rfl Z9r rfl (wkr (wkr .nil)) ⟨(z2i x4), ⟨(z2i x6), trivial⟩⟩ (c_q1r x4 x6 x7 hx7) rfl) ?_
 refine eX ?_
 refine bR ?_
 refine sX ?_
 refine eX ?_
 refine cX h rfl ?_ ?_
 intro hc8 h
 refine bR ?_
 refine sX ?_
 refine eX ?_
 obtain rfl := eI h; exact z05 eK
 intro hc8 h
 refine z07 ?_
 refine cBx ?_
 refine z0a ?_
 refine sS rfl rfl rfl (z1b (k := s1) (c := 1) rfl rfl rfl (by omega)) ?_
 refine sX (z06 ?_)
 exact ⟨rfl, (s1 + 1), h, jN⟩
 intro hc2 h
 refine z1a ?_
 refine cBx ?_
 refine z09 ?_
 refine bR ?_
 iterate 4 refine sX ?_
 refine eX ?_
 refine cX h rfl ?_ ?_
 intro hc9 h
 refine bR ?_
 refine eX ?_
 obtain rfl := eI h; exact z05 eK
 intro hc9 h
 refine z07 ?_
 refine cBx ?_
 refine bR ?_
 refine eX ?_
 obtain rfl := eI h; exact z05 eK
theorem z2b (r_q1r : (Str × V) → (Str × V) → Option Int) (c_q1r : ∀ (a0 : (Str × V)) (a1 : (Str × V)) r, r_q1r a0 a1 = some r → z08 Try.prog 114 [(ofFld a0), (ofFld a1)] (I64 r)) (r_q00 : (List (Str × V)) → (List (Str × V)) → Option Int) (c_q00 : ∀ (a0 : (List (Str × V))) (a1 : (List (Str × V))) r, r_q00 a0 a1 = some r → z08 Try.prog 113 [(PV.sl none 43 2 (List.map ofFld a0)), (PV.sl none 43 2 (List.map ofFld a1)), (PV.fn (.func 114) [] [])] (I64 r)) (r_q01 : (List V) → (List V) → Option Int) (c_q01 : ∀ (a0 : (List V)) (a1 : (List V)) r, r_q01 a0 a1 = some r → z08 Try.prog 112 [(PV.sl none 20 1 (List.map ofV a0)), (PV.sl none 20 1 (List.map ofV a1)), (PV.fn (.func 88) [] [])] (I64 r)) (r_q1u : V → V → Option Int) (c_q1u : ∀ (a0 : V) (a1 : V) r, r_q1u a0 a1 = some r → z08 Try.prog 88 [(ofV a0), (ofV a1)] (I64 r)) (a0 a1 : (List V)) (r : Int) (h : zp2 r_q1r r_q00 r_q01 r_q1u a0 a1 = some r) : z08 Try.prog 112 [(PV.sl none 20 1 (List.map ofV a0)), (PV.sl none 20 1 (List.map ofV a1)), (PV.fn (.func 88) [] [])] (I64 r) := by
 unfold zp2 at h
 refine z0g Try.func112 rfl Try.ntmps112 Try.results112 rfl (z0q ?_)
 change BW _ _ _ ⟨[(0, (PV.sl none 20 1 (List.map ofV a0))), (1, (PV.sl none 20 1 (List.map ofV a1))), (2, (PV.fn (.func 88) [] []))], [], _⟩ _
 refine bR ?_
 refine eX ?_
 refine z09 ?_
 refine bR ?_
 iterate 2 refine sX ?_
 refine eX ?_
 refine z0e ?_
 refine cBx ?_
 unfold zhy at h
 refine lX (σ := Nat) (fun i => [(0, (PV.sl none 20 1 (List.map ofV a0))), (1, (PV.sl none 20 1 (List.map ofV a1))), (2, (PV.fn (.func 88) [] [])), (11, (PV.sl none 20 1 (List.map ofV a0))), (12, (I64 ((((a0).length : Nat) : Int)))), (13, (I64 (((i : Nat) : Int))))]) (fun i => []) 0 h ?_ ?_
 exact jN
 rintro g1_f s1 h; replace h : z6p r_q1u a0 a1 (fun y0 => g1_f y0) s1 = some r := h; unfold z6p at h
 change BW _ _ _ ⟨[(0, (PV.sl none 20 1 (List.map ofV a0))), (1, (PV.sl none 20 1 (List.map ofV a1))), (2, (PV.fn (.func 88) [] [])), (11, (PV.sl none 20 1 (List.map ofV a0))), (12, (I64 ((((a0).length : Nat) : Int)))), (13, (I64 (((s1 : Nat) : Int))))], [], _⟩ _
 refine bR ?_
 refine eX ?_
 refine z09 ?_
 refine z2f (t := 11) rfl fun hb3 => ?_
 try rw [List.length_map] at hb3
 refine cX h rfl ?_ ?_
 intro hc2 h
 have hc2_ := of_decide_eq_true hc2
 refine z07 ?_
 refine cBx ?_
 refine z09 ?_
 refine z0e ?_
 refine cBx ?_
 refine bR ?_
 refine sX ?_
 obtain ⟨x4, hx4, h⟩ := obind h
 refine sS rfl rfl rfl (z0w (i := s1) Try.underlying37 zbe rfl rfl rfl hx4 rfl) ?_
 refine sS rfl rfl rfl (z7y (y := (ofV x4)) Try.underlying20 rfl rfl rfl (by rw [z47]; rfl)) ?_
 refine sX ?_
 refine eX ?_
 refine z09 ?_
 refine bR ?_
 iterate 3 refine sX ?_
 refine eX ?_
 refine cX h rfl ?_ ?_
 intro hc5 h
 refine bR ?_
 refine eX ?_
 obtain rfl := eI h; exact z05 eK
 intro hc5 h
 refine z07 ?_
 refine cBx ?_
 refine bR ?_
 iterate 2 refine sX ?_
 obtain ⟨x6, hx6, h⟩ := obind h
 refine sS rfl rfl rfl (z0w (i := s1) Try.underlying37 zbe rfl rfl rfl hx6 rfl) ?_
 refine sS rfl rfl rfl (z7y (y := (ofV x6)) Try.underlying20 rfl rfl rfl (by rw [z47]; rfl)) ?_
 refine eX ?_
 refine bR ?_
 iterate 3 refine sX ?_
 obtain ⟨x7, hx7, h⟩ := obind h
 refine sS rfl rfl rfl (z96 rfl rfl Z5q rfl (wkr (wkr .nil)) ⟨(ids_V x4), ⟨(ids_V x6), trivial⟩⟩ (c_q1u x4 x6 x7 hx7) rfl) ?_
 refine eX ?_
 refine bR ?_
 refine sX ?_
 refine eX ?_
 refine cX h rfl ?_ ?_
 intro hc8 h
 refine bR ?_
 refine sX ?_
 refine eX ?_
 obtain rfl := eI h; exact z05 eK
 intro hc8 h
 refine z07 ?_
 refine cBx ?_
 refine z0a ?_
 refine sS rfl rfl rfl (z1b (k := s1) (c := 1) rfl rfl rfl (by omega)) ?_
 refine sX (z06 ?_)
 exact ⟨rfl, (s1 + 1), h, jN⟩
 intro hc2 h
 refine z1a ?_
 refine cBx ?_
 refine z09 ?_
 refine bR ?_
 iterate 4 refine sX ?_
 refine eX ?_
 refine cX h rfl ?_ ?_
 intro hc9 h
 refine bR ?_
 refine eX ?_
 obtain rfl := eI h; exact z05 eK
 intro hc9 h
 refine z07 ?_
 refine cBx ?_
 refine bR ?_
 refine eX ?_
 obtain rfl := eI h; exact z05 eK
theorem zin (r_q1r : (Str × V) → (Str × V) → Option Int) (c_q1r : ∀ (a0 : (Str × V)) (a1 : (Str × V)) r, r_q1r a0 a1 = some r → z08 Try.prog 114 [(ofFld a0), (ofFld a1)] (I64 r)) (r_q00 : (List (Str × V)) → (List (Str × V)) → Option Int) (c_q00 : ∀ (a0 : (List (Str × V))) (a1 : (List (Str × V))) r, r_q00 a0 a1 = some r → z08 Try.prog 113 [(PV.sl none 43 2 (List.map ofFld a0)), (PV.sl none 43 2 (List.map ofFld a1)), (PV.fn (.func 114) [] [])] (I64 r)) (r_q01 : (List V) → (List V) → Option Int) (c_q01 : ∀ (a0 : (List V)) (a1 : (List V)) r, r_q01 a0 a1 = some r → z08 Try.prog 112 [(PV.sl none 20 1 (List.map ofV a0)), (PV.sl none 20 1 (List.map ofV a1)), (PV.fn (.func 88) [] [])] (I64 r)) (r_q1u : V → V → Option Int) (c_q1u : ∀ (a0 : V) (a1 : V) r, r_q1u a0 a1 = some r → z08 Try.prog 88 [(ofV a0), (ofV a1)] (I64 r)) (a0 a1 : V) (r : Int) (h : zob r_q1r r_q00 r_q01 r_q1u a0 a1 = some r) : z08 Try.prog 88 [(ofV a0), (ofV a1)] (I64 r) := by
 unfold zob at h
 refine z0g Try.func88 rfl Try.ntmps88 Try.results88 rfl (z0q ?_)
 change BW _ _ _ ⟨[(0, (ofV a0)), (1, (ofV a1))], [], _⟩ _
 refine bR ?_
 refine eX ?_
 refine z09 ?_
 refine bR ?_
 refine sX ?_
 obtain ⟨x1, hx1, h⟩ := obind h
 refine sS rfl rfl rfl (z04 rfl zsf rfl (wkr .nil) ⟨(ids_V a0), trivial⟩ (zr4 a0 x1 hx1) rfl) ?_
 refine sX ?_
 obtain ⟨x2, hx2, h⟩ := obind h
 refine sS rfl rfl rfl (z04 rfl zsf rfl (wkr .nil) ⟨(ids_V a1), trivial⟩ (zr4 a1 x2 hx2) rfl) ?_
 obtain ⟨x3, hx3, h⟩ := obind h
 refine sS rfl rfl rfl (z04 rfl zxt rfl (wkr (wkr .nil)) ⟨rfl, ⟨rfl, trivial⟩⟩ (Z4i x1 x2 x3 hx3) rfl) ?_
 refine eX ?_
 refine bR ?_
 refine sX ?_
 refine eX ?_
 refine cX h rfl ?_ ?_
 intro hc4 h
 refine bR ?_
 refine sX ?_
 refine eX ?_
 obtain rfl := eI h; exact z05 eK
 intro hc4 h
 refine z07 ?_
 refine cBx ?_
 refine z09 ?_
 refine bR ?_
 refine eX ?_
 refine z0e ?_
 refine cBx ?_
 refine bR ?_
 refine sS rfl rfl rfl (zcx rfl rfl) ?_
 refine sX ?_
 refine eX ?_
 refine cX h rfl ?_ ?_
 intro hc5 h
 refine bR ?_
 refine eX ?_
 refine z09 (z13 4 [] [] mo (by kernel_rfl) ?_)
 refine gX ?_
 obtain ⟨x6, hx6, h⟩ := obind h
 refine z1h rfl rfl rfl rfl (fun H hp => z04 rfl Z3t rfl (wkr .nil) ⟨rfl, trivial⟩ (Z7f ((a0).asBool) x6 hx6) rfl) ?_
 refine gX ?_
 obtain ⟨x7, hx7, h⟩ := obind h
 refine z1h rfl rfl rfl rfl (fun H hp => zs8 rfl rfl hx7) ?_
 refine z11 ?_
 change AO _ _ _ _ _
 obtain ⟨x8, hx8, h⟩ := obind h
 refine sS rfl rfl rfl (z04 rfl Z3t rfl (wkr .nil) ⟨rfl, trivial⟩ (Z7f x7 x8 hx8) rfl) ?_
 obtain ⟨x9, hx9, h⟩ := obind h
 refine sS rfl rfl rfl (z04 rfl zxt rfl (wkr (wkr .nil)) ⟨rfl, ⟨rfl, trivial⟩⟩ (Z4i x6 x8 x9 hx9) rfl) ?_
 refine eX ?_
 obtain rfl := eI h; exact z05 eK
 intro hc5 h
 refine bR ?_
 refine sS rfl rfl rfl (zfk rfl rfl) ?_
 refine sX ?_
 refine eX ?_
 refine cX h rfl ?_ ?_
 intro hc10 h
 refine bR ?_
 refine eX ?_
 refine bR ?_
 iterate 2 refine sX ?_
 obtain ⟨x11, hx11, h⟩ := obind h
 refine sS rfl rfl rfl (zwj rfl rfl hx11) ?_
 obtain ⟨x12, hx12, h⟩ := obind h
 refine sS rfl rfl rfl (z04 rfl Z9w rfl (wkr (wkr .nil)) ⟨rfl, ⟨rfl, trivial⟩⟩ (Zb5 ((a0).asInt) x11 x12 hx12) rfl) ?_
 refine eX ?_
 obtain rfl := eI h; exact z05 eK
 intro hc10 h
 refine bR ?_
 refine sS rfl rfl rfl (z9y rfl rfl) ?_
 refine sX ?_
 refine eX ?_
 refine cX h rfl ?_ ?_
 intro hc13 h
 refine bR ?_
 refine eX ?_
 refine z09 (z13 4 [] [] mo (by kernel_rfl) ?_)
 refine gX ?_
 obtain ⟨x14, hx14, h⟩ := obind h
 refine z1h rfl rfl rfl rfl (fun H hp => z04 rfl Z3s rfl (wkr .nil) ⟨rfl, trivial⟩ (Z7d ((a0).asFloat) x14 hx14) rfl) ?_
 refine gX ?_
 obtain ⟨x15, hx15, h⟩ := obind h
 refine z1h rfl rfl rfl rfl (fun H hp => zne rfl rfl hx15) ?_
 refine z11 ?_
 change AO _ _ _ _ _
 obtain ⟨x16, hx16, h⟩ := obind h
 refine sS rfl rfl rfl (z04 rfl Z3s rfl (wkr .nil) ⟨rfl, trivial⟩ (Z7d x15 x16 hx16) rfl) ?_
 obtain ⟨x17, hx17, h⟩ := obind h
 refine sS rfl rfl rfl (z04 rfl Z9v rfl (wkr (wkr .nil)) ⟨rfl, ⟨rfl, trivial⟩⟩ (Zb9 x14 x16 x17 hx17) rfl) ?_
 refine eX ?_
 obtain rfl := eI h; exact z05 eK
 intro hc13 h
 refine bR ?_
 refine sS rfl rfl rfl (z94 rfl rfl) ?_
 refine sX ?_
 refine eX ?_
 refine cX h rfl ?_ ?_
 intro hc18 h
 refine bR ?_
 refine eX ?_
 refine bR ?_
 iterate 2 refine sX ?_
 obtain ⟨x19, hx19, h⟩ := obind h
 refine sS rfl rfl rfl (zs5 rfl rfl hx19) ?_
 obtain ⟨x20, hx20, h⟩ := obind h
 refine sS rfl rfl rfl (z04 rfl zxs rfl (wkr (wkr .nil)) ⟨rfl, ⟨rfl, trivial⟩⟩ (Z4j ((a0).asText) x19 x20 hx20) rfl) ?_
 refine eX ?_
 obtain rfl := eI h; exact z05 eK
 intro hc18 h
 refine bR ?_
 refine sS rfl rfl rfl (z7w rfl rfl) ?_
 refine sX ?_
 refine eX ?_
 refine cX h rfl ?_ ?_
 intro hc21 h
 refine bR ?_
 refine eX ?_
 refine bR ?_
 iterate 2 refine sX ?_
 obtain ⟨x22, hx22, h⟩ := obind h
 refine sS rfl rfl rfl (znf rfl rfl hx22) ?_
 obtain ⟨x23, hx23, h⟩ := obind h
 refine sS rfl rfl rfl (z04 rfl Z9u rfl (wkr (wkr .nil)) ⟨(z0c (fun _ => rfl) ((a0).asBytes)), ⟨(z0c (fun _ => rfl) x22), trivial⟩⟩ (Zbd ((a0).asBytes) x22 x23 hx23) rfl) ?_
 refine eX ?_
 obtain rfl := eI h; exact z05 eK
 intro hc21 h
 refine bR ?_
 refine sS rfl rfl rfl (zfj rfl rfl) ?_
 refine sX ?_
 refine eX ?_
 refine cX h rfl ?_ ?_
 intro hc24 h
 refine bR ?_
 refine eX ?_
 refine bR ?_
 iterate 2 refine sX ?_
 obtain ⟨x25, hx25, h⟩ := obind h
 refine sS rfl rfl rfl (zwh rfl rfl hx25) ?_
 obtain ⟨x26, hx26, h⟩ := obind h
 refine sS rfl rfl rfl (z04 rfl Z9t rfl (wkr (wkr .nil)) ⟨rfl, ⟨rfl, trivial⟩⟩ (Zbb ((a0).asRef) x25 x26 hx26) rfl) ?_
 refine eX ?_
 obtain rfl := eI h; exact z05 eK
 intro hc24 h
 refine bR ?_
 refine sS rfl rfl rfl (z4x rfl rfl) ?_
 refine sX ?_
 refine eX ?_
 refine cX h rfl ?_ ?_
 intro hc27 h
 refine bR ?_
 refine eX ?_
 refine bR ?_
 iterate 2 refine sX ?_
 obtain ⟨x28, hx28, h⟩ := obind h
 refine sS rfl rfl rfl (zs6 rfl rfl hx28) ?_
 obtain ⟨x29, hx29, h⟩ := obind h
 refine sS rfl rfl rfl (z04 rfl Z9s rfl (wkr (wkr (wkr .nil))) ⟨(z0c ids_V ((a0).asList)), ⟨(z0c ids_V x28), ⟨rfl, trivial⟩⟩⟩ (c_q01 ((a0).asList) x28 x29 hx29) rfl) ?_
 refine eX ?_
 obtain rfl := eI h; exact z05 eK
 intro hc27 h
 refine bR ?_
 refine sS rfl rfl rfl (z4y rfl rfl) ?_
 refine sX ?_
 refine eX ?_
 refine cX h rfl ?_ ?_
 intro hc30 h
 refine bR ?_
 refine eX ?_
 refine bR ?_
 iterate 2 refine sX ?_
 obtain ⟨x31, hx31, h⟩ := obind h
 refine sS rfl rfl rfl (zs7 rfl rfl hx31) ?_
 obtain ⟨x32, hx32, h⟩ := obind h
 refine sS rfl rfl rfl (z04 rfl Z3r rfl (wkr (wkr (wkr .nil))) ⟨(z0c z2i ((a0).asDict)), ⟨(z0c z2i x31), ⟨rfl, trivial⟩⟩⟩ (c_q00 ((a0).asDict) x31 x32 hx32) rfl) ?_
 refine eX ?_
 obtain rfl := eI h; exact z05 eK
 intro hc30 h
 refine bR ?_
 refine sS rfl rfl rfl (z75 rfl rfl) ?_
 refine sX ?_
 refine eX ?_
 refine cX h rfl ?_ ?_
 intro hc33 h
 refine bR ?_
 refine eX ?_
 refine bR ?_
 refine sX ?_
 obtain ⟨x34, hx34, h⟩ := obind h
 refine sS rfl rfl rfl (zwi rfl rfl hx34) ?_
 refine eX ?_
 refine z09 ?_
 refine z09 (z13 8 [] [] mo (by kernel_rfl) ?_)
 refine gX ?_
 obtain ⟨x35, hx35, h⟩ := obind h
 refine z1h rfl rfl rfl rfl (fun H hp => z35 rfl rfl hx35) ?_
 iterate 3 refine gX ?_
 obtain ⟨x36, hx36, h⟩ := obind h
 refine z1h rfl rfl rfl rfl (fun H hp => z35 rfl rfl hx36) ?_
 iterate 2 refine gX ?_
 refine z11 ?_
 change AO _ _ _ _ _
 obtain ⟨x37, hx37, h⟩ := obind h
 refine sS rfl rfl rfl (z04 rfl zxs rfl (wkr (wkr .nil)) ⟨rfl, ⟨rfl, trivial⟩⟩ (Z4j x35.cls x36.cls x37 hx37) rfl) ?_
 refine eX ?_
 refine bR ?_
 refine sX ?_
 refine eX ?_
 refine cX h rfl ?_ ?_
 intro hc38 h
 refine bR ?_
 refine sX ?_
 refine eX ?_
 obtain rfl := eI h; exact z05 eK
 intro hc38 h
 refine z07 ?_
 refine cBx ?_
 refine z09 ?_
 refine z09 (z13 8 [] [] mo (by kernel_rfl) ?_)
 refine gX ?_
 refine z1h rfl rfl rfl rfl (fun H hp => z35 rfl rfl hx35) ?_
 iterate 3 refine gX ?_
 refine z1h rfl rfl rfl rfl (fun H hp => z35 rfl rfl hx36) ?_
 iterate 2 refine gX ?_
 refine z11 ?_
 change AO _ _ _ _ _
 obtain ⟨x39, hx39, h⟩ := obind h
 refine sS rfl rfl rfl (z04 rfl zxt rfl (wkr (wkr .nil)) ⟨rfl, ⟨rfl, trivial⟩⟩ (Z4i x35.ver x36.ver x39 hx39) rfl) ?_
 refine eX ?_
 refine bR ?_
 refine sX ?_
 refine eX ?_
 refine cX h rfl ?_ ?_
 intro hc40 h
 refine bR ?_
 refine sX ?_
 refine eX ?_
 obtain rfl := eI h; exact z05 eK
 intro hc40 h
 refine z07 ?_
 refine cBx ?_
 refine z09 (z13 8 [] [] mo (by kernel_rfl) ?_)
 refine gX ?_
 refine z1h rfl rfl rfl rfl (fun H hp => z35 rfl rfl hx35) ?_
 iterate 3 refine gX ?_
 refine z1h rfl rfl rfl rfl (fun H hp => z35 rfl rfl hx36) ?_
 iterate 2 refine gX ?_
 refine z11 ?_
 change AO _ _ _ _ _
 obtain ⟨x41, hx41, h⟩ := obind h
 refine sS rfl rfl rfl (z04 rfl Z3r rfl (wkr (wkr (wkr .nil))) ⟨(z0c z2i x35.fields), ⟨(z0c z2i x36.fields), ⟨rfl, trivial⟩⟩⟩ (c_q00 x35.fields x36.fields x41 hx41) rfl) ?_
 refine eX ?_
 obtain rfl := eI h; exact z05 eK
 intro hc33 h
 refine z07 ?_
 refine cBx ?_
 refine bR ?_
 refine eX ?_
 obtain rfl := eI h; exact z05 eK
theorem C_q1r.sound : ∀ (i : C_q1r) (r : i.R), z22 C_q1r.F i = some r → C_q1r.Q i r := by
 refine z2r (Φ := C_q1r.F) (Q := C_q1r.Q) ?_
 intro g hg i r h
 cases i with
 | k_q1r a0 a1 => exact ziq (fun a0 a1 => g (.k_q1r a0 a1)) (fun a0 a1 r hr => hg (.k_q1r a0 a1) r hr) (fun a0 a1 => g (.k_q00 a0 a1)) (fun a0 a1 r hr => hg (.k_q00 a0 a1) r hr) (fun a0 a1 => g (.k_q01 a0 a1)) (fun a0 a1 r hr => hg (.k_q01 a0 a1) r hr) (fun a0 a1 => g (.k_q1u a0 a1)) (fun a0 a1 r hr => hg (.k_q1u a0 a1) r hr) a0 a1 r h
 | k_q00 a0 a1 => exact z1z (fun a0 a1 => g (.k_q1r a0 a1)) (fun a0 a1 r hr => hg (.k_q1r a0 a1) r hr) (fun a0 a1 => g (.k_q00 a0 a1)) (fun a0 a1 r hr => hg (.k_q00 a0 a1) r hr) (fun a0 a1 => g (.k_q01 a0 a1)) (fun a0 a1 r hr => hg (.k_q01 a0 a1) r hr) (fun a0 a1 => g (.k_q1u a0 a1)) (fun a0 a1 r hr => hg (.k_q1u a0 a1) r hr) a0 a1 r h
 | k_q01 a0 a1 => exact z2b (fun a0 a1 => g (.k_q1r a0 a1)) (fun a0 a1 r hr => hg (.k_q1r a0 a1) r hr) (fun a0 a1 => g (.k_q00 a0 a1)) (fun a0 a1 r hr => hg (.k_q00 a0 a1) r hr) (fun a0 a1 => g (.k_q01 a0 a1)) (fun a0 a1 r hr => hg (.k_q01 a0 a1) r hr) (fun a0 a1 => g (.k_q1u a0 a1)) (fun a0 a1 r hr => hg (.k_q1u a0 a1) r hr) a0 a1 r h
 | k_q1u a0 a1 => exact zin (fun a0 a1 => g (.k_q1r a0 a1)) (fun a0 a1 r hr => hg (.k_q1r a0 a1) r hr) (fun a0 a1 => g (.k_q00 a0 a1)) (fun a0 a1 r hr => hg (.k_q00 a0 a1) r hr) (fun a0 a1 => g (.k_q01 a0 a1)) (fun a0 a1 r hr => hg (.k_q01 a0 a1) r hr) (fun a0 a1 => g (.k_q1u a0 a1)) (fun a0 a1 r hr => hg (.k_q1u a0 a1) r hr) a0 a1 r h
theorem Zat (a0 a1 : V) (r : Int) (h : zay a0 a1 = some r) : z08 Try.prog 88 [(ofV a0), (ofV a1)] (I64 r) := C_q1r.sound (.k_q1u a0 a1) r h
noncomputable def zvt (a0 a1 : V) : Option Bool :=
 (zjb a0).bind fun x1 =>
 (zjb a1).bind fun x2 =>
 bif (x1.2 == 0) then (
 bif (x2.2 == 0) then (
 (zay a0 a1).bind fun x5 =>
 some (x5 == 0)
 ) else (
 some false
 )
 ) else (
 some false
 )
theorem Zaq (a0 a1 : V) (r : Bool) (h : zvt a0 a1 = some r) : z08 Try.prog 54 [(ofV a0), (ofV a1)] (BO r) := by
 unfold zvt at h
 refine z0g Try.func54 rfl Try.ntmps54 Try.results54 rfl (z0q ?_)
 change BW _ _ _ ⟨[(0, (ofV a0)), (1, (ofV a1))], [], _⟩ _
 refine bR ?_
 refine eX ?_
 refine bR ?_
 refine sX ?_
 obtain ⟨x1, hx1, h⟩ := obind h
 refine sS rfl rfl rfl (z04 rfl zxp rfl (wkr .nil) ⟨(ids_V a0), trivial⟩ (zt5 a0 x1 hx1) (z03 rfl (z03 rfl z0o))) ?_
 iterate 4 refine sX ?_
 refine eX ?_
 refine bR ?_
 refine sX ?_
 obtain ⟨x2, hx2, h⟩ := obind h
 refine sS rfl rfl rfl (z04 rfl zxp rfl (wkr .nil) ⟨(ids_V a1), trivial⟩ (zt5 a1 x2 hx2) (z03 rfl (z03 rfl z0o))) ?_
 iterate 4 refine sX ?_
 refine eX ?_
 refine bR ?_
 iterate 3 refine sX ?_
 refine z0n (t := 21) rfl ?_ ?_
 intro hb3; replace h := z0j hb3 h
 iterate 2 refine yX ?_
 iterate 2 refine sX ?_
 refine z0n (t := 25) rfl ?_ ?_
 intro hb4; replace h := z0j hb4 h
 iterate 2 refine yX ?_
 obtain ⟨x5, hx5, h⟩ := obind h
 refine z1g rfl rfl rfl rfl rfl rfl (z04 rfl Z5q rfl (wkr (wkr .nil)) ⟨(ids_V a0), ⟨(ids_V a1), trivial⟩⟩ (Zat a0 a1 x5 hx5) rfl) ?_
 refine yX ?_
 refine sX ?_
 refine eX ?_
 obtain rfl := eI h; exact z05 eK
 intro hb4; replace h := z0k hb4 h
 iterate 4 refine nX ?_
 refine sX ?_
 refine eX ?_
 obtain rfl := eI h; exact z05 eK
 intro hb3; replace h := z0k hb3 h
 iterate 2 refine nX ?_
 iterate 2 refine sX ?_
 iterate 4 refine nX ?_
 refine sX ?_
 refine eX ?_
 obtain rfl := eI h; exact z05 eK
noncomputable def zvv (a0 : V) : Option (Int × Int × Int) :=
 (zjc (S_value_count.mk 0 0 0) a0 1).bind fun x1 =>
 bif (!x1.1) then (
 some (0, 0, (x1.2).f_why)
 ) else (
 some ((x1.2).f_n, (x1.2).f_deep, 0)
 )
theorem Zas (a0 : V) (r : (Int × Int × Int)) (h : zvv a0 = some r) : z08 Try.prog 115 [(ofV a0)] (PV.tup [(I64 r.1), (I64 r.2.1), (I64 r.2.2)]) := by
 unfold zvv at h
 refine z0g Try.func115 rfl Try.ntmps115 Try.results115 rfl (z0q ?_)
 change BW _ _ _ ⟨[(0, (ofV a0))], [], _⟩ _
 refine bR ?_
 iterate 2 refine sX ?_
 refine eX ?_
 refine bR ?_
 refine sS rfl rfl rfl (z16 zxb rfl) (z06 ?_)
 refine cBx ?_
 refine z09 ?_
 refine bR ?_
 refine sX ?_
 obtain ⟨x1, hx1, h⟩ := obind h
 refine sS rfl rfl rfl (z3g 0 rfl Z0o rfl (wkr (wkr (wkr .nil))) (.box (.val (ids_V a0) (.val rfl .nil))) rfl (z0l rfl (z0l rfl (z0l rfl rfl))) (Z7m (S_value_count.mk 0 0 0) a0 1 x1 hx1) rfl (z0l rfl (z0l rfl (z0l rfl rfl)))) ?_
 refine eX ?_
 refine cX h rfl ?_ ?_
 intro hc2 h
 refine z09 (z13 4 [] [0] mo (by kernel_rfl) ?_)
 iterate 4 refine gX ?_
 refine z11 ?_
 change AO _ _ _ _ _
 refine eX ?_
 obtain rfl := eI h; exact z05 eK
 intro hc2 h
 refine z07 ?_
 refine cBx ?_
 refine z09 (z13 5 [] [0] mo (by kernel_rfl) ?_)
 iterate 5 refine gX ?_
 refine z11 ?_
 change AO _ _ _ _ _
 refine sX ?_
 refine eX ?_
 obtain rfl := eI h; exact z05 eK
noncomputable def zrp (a0 : V) : Option Int :=
 (zvv a0).bind fun x1 =>
 some x1.1
theorem Z7c (a0 : V) (r : Int) (h : zrp a0 = some r) : z08 Try.prog 89 [(ofV a0)] (I64 r) := by
 unfold zrp at h
 refine z0g Try.func89 rfl Try.ntmps89 Try.results89 rfl (z0q ?_)
 change BW _ _ _ ⟨[(0, (ofV a0))], [], _⟩ _
 refine bR ?_
 refine eX ?_
 refine bR ?_
 refine sX ?_
 obtain ⟨x1, hx1, h⟩ := obind h
 refine sS rfl rfl rfl (z04 rfl Z9q rfl (wkr .nil) ⟨(ids_V a0), trivial⟩ (Zas a0 x1 hx1) (z03 rfl (z03 rfl (z03 rfl z0o)))) ?_
 iterate 6 refine sX ?_
 refine eX ?_
 refine bR ?_
 refine sX ?_
 refine eX ?_
 obtain rfl := eI h; exact z05 eK
end Go.Proofs.Ytiapdjdhaclmnaa
