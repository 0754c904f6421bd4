/- Pure functions, and that calls answer as they say. -/
import Derived.Test.YthidgpcbnieleaaGreatDoorG3
namespace Go.Proofs.YthidgpcbnieleaaGreatDoor
open Go Aw
set_option linter.unusedVariables false
set_option linter.unusedSimpArgs false
set_option maxRecDepth 20000
set_option maxHeartbeats 2000000
variable {ι : Type} {ρ : ι → Type}
noncomputable def zit (r_q13 : (Str × V) → (Str × V) → Option Int) (r_q00 : (List (Str × V)) → (List (Str × V)) → Option Int) (r_q02 : (List V) → (List V) → Option Int) (r_q14 : V → V → Option Int) (a0 a1 : (Str × V)) : Option Int :=
 (zi7 a0.1 a1.1).bind fun x1 =>
 bif (x1 != 0) then (
 some x1
 ) else (
 (r_q14 a0.2 a1.2).bind fun x3 =>
 some x3
 )
theorem ztg (r_q13 : OF ρ → (Str × V) → (Str × V) → Option Int) (h_r_q13 : ∀ y0 y1, CM (fun G => r_q13 G y0 y1)) (r_q00 : OF ρ → (List (Str × V)) → (List (Str × V)) → Option Int) (h_r_q00 : ∀ y0 y1, CM (fun G => r_q00 G y0 y1)) (r_q02 : OF ρ → (List V) → (List V) → Option Int) (h_r_q02 : ∀ y0 y1, CM (fun G => r_q02 G y0 y1)) (r_q14 : OF ρ → V → V → Option Int) (h_r_q14 : ∀ y0 y1, CM (fun G => r_q14 G y0 y1)) (a0 a1 : (Str × V)) : CM (fun G : OF ρ => zit (r_q13 G) (r_q00 G) (r_q02 G) (r_q14 G) a0 a1) := by
 simp only [zit]
 repeat (first | exact z0e | exact h_r_q13 _ _ | exact h_r_q00 _ _ | exact h_r_q02 _ _ | exact h_r_q14 _ _ | refine z13 ?_ ?_ | refine z14 ?_ (fun _ => ?_))
noncomputable def z57 (r_q13 : (Str × V) → (Str × V) → Option Int) (a0 a1 : (List (Str × V))) (g1 : Nat → Option Int) (s1 : Nat) : Option Int :=
 bif (decide (((s1 : Nat) : Int) < (((a0).length : Nat) : Int))) then (
 ((a0)[s1]?).bind fun x4 =>
 bif (decide (((s1 : Nat) : Int) ≥ (((a1).length : Nat) : Int))) then (
 some 1
 ) else (
 ((a1)[s1]?).bind fun x6 =>
 (r_q13 x4 x6).bind fun x7 =>
 bif (x7 != 0) then (
 some x7
 ) else (
 g1 (s1 + 1)
 )
 )
 ) else (
 bif (decide ((((a0).length : Nat) : Int) < (((a1).length : Nat) : Int))) then (
 some (-1)
 ) else (
 some 0
 )
 )
theorem z9v (r_q13 : OF ρ → (Str × V) → (Str × V) → Option Int) (h_r_q13 : ∀ y0 y1, CM (fun G => r_q13 G y0 y1)) (g1 : OF ρ → Nat → Option Int) (h_g1 : ∀ y0, CM (fun G => g1 G y0)) (a0 a1 : (List (Str × V))) (s1 : Nat) : CM (fun G : OF ρ => z57 (r_q13 G) a0 a1 (g1 G) s1) := by
 simp only [z57]
 repeat (first | exact z0e | exact h_r_q13 _ _ | exact h_g1 _ | refine z13 ?_ ?_ | refine z14 ?_ (fun _ => ?_))
noncomputable def zde (r_q13 : (Str × V) → (Str × V) → Option Int) (a0 a1 : (List (Str × V))) (s1 : Nat) : Option Int :=
 z3r (ι := Nat) (ρ := fun _ => Int) (fun g i => z57 r_q13 a0 a1 (fun s1 => g s1) i) s1
theorem zge (r_q13 : (Str × V) → (Str × V) → Option Int) (a0 a1 : (List (Str × V))) (s1 : Nat) : zde r_q13 a0 a1 s1 = z57 r_q13 a0 a1 (zde r_q13 a0 a1) s1 :=
 z1f (ι := Nat) (ρ := fun _ => Int) (Φ := fun g i => z57 r_q13 a0 a1 (fun s1 => g s1) i) (fun i => z9v (ι := Nat) (ρ := fun _ => Int) (fun _ => r_q13) (fun _ _ => z0e) (fun g => (fun s1 => g s1)) (fun _ => z1h) a0 a1 i) s1
theorem zo0 (r_q13 : OF ρ → (Str × V) → (Str × V) → Option Int) (h_r_q13 : ∀ y0 y1, CM (fun G => r_q13 G y0 y1)) (a0 a1 : (List (Str × V))) (s1 : Nat) : CM (fun G : OF ρ => zde (r_q13 G) a0 a1 s1) :=
 z7r (κ := Nat) (τ := fun _ => Int) (Φ := fun G g i => z57 (r_q13 G) a0 a1 (fun s1 => g s1) i) (fun g i => z9v r_q13 h_r_q13 (fun _ => (fun s1 => g s1)) (fun _ => z0e) a0 a1 i) (fun G i => z9v (ι := Nat) (ρ := fun _ => Int) (fun _ => r_q13 G) (fun _ _ => z0e) (fun g => (fun s1 => g s1)) (fun _ => z1h) a0 a1 i) s1
noncomputable def ziz (r_q13 : (Str × V) → (Str × V) → Option Int) (r_q00 : (List (Str × V)) → (List (Str × V)) → Option Int) (r_q02 : (List V) → (List V) → Option Int) (r_q14 : V → V → Option Int) (a0 a1 : (List (Str × V))) : Option Int :=
 zde r_q13 a0 a1 0
theorem ztq (r_q13 : OF ρ → (Str × V) → (Str × V) → Option Int) (h_r_q13 : ∀ y0 y1, CM (fun G => r_q13 G y0 y1)) (r_q00 : OF ρ → (List (Str × V)) → (List (Str × V)) → Option Int) (h_r_q00 : ∀ y0 y1, CM (fun G => r_q00 G y0 y1)) (r_q02 : OF ρ → (List V) → (List V) → Option Int) (h_r_q02 : ∀ y0 y1, CM (fun G => r_q02 G y0 y1)) (r_q14 : OF ρ → V → V → Option Int) (h_r_q14 : ∀ y0 y1, CM (fun G => r_q14 G y0 y1)) (a0 a1 : (List (Str × V))) : CM (fun G : OF ρ => ziz (r_q13 G) (r_q00 G) (r_q02 G) (r_q14 G) a0 a1) := by
 simp only [ziz]
 repeat (first | exact z0e | exact h_r_q13 _ _ | exact h_r_q00 _ _ | exact h_r_q02 _ _ | exact h_r_q14 _ _ | apply zo0 | refine z13 ?_ ?_ | refine z14 ?_ (fun _ => ?_) | intro _ | assumption)
noncomputable def z56 (r_q14 : V → V → Option Int) (a0 a1 : (List V)) (g1 : Nat → Option Int) (s1 : Nat) : Option Int :=
 bif (decide (((s1 : Nat) : Int) < (((a0).length : Nat) : Int))) then (
 ((a0)[s1]?).bind fun x4 =>
 bif (decide (((s1 : Nat) : Int) ≥ (((a1).length : Nat) : Int))) then (
 some 1
 ) else (
 ((a1)[s1]?).bind fun x6 =>
 (r_q14 x4 x6).bind fun x7 =>
 bif (x7 != 0) then (
 some x7
 ) else (
 g1 (s1 + 1)
 )
 )
 ) else (
 bif (decide ((((a0).length : Nat) : Int) < (((a1).length : Nat) : Int))) then (
 some (-1)
 ) else (
 some 0
 )
 )
theorem z9u (r_q14 : OF ρ → V → V → Option Int) (h_r_q14 : ∀ y0 y1, CM (fun G => r_q14 G y0 y1)) (g1 : OF ρ → Nat → Option Int) (h_g1 : ∀ y0, CM (fun G => g1 G y0)) (a0 a1 : (List V)) (s1 : Nat) : CM (fun G : OF ρ => z56 (r_q14 G) a0 a1 (g1 G) s1) := by
 simp only [z56]
 repeat (first | exact z0e | exact h_r_q14 _ _ | exact h_g1 _ | refine z13 ?_ ?_ | refine z14 ?_ (fun _ => ?_))
noncomputable def zdd (r_q14 : V → V → Option Int) (a0 a1 : (List V)) (s1 : Nat) : Option Int :=
 z3r (ι := Nat) (ρ := fun _ => Int) (fun g i => z56 r_q14 a0 a1 (fun s1 => g s1) i) s1
theorem zgb (r_q14 : V → V → Option Int) (a0 a1 : (List V)) (s1 : Nat) : zdd r_q14 a0 a1 s1 = z56 r_q14 a0 a1 (zdd r_q14 a0 a1) s1 :=
 z1f (ι := Nat) (ρ := fun _ => Int) (Φ := fun g i => z56 r_q14 a0 a1 (fun s1 => g s1) i) (fun i => z9u (ι := Nat) (ρ := fun _ => Int) (fun _ => r_q14) (fun _ _ => z0e) (fun g => (fun s1 => g s1)) (fun _ => z1h) a0 a1 i) s1
theorem znz (r_q14 : OF ρ → V → V → Option Int) (h_r_q14 : ∀ y0 y1, CM (fun G => r_q14 G y0 y1)) (a0 a1 : (List V)) (s1 : Nat) : CM (fun G : OF ρ => zdd (r_q14 G) a0 a1 s1) :=
 z7r (κ := Nat) (τ := fun _ => Int) (Φ := fun G g i => z56 (r_q14 G) a0 a1 (fun s1 => g s1) i) (fun g i => z9u r_q14 h_r_q14 (fun _ => (fun s1 => g s1)) (fun _ => z0e) a0 a1 i) (fun G i => z9u (ι := Nat) (ρ := fun _ => Int) (fun _ => r_q14 G) (fun _ _ => z0e) (fun g => (fun s1 => g s1)) (fun _ => z1h) a0 a1 i) s1
noncomputable def ziy (r_q13 : (Str × V) → (Str × V) → Option Int) (r_q00 : (List (Str × V)) → (List (Str × V)) → Option Int) (r_q02 : (List V) → (List V) → Option Int) (r_q14 : V → V → Option Int) (a0 a1 : (List V)) : Option Int :=
 zdd r_q14 a0 a1 0
theorem ztp (r_q13 : OF ρ → (Str × V) → (Str × V) → Option Int) (h_r_q13 : ∀ y0 y1, CM (fun G => r_q13 G y0 y1)) (r_q00 : OF ρ → (List (Str × V)) → (List (Str × V)) → Option Int) (h_r_q00 : ∀ y0 y1, CM (fun G => r_q00 G y0 y1)) (r_q02 : OF ρ → (List V) → (List V) → Option Int) (h_r_q02 : ∀ y0 y1, CM (fun G => r_q02 G y0 y1)) (r_q14 : OF ρ → V → V → Option Int) (h_r_q14 : ∀ y0 y1, CM (fun G => r_q14 G y0 y1)) (a0 a1 : (List V)) : CM (fun G : OF ρ => ziy (r_q13 G) (r_q00 G) (r_q02 G) (r_q14 G) a0 a1) := by
 simp only [ziy]
 repeat (first | exact z0e | exact h_r_q13 _ _ | exact h_r_q00 _ _ | exact h_r_q02 _ _ | exact h_r_q14 _ _ | apply znz | refine z13 ?_ ?_ | refine z14 ?_ (fun _ => ?_) | intro _ | assumption)
noncomputable def zis (r_q13 : (Str × V) → (Str × V) → Option Int) (r_q00 : (List (Str × V)) → (List (Str × V)) → Option Int) (r_q02 : (List V) → (List V) → Option Int) (r_q14 : V → V → Option Int) (a0 a1 : V) : Option Int :=
 (zi1 a0).bind fun x1 =>
 (zi1 a1).bind fun x2 =>
 (zlo x1 x2).bind fun x3 =>
 bif (x3 != 0) then (
 some x3
 ) else (
 bif (a0).isBool then (
 (zok ((a0).asBool)).bind fun x6 =>
 ((a1).theBool).bind fun x7 =>
 (zok x7).bind fun x8 =>
 (zlo x6 x8).bind fun x9 =>
 some x9
 ) else (
 bif (a0).isInt then (
 ((a1).theInt).bind fun x11 =>
 (zrd ((a0).asInt) x11).bind fun x12 =>
 some x12
 ) else (
 bif (a0).isFloat then (
 (zlm ((a0).asFloat)).bind fun x14 =>
 ((a1).theFloat).bind fun x15 =>
 (zlm x15).bind fun x16 =>
 (zrf x14 x16).bind fun x17 =>
 some x17
 ) else (
 bif (a0).isText then (
 ((a1).theText).bind fun x19 =>
 (zi7 ((a0).asText) x19).bind fun x20 =>
 some x20
 ) else (
 bif (a0).isBytes then (
 ((a1).theBytes).bind fun x22 =>
 (zrh ((a0).asBytes) x22).bind fun x23 =>
 some x23
 ) else (
 bif (a0).isRef then (
 ((a1).theRef).bind fun x25 =>
 (zrg ((a0).asRef) x25).bind fun x26 =>
 some x26
 ) else (
 bif (a0).isList then (
 ((a1).theList).bind fun x28 =>
 (r_q02 ((a0).asList) x28).bind fun x29 =>
 some x29
 ) else (
 bif (a0).isDict then (
 ((a1).theDict).bind fun x31 =>
 (r_q00 ((a0).asDict) x31).bind fun x32 =>
 some x32
 ) else (
 bif (a0).isRec then (
 ((a1).theRec).bind fun x34 =>
 ((a0).asRec).bind fun x35 =>
 (x34).bind fun x36 =>
 (zi7 x35.cls x36.cls).bind fun x37 =>
 bif (x37 != 0) then (
 some x37
 ) else (
 (zlo x35.ver x36.ver).bind fun x39 =>
 bif (x39 != 0) then (
 some x39
 ) else (
 (r_q00 x35.fields x36.fields).bind fun x41 =>
 some x41
 )
 )
 ) else (
 some 0
 )
 )
 )
 )
 )
 )
 )
 )
 )
 )
theorem ztf (r_q13 : OF ρ → (Str × V) → (Str × V) → Option Int) (h_r_q13 : ∀ y0 y1, CM (fun G => r_q13 G y0 y1)) (r_q00 : OF ρ → (List (Str × V)) → (List (Str × V)) → Option Int) (h_r_q00 : ∀ y0 y1, CM (fun G => r_q00 G y0 y1)) (r_q02 : OF ρ → (List V) → (List V) → Option Int) (h_r_q02 : ∀ y0 y1, CM (fun G => r_q02 G y0 y1)) (r_q14 : OF ρ → V → V → Option Int) (h_r_q14 : ∀ y0 y1, CM (fun G => r_q14 G y0 y1)) (a0 a1 : V) : CM (fun G : OF ρ => zis (r_q13 G) (r_q00 G) (r_q02 G) (r_q14 G) a0 a1) := by
 simp only [zis]
 repeat (first | exact z0e | exact h_r_q13 _ _ | exact h_r_q00 _ _ | exact h_r_q02 _ _ | exact h_r_q14 _ _ | refine z13 ?_ ?_ | refine z14 ?_ (fun _ => ?_))
inductive C_q13 where
 | k_q13 (a0 : (Str × V)) (a1 : (Str × V))
 | k_q00 (a0 : (List (Str × V))) (a1 : (List (Str × V)))
 | k_q02 (a0 : (List V)) (a1 : (List V))
 | k_q14 (a0 : V) (a1 : V)
def C_q13.R : C_q13 → Type
 | .k_q13 _ _ => Int
 | .k_q00 _ _ => Int
 | .k_q02 _ _ => Int
 | .k_q14 _ _ => Int
noncomputable def C_q13.F (g : ∀ i : C_q13, Option i.R) : ∀ i : C_q13, Option i.R
 | .k_q13 a0 a1 => zit (fun a0 a1 => g (.k_q13 a0 a1)) (fun a0 a1 => g (.k_q00 a0 a1)) (fun a0 a1 => g (.k_q02 a0 a1)) (fun a0 a1 => g (.k_q14 a0 a1)) a0 a1
 | .k_q00 a0 a1 => ziz (fun a0 a1 => g (.k_q13 a0 a1)) (fun a0 a1 => g (.k_q00 a0 a1)) (fun a0 a1 => g (.k_q02 a0 a1)) (fun a0 a1 => g (.k_q14 a0 a1)) a0 a1
 | .k_q02 a0 a1 => ziy (fun a0 a1 => g (.k_q13 a0 a1)) (fun a0 a1 => g (.k_q00 a0 a1)) (fun a0 a1 => g (.k_q02 a0 a1)) (fun a0 a1 => g (.k_q14 a0 a1)) a0 a1
 | .k_q14 a0 a1 => zis (fun a0 a1 => g (.k_q13 a0 a1)) (fun a0 a1 => g (.k_q00 a0 a1)) (fun a0 a1 => g (.k_q02 a0 a1)) (fun a0 a1 => g (.k_q14 a0 a1)) a0 a1
noncomputable def zi5 (a0 a1 : (Str × V)) : Option Int := z3r C_q13.F (.k_q13 a0 a1)
noncomputable def zlz (a0 a1 : (List (Str × V))) : Option Int := z3r C_q13.F (.k_q00 a0 a1)
noncomputable def zly (a0 a1 : (List V)) : Option Int := z3r C_q13.F (.k_q02 a0 a1)
noncomputable def z8w (a0 a1 : V) : Option Int := z3r C_q13.F (.k_q14 a0 a1)
abbrev gg6 := fun (g : ∀ i : C_q13, Option i.R) a0 a1 => g (.k_q13 a0 a1)
theorem hh6 (a0 a1 : _) : CM (ρ := C_q13.R) (fun g => g (C_q13.k_q13 a0 a1)) := z1h
abbrev gg7 := fun (g : ∀ i : C_q13, Option i.R) a0 a1 => g (.k_q00 a0 a1)
theorem hh7 (a0 a1 : _) : CM (ρ := C_q13.R) (fun g => g (C_q13.k_q00 a0 a1)) := z1h
abbrev gg8 := fun (g : ∀ i : C_q13, Option i.R) a0 a1 => g (.k_q02 a0 a1)
theorem hh8 (a0 a1 : _) : CM (ρ := C_q13.R) (fun g => g (C_q13.k_q02 a0 a1)) := z1h
abbrev gg9 := fun (g : ∀ i : C_q13, Option i.R) a0 a1 => g (.k_q14 a0 a1)
theorem hh9 (a0 a1 : _) : CM (ρ := C_q13.R) (fun g => g (C_q13.k_q14 a0 a1)) := z1h
theorem C_q13.cm (i : C_q13) : CM (fun g : (∀ i : C_q13, Option i.R) => C_q13.F g i) := by
 cases i with
 | k_q13 a0 a1 => exact ztg gg6 hh6 gg7 hh7 gg8 hh8 gg9 hh9 a0 a1
 | k_q00 a0 a1 => exact ztq gg6 hh6 gg7 hh7 gg8 hh8 gg9 hh9 a0 a1
 | k_q02 a0 a1 => exact ztp gg6 hh6 gg7 hh7 gg8 hh8 gg9 hh9 a0 a1
 | k_q14 a0 a1 => exact ztf gg6 hh6 gg7 hh7 gg8 hh8 gg9 hh9 a0 a1
theorem Z2x (a0 a1 : (Str × V)) : zi5 a0 a1 = zit zi5 zlz zly z8w a0 a1 := z1f C_q13.cm (.k_q13 a0 a1)
theorem Z35 (a0 a1 : (List (Str × V))) : zlz a0 a1 = ziz zi5 zlz zly z8w a0 a1 := z1f C_q13.cm (.k_q00 a0 a1)
theorem Z34 (a0 a1 : (List V)) : zly a0 a1 = ziy zi5 zlz zly z8w a0 a1 := z1f C_q13.cm (.k_q02 a0 a1)
theorem Z2w (a0 a1 : V) : z8w a0 a1 = zis zi5 zlz zly z8w a0 a1 := z1f C_q13.cm (.k_q14 a0 a1)
def C_q13.Q : ∀ i : C_q13, i.R → Prop
 | .k_q13 a0 a1 => fun (r : Int) => z0l Tryz.prog 70 [(ofFld a0), (ofFld a1)] (I64 r)
 | .k_q00 a0 a1 => fun (r : Int) => z0l Tryz.prog 69 [(PV.sl none 69 2 (List.map ofFld a0)), (PV.sl none 69 2 (List.map ofFld a1)), (PV.fn (.func 70) [] [])] (I64 r)
 | .k_q02 a0 a1 => fun (r : Int) => z0l Tryz.prog 68 [(PV.sl none 20 1 (List.map ofV a0)), (PV.sl none 20 1 (List.map ofV a1)), (PV.fn (.func 38) [] [])] (I64 r)
 | .k_q14 a0 a1 => fun (r : Int) => z0l Tryz.prog 38 [(ofV a0), (ofV a1)] (I64 r)
theorem zea (r_q13 : (Str × V) → (Str × V) → Option Int) (c_q13 : ∀ (a0 : (Str × V)) (a1 : (Str × V)) r, r_q13 a0 a1 = some r → z0l Tryz.prog 70 [(ofFld a0), (ofFld a1)] (I64 r)) (r_q00 : (List (Str × V)) → (List (Str × V)) → Option Int) (c_q00 : ∀ (a0 : (List (Str × V))) (a1 : (List (Str × V))) r, r_q00 a0 a1 = some r → z0l Tryz.prog 69 [(PV.sl none 69 2 (List.map ofFld a0)), (PV.sl none 69 2 (List.map ofFld a1)), (PV.fn (.func 70) [] [])] (I64 r)) (r_q02 : (List V) → (List V) → Option Int) (c_q02 : ∀ (a0 : (List V)) (a1 : (List V)) r, r_q02 a0 a1 = some r → z0l Tryz.prog 68 [(PV.sl none 20 1 (List.map ofV a0)), (PV.sl none 20 1 (List.map ofV a1)), (PV.fn (.func 38) [] [])] (I64 r)) (r_q14 : V → V → Option Int) (c_q14 : ∀ (a0 : V) (a1 : V) r, r_q14 a0 a1 = some r → z0l Tryz.prog 38 [(ofV a0), (ofV a1)] (I64 r)) (a0 a1 : (Str × V)) (r : Int) (h : zit r_q13 r_q00 r_q02 r_q14 a0 a1 = some r) : z0l Tryz.prog 70 [(ofFld a0), (ofFld a1)] (I64 r) := by
 unfold zit at h
 refine z0c Tryz.func70 rfl Tryz.ntmps70 Tryz.results70 rfl (z0i ?_)
 change BW _ _ _ ⟨[(0, (ofFld a0)), (1, (ofFld a1))], [], _⟩ _
 refine bR ?_
 iterate 2 refine sX ?_
 refine eX ?_
 refine z09 ?_
 refine bR ?_
 iterate 4 refine sX ?_
 obtain ⟨x1, hx1, h⟩ := obind h
 refine sS rfl rfl rfl (z05 rfl zwv rfl (wkr (wkr .nil)) ⟨rfl, ⟨rfl, trivial⟩⟩ (zve a0.1 a1.1 x1 hx1) rfl) ?_
 refine eX ?_
 refine bR ?_
 refine sX ?_
 refine eX ?_
 refine cX h rfl ?_ ?_
 intro hc2 h
 refine bR ?_
 refine sX ?_
 refine eX ?_
 obtain rfl := eI h; exact z04 eK
 intro hc2 h
 refine z08 ?_
 refine cBx ?_
 refine bR ?_
 iterate 4 refine sX ?_
 obtain ⟨x3, hx3, h⟩ := obind h
 refine sS rfl rfl rfl (z05 rfl zx0 rfl (wkr (wkr .nil)) ⟨(ids_V a0.2), ⟨(ids_V a1.2), trivial⟩⟩ (c_q14 a0.2 a1.2 x3 hx3) rfl) ?_
 refine eX ?_
 obtain rfl := eI h; exact z04 eK
theorem z1j (r_q13 : (Str × V) → (Str × V) → Option Int) (c_q13 : ∀ (a0 : (Str × V)) (a1 : (Str × V)) r, r_q13 a0 a1 = some r → z0l Tryz.prog 70 [(ofFld a0), (ofFld a1)] (I64 r)) (r_q00 : (List (Str × V)) → (List (Str × V)) → Option Int) (c_q00 : ∀ (a0 : (List (Str × V))) (a1 : (List (Str × V))) r, r_q00 a0 a1 = some r → z0l Tryz.prog 69 [(PV.sl none 69 2 (List.map ofFld a0)), (PV.sl none 69 2 (List.map ofFld a1)), (PV.fn (.func 70) [] [])] (I64 r)) (r_q02 : (List V) → (List V) → Option Int) (c_q02 : ∀ (a0 : (List V)) (a1 : (List V)) r, r_q02 a0 a1 = some r → z0l Tryz.prog 68 [(PV.sl none 20 1 (List.map ofV a0)), (PV.sl none 20 1 (List.map ofV a1)), (PV.fn (.func 38) [] [])] (I64 r)) (r_q14 : V → V → Option Int) (c_q14 : ∀ (a0 : V) (a1 : V) r, r_q14 a0 a1 = some r → z0l Tryz.prog 38 [(ofV a0), (ofV a1)] (I64 r)) (a0 a1 : (List (Str × V))) (r : Int) (h : ziz r_q13 r_q00 r_q02 r_q14 a0 a1 = some r) : z0l Tryz.prog 69 [(PV.sl none 69 2 (List.map ofFld a0)), (PV.sl none 69 2 (List.map ofFld a1)), (PV.fn (.func 70) [] [])] (I64 r) := by
 unfold ziz at h
 refine z0c Tryz.func69 rfl Tryz.ntmps69 Tryz.results69 rfl (z0i ?_)
 change BW _ _ _ ⟨[(0, (PV.sl none 69 2 (List.map ofFld a0))), (1, (PV.sl none 69 2 (List.map ofFld a1))), (2, (PV.fn (.func 70) [] []))], [], _⟩ _
 refine bR ?_
 refine eX ?_
 refine z09 ?_
 refine bR ?_
 iterate 2 refine sX ?_
 refine eX ?_
 refine z0j ?_
 refine cBx ?_
 unfold zde at h
 refine lX (σ := Nat) (fun i => [(0, (PV.sl none 69 2 (List.map ofFld a0))), (1, (PV.sl none 69 2 (List.map ofFld a1))), (2, (PV.fn (.func 70) [] [])), (11, (PV.sl none 69 2 (List.map ofFld a0))), (12, (I64 ((((a0).length : Nat) : Int)))), (13, (I64 (((i : Nat) : Int))))]) (fun i => []) 0 h ?_ ?_
 exact jN
 rintro g1_f s1 h; replace h : z57 r_q13 a0 a1 (fun y0 => g1_f y0) s1 = some r := h; unfold z57 at h
 change BW _ _ _ ⟨[(0, (PV.sl none 69 2 (List.map ofFld a0))), (1, (PV.sl none 69 2 (List.map ofFld a1))), (2, (PV.fn (.func 70) [] [])), (11, (PV.sl none 69 2 (List.map ofFld a0))), (12, (I64 ((((a0).length : Nat) : Int)))), (13, (I64 (((s1 : Nat) : Int))))], [], _⟩ _
 refine bR ?_
 refine eX ?_
 refine z09 ?_
 refine z5r (t := 11) rfl fun hb3 => ?_
 try rw [List.length_map] at hb3
 refine cX h rfl ?_ ?_
 intro hc2 h
 have hc2_ := of_decide_eq_true hc2
 refine z08 ?_
 refine cBx ?_
 refine z09 ?_
 refine z0j ?_
 refine cBx ?_
 refine bR ?_
 refine sX ?_
 obtain ⟨x4, hx4, h⟩ := obind h
 refine sS rfl rfl rfl (z1v (i := s1) Tryz.underlying71 z0w rfl rfl rfl hx4 rfl) ?_
 refine sX ?_
 refine sS rfl rfl rfl ((z28 z0w rfl).cast (H'' := [.box 69 [(z0k []), (ofV V.nil)]]) rfl (by simp only [mk_nil]; rfl)) ?_
 refine sX ?_
 refine z1l rfl rfl (z1b z0w rfl rfl rfl rfl rfl rfl (lbE rfl) (by show List.all [(z0k x4.1), (ofV x4.2)] z6h = true; simp only [List.all_cons, List.all_nil, zeo, z68, Bool.and_true, Bool.true_and]; try rfl)) ?_
 refine z0b ?_
 refine cBx ?_
 refine z09 ?_
 refine bR ?_
 iterate 3 refine sX ?_
 refine eX ?_
 refine cX h rfl ?_ ?_
 intro hc5 h
 refine bR ?_
 refine eX ?_
 obtain rfl := eI h; exact z04 eK
 intro hc5 h
 refine z08 ?_
 refine cBx ?_
 refine bR ?_
 iterate 2 refine sX ?_
 obtain ⟨x6, hx6, h⟩ := obind h
 refine sS rfl rfl rfl (z1v (i := s1) Tryz.underlying71 z0w rfl rfl rfl hx6 rfl) ?_
 refine sX ?_
 refine sS rfl rfl rfl ((z28 z0w rfl).cast (H'' := [.box 69 [(z0k x4.1), (ofV x4.2)], .box 69 [(z0k []), (ofV V.nil)]]) rfl (by simp only [mk_nil]; rfl)) ?_
 refine z1l rfl rfl (z1b z0w rfl rfl rfl rfl rfl rfl (lbE rfl) (by show List.all [(z0k x6.1), (ofV x6.2)] z6h = true; simp only [List.all_cons, List.all_nil, zeo, z68, Bool.and_true, Bool.true_and]; try rfl)) ?_
 refine z0b ?_
 refine cBx ?_
 refine bR ?_
 iterate 3 refine sX ?_
 obtain ⟨x7, hx7, h⟩ := obind h
 refine sS rfl rfl rfl (z5j rfl rfl Z2c rfl (wkr (wkr .nil)) ⟨(z0q x4), ⟨(z0q x6), trivial⟩⟩ (c_q13 x4 x6 x7 hx7) rfl) ?_
 refine eX ?_
 refine bR ?_
 refine sX ?_
 refine eX ?_
 refine cX h rfl ?_ ?_
 intro hc8 h
 refine bR ?_
 refine sX ?_
 refine eX ?_
 obtain rfl := eI h; exact z04 eK
 intro hc8 h
 refine z08 ?_
 refine cBx ?_
 refine z0f ?_
 refine sS rfl rfl rfl (z2v (k := s1) (c := 1) rfl rfl rfl (by omega)) ?_
 refine sX (z0b ?_)
 exact ⟨rfl, (s1 + 1), h, jN⟩
 intro hc2 h
 refine z2b ?_
 refine cBx ?_
 refine z09 ?_
 refine bR ?_
 iterate 4 refine sX ?_
 refine eX ?_
 refine cX h rfl ?_ ?_
 intro hc9 h
 refine bR ?_
 refine eX ?_
 obtain rfl := eI h; exact z04 eK
 intro hc9 h
 refine z08 ?_
 refine cBx ?_
 refine bR ?_
 refine eX ?_
 obtain rfl := eI h; exact z04 eK
theorem z1q (r_q13 : (Str × V) → (Str × V) → Option Int) (c_q13 : ∀ (a0 : (Str × V)) (a1 : (Str × V)) r, r_q13 a0 a1 = some r → z0l Tryz.prog 70 [(ofFld a0), (ofFld a1)] (I64 r)) (r_q00 : (List (Str × V)) → (List (Str × V)) → Option Int) (c_q00 : ∀ (a0 : (List (Str × V))) (a1 : (List (Str × V))) r, r_q00 a0 a1 = some r → z0l Tryz.prog 69 [(PV.sl none 69 2 (List.map ofFld a0)), (PV.sl none 69 2 (List.map ofFld a1)), (PV.fn (.func 70) [] [])] (I64 r)) (r_q02 : (List V) → (List V) → Option Int) (c_q02 : ∀ (a0 : (List V)) (a1 : (List V)) r, r_q02 a0 a1 = some r → z0l Tryz.prog 68 [(PV.sl none 20 1 (List.map ofV a0)), (PV.sl none 20 1 (List.map ofV a1)), (PV.fn (.func 38) [] [])] (I64 r)) (r_q14 : V → V → Option Int) (c_q14 : ∀ (a0 : V) (a1 : V) r, r_q14 a0 a1 = some r → z0l Tryz.prog 38 [(ofV a0), (ofV a1)] (I64 r)) (a0 a1 : (List V)) (r : Int) (h : ziy r_q13 r_q00 r_q02 r_q14 a0 a1 = some r) : z0l Tryz.prog 68 [(PV.sl none 20 1 (List.map ofV a0)), (PV.sl none 20 1 (List.map ofV a1)), (PV.fn (.func 38) [] [])] (I64 r) := by
 unfold ziy at h
 refine z0c Tryz.func68 rfl Tryz.ntmps68 Tryz.results68 rfl (z0i ?_)
 change BW _ _ _ ⟨[(0, (PV.sl none 20 1 (List.map ofV a0))), (1, (PV.sl none 20 1 (List.map ofV a1))), (2, (PV.fn (.func 38) [] []))], [], _⟩ _
 refine bR ?_
 refine eX ?_
 refine z09 ?_
 refine bR ?_
 iterate 2 refine sX ?_
 refine eX ?_
 refine z0j ?_
 refine cBx ?_
 unfold zdd at h
 refine lX (σ := Nat) (fun i => [(0, (PV.sl none 20 1 (List.map ofV a0))), (1, (PV.sl none 20 1 (List.map ofV a1))), (2, (PV.fn (.func 38) [] [])), (11, (PV.sl none 20 1 (List.map ofV a0))), (12, (I64 ((((a0).length : Nat) : Int)))), (13, (I64 (((i : Nat) : Int))))]) (fun i => []) 0 h ?_ ?_
 exact jN
 rintro g1_f s1 h; replace h : z56 r_q14 a0 a1 (fun y0 => g1_f y0) s1 = some r := h; unfold z56 at h
 change BW _ _ _ ⟨[(0, (PV.sl none 20 1 (List.map ofV a0))), (1, (PV.sl none 20 1 (List.map ofV a1))), (2, (PV.fn (.func 38) [] [])), (11, (PV.sl none 20 1 (List.map ofV a0))), (12, (I64 ((((a0).length : Nat) : Int)))), (13, (I64 (((s1 : Nat) : Int))))], [], _⟩ _
 refine bR ?_
 refine eX ?_
 refine z09 ?_
 refine z5r (t := 11) rfl fun hb3 => ?_
 try rw [List.length_map] at hb3
 refine cX h rfl ?_ ?_
 intro hc2 h
 have hc2_ := of_decide_eq_true hc2
 refine z08 ?_
 refine cBx ?_
 refine z09 ?_
 refine z0j ?_
 refine cBx ?_
 refine bR ?_
 refine sX ?_
 obtain ⟨x4, hx4, h⟩ := obind h
 refine sS rfl rfl rfl (z1v (i := s1) Tryz.underlying67 z23 rfl rfl rfl hx4 rfl) ?_
 refine sS rfl rfl rfl (z3x (y := (ofV x4)) Tryz.underlying20 rfl rfl rfl (by rw [z11]; rfl)) ?_
 refine sX ?_
 refine eX ?_
 refine z09 ?_
 refine bR ?_
 iterate 3 refine sX ?_
 refine eX ?_
 refine cX h rfl ?_ ?_
 intro hc5 h
 refine bR ?_
 refine eX ?_
 obtain rfl := eI h; exact z04 eK
 intro hc5 h
 refine z08 ?_
 refine cBx ?_
 refine bR ?_
 iterate 2 refine sX ?_
 obtain ⟨x6, hx6, h⟩ := obind h
 refine sS rfl rfl rfl (z1v (i := s1) Tryz.underlying67 z23 rfl rfl rfl hx6 rfl) ?_
 refine sS rfl rfl rfl (z3x (y := (ofV x6)) Tryz.underlying20 rfl rfl rfl (by rw [z11]; rfl)) ?_
 refine eX ?_
 refine bR ?_
 iterate 3 refine sX ?_
 obtain ⟨x7, hx7, h⟩ := obind h
 refine sS rfl rfl rfl (z5j rfl rfl zx0 rfl (wkr (wkr .nil)) ⟨(ids_V x4), ⟨(ids_V x6), trivial⟩⟩ (c_q14 x4 x6 x7 hx7) rfl) ?_
 refine eX ?_
 refine bR ?_
 refine sX ?_
 refine eX ?_
 refine cX h rfl ?_ ?_
 intro hc8 h
 refine bR ?_
 refine sX ?_
 refine eX ?_
 obtain rfl := eI h; exact z04 eK
 intro hc8 h
 refine z08 ?_
 refine cBx ?_
 refine z0f ?_
 refine sS rfl rfl rfl (z2v (k := s1) (c := 1) rfl rfl rfl (by omega)) ?_
 refine sX (z0b ?_)
 exact ⟨rfl, (s1 + 1), h, jN⟩
 intro hc2 h
 refine z2b ?_
 refine cBx ?_
 refine z09 ?_
 refine bR ?_
 iterate 4 refine sX ?_
 refine eX ?_
 refine cX h rfl ?_ ?_
 intro hc9 h
 refine bR ?_
 refine eX ?_
 obtain rfl := eI h; exact z04 eK
 intro hc9 h
 refine z08 ?_
 refine cBx ?_
 refine bR ?_
 refine eX ?_
 obtain rfl := eI h; exact z04 eK
theorem ze9 (r_q13 : (Str × V) → (Str × V) → Option Int) (c_q13 : ∀ (a0 : (Str × V)) (a1 : (Str × V)) r, r_q13 a0 a1 = some r → z0l Tryz.prog 70 [(ofFld a0), (ofFld a1)] (I64 r)) (r_q00 : (List (Str × V)) → (List (Str × V)) → Option Int) (c_q00 : ∀ (a0 : (List (Str × V))) (a1 : (List (Str × V))) r, r_q00 a0 a1 = some r → z0l Tryz.prog 69 [(PV.sl none 69 2 (List.map ofFld a0)), (PV.sl none 69 2 (List.map ofFld a1)), (PV.fn (.func 70) [] [])] (I64 r)) (r_q02 : (List V) → (List V) → Option Int) (c_q02 : ∀ (a0 : (List V)) (a1 : (List V)) r, r_q02 a0 a1 = some r → z0l Tryz.prog 68 [(PV.sl none 20 1 (List.map ofV a0)), (PV.sl none 20 1 (List.map ofV a1)), (PV.fn (.func 38) [] [])] (I64 r)) (r_q14 : V → V → Option Int) (c_q14 : ∀ (a0 : V) (a1 : V) r, r_q14 a0 a1 = some r → z0l Tryz.prog 38 [(ofV a0), (ofV a1)] (I64 r)) (a0 a1 : V) (r : Int) (h : zis r_q13 r_q00 r_q02 r_q14 a0 a1 = some r) : z0l Tryz.prog 38 [(ofV a0), (ofV a1)] (I64 r) := by
 unfold zis at h
 refine z0c Tryz.func38 rfl Tryz.ntmps38 Tryz.results38 rfl (z0i ?_)
 change BW _ _ _ ⟨[(0, (ofV a0)), (1, (ofV a1))], [], _⟩ _
 refine bR ?_
 refine eX ?_
 refine z09 ?_
 refine bR ?_
 refine sX ?_
 obtain ⟨x1, hx1, h⟩ := obind h
 refine sS rfl rfl rfl (z05 rfl zst rfl (wkr .nil) ⟨(ids_V a0), trivial⟩ (zqs a0 x1 hx1) rfl) ?_
 refine sX ?_
 obtain ⟨x2, hx2, h⟩ := obind h
 refine sS rfl rfl rfl (z05 rfl zst rfl (wkr .nil) ⟨(ids_V a1), trivial⟩ (zqs a1 x2 hx2) rfl) ?_
 obtain ⟨x3, hx3, h⟩ := obind h
 refine sS rfl rfl rfl (z05 rfl zww rfl (wkr (wkr .nil)) ⟨rfl, ⟨rfl, trivial⟩⟩ (zvd x1 x2 x3 hx3) rfl) ?_
 refine eX ?_
 refine bR ?_
 refine sX ?_
 refine eX ?_
 refine cX h rfl ?_ ?_
 intro hc4 h
 refine bR ?_
 refine sX ?_
 refine eX ?_
 obtain rfl := eI h; exact z04 eK
 intro hc4 h
 refine z08 ?_
 refine cBx ?_
 refine z09 ?_
 refine bR ?_
 refine eX ?_
 refine z0j ?_
 refine cBx ?_
 refine bR ?_
 refine sS rfl rfl rfl (zdg rfl rfl) ?_
 refine sX ?_
 refine eX ?_
 refine cX h rfl ?_ ?_
 intro hc5 h
 refine bR ?_
 refine eX ?_
 refine z09 (z1t 4 [] [] mo (by kernel_rfl) ?_)
 refine gX ?_
 obtain ⟨x6, hx6, h⟩ := obind h
 refine z1m rfl rfl rfl rfl (fun H hp => z05 rfl Z03 rfl (wkr .nil) ⟨rfl, trivial⟩ (zyd ((a0).asBool) x6 hx6) rfl) ?_
 refine gX ?_
 obtain ⟨x7, hx7, h⟩ := obind h
 refine z1m rfl rfl rfl rfl (fun H hp => zm4 rfl rfl hx7) ?_
 refine z1y ?_
 change AO _ _ _ _ _
 obtain ⟨x8, hx8, h⟩ := obind h
 refine sS rfl rfl rfl (z05 rfl Z03 rfl (wkr .nil) ⟨rfl, trivial⟩ (zyd x7 x8 hx8) rfl) ?_
 obtain ⟨x9, hx9, h⟩ := obind h
 refine sS rfl rfl rfl (z05 rfl zww rfl (wkr (wkr .nil)) ⟨rfl, ⟨rfl, trivial⟩⟩ (zvd x6 x8 x9 hx9) rfl) ?_
 refine eX ?_
 obtain rfl := eI h; exact z04 eK
 intro hc5 h
 refine bR ?_
 refine sS rfl rfl rfl (zgn rfl rfl) ?_
 refine sX ?_
 refine eX ?_
 refine cX h rfl ?_ ?_
 intro hc10 h
 refine bR ?_
 refine eX ?_
 refine bR ?_
 iterate 2 refine sX ?_
 obtain ⟨x11, hx11, h⟩ := obind h
 refine sS rfl rfl rfl (zoq rfl rfl hx11) ?_
 obtain ⟨x12, hx12, h⟩ := obind h
 refine sS rfl rfl rfl (z05 rfl Z2h rfl (wkr (wkr .nil)) ⟨rfl, ⟨rfl, trivial⟩⟩ (Z19 ((a0).asInt) x11 x12 hx12) rfl) ?_
 refine eX ?_
 obtain rfl := eI h; exact z04 eK
 intro hc10 h
 refine bR ?_
 refine sS rfl rfl rfl (zbu rfl rfl) ?_
 refine sX ?_
 refine eX ?_
 refine cX h rfl ?_ ?_
 intro hc13 h
 refine bR ?_
 refine eX ?_
 refine z09 (z1t 4 [] [] mo (by kernel_rfl) ?_)
 refine gX ?_
 obtain ⟨x14, hx14, h⟩ := obind h
 refine z1m rfl rfl rfl rfl (fun H hp => z05 rfl Z02 rfl (wkr .nil) ⟨rfl, trivial⟩ (zyb ((a0).asFloat) x14 hx14) rfl) ?_
 refine gX ?_
 obtain ⟨x15, hx15, h⟩ := obind h
 refine z1m rfl rfl rfl rfl (fun H hp => zi9 rfl rfl hx15) ?_
 refine z1y ?_
 change AO _ _ _ _ _
 obtain ⟨x16, hx16, h⟩ := obind h
 refine sS rfl rfl rfl (z05 rfl Z02 rfl (wkr .nil) ⟨rfl, trivial⟩ (zyb x15 x16 hx16) rfl) ?_
 obtain ⟨x17, hx17, h⟩ := obind h
 refine sS rfl rfl rfl (z05 rfl Z2g rfl (wkr (wkr .nil)) ⟨rfl, ⟨rfl, trivial⟩⟩ (Z1b x14 x16 x17 hx17) rfl) ?_
 refine eX ?_
 obtain rfl := eI h; exact z04 eK
 intro hc13 h
 refine bR ?_
 refine sS rfl rfl rfl (z9y rfl rfl) ?_
 refine sX ?_
 refine eX ?_
 refine cX h rfl ?_ ?_
 intro hc18 h
 refine bR ?_
 refine eX ?_
 refine bR ?_
 iterate 2 refine sX ?_
 obtain ⟨x19, hx19, h⟩ := obind h
 refine sS rfl rfl rfl (zm1 rfl rfl hx19) ?_
 obtain ⟨x20, hx20, h⟩ := obind h
 refine sS rfl rfl rfl (z05 rfl zwv rfl (wkr (wkr .nil)) ⟨rfl, ⟨rfl, trivial⟩⟩ (zve ((a0).asText) x19 x20 hx20) rfl) ?_
 refine eX ?_
 obtain rfl := eI h; exact z04 eK
 intro hc18 h
 refine bR ?_
 refine sS rfl rfl rfl (z64 rfl rfl) ?_
 refine sX ?_
 refine eX ?_
 refine cX h rfl ?_ ?_
 intro hc21 h
 refine bR ?_
 refine eX ?_
 refine bR ?_
 iterate 2 refine sX ?_
 obtain ⟨x22, hx22, h⟩ := obind h
 refine sS rfl rfl rfl (zia rfl rfl hx22) ?_
 obtain ⟨x23, hx23, h⟩ := obind h
 refine sS rfl rfl rfl (z05 rfl Z2f rfl (wkr (wkr .nil)) ⟨(z06 (fun _ => rfl) ((a0).asBytes)), ⟨(z06 (fun _ => rfl) x22), trivial⟩⟩ (Z1h ((a0).asBytes) x22 x23 hx23) rfl) ?_
 refine eX ?_
 obtain rfl := eI h; exact z04 eK
 intro hc21 h
 refine bR ?_
 refine sS rfl rfl rfl (zgm rfl rfl) ?_
 refine sX ?_
 refine eX ?_
 refine cX h rfl ?_ ?_
 intro hc24 h
 refine bR ?_
 refine eX ?_
 refine bR ?_
 iterate 2 refine sX ?_
 obtain ⟨x25, hx25, h⟩ := obind h
 refine sS rfl rfl rfl (zoo rfl rfl hx25) ?_
 obtain ⟨x26, hx26, h⟩ := obind h
 refine sS rfl rfl rfl (z05 rfl Z2e rfl (wkr (wkr .nil)) ⟨rfl, ⟨rfl, trivial⟩⟩ (Z1d ((a0).asRef) x25 x26 hx26) rfl) ?_
 refine eX ?_
 obtain rfl := eI h; exact z04 eK
 intro hc24 h
 refine bR ?_
 refine sS rfl rfl rfl (z27 rfl rfl) ?_
 refine sX ?_
 refine eX ?_
 refine cX h rfl ?_ ?_
 intro hc27 h
 refine bR ?_
 refine eX ?_
 refine bR ?_
 iterate 2 refine sX ?_
 obtain ⟨x28, hx28, h⟩ := obind h
 refine sS rfl rfl rfl (zm2 rfl rfl hx28) ?_
 obtain ⟨x29, hx29, h⟩ := obind h
 refine sS rfl rfl rfl (z05 rfl Z2d rfl (wkr (wkr (wkr .nil))) ⟨(z06 ids_V ((a0).asList)), ⟨(z06 ids_V x28), ⟨rfl, trivial⟩⟩⟩ (c_q02 ((a0).asList) x28 x29 hx29) rfl) ?_
 refine eX ?_
 obtain rfl := eI h; exact z04 eK
 intro hc27 h
 refine bR ?_
 refine sS rfl rfl rfl (z2m rfl rfl) ?_
 refine sX ?_
 refine eX ?_
 refine cX h rfl ?_ ?_
 intro hc30 h
 refine bR ?_
 refine eX ?_
 refine bR ?_
 iterate 2 refine sX ?_
 obtain ⟨x31, hx31, h⟩ := obind h
 refine sS rfl rfl rfl (zm3 rfl rfl hx31) ?_
 obtain ⟨x32, hx32, h⟩ := obind h
 refine sS rfl rfl rfl (z05 rfl Z01 rfl (wkr (wkr (wkr .nil))) ⟨(z06 z0q ((a0).asDict)), ⟨(z06 z0q x31), ⟨rfl, trivial⟩⟩⟩ (c_q00 ((a0).asDict) x31 x32 hx32) rfl) ?_
 refine eX ?_
 obtain rfl := eI h; exact z04 eK
 intro hc30 h
 refine bR ?_
 refine sS rfl rfl rfl (z32 rfl rfl) ?_
 refine sX ?_
 refine eX ?_
 refine cX h rfl ?_ ?_
 intro hc33 h
 refine bR ?_
 refine eX ?_
 refine bR ?_
 refine sX ?_
 obtain ⟨x34, hx34, h⟩ := obind h
 refine sS rfl rfl rfl (zop rfl rfl hx34) ?_
 refine eX ?_
 refine z09 ?_
 refine z09 (z1t 8 [] [] mo (by kernel_rfl) ?_)
 refine gX ?_
 obtain ⟨x35, hx35, h⟩ := obind h
 refine z1m rfl rfl rfl rfl (fun H hp => z1e rfl rfl hx35) ?_
 iterate 3 refine gX ?_
 obtain ⟨x36, hx36, h⟩ := obind h
 refine z1m rfl rfl rfl rfl (fun H hp => z1e rfl rfl hx36) ?_
 iterate 2 refine gX ?_
 refine z1y ?_
 change AO _ _ _ _ _
 obtain ⟨x37, hx37, h⟩ := obind h
 refine sS rfl rfl rfl (z05 rfl zwv rfl (wkr (wkr .nil)) ⟨rfl, ⟨rfl, trivial⟩⟩ (zve x35.cls x36.cls x37 hx37) rfl) ?_
 refine eX ?_
 refine bR ?_
 refine sX ?_
 refine eX ?_
 refine cX h rfl ?_ ?_
 intro hc38 h
 refine bR ?_
 refine sX ?_
 refine eX ?_
 obtain rfl := eI h; exact z04 eK
 intro hc38 h
 refine z08 ?_
 refine cBx ?_
 refine z09 ?_
 refine z09 (z1t 8 [] [] mo (by kernel_rfl) ?_)
 refine gX ?_
 refine z1m rfl rfl rfl rfl (fun H hp => z1e rfl rfl hx35) ?_
 iterate 3 refine gX ?_
 refine z1m rfl rfl rfl rfl (fun H hp => z1e rfl rfl hx36) ?_
 iterate 2 refine gX ?_
 refine z1y ?_
 change AO _ _ _ _ _
 obtain ⟨x39, hx39, h⟩ := obind h
 refine sS rfl rfl rfl (z05 rfl zww rfl (wkr (wkr .nil)) ⟨rfl, ⟨rfl, trivial⟩⟩ (zvd x35.ver x36.ver x39 hx39) rfl) ?_
 refine eX ?_
 refine bR ?_
 refine sX ?_
 refine eX ?_
 refine cX h rfl ?_ ?_
 intro hc40 h
 refine bR ?_
 refine sX ?_
 refine eX ?_
 obtain rfl := eI h; exact z04 eK
 intro hc40 h
 refine z08 ?_
 refine cBx ?_
 refine z09 (z1t 8 [] [] mo (by kernel_rfl) ?_)
 refine gX ?_
 refine z1m rfl rfl rfl rfl (fun H hp => z1e rfl rfl hx35) ?_
 iterate 3 refine gX ?_
 refine z1m rfl rfl rfl rfl (fun H hp => z1e rfl rfl hx36) ?_
 iterate 2 refine gX ?_
 refine z1y ?_
 change AO _ _ _ _ _
 obtain ⟨x41, hx41, h⟩ := obind h
 refine sS rfl rfl rfl (z05 rfl Z01 rfl (wkr (wkr (wkr .nil))) ⟨(z06 z0q x35.fields), ⟨(z06 z0q x36.fields), ⟨rfl, trivial⟩⟩⟩ (c_q00 x35.fields x36.fields x41 hx41) rfl) ?_
 refine eX ?_
 obtain rfl := eI h; exact z04 eK
 intro hc33 h
 refine z08 ?_
 refine cBx ?_
 refine bR ?_
 refine eX ?_
 obtain rfl := eI h; exact z04 eK
theorem C_q13.sound : ∀ (i : C_q13) (r : i.R), z3r C_q13.F i = some r → C_q13.Q i r := by
 refine z6a (Φ := C_q13.F) (Q := C_q13.Q) ?_
 intro g hg i r h
 cases i with
 | k_q13 a0 a1 => exact zea (fun a0 a1 => g (.k_q13 a0 a1)) (fun a0 a1 r hr => hg (.k_q13 a0 a1) r hr) (fun a0 a1 => g (.k_q00 a0 a1)) (fun a0 a1 r hr => hg (.k_q00 a0 a1) r hr) (fun a0 a1 => g (.k_q02 a0 a1)) (fun a0 a1 r hr => hg (.k_q02 a0 a1) r hr) (fun a0 a1 => g (.k_q14 a0 a1)) (fun a0 a1 r hr => hg (.k_q14 a0 a1) r hr) a0 a1 r h
 | k_q00 a0 a1 => exact z1j (fun a0 a1 => g (.k_q13 a0 a1)) (fun a0 a1 r hr => hg (.k_q13 a0 a1) r hr) (fun a0 a1 => g (.k_q00 a0 a1)) (fun a0 a1 r hr => hg (.k_q00 a0 a1) r hr) (fun a0 a1 => g (.k_q02 a0 a1)) (fun a0 a1 r hr => hg (.k_q02 a0 a1) r hr) (fun a0 a1 => g (.k_q14 a0 a1)) (fun a0 a1 r hr => hg (.k_q14 a0 a1) r hr) a0 a1 r h
 | k_q02 a0 a1 => exact z1q (fun a0 a1 => g (.k_q13 a0 a1)) (fun a0 a1 r hr => hg (.k_q13 a0 a1) r hr) (fun a0 a1 => g (.k_q00 a0 a1)) (fun a0 a1 r hr => hg (.k_q00 a0 a1) r hr) (fun a0 a1 => g (.k_q02 a0 a1)) (fun a0 a1 r hr => hg (.k_q02 a0 a1) r hr) (fun a0 a1 => g (.k_q14 a0 a1)) (fun a0 a1 r hr => hg (.k_q14 a0 a1) r hr) a0 a1 r h
 | k_q14 a0 a1 => exact ze9 (fun a0 a1 => g (.k_q13 a0 a1)) (fun a0 a1 r hr => hg (.k_q13 a0 a1) r hr) (fun a0 a1 => g (.k_q00 a0 a1)) (fun a0 a1 r hr => hg (.k_q00 a0 a1) r hr) (fun a0 a1 => g (.k_q02 a0 a1)) (fun a0 a1 r hr => hg (.k_q02 a0 a1) r hr) (fun a0 a1 => g (.k_q14 a0 a1)) (fun a0 a1 r hr => hg (.k_q14 a0 a1) r hr) a0 a1 r h
theorem Z12 (a0 a1 : V) (r : Int) (h : z8w a0 a1 = some r) : z0l Tryz.prog 38 [(ofV a0), (ofV a1)] (I64 r) := C_q13.sound (.k_q14 a0 a1) r h
noncomputable def zco (a0 a1 : V) : Option Bool :=
 (zgh a0).bind fun x1 =>
 (zgh a1).bind fun x2 =>
 bif (x1.2 == 0) then (
 bif (x2.2 == 0) then (
 (z8w a0 a1).bind fun x5 =>
 some (x5 == 0)
 ) else (
 some false
 )
 ) else (
 some false
 )
theorem zl3 (a0 a1 : V) (r : Bool) (h : zco a0 a1 = some r) : z0l Tryz.prog 12 [(ofV a0), (ofV a1)] (BO r) := by
 unfold zco at h
 refine z0c Tryz.func12 rfl Tryz.ntmps12 Tryz.results12 rfl (z0i ?_)
 change BW _ _ _ ⟨[(0, (ofV a0)), (1, (ofV a1))], [], _⟩ _
 refine bR ?_
 refine eX ?_
 refine bR ?_
 refine sX ?_
 obtain ⟨x1, hx1, h⟩ := obind h
 refine sS rfl rfl rfl (z05 rfl zsu rfl (wkr .nil) ⟨(ids_V a0), trivial⟩ (zqt a0 x1 hx1) (z00 rfl (z00 rfl z03))) ?_
 iterate 4 refine sX ?_
 refine eX ?_
 refine bR ?_
 refine sX ?_
 obtain ⟨x2, hx2, h⟩ := obind h
 refine sS rfl rfl rfl (z05 rfl zsu rfl (wkr .nil) ⟨(ids_V a1), trivial⟩ (zqt a1 x2 hx2) (z00 rfl (z00 rfl z03))) ?_
 iterate 4 refine sX ?_
 refine eX ?_
 refine bR ?_
 iterate 3 refine sX ?_
 refine z0p (t := 21) rfl ?_ ?_
 intro hb3; replace h := z0r hb3 h
 iterate 2 refine yX ?_
 iterate 2 refine sX ?_
 refine z0p (t := 25) rfl ?_ ?_
 intro hb4; replace h := z0r hb4 h
 iterate 2 refine yX ?_
 obtain ⟨x5, hx5, h⟩ := obind h
 refine z1i rfl rfl rfl rfl rfl rfl (z05 rfl zx0 rfl (wkr (wkr .nil)) ⟨(ids_V a0), ⟨(ids_V a1), trivial⟩⟩ (Z12 a0 a1 x5 hx5) rfl) ?_
 refine yX ?_
 refine sX ?_
 refine eX ?_
 obtain rfl := eI h; exact z04 eK
 intro hb4; replace h := z0s hb4 h
 iterate 4 refine nX ?_
 refine sX ?_
 refine eX ?_
 obtain rfl := eI h; exact z04 eK
 intro hb3; replace h := z0s hb3 h
 iterate 2 refine nX ?_
 iterate 2 refine sX ?_
 iterate 4 refine nX ?_
 refine sX ?_
 refine eX ?_
 obtain rfl := eI h; exact z04 eK
noncomputable def zri (a0 : (List S_api_Step)) : Option (List S_api_Step) :=
 some a0
theorem Z1i (a0 r : (List S_api_Step)) (h : zri a0 = some r) : z7a Tryz.prog 80 [(PV.sl none 83 3 (List.map z02 a0))] [] (PV.sl (some 0) 83 3 (List.map z02 r)) [.arr 83 (r).length] := by
 unfold zri at h
 refine z0c Tryz.func80 rfl Tryz.ntmps80 Tryz.results80 rfl (z0i ?_)
 change BW _ _ _ ⟨[(0, (PV.sl none 83 3 (List.map z02 a0)))], [], _⟩ _
 refine bR ?_
 refine eX ?_
 refine bR ?_
 iterate 5 refine sX ?_
 refine sS rfl rfl rfl (zp3 Tryz.underlying30 z19 rfl rfl rfl rfl) ?_
 refine eX ?_
 obtain rfl := eI h; exact z04 ⟨_, rfl, zzt (y := (PV.sl (some 0) 83 3 (List.map z02 a0))) 0 rfl (Wk.refl _) (zmc (z17 z01 _)) (zd0 (z17 z01 _) rfl) ⟨rfl, rfl⟩⟩
noncomputable def z9x (a0 : S_api_Step) (a1 : (List S_api_Step)) : Option (List S_api_Step) :=
 (zri a1).bind fun x1 =>
 (zal 32 x1 ([a0] : (List S_api_Step))).bind fun x2 =>
 some x2
theorem zl4 (a0 : S_api_Step) (a1 r : (List S_api_Step)) (h : z9x a0 a1 = some r) : z0l Tryz.prog 79 [(z02 a0), (PV.pt 30 (PV.sl none 83 3 (List.map z02 a1)) 0)] (PV.sl none 83 3 (List.map z02 r)) := by
 unfold z9x at h
 refine z0c Tryz.func79 rfl Tryz.ntmps79 Tryz.results79 rfl (z0i ?_)
 change BW _ _ _ ⟨[(0, (z02 a0)), (1, (PV.pt 30 (PV.sl none 83 3 (List.map z02 a1)) 0))], [], _⟩ _
 refine bR ?_
 refine sX ?_
 refine eX ?_
 refine z09 (z1t 4 [1] [0] mo (by kernel_rfl) ?_)
 refine gX ?_
 obtain ⟨x1, hx1, h⟩ := obind h
 refine zhn rfl rfl rfl rfl (z6s rfl Z29 rfl (wkr .nil) ⟨(z06 z01 a1), trivial⟩ (Z1i a1 x1 hx1) (zd0 (z17 z01 _) rfl) rfl) ⟨rfl, trivial⟩ ?_
 refine gX ?_
 refine z1m rfl rfl rfl rfl (fun H hp => (zid (xs := [(PV.agg [(z0k a0.f_Name), (BO a0.f_At), (I64 a0.f_Index)])]) Tryz.underlying30 z19 rfl rfl rfl rfl rfl rfl ⟨lbE rfl, lbE rfl⟩ rfl).cast (y := (PV.sl none 83 3 (List.map z02 ([a0] : (List S_api_Step))))) rfl rfl) ?_
 refine z1y ?_
 change AO _ _ _ _ _
 obtain ⟨x2, hx2, h⟩ := obind h
 refine sS rfl rfl rfl (z3q Tryz.underlying30 z19 rfl Tryz.underlying30 rfl rfl rfl rfl z5b z40 hx2 rfl) ?_
 refine eX ?_
 obtain rfl := eI h; exact z04 ⟨_, rfl, z0n (y := (PV.sl none 83 3 (List.map z02 x2))) Wk.tok (z06 z01 x2) ⟨rfl, rfl⟩⟩
noncomputable def zrj (a0 : (List S_api_Step)) : Option (List S_api_Step) :=
 (zal 32 ([] : (List S_api_Step)) a0).bind fun x2 =>
 some x2
theorem Z1j (a0 r : (List S_api_Step)) (h : zrj a0 = some r) : z0l Tryz.prog 47 [(PV.sl none 83 3 (List.map z02 a0))] (PV.sl none 83 3 (List.map z02 r)) := by
 unfold zrj at h
 refine z0c Tryz.func47 rfl Tryz.ntmps47 Tryz.results47 rfl (z0i ?_)
 change BW _ _ _ ⟨[(0, (PV.sl none 83 3 (List.map z02 a0)))], [], _⟩ _
 refine bR ?_
 refine eX ?_
 refine z09 ?_
 refine bR ?_
 refine sX ?_
 refine zcf rfl rfl rfl Tryz.underlying30 rfl rfl ?_
 intro nb1 hnb1
 refine z0b ?_
 refine cBx ?_
 cases nb1
 refine zf7 rfl ?_
 refine z08 ?_
 refine cBx ?_
 refine bR ?_
 refine sS rfl rfl rfl ((z1d (xs := []) Tryz.underlying30 z19 rfl rfl rfl rfl rfl rfl ⟨lbE rfl, lbE rfl⟩ rfl).cast (y := (PV.sl (some 0) 83 3 (List.map z02 ([] : (List S_api_Step))))) rfl rfl) ?_
 refine sX ?_
 obtain ⟨x2, hx2, h⟩ := obind h
 refine sS rfl rfl rfl (z3q Tryz.underlying30 z19 rfl Tryz.underlying30 rfl rfl rfl rfl z5b z40 hx2 rfl) ?_
 refine eX ?_
 obtain rfl := eI h; exact z04 ⟨_, rfl, z0n (y := (PV.sl none 83 3 (List.map z02 x2))) Wk.tok (z06 z01 x2) ⟨rfl, rfl⟩⟩
 have hz := List.map_eq_nil_iff.1 (hnb1 rfl)
 rw [hz] at h
 replace h : some [] = some r := h
 refine zf6 rfl ?_
 refine bR ?_
 refine eX ?_
 obtain rfl := eI h; exact z04 ⟨_, rfl, z0n (y := (PV.sl none 83 3 (List.map z02 []))) Wk.nil (z06 z01 ([])) ⟨rfl, rfl⟩⟩
noncomputable def zoh (a0 : V) : Option V :=
 (z9w a0).bind fun x1 =>
 some x1.1
theorem Z0y (a0 r : V) (h : zoh a0 = some r) : z0l Tryz.prog 48 [(ofV a0)] (ofV r) := by
 unfold zoh at h
 refine z0c Tryz.func48 rfl Tryz.ntmps48 Tryz.results48 rfl (z0i ?_)
 change BW _ _ _ ⟨[(0, (ofV a0))], [], _⟩ _
 refine bR ?_
 refine eX ?_
 refine bR ?_
 refine sX ?_
 obtain ⟨x1, hx1, h⟩ := obind h
 refine sS rfl rfl rfl (z05 rfl zpz rfl (wkr .nil) ⟨(ids_V a0), trivial⟩ (zn6 a0 x1 hx1) (z00 (ids_V x1.1) (z00 rfl z03))) ?_
 iterate 4 refine sX ?_
 refine eX ?_
 refine bR ?_
 refine sX ?_
 refine eX ?_
 obtain rfl := eI h; exact z04 ⟨_, rfl, z0n (y := (ofV x1.1)) (Wk.refl _) (ids_V x1.1) ⟨rfl, rfl⟩⟩
noncomputable def zcp (a0 : Int) (a1 : (List S_api_Step)) (a2 : V) (a3 : (List S_api_Edit)) : Option (List S_api_Edit) :=
 (zrj a1).bind fun x1 =>
 (zoh a2).bind fun x2 =>
 (zal 48 a3 ([(S_api_Edit.mk a0 x1 x2)] : (List S_api_Edit))).bind fun x3 =>
 some x3
theorem zn7 (a0 : Int) (a1 : (List S_api_Step)) (a2 : V) (a3 r : (List S_api_Edit)) (h : zcp a0 a1 a2 a3 = some r) : z7a Tryz.prog 46 [(I64 a0), (PV.sl none 83 3 (List.map z02 a1)), (ofV a2), (PV.rf 0 0)] [.box 46 [(PV.sl (some 1) 53 3 (List.map z0g a3))], .arr 53 (a3).length] (PV.tup []) [.box 46 [(PV.sl (some 1) 53 3 (List.map z0g r))], .arr 53 (r).length] := by
 unfold zcp at h
 refine z0c Tryz.func46 rfl Tryz.ntmps46 Tryz.results46 rfl (z0i ?_)
 change BW _ _ _ ⟨[(0, (I64 a0)), (1, (PV.sl none 83 3 (List.map z02 a1))), (2, (ofV a2)), (3, (PV.rf 0 0))], [.box 46 [(PV.sl (some 1) 53 3 (List.map z0g a3))], .arr 53 (a3).length], _⟩ _
 refine z1t 8 [7] [0] mo (by kernel_rfl) ?_
 iterate 3 refine gX ?_
 obtain ⟨x1, hx1, h⟩ := obind h
 refine z1m rfl rfl rfl rfl (fun H hp => z05 rfl Z2k rfl (wkr .nil) ⟨(z06 z01 a1), trivial⟩ (Z1j a1 x1 hx1) (z06 z01 x1)) ?_
 refine gX ?_
 obtain ⟨x2, hx2, h⟩ := obind h
 refine z1m rfl rfl rfl rfl (fun H hp => z05 rfl Z2j rfl (wkr .nil) ⟨(ids_V a2), trivial⟩ (Z0y a2 x2 hx2) (ids_V x2)) ?_
 refine z1m rfl rfl rfl rfl (fun H hp => z1k (cs := [(I64 a0), (PV.sl none 83 3 (List.map z02 x1)), (ofV x2)]) zy1 zh4 rfl rfl (by simp only [List.all_cons, List.all_nil, z5c, z26, Bool.and_true, Bool.true_and]; try rfl) (by simp only [z3p, List.getElem?_cons_zero, List.getElem?_cons_succ, z11, z0v]; rfl)) ?_
 refine zhn rfl rfl rfl rfl ((z1d (xs := [(PV.agg [(I64 a0), (PV.sl none 83 3 (List.map z02 x1)), (ofV x2)])]) Tryz.underlying46 zh4 rfl rfl rfl (by simp only [List.all_cons, List.all_nil, z5c, z26, Bool.and_true, Bool.true_and]; try rfl) (by simp only [List.all_cons, List.all_nil, csz_V, z3a, z11, z0v]; try rfl) rfl ⟨lbE rfl, lbE rfl⟩ (by simp only [z9d, z3p, List.flatMap_cons, List.flatMap_nil, z11, z0v]; try rfl)).cast (y := (PV.sl (some 2) 53 3 (List.map z0g ([(S_api_Edit.mk a0 x1 x2)] : (List S_api_Edit))))) rfl rfl) ⟨rfl, trivial⟩ ?_
 refine z1y ?_
 change AO _ _ _ _ _
 obtain ⟨x3, hx3, h⟩ := obind h
 refine sS rfl rfl rfl (z3q Tryz.underlying46 zh4 rfl Tryz.underlying46 rfl rfl rfl rfl zcs zak hx3 rfl) ?_
 refine z1l rfl rfl (z1b zud rfl rfl rfl rfl rfl rfl (lbE rfl) rfl) ?_
 refine z0b ?_
 change ∃ xs, _ = some xs ∧ EndOk _ _ _ _
 obtain rfl := Option.some.inj h
 exact ⟨_, rfl, endR (y := (PV.tup [])) 2 (Wk.refl _) rfl rfl (.tup .nil) (.cons (.box (.cons (.row rfl (z17 z0d x3)) .nil)) (.cons .arr .nil)) ⟨rfl, rfl⟩⟩
noncomputable def zfx : Option ((List (Str × V)) × (List (Str × V)) × Bool) :=
 some ([], [], false)
noncomputable def zd3 (a0 a1 : V) (s3 : Bool) : Option ((List (Str × V)) × (List (Str × V)) × Bool) :=
 bif s3 then (
 ((a0).asRec).bind fun x5 =>
 ((a1).asRec).bind fun x6 =>
 some (x5.fields, x6.fields, true)
 ) else (
 zfx
 )
noncomputable def zvt (a0 a1 : V) : Option ((List (Str × V)) × (List (Str × V)) × Bool) :=
 bif (a0).isDict then (
 some ((a0).asDict, (a1).asDict, (a1).isDict)
 ) else (
 bif (a0).isRec then (
 bif (a1).isRec then (
 ((a0).asRec).bind fun x8 =>
 ((a1).asRec).bind fun x9 =>
 bif (x8.cls == x9.cls) then (
 zd3 a0 a1 (x8.ver == x9.ver)
 ) else (
 zd3 a0 a1 false
 )
 ) else (
 zd3 a0 a1 false
 )
 ) else (
 zfx
 )
 )
theorem Z10 (a0 a1 : V) (r : ((List (Str × V)) × (List (Str × V)) × Bool)) (h : zvt a0 a1 = some r) : z0l Tryz.prog 81 [(ofV a0), (ofV a1)] (PV.tup [(PV.sl none 69 2 (List.map ofFld r.1)), (PV.sl none 69 2 (List.map ofFld r.2.1)), (BO r.2.2)]) := by
 unfold zvt at h
 refine z0c Tryz.func81 rfl Tryz.ntmps81 Tryz.results81 rfl (z0i ?_)
 change BW _ _ _ ⟨[(0, (ofV a0)), (1, (ofV a1))], [], _⟩ _
 refine bR ?_
 iterate 2 refine sX ?_
 refine eX ?_
 refine jX (ι := Unit) (fun i => zfx = some r) (fun i => []) (fun i => []) ?_ ?_
 rintro ⟨⟩ h; replace h : zfx = some r := h; unfold zfx at h
 change BW _ _ _ ⟨[], [], _⟩ _
 refine bR ?_
 iterate 2 refine sX ?_
 refine eX ?_
 obtain rfl := eI h; exact z04 ⟨_, rfl, z0n (y := (PV.tup [(PV.sl none 69 2 (List.map ofFld [])), (PV.sl none 69 2 (List.map ofFld [])), (BO false)])) (Wk.tup (.cons Wk.nil (.cons Wk.nil (wkr .nil)))) (z00 (z06 z0q ([])) (z00 (z06 z0q ([])) (z00 rfl z03))) ⟨rfl, rfl⟩⟩
 refine bR ?_
 refine eX ?_
 refine z0j ?_
 refine cBx ?_
 refine bR ?_
 refine sS rfl rfl rfl (z2m rfl rfl) ?_
 refine sX ?_
 refine eX ?_
 refine cX h rfl ?_ ?_
 intro hc1 h
 refine bR ?_
 refine eX ?_
 refine bR ?_
 refine sX ?_
 refine sS rfl rfl rfl (z2m rfl rfl) ?_
 iterate 4 refine sX ?_
 refine eX ?_
 refine bR ?_
 iterate 5 refine sX ?_
 refine eX ?_
 obtain rfl := eI h; exact z04 ⟨_, rfl, z0n (y := (PV.tup [(PV.sl none 69 2 (List.map ofFld (a0).asDict)), (PV.sl none 69 2 (List.map ofFld (a1).asDict)), (BO ((a1).isDict))])) (Wk.refl _) (z00 (z06 z0q ((a0).asDict)) (z00 (z06 z0q ((a1).asDict)) (z00 rfl z03))) ⟨rfl, rfl⟩⟩
 intro hc1 h
 refine bR ?_
 refine sS rfl rfl rfl (z32 rfl rfl) ?_
 refine sX ?_
 refine eX ?_
 refine cX h rfl ?_ ?_
 intro hc2 h
 refine bR ?_
 refine eX ?_
 refine bR ?_
 refine sX ?_
 refine sS rfl rfl rfl (z32 rfl rfl) ?_
 iterate 4 refine sX ?_
 refine eX ?_
 refine z2h (ι := Bool) (fun i => zd3 a0 a1 i = some r) (fun i => [(10, (ofRecP (a0).asRec)), (11, (ofRecP (a1).asRec)), (55, (BO i))]) (fun i => []) ?_ ?_ ?_
 intro i; exact ⟨lbE rfl, ⟨(z0a (zew _)), ⟨(z0a (zew _)), ⟨(z0a rfl), trivial⟩⟩⟩, trivial⟩
 rintro s3 h; replace h : zd3 a0 a1 s3 = some r := h; unfold zd3 at h
 change BW _ _ _ ⟨[(10, (ofRecP (a0).asRec)), (11, (ofRecP (a1).asRec)), (55, (BO s3))], [], _⟩ _
 refine cX h rfl ?_ ?_
 intro hc4 h
 refine z09 (z1t 9 [] [] mo (by kernel_rfl) ?_)
 refine gX ?_
 obtain ⟨x5, hx5, h⟩ := obind h
 refine z1m rfl rfl rfl rfl (fun H hp => z1e rfl rfl hx5) ?_
 iterate 3 refine gX ?_
 obtain ⟨x6, hx6, h⟩ := obind h
 refine z1m rfl rfl rfl rfl (fun H hp => z1e rfl rfl hx6) ?_
 iterate 3 refine gX ?_
 refine z1y ?_
 change AO _ _ _ _ _
 refine sX ?_
 refine eX ?_
 obtain rfl := eI h; exact z04 ⟨_, rfl, z0n (y := (PV.tup [(PV.sl none 69 2 (List.map ofFld x5.fields)), (PV.sl none 69 2 (List.map ofFld x6.fields)), (BO true)])) (Wk.refl _) (z00 (z06 z0q x5.fields) (z00 (z06 z0q x6.fields) (z00 rfl z03))) ⟨rfl, rfl⟩⟩
 intro hc4 h
 refine z08 ?_
 exact ⟨rfl, (), h, jN⟩
 refine z1t 21 [] [] mo (by kernel_rfl) ?_
 iterate 2 refine gX ?_
 refine z6d 34 rfl ?_ ?_
 intro hb7; replace h := z0r hb7 h
 refine wX ?_
 obtain ⟨x8, hx8, h⟩ := obind h
 refine z6f rfl rfl rfl rfl rfl rfl rfl (fun H hp => z1e rfl rfl hx8) ?_
 iterate 3 refine wX ?_
 obtain ⟨x9, hx9, h⟩ := obind h
 refine z6f rfl rfl rfl rfl rfl rfl rfl (fun H hp => z1e rfl rfl hx9) ?_
 iterate 2 refine wX ?_
 refine z6f rfl rfl rfl rfl rfl rfl rfl (fun H hp => (z2e (a := x8.cls) (b := x9.cls) rfl rfl rfl rfl).cast (y := (BO ((x8.cls == x9.cls)))) rfl rfl) ?_
 iterate 2 refine gX ?_
 refine z6d 45 rfl ?_ ?_
 intro hb10; replace h := z0r hb10 h
 refine wX ?_
 refine z6f rfl rfl rfl rfl rfl rfl rfl (fun H hp => z1e rfl rfl hx8) ?_
 iterate 3 refine wX ?_
 refine z6f rfl rfl rfl rfl rfl rfl rfl (fun H hp => z1e rfl rfl hx9) ?_
 iterate 2 refine wX ?_
 refine z1y ?_
 change AO _ _ _ _ _
 refine yX ?_
 refine sX (z0b ?_)
 exact ⟨rfl, (x8.ver == x9.ver), h, jN⟩
 intro hb10; replace h := z0s hb10 h
 iterate 8 refine mX ?_
 refine z1y ?_
 change AO _ _ _ _ _
 refine nX ?_
 refine sX (z0b ?_)
 exact ⟨rfl, false, h, jN⟩
 intro hb7; replace h := z0s hb7 h
 iterate 9 refine mX ?_
 iterate 2 refine gX ?_
 iterate 8 refine mX ?_
 refine z1y ?_
 change AO _ _ _ _ _
 refine nX ?_
 refine sX (z0b ?_)
 exact ⟨rfl, false, h, jN⟩
 intro hc2 h
 refine z08 ?_
 exact ⟨rfl, (), h, jN⟩
end Go.Proofs.YthidgpcbnieleaaGreatDoor
