/- Pure functions, and that calls answer as they say. -/
import Derived.Test.YthidgpcbnieleaaGreatDoorG3
namespace Go.Proofs.YthidgpcbnieleaaGreatDoor
open Go Aw
set_option linter.unusedVariables false
set_option linter.unusedSimpArgs false
set_option maxRecDepth 20000
set_option maxHeartbeats 2000000
variable {ι : Type} {ρ : ι → Type}
noncomputable def zjf (r_q19 : (Str × V) → (Str × V) → Option Int) (r_q00 : (List (Str × V)) → (List (Str × V)) → Option Int) (r_q02 : (List V) → (List V) → Option Int) (r_q17 : V → V → Option Int) (a0 a1 : (Str × V)) : Option Int :=
 (ziu a0.1 a1.1).bind fun x1 =>
 bif (x1 != 0) then (
 some x1
 ) else (
 (r_q17 a0.2 a1.2).bind fun x3 =>
 some x3
 )
theorem zua (r_q19 : OF ρ → (Str × V) → (Str × V) → Option Int) (h_r_q19 : ∀ y0 y1, CM (fun G => r_q19 G y0 y1)) (r_q00 : OF ρ → (List (Str × V)) → (List (Str × V)) → Option Int) (h_r_q00 : ∀ y0 y1, CM (fun G => r_q00 G y0 y1)) (r_q02 : OF ρ → (List V) → (List V) → Option Int) (h_r_q02 : ∀ y0 y1, CM (fun G => r_q02 G y0 y1)) (r_q17 : OF ρ → V → V → Option Int) (h_r_q17 : ∀ y0 y1, CM (fun G => r_q17 G y0 y1)) (a0 a1 : (Str × V)) : CM (fun G : OF ρ => zjf (r_q19 G) (r_q00 G) (r_q02 G) (r_q17 G) a0 a1) := by
 simp only [zjf]
 repeat (first | exact z0h | exact h_r_q19 _ _ | exact h_r_q00 _ _ | exact h_r_q02 _ _ | exact h_r_q17 _ _ | refine z14 ?_ ?_ | refine z15 ?_ (fun _ => ?_))
noncomputable def z5k (r_q19 : (Str × V) → (Str × V) → Option Int) (a0 a1 : (List (Str × V))) (g1 : Nat → Option Int) (s1 : Nat) : Option Int :=
 bif (decide (((s1 : Nat) : Int) < (((a0).length : Nat) : Int))) then (
 ((a0)[s1]?).bind fun x4 =>
 bif (decide (((s1 : Nat) : Int) ≥ (((a1).length : Nat) : Int))) then (
 some 1
 ) else (
 ((a1)[s1]?).bind fun x6 =>
 (r_q19 x4 x6).bind fun x7 =>
 bif (x7 != 0) then (
 some x7
 ) else (
 g1 (s1 + 1)
 )
 )
 ) else (
 bif (decide ((((a0).length : Nat) : Int) < (((a1).length : Nat) : Int))) then (
 some (-1)
 ) else (
 some 0
 )
 )
theorem za8 (r_q19 : OF ρ → (Str × V) → (Str × V) → Option Int) (h_r_q19 : ∀ y0 y1, CM (fun G => r_q19 G y0 y1)) (g1 : OF ρ → Nat → Option Int) (h_g1 : ∀ y0, CM (fun G => g1 G y0)) (a0 a1 : (List (Str × V))) (s1 : Nat) : CM (fun G : OF ρ => z5k (r_q19 G) a0 a1 (g1 G) s1) := by
 simp only [z5k]
 repeat (first | exact z0h | exact h_r_q19 _ _ | exact h_g1 _ | refine z14 ?_ ?_ | refine z15 ?_ (fun _ => ?_))
noncomputable def zdr (r_q19 : (Str × V) → (Str × V) → Option Int) (a0 a1 : (List (Str × V))) (s1 : Nat) : Option Int :=
 z3n (ι := Nat) (ρ := fun _ => Int) (fun g i => z5k r_q19 a0 a1 (fun s1 => g s1) i) s1
theorem zgu (r_q19 : (Str × V) → (Str × V) → Option Int) (a0 a1 : (List (Str × V))) (s1 : Nat) : zdr r_q19 a0 a1 s1 = z5k r_q19 a0 a1 (zdr r_q19 a0 a1) s1 :=
 z1f (ι := Nat) (ρ := fun _ => Int) (Φ := fun g i => z5k r_q19 a0 a1 (fun s1 => g s1) i) (fun i => za8 (ι := Nat) (ρ := fun _ => Int) (fun _ => r_q19) (fun _ _ => z0h) (fun g => (fun s1 => g s1)) (fun _ => z1j) a0 a1 i) s1
theorem zom (r_q19 : OF ρ → (Str × V) → (Str × V) → Option Int) (h_r_q19 : ∀ y0 y1, CM (fun G => r_q19 G y0 y1)) (a0 a1 : (List (Str × V))) (s1 : Nat) : CM (fun G : OF ρ => zdr (r_q19 G) a0 a1 s1) :=
 z87 (κ := Nat) (τ := fun _ => Int) (Φ := fun G g i => z5k (r_q19 G) a0 a1 (fun s1 => g s1) i) (fun g i => za8 r_q19 h_r_q19 (fun _ => (fun s1 => g s1)) (fun _ => z0h) a0 a1 i) (fun G i => za8 (ι := Nat) (ρ := fun _ => Int) (fun _ => r_q19 G) (fun _ _ => z0h) (fun g => (fun s1 => g s1)) (fun _ => z1j) a0 a1 i) s1
noncomputable def zjm (r_q19 : (Str × V) → (Str × V) → Option Int) (r_q00 : (List (Str × V)) → (List (Str × V)) → Option Int) (r_q02 : (List V) → (List V) → Option Int) (r_q17 : V → V → Option Int) (a0 a1 : (List (Str × V))) : Option Int :=
 zdr r_q19 a0 a1 0
theorem zum (r_q19 : OF ρ → (Str × V) → (Str × V) → Option Int) (h_r_q19 : ∀ y0 y1, CM (fun G => r_q19 G y0 y1)) (r_q00 : OF ρ → (List (Str × V)) → (List (Str × V)) → Option Int) (h_r_q00 : ∀ y0 y1, CM (fun G => r_q00 G y0 y1)) (r_q02 : OF ρ → (List V) → (List V) → Option Int) (h_r_q02 : ∀ y0 y1, CM (fun G => r_q02 G y0 y1)) (r_q17 : OF ρ → V → V → Option Int) (h_r_q17 : ∀ y0 y1, CM (fun G => r_q17 G y0 y1)) (a0 a1 : (List (Str × V))) : CM (fun G : OF ρ => zjm (r_q19 G) (r_q00 G) (r_q02 G) (r_q17 G) a0 a1) := by
 simp only [zjm]
 repeat (first | exact z0h | exact h_r_q19 _ _ | exact h_r_q00 _ _ | exact h_r_q02 _ _ | exact h_r_q17 _ _ | apply zom | refine z14 ?_ ?_ | refine z15 ?_ (fun _ => ?_) | intro _ | assumption)
noncomputable def z5j (r_q17 : V → V → Option Int) (a0 a1 : (List V)) (g1 : Nat → Option Int) (s1 : Nat) : Option Int :=
 bif (decide (((s1 : Nat) : Int) < (((a0).length : Nat) : Int))) then (
 ((a0)[s1]?).bind fun x4 =>
 bif (decide (((s1 : Nat) : Int) ≥ (((a1).length : Nat) : Int))) then (
 some 1
 ) else (
 ((a1)[s1]?).bind fun x6 =>
 (r_q17 x4 x6).bind fun x7 =>
 bif (x7 != 0) then (
 some x7
 ) else (
 g1 (s1 + 1)
 )
 )
 ) else (
 bif (decide ((((a0).length : Nat) : Int) < (((a1).length : Nat) : Int))) then (
 some (-1)
 ) else (
 some 0
 )
 )
theorem za7 (r_q17 : OF ρ → V → V → Option Int) (h_r_q17 : ∀ y0 y1, CM (fun G => r_q17 G y0 y1)) (g1 : OF ρ → Nat → Option Int) (h_g1 : ∀ y0, CM (fun G => g1 G y0)) (a0 a1 : (List V)) (s1 : Nat) : CM (fun G : OF ρ => z5j (r_q17 G) a0 a1 (g1 G) s1) := by
 simp only [z5j]
 repeat (first | exact z0h | exact h_r_q17 _ _ | exact h_g1 _ | refine z14 ?_ ?_ | refine z15 ?_ (fun _ => ?_))
noncomputable def zdq (r_q17 : V → V → Option Int) (a0 a1 : (List V)) (s1 : Nat) : Option Int :=
 z3n (ι := Nat) (ρ := fun _ => Int) (fun g i => z5j r_q17 a0 a1 (fun s1 => g s1) i) s1
theorem zgr (r_q17 : V → V → Option Int) (a0 a1 : (List V)) (s1 : Nat) : zdq r_q17 a0 a1 s1 = z5j r_q17 a0 a1 (zdq r_q17 a0 a1) s1 :=
 z1f (ι := Nat) (ρ := fun _ => Int) (Φ := fun g i => z5j r_q17 a0 a1 (fun s1 => g s1) i) (fun i => za7 (ι := Nat) (ρ := fun _ => Int) (fun _ => r_q17) (fun _ _ => z0h) (fun g => (fun s1 => g s1)) (fun _ => z1j) a0 a1 i) s1
theorem zol (r_q17 : OF ρ → V → V → Option Int) (h_r_q17 : ∀ y0 y1, CM (fun G => r_q17 G y0 y1)) (a0 a1 : (List V)) (s1 : Nat) : CM (fun G : OF ρ => zdq (r_q17 G) a0 a1 s1) :=
 z87 (κ := Nat) (τ := fun _ => Int) (Φ := fun G g i => z5j (r_q17 G) a0 a1 (fun s1 => g s1) i) (fun g i => za7 r_q17 h_r_q17 (fun _ => (fun s1 => g s1)) (fun _ => z0h) a0 a1 i) (fun G i => za7 (ι := Nat) (ρ := fun _ => Int) (fun _ => r_q17 G) (fun _ _ => z0h) (fun g => (fun s1 => g s1)) (fun _ => z1j) a0 a1 i) s1
noncomputable def zjl (r_q19 : (Str × V) → (Str × V) → Option Int) (r_q00 : (List (Str × V)) → (List (Str × V)) → Option Int) (r_q02 : (List V) → (List V) → Option Int) (r_q17 : V → V → Option Int) (a0 a1 : (List V)) : Option Int :=
 zdq r_q17 a0 a1 0
theorem zul (r_q19 : OF ρ → (Str × V) → (Str × V) → Option Int) (h_r_q19 : ∀ y0 y1, CM (fun G => r_q19 G y0 y1)) (r_q00 : OF ρ → (List (Str × V)) → (List (Str × V)) → Option Int) (h_r_q00 : ∀ y0 y1, CM (fun G => r_q00 G y0 y1)) (r_q02 : OF ρ → (List V) → (List V) → Option Int) (h_r_q02 : ∀ y0 y1, CM (fun G => r_q02 G y0 y1)) (r_q17 : OF ρ → V → V → Option Int) (h_r_q17 : ∀ y0 y1, CM (fun G => r_q17 G y0 y1)) (a0 a1 : (List V)) : CM (fun G : OF ρ => zjl (r_q19 G) (r_q00 G) (r_q02 G) (r_q17 G) a0 a1) := by
 simp only [zjl]
 repeat (first | exact z0h | exact h_r_q19 _ _ | exact h_r_q00 _ _ | exact h_r_q02 _ _ | exact h_r_q17 _ _ | apply zol | refine z14 ?_ ?_ | refine z15 ?_ (fun _ => ?_) | intro _ | assumption)
noncomputable def zjg (r_q19 : (Str × V) → (Str × V) → Option Int) (r_q00 : (List (Str × V)) → (List (Str × V)) → Option Int) (r_q02 : (List V) → (List V) → Option Int) (r_q17 : V → V → Option Int) (a0 a1 : V) : Option Int :=
 (zio a0).bind fun x1 =>
 (zio a1).bind fun x2 =>
 (zmg x1 x2).bind fun x3 =>
 bif (x3 != 0) then (
 some x3
 ) else (
 bif (a0).isBool then (
 (zp7 ((a0).asBool)).bind fun x6 =>
 ((a1).theBool).bind fun x7 =>
 (zp7 x7).bind fun x8 =>
 (zmg x6 x8).bind fun x9 =>
 some x9
 ) else (
 bif (a0).isInt then (
 ((a1).theInt).bind fun x11 =>
 (zs9 ((a0).asInt) x11).bind fun x12 =>
 some x12
 ) else (
 bif (a0).isFloat then (
 (zme ((a0).asFloat)).bind fun x14 =>
 ((a1).theFloat).bind fun x15 =>
 (zme x15).bind fun x16 =>
 (zsb x14 x16).bind fun x17 =>
 some x17
 ) else (
 bif (a0).isText then (
 ((a1).theText).bind fun x19 =>
 (ziu ((a0).asText) x19).bind fun x20 =>
 some x20
 ) else (
 bif (a0).isBytes then (
 ((a1).theBytes).bind fun x22 =>
 (zse ((a0).asBytes) x22).bind fun x23 =>
 some x23
 ) else (
 bif (a0).isRef then (
 ((a1).theRef).bind fun x25 =>
 (zsd ((a0).asRef) x25).bind fun x26 =>
 some x26
 ) else (
 bif (a0).isList then (
 ((a1).theList).bind fun x28 =>
 (r_q02 ((a0).asList) x28).bind fun x29 =>
 some x29
 ) else (
 bif (a0).isDict then (
 ((a1).theDict).bind fun x31 =>
 (r_q00 ((a0).asDict) x31).bind fun x32 =>
 some x32
 ) else (
 bif (a0).isRec then (
 ((a1).theRec).bind fun x34 =>
 ((a0).asRec).bind fun x35 =>
 (x34).bind fun x36 =>
 (ziu x35.cls x36.cls).bind fun x37 =>
 bif (x37 != 0) then (
 some x37
 ) else (
 (zmg x35.ver x36.ver).bind fun x39 =>
 bif (x39 != 0) then (
 some x39
 ) else (
 (r_q00 x35.fields x36.fields).bind fun x41 =>
 some x41
 )
 )
 ) else (
 some 0
 )
 )
 )
 )
 )
 )
 )
 )
 )
 )
theorem zub (r_q19 : OF ρ → (Str × V) → (Str × V) → Option Int) (h_r_q19 : ∀ y0 y1, CM (fun G => r_q19 G y0 y1)) (r_q00 : OF ρ → (List (Str × V)) → (List (Str × V)) → Option Int) (h_r_q00 : ∀ y0 y1, CM (fun G => r_q00 G y0 y1)) (r_q02 : OF ρ → (List V) → (List V) → Option Int) (h_r_q02 : ∀ y0 y1, CM (fun G => r_q02 G y0 y1)) (r_q17 : OF ρ → V → V → Option Int) (h_r_q17 : ∀ y0 y1, CM (fun G => r_q17 G y0 y1)) (a0 a1 : V) : CM (fun G : OF ρ => zjg (r_q19 G) (r_q00 G) (r_q02 G) (r_q17 G) a0 a1) := by
 simp only [zjg]
 repeat (first | exact z0h | exact h_r_q19 _ _ | exact h_r_q00 _ _ | exact h_r_q02 _ _ | exact h_r_q17 _ _ | refine z14 ?_ ?_ | refine z15 ?_ (fun _ => ?_))
inductive C_q19 where
 | k_q19 (a0 : (Str × V)) (a1 : (Str × V))
 | k_q00 (a0 : (List (Str × V))) (a1 : (List (Str × V)))
 | k_q02 (a0 : (List V)) (a1 : (List V))
 | k_q17 (a0 : V) (a1 : V)
def C_q19.R : C_q19 → Type
 | .k_q19 _ _ => Int
 | .k_q00 _ _ => Int
 | .k_q02 _ _ => Int
 | .k_q17 _ _ => Int
noncomputable def C_q19.F (g : ∀ i : C_q19, Option i.R) : ∀ i : C_q19, Option i.R
 | .k_q19 a0 a1 => zjf (fun a0 a1 => g (.k_q19 a0 a1)) (fun a0 a1 => g (.k_q00 a0 a1)) (fun a0 a1 => g (.k_q02 a0 a1)) (fun a0 a1 => g (.k_q17 a0 a1)) a0 a1
 | .k_q00 a0 a1 => zjm (fun a0 a1 => g (.k_q19 a0 a1)) (fun a0 a1 => g (.k_q00 a0 a1)) (fun a0 a1 => g (.k_q02 a0 a1)) (fun a0 a1 => g (.k_q17 a0 a1)) a0 a1
 | .k_q02 a0 a1 => zjl (fun a0 a1 => g (.k_q19 a0 a1)) (fun a0 a1 => g (.k_q00 a0 a1)) (fun a0 a1 => g (.k_q02 a0 a1)) (fun a0 a1 => g (.k_q17 a0 a1)) a0 a1
 | .k_q17 a0 a1 => zjg (fun a0 a1 => g (.k_q19 a0 a1)) (fun a0 a1 => g (.k_q00 a0 a1)) (fun a0 a1 => g (.k_q02 a0 a1)) (fun a0 a1 => g (.k_q17 a0 a1)) a0 a1
noncomputable def zir (a0 a1 : (Str × V)) : Option Int := z3n C_q19.F (.k_q19 a0 a1)
noncomputable def zmr (a0 a1 : (List (Str × V))) : Option Int := z3n C_q19.F (.k_q00 a0 a1)
noncomputable def zmq (a0 a1 : (List V)) : Option Int := z3n C_q19.F (.k_q02 a0 a1)
noncomputable def z97 (a0 a1 : V) : Option Int := z3n C_q19.F (.k_q17 a0 a1)
abbrev gg6 := fun (g : ∀ i : C_q19, Option i.R) a0 a1 => g (.k_q19 a0 a1)
theorem hh6 (a0 a1 : _) : CM (ρ := C_q19.R) (fun g => g (C_q19.k_q19 a0 a1)) := z1j
abbrev gg7 := fun (g : ∀ i : C_q19, Option i.R) a0 a1 => g (.k_q00 a0 a1)
theorem hh7 (a0 a1 : _) : CM (ρ := C_q19.R) (fun g => g (C_q19.k_q00 a0 a1)) := z1j
abbrev gg8 := fun (g : ∀ i : C_q19, Option i.R) a0 a1 => g (.k_q02 a0 a1)
theorem hh8 (a0 a1 : _) : CM (ρ := C_q19.R) (fun g => g (C_q19.k_q02 a0 a1)) := z1j
abbrev gg9 := fun (g : ∀ i : C_q19, Option i.R) a0 a1 => g (.k_q17 a0 a1)
theorem hh9 (a0 a1 : _) : CM (ρ := C_q19.R) (fun g => g (C_q19.k_q17 a0 a1)) := z1j
theorem C_q19.cm (i : C_q19) : CM (fun g : (∀ i : C_q19, Option i.R) => C_q19.F g i) := by
 cases i with
 | k_q19 a0 a1 => exact zua gg6 hh6 gg7 hh7 gg8 hh8 gg9 hh9 a0 a1
 | k_q00 a0 a1 => exact zum gg6 hh6 gg7 hh7 gg8 hh8 gg9 hh9 a0 a1
 | k_q02 a0 a1 => exact zul gg6 hh6 gg7 hh7 gg8 hh8 gg9 hh9 a0 a1
 | k_q17 a0 a1 => exact zub gg6 hh6 gg7 hh7 gg8 hh8 gg9 hh9 a0 a1
theorem Z45 (a0 a1 : (Str × V)) : zir a0 a1 = zjf zir zmr zmq z97 a0 a1 := z1f C_q19.cm (.k_q19 a0 a1)
theorem Z4g (a0 a1 : (List (Str × V))) : zmr a0 a1 = zjm zir zmr zmq z97 a0 a1 := z1f C_q19.cm (.k_q00 a0 a1)
theorem Z4f (a0 a1 : (List V)) : zmq a0 a1 = zjl zir zmr zmq z97 a0 a1 := z1f C_q19.cm (.k_q02 a0 a1)
theorem Z46 (a0 a1 : V) : z97 a0 a1 = zjg zir zmr zmq z97 a0 a1 := z1f C_q19.cm (.k_q17 a0 a1)
def C_q19.Q : ∀ i : C_q19, i.R → Prop
 | .k_q19 a0 a1 => fun (r : Int) => z0k Tryz.prog 70 [(ofFld a0), (ofFld a1)] (I64 r)
 | .k_q00 a0 a1 => fun (r : Int) => z0k Tryz.prog 69 [(PV.sl none 69 2 (List.map ofFld a0)), (PV.sl none 69 2 (List.map ofFld a1)), (PV.fn (.func 70) [] [])] (I64 r)
 | .k_q02 a0 a1 => fun (r : Int) => z0k Tryz.prog 68 [(PV.sl none 20 1 (List.map ofV a0)), (PV.sl none 20 1 (List.map ofV a1)), (PV.fn (.func 38) [] [])] (I64 r)
 | .k_q17 a0 a1 => fun (r : Int) => z0k Tryz.prog 38 [(ofV a0), (ofV a1)] (I64 r)
theorem zep (r_q19 : (Str × V) → (Str × V) → Option Int) (c_q19 : ∀ (a0 : (Str × V)) (a1 : (Str × V)) r, r_q19 a0 a1 = some r → z0k Tryz.prog 70 [(ofFld a0), (ofFld a1)] (I64 r)) (r_q00 : (List (Str × V)) → (List (Str × V)) → Option Int) (c_q00 : ∀ (a0 : (List (Str × V))) (a1 : (List (Str × V))) r, r_q00 a0 a1 = some r → z0k Tryz.prog 69 [(PV.sl none 69 2 (List.map ofFld a0)), (PV.sl none 69 2 (List.map ofFld a1)), (PV.fn (.func 70) [] [])] (I64 r)) (r_q02 : (List V) → (List V) → Option Int) (c_q02 : ∀ (a0 : (List V)) (a1 : (List V)) r, r_q02 a0 a1 = some r → z0k Tryz.prog 68 [(PV.sl none 20 1 (List.map ofV a0)), (PV.sl none 20 1 (List.map ofV a1)), (PV.fn (.func 38) [] [])] (I64 r)) (r_q17 : V → V → Option Int) (c_q17 : ∀ (a0 : V) (a1 : V) r, r_q17 a0 a1 = some r → z0k Tryz.prog 38 [(ofV a0), (ofV a1)] (I64 r)) (a0 a1 : (Str × V)) (r : Int) (h : zjf r_q19 r_q00 r_q02 r_q17 a0 a1 = some r) : z0k Tryz.prog 70 [(ofFld a0), (ofFld a1)] (I64 r) := by
 unfold zjf at h
 refine z0e Tryz.func70 rfl Tryz.ntmps70 Tryz.results70 rfl (z0i ?_)
 change BW _ _ _ ⟨[(0, (ofFld a0)), (1, (ofFld a1))], [], _⟩ _
 refine bR ?_
 iterate 2 refine sX ?_
 refine eX ?_
 refine z0b ?_
 refine bR ?_
 iterate 4 refine sX ?_
 obtain ⟨x1, hx1, h⟩ := obind h
 refine sS rfl rfl rfl (z05 rfl zxr rfl (wkr (wkr .nil)) ⟨rfl, ⟨rfl, trivial⟩⟩ (zwb a0.1 a1.1 x1 hx1) rfl) ?_
 refine eX ?_
 refine bR ?_
 refine sX ?_
 refine eX ?_
 refine cX h rfl ?_ ?_
 intro hc2 h
 refine bR ?_
 refine sX ?_
 refine eX ?_
 obtain rfl := eI h; exact z04 eK
 intro hc2 h
 refine z09 ?_
 refine cBx ?_
 refine bR ?_
 iterate 4 refine sX ?_
 obtain ⟨x3, hx3, h⟩ := obind h
 refine sS rfl rfl rfl (z05 rfl zxw rfl (wkr (wkr .nil)) ⟨(ids_V a0.2), ⟨(ids_V a1.2), trivial⟩⟩ (c_q17 a0.2 a1.2 x3 hx3) rfl) ?_
 refine eX ?_
 obtain rfl := eI h; exact z04 eK
theorem z1n (r_q19 : (Str × V) → (Str × V) → Option Int) (c_q19 : ∀ (a0 : (Str × V)) (a1 : (Str × V)) r, r_q19 a0 a1 = some r → z0k Tryz.prog 70 [(ofFld a0), (ofFld a1)] (I64 r)) (r_q00 : (List (Str × V)) → (List (Str × V)) → Option Int) (c_q00 : ∀ (a0 : (List (Str × V))) (a1 : (List (Str × V))) r, r_q00 a0 a1 = some r → z0k Tryz.prog 69 [(PV.sl none 69 2 (List.map ofFld a0)), (PV.sl none 69 2 (List.map ofFld a1)), (PV.fn (.func 70) [] [])] (I64 r)) (r_q02 : (List V) → (List V) → Option Int) (c_q02 : ∀ (a0 : (List V)) (a1 : (List V)) r, r_q02 a0 a1 = some r → z0k Tryz.prog 68 [(PV.sl none 20 1 (List.map ofV a0)), (PV.sl none 20 1 (List.map ofV a1)), (PV.fn (.func 38) [] [])] (I64 r)) (r_q17 : V → V → Option Int) (c_q17 : ∀ (a0 : V) (a1 : V) r, r_q17 a0 a1 = some r → z0k Tryz.prog 38 [(ofV a0), (ofV a1)] (I64 r)) (a0 a1 : (List (Str × V))) (r : Int) (h : zjm r_q19 r_q00 r_q02 r_q17 a0 a1 = some r) : z0k Tryz.prog 69 [(PV.sl none 69 2 (List.map ofFld a0)), (PV.sl none 69 2 (List.map ofFld a1)), (PV.fn (.func 70) [] [])] (I64 r) := by
 unfold zjm at h
 refine z0e Tryz.func69 rfl Tryz.ntmps69 Tryz.results69 rfl (z0i ?_)
 change BW _ _ _ ⟨[(0, (PV.sl none 69 2 (List.map ofFld a0))), (1, (PV.sl none 69 2 (List.map ofFld a1))), (2, (PV.fn (.func 70) [] []))], [], _⟩ _
 refine bR ?_
 refine eX ?_
 refine z0b ?_
 refine bR ?_
 iterate 2 refine sX ?_
 refine eX ?_
 refine z0m ?_
 refine cBx ?_
 unfold zdr at h
 refine lX (σ := Nat) (fun i => [(0, (PV.sl none 69 2 (List.map ofFld a0))), (1, (PV.sl none 69 2 (List.map ofFld a1))), (2, (PV.fn (.func 70) [] [])), (11, (PV.sl none 69 2 (List.map ofFld a0))), (12, (I64 ((((a0).length : Nat) : Int)))), (13, (I64 (((i : Nat) : Int))))]) (fun i => []) 0 h ?_ ?_
 exact jN
 rintro g1_f s1 h; replace h : z5k r_q19 a0 a1 (fun y0 => g1_f y0) s1 = some r := h; unfold z5k at h
 change BW _ _ _ ⟨[(0, (PV.sl none 69 2 (List.map ofFld a0))), (1, (PV.sl none 69 2 (List.map ofFld a1))), (2, (PV.fn (.func 70) [] [])), (11, (PV.sl none 69 2 (List.map ofFld a0))), (12, (I64 ((((a0).length : Nat) : Int)))), (13, (I64 (((s1 : Nat) : Int))))], [], _⟩ _
 refine bR ?_
 refine eX ?_
 refine z0b ?_
 refine z4u (t := 11) rfl fun hb3 => ?_
 try rw [List.length_map] at hb3
 refine cX h rfl ?_ ?_
 intro hc2 h
 have hc2_ := of_decide_eq_true hc2
 refine z09 ?_
 refine cBx ?_
 refine z0b ?_
 refine z0m ?_
 refine cBx ?_
 refine bR ?_
 refine sX ?_
 obtain ⟨x4, hx4, h⟩ := obind h
 refine sS rfl rfl rfl (z1m (i := s1) Tryz.underlying71 z0v rfl rfl rfl hx4 rfl) ?_
 refine sX ?_
 refine sS rfl rfl rfl ((z1t z0v rfl).cast (H'' := [.box 69 [(z0n []), (ofV V.nil)]]) rfl (by simp only [mk_nil]; rfl)) ?_
 refine sX ?_
 refine z1g rfl rfl (z18 z0v rfl rfl rfl rfl rfl rfl (lbE rfl) (by show List.all [(z0n x4.1), (ofV x4.2)] z6u = true; simp only [List.all_cons, List.all_nil, zd6, z52, Bool.and_true, Bool.true_and]; try rfl)) ?_
 refine z0d ?_
 refine cBx ?_
 refine z0b ?_
 refine bR ?_
 iterate 3 refine sX ?_
 refine eX ?_
 refine cX h rfl ?_ ?_
 intro hc5 h
 refine bR ?_
 refine eX ?_
 obtain rfl := eI h; exact z04 eK
 intro hc5 h
 refine z09 ?_
 refine cBx ?_
 refine bR ?_
 iterate 2 refine sX ?_
 obtain ⟨x6, hx6, h⟩ := obind h
 refine sS rfl rfl rfl (z1m (i := s1) Tryz.underlying71 z0v rfl rfl rfl hx6 rfl) ?_
 refine sX ?_
 refine sS rfl rfl rfl ((z1t z0v rfl).cast (H'' := [.box 69 [(z0n x4.1), (ofV x4.2)], .box 69 [(z0n []), (ofV V.nil)]]) rfl (by simp only [mk_nil]; rfl)) ?_
 refine z1g rfl rfl (z18 z0v rfl rfl rfl rfl rfl rfl (lbE rfl) (by show List.all [(z0n x6.1), (ofV x6.2)] z6u = true; simp only [List.all_cons, List.all_nil, zd6, z52, Bool.and_true, Bool.true_and]; try rfl)) ?_
 refine z0d ?_
 refine cBx ?_
 refine bR ?_
 iterate 3 refine sX ?_
 obtain ⟨x7, hx7, h⟩ := obind h
 refine sS rfl rfl rfl (z5w rfl rfl Z3k rfl (wkr (wkr .nil)) ⟨(z0s x4), ⟨(z0s x6), trivial⟩⟩ (c_q19 x4 x6 x7 hx7) rfl) ?_
 refine eX ?_
 refine bR ?_
 refine sX ?_
 refine eX ?_
 refine cX h rfl ?_ ?_
 intro hc8 h
 refine bR ?_
 refine sX ?_
 refine eX ?_
 obtain rfl := eI h; exact z04 eK
 intro hc8 h
 refine z09 ?_
 refine cBx ?_
 refine z0g ?_
 refine sS rfl rfl rfl (z2p (k := s1) (c := 1) rfl rfl rfl (by omega)) ?_
 refine sX (z0d ?_)
 exact ⟨rfl, (s1 + 1), h, jN⟩
 intro hc2 h
 refine z2c ?_
 refine cBx ?_
 refine z0b ?_
 refine bR ?_
 iterate 4 refine sX ?_
 refine eX ?_
 refine cX h rfl ?_ ?_
 intro hc9 h
 refine bR ?_
 refine eX ?_
 obtain rfl := eI h; exact z04 eK
 intro hc9 h
 refine z09 ?_
 refine cBx ?_
 refine bR ?_
 refine eX ?_
 obtain rfl := eI h; exact z04 eK
theorem z1v (r_q19 : (Str × V) → (Str × V) → Option Int) (c_q19 : ∀ (a0 : (Str × V)) (a1 : (Str × V)) r, r_q19 a0 a1 = some r → z0k Tryz.prog 70 [(ofFld a0), (ofFld a1)] (I64 r)) (r_q00 : (List (Str × V)) → (List (Str × V)) → Option Int) (c_q00 : ∀ (a0 : (List (Str × V))) (a1 : (List (Str × V))) r, r_q00 a0 a1 = some r → z0k Tryz.prog 69 [(PV.sl none 69 2 (List.map ofFld a0)), (PV.sl none 69 2 (List.map ofFld a1)), (PV.fn (.func 70) [] [])] (I64 r)) (r_q02 : (List V) → (List V) → Option Int) (c_q02 : ∀ (a0 : (List V)) (a1 : (List V)) r, r_q02 a0 a1 = some r → z0k Tryz.prog 68 [(PV.sl none 20 1 (List.map ofV a0)), (PV.sl none 20 1 (List.map ofV a1)), (PV.fn (.func 38) [] [])] (I64 r)) (r_q17 : V → V → Option Int) (c_q17 : ∀ (a0 : V) (a1 : V) r, r_q17 a0 a1 = some r → z0k Tryz.prog 38 [(ofV a0), (ofV a1)] (I64 r)) (a0 a1 : (List V)) (r : Int) (h : zjl r_q19 r_q00 r_q02 r_q17 a0 a1 = some r) : z0k Tryz.prog 68 [(PV.sl none 20 1 (List.map ofV a0)), (PV.sl none 20 1 (List.map ofV a1)), (PV.fn (.func 38) [] [])] (I64 r) := by
 unfold zjl at h
 refine z0e Tryz.func68 rfl Tryz.ntmps68 Tryz.results68 rfl (z0i ?_)
 change BW _ _ _ ⟨[(0, (PV.sl none 20 1 (List.map ofV a0))), (1, (PV.sl none 20 1 (List.map ofV a1))), (2, (PV.fn (.func 38) [] []))], [], _⟩ _
 refine bR ?_
 refine eX ?_
 refine z0b ?_
 refine bR ?_
 iterate 2 refine sX ?_
 refine eX ?_
 refine z0m ?_
 refine cBx ?_
 unfold zdq at h
 refine lX (σ := Nat) (fun i => [(0, (PV.sl none 20 1 (List.map ofV a0))), (1, (PV.sl none 20 1 (List.map ofV a1))), (2, (PV.fn (.func 38) [] [])), (11, (PV.sl none 20 1 (List.map ofV a0))), (12, (I64 ((((a0).length : Nat) : Int)))), (13, (I64 (((i : Nat) : Int))))]) (fun i => []) 0 h ?_ ?_
 exact jN
 rintro g1_f s1 h; replace h : z5j r_q17 a0 a1 (fun y0 => g1_f y0) s1 = some r := h; unfold z5j at h
 change BW _ _ _ ⟨[(0, (PV.sl none 20 1 (List.map ofV a0))), (1, (PV.sl none 20 1 (List.map ofV a1))), (2, (PV.fn (.func 38) [] [])), (11, (PV.sl none 20 1 (List.map ofV a0))), (12, (I64 ((((a0).length : Nat) : Int)))), (13, (I64 (((s1 : Nat) : Int))))], [], _⟩ _
 refine bR ?_
 refine eX ?_
 refine z0b ?_
 refine z4u (t := 11) rfl fun hb3 => ?_
 try rw [List.length_map] at hb3
 refine cX h rfl ?_ ?_
 intro hc2 h
 have hc2_ := of_decide_eq_true hc2
 refine z09 ?_
 refine cBx ?_
 refine z0b ?_
 refine z0m ?_
 refine cBx ?_
 refine bR ?_
 refine sX ?_
 obtain ⟨x4, hx4, h⟩ := obind h
 refine sS rfl rfl rfl (z1m (i := s1) Tryz.underlying67 z29 rfl rfl rfl hx4 rfl) ?_
 refine sS rfl rfl rfl (z44 (y := (ofV x4)) Tryz.underlying20 rfl rfl rfl (by rw [z0x]; rfl)) ?_
 refine sX ?_
 refine eX ?_
 refine z0b ?_
 refine bR ?_
 iterate 3 refine sX ?_
 refine eX ?_
 refine cX h rfl ?_ ?_
 intro hc5 h
 refine bR ?_
 refine eX ?_
 obtain rfl := eI h; exact z04 eK
 intro hc5 h
 refine z09 ?_
 refine cBx ?_
 refine bR ?_
 iterate 2 refine sX ?_
 obtain ⟨x6, hx6, h⟩ := obind h
 refine sS rfl rfl rfl (z1m (i := s1) Tryz.underlying67 z29 rfl rfl rfl hx6 rfl) ?_
 refine sS rfl rfl rfl (z44 (y := (ofV x6)) Tryz.underlying20 rfl rfl rfl (by rw [z0x]; rfl)) ?_
 refine eX ?_
 refine bR ?_
 iterate 3 refine sX ?_
 obtain ⟨x7, hx7, h⟩ := obind h
 refine sS rfl rfl rfl (z5w rfl rfl zxw rfl (wkr (wkr .nil)) ⟨(ids_V x4), ⟨(ids_V x6), trivial⟩⟩ (c_q17 x4 x6 x7 hx7) rfl) ?_
 refine eX ?_
 refine bR ?_
 refine sX ?_
 refine eX ?_
 refine cX h rfl ?_ ?_
 intro hc8 h
 refine bR ?_
 refine sX ?_
 refine eX ?_
 obtain rfl := eI h; exact z04 eK
 intro hc8 h
 refine z09 ?_
 refine cBx ?_
 refine z0g ?_
 refine sS rfl rfl rfl (z2p (k := s1) (c := 1) rfl rfl rfl (by omega)) ?_
 refine sX (z0d ?_)
 exact ⟨rfl, (s1 + 1), h, jN⟩
 intro hc2 h
 refine z2c ?_
 refine cBx ?_
 refine z0b ?_
 refine bR ?_
 iterate 4 refine sX ?_
 refine eX ?_
 refine cX h rfl ?_ ?_
 intro hc9 h
 refine bR ?_
 refine eX ?_
 obtain rfl := eI h; exact z04 eK
 intro hc9 h
 refine z09 ?_
 refine cBx ?_
 refine bR ?_
 refine eX ?_
 obtain rfl := eI h; exact z04 eK
theorem zeo (r_q19 : (Str × V) → (Str × V) → Option Int) (c_q19 : ∀ (a0 : (Str × V)) (a1 : (Str × V)) r, r_q19 a0 a1 = some r → z0k Tryz.prog 70 [(ofFld a0), (ofFld a1)] (I64 r)) (r_q00 : (List (Str × V)) → (List (Str × V)) → Option Int) (c_q00 : ∀ (a0 : (List (Str × V))) (a1 : (List (Str × V))) r, r_q00 a0 a1 = some r → z0k Tryz.prog 69 [(PV.sl none 69 2 (List.map ofFld a0)), (PV.sl none 69 2 (List.map ofFld a1)), (PV.fn (.func 70) [] [])] (I64 r)) (r_q02 : (List V) → (List V) → Option Int) (c_q02 : ∀ (a0 : (List V)) (a1 : (List V)) r, r_q02 a0 a1 = some r → z0k Tryz.prog 68 [(PV.sl none 20 1 (List.map ofV a0)), (PV.sl none 20 1 (List.map ofV a1)), (PV.fn (.func 38) [] [])] (I64 r)) (r_q17 : V → V → Option Int) (c_q17 : ∀ (a0 : V) (a1 : V) r, r_q17 a0 a1 = some r → z0k Tryz.prog 38 [(ofV a0), (ofV a1)] (I64 r)) (a0 a1 : V) (r : Int) (h : zjg r_q19 r_q00 r_q02 r_q17 a0 a1 = some r) : z0k Tryz.prog 38 [(ofV a0), (ofV a1)] (I64 r) := by
 unfold zjg at h
 refine z0e Tryz.func38 rfl Tryz.ntmps38 Tryz.results38 rfl (z0i ?_)
 change BW _ _ _ ⟨[(0, (ofV a0)), (1, (ofV a1))], [], _⟩ _
 refine bR ?_
 refine eX ?_
 refine z0b ?_
 refine bR ?_
 refine sX ?_
 obtain ⟨x1, hx1, h⟩ := obind h
 refine sS rfl rfl rfl (z05 rfl ztp rfl (wkr .nil) ⟨(ids_V a0), trivial⟩ (zrn a0 x1 hx1) rfl) ?_
 refine sX ?_
 obtain ⟨x2, hx2, h⟩ := obind h
 refine sS rfl rfl rfl (z05 rfl ztp rfl (wkr .nil) ⟨(ids_V a1), trivial⟩ (zrn a1 x2 hx2) rfl) ?_
 obtain ⟨x3, hx3, h⟩ := obind h
 refine sS rfl rfl rfl (z05 rfl zxs rfl (wkr (wkr .nil)) ⟨rfl, ⟨rfl, trivial⟩⟩ (zwa x1 x2 x3 hx3) rfl) ?_
 refine eX ?_
 refine bR ?_
 refine sX ?_
 refine eX ?_
 refine cX h rfl ?_ ?_
 intro hc4 h
 refine bR ?_
 refine sX ?_
 refine eX ?_
 obtain rfl := eI h; exact z04 eK
 intro hc4 h
 refine z09 ?_
 refine cBx ?_
 refine z0b ?_
 refine bR ?_
 refine eX ?_
 refine z0m ?_
 refine cBx ?_
 refine bR ?_
 refine sS rfl rfl rfl (zdt rfl rfl) ?_
 refine sX ?_
 refine eX ?_
 refine cX h rfl ?_ ?_
 intro hc5 h
 refine bR ?_
 refine eX ?_
 refine z0b (z1z 4 [] [] mo (by kernel_rfl) ?_)
 refine gX ?_
 obtain ⟨x6, hx6, h⟩ := obind h
 refine z1o rfl rfl rfl rfl (fun H hp => z05 rfl Z0z rfl (wkr .nil) ⟨rfl, trivial⟩ (zz5 ((a0).asBool) x6 hx6) rfl) ?_
 refine gX ?_
 obtain ⟨x7, hx7, h⟩ := obind h
 refine z1o rfl rfl rfl rfl (fun H hp => zmw rfl rfl hx7) ?_
 refine z24 ?_
 change AO _ _ _ _ _
 obtain ⟨x8, hx8, h⟩ := obind h
 refine sS rfl rfl rfl (z05 rfl Z0z rfl (wkr .nil) ⟨rfl, trivial⟩ (zz5 x7 x8 hx8) rfl) ?_
 obtain ⟨x9, hx9, h⟩ := obind h
 refine sS rfl rfl rfl (z05 rfl zxs rfl (wkr (wkr .nil)) ⟨rfl, ⟨rfl, trivial⟩⟩ (zwa x6 x8 x9 hx9) rfl) ?_
 refine eX ?_
 obtain rfl := eI h; exact z04 eK
 intro hc5 h
 refine bR ?_
 refine sS rfl rfl rfl (zh3 rfl rfl) ?_
 refine sX ?_
 refine eX ?_
 refine cX h rfl ?_ ?_
 intro hc10 h
 refine bR ?_
 refine eX ?_
 refine bR ?_
 iterate 2 refine sX ?_
 obtain ⟨x11, hx11, h⟩ := obind h
 refine sS rfl rfl rfl (zpe rfl rfl hx11) ?_
 obtain ⟨x12, hx12, h⟩ := obind h
 refine sS rfl rfl rfl (z05 rfl Z3p rfl (wkr (wkr .nil)) ⟨rfl, ⟨rfl, trivial⟩⟩ (Z2e ((a0).asInt) x11 x12 hx12) rfl) ?_
 refine eX ?_
 obtain rfl := eI h; exact z04 eK
 intro hc10 h
 refine bR ?_
 refine sS rfl rfl rfl (zcf rfl rfl) ?_
 refine sX ?_
 refine eX ?_
 refine cX h rfl ?_ ?_
 intro hc13 h
 refine bR ?_
 refine eX ?_
 refine z0b (z1z 4 [] [] mo (by kernel_rfl) ?_)
 refine gX ?_
 obtain ⟨x14, hx14, h⟩ := obind h
 refine z1o rfl rfl rfl rfl (fun H hp => z05 rfl Z0y rfl (wkr .nil) ⟨rfl, trivial⟩ (zz6 ((a0).asFloat) x14 hx14) rfl) ?_
 refine gX ?_
 obtain ⟨x15, hx15, h⟩ := obind h
 refine z1o rfl rfl rfl rfl (fun H hp => zix rfl rfl hx15) ?_
 refine z24 ?_
 change AO _ _ _ _ _
 obtain ⟨x16, hx16, h⟩ := obind h
 refine sS rfl rfl rfl (z05 rfl Z0y rfl (wkr .nil) ⟨rfl, trivial⟩ (zz6 x15 x16 hx16) rfl) ?_
 obtain ⟨x17, hx17, h⟩ := obind h
 refine sS rfl rfl rfl (z05 rfl Z3o rfl (wkr (wkr .nil)) ⟨rfl, ⟨rfl, trivial⟩⟩ (Z2g x14 x16 x17 hx17) rfl) ?_
 refine eX ?_
 obtain rfl := eI h; exact z04 eK
 intro hc13 h
 refine bR ?_
 refine sS rfl rfl rfl (zaa rfl rfl) ?_
 refine sX ?_
 refine eX ?_
 refine cX h rfl ?_ ?_
 intro hc18 h
 refine bR ?_
 refine eX ?_
 refine bR ?_
 iterate 2 refine sX ?_
 obtain ⟨x19, hx19, h⟩ := obind h
 refine sS rfl rfl rfl (zmt rfl rfl hx19) ?_
 obtain ⟨x20, hx20, h⟩ := obind h
 refine sS rfl rfl rfl (z05 rfl zxr rfl (wkr (wkr .nil)) ⟨rfl, ⟨rfl, trivial⟩⟩ (zwb ((a0).asText) x19 x20 hx20) rfl) ?_
 refine eX ?_
 obtain rfl := eI h; exact z04 eK
 intro hc18 h
 refine bR ?_
 refine sS rfl rfl rfl (z6i rfl rfl) ?_
 refine sX ?_
 refine eX ?_
 refine cX h rfl ?_ ?_
 intro hc21 h
 refine bR ?_
 refine eX ?_
 refine bR ?_
 iterate 2 refine sX ?_
 obtain ⟨x22, hx22, h⟩ := obind h
 refine sS rfl rfl rfl (ziy rfl rfl hx22) ?_
 obtain ⟨x23, hx23, h⟩ := obind h
 refine sS rfl rfl rfl (z05 rfl Z3n rfl (wkr (wkr .nil)) ⟨(z07 (fun _ => rfl) ((a0).asBytes)), ⟨(z07 (fun _ => rfl) x22), trivial⟩⟩ (Z2n ((a0).asBytes) x22 x23 hx23) rfl) ?_
 refine eX ?_
 obtain rfl := eI h; exact z04 eK
 intro hc21 h
 refine bR ?_
 refine sS rfl rfl rfl (zh2 rfl rfl) ?_
 refine sX ?_
 refine eX ?_
 refine cX h rfl ?_ ?_
 intro hc24 h
 refine bR ?_
 refine eX ?_
 refine bR ?_
 iterate 2 refine sX ?_
 obtain ⟨x25, hx25, h⟩ := obind h
 refine sS rfl rfl rfl (zpc rfl rfl hx25) ?_
 obtain ⟨x26, hx26, h⟩ := obind h
 refine sS rfl rfl rfl (z05 rfl Z3m rfl (wkr (wkr .nil)) ⟨rfl, ⟨rfl, trivial⟩⟩ (Z2j ((a0).asRef) x25 x26 hx26) rfl) ?_
 refine eX ?_
 obtain rfl := eI h; exact z04 eK
 intro hc24 h
 refine bR ?_
 refine sS rfl rfl rfl (z1u rfl rfl) ?_
 refine sX ?_
 refine eX ?_
 refine cX h rfl ?_ ?_
 intro hc27 h
 refine bR ?_
 refine eX ?_
 refine bR ?_
 iterate 2 refine sX ?_
 obtain ⟨x28, hx28, h⟩ := obind h
 refine sS rfl rfl rfl (zmu rfl rfl hx28) ?_
 obtain ⟨x29, hx29, h⟩ := obind h
 refine sS rfl rfl rfl (z05 rfl Z3l rfl (wkr (wkr (wkr .nil))) ⟨(z07 ids_V ((a0).asList)), ⟨(z07 ids_V x28), ⟨rfl, trivial⟩⟩⟩ (c_q02 ((a0).asList) x28 x29 hx29) rfl) ?_
 refine eX ?_
 obtain rfl := eI h; exact z04 eK
 intro hc27 h
 refine bR ?_
 refine sS rfl rfl rfl (z2r rfl rfl) ?_
 refine sX ?_
 refine eX ?_
 refine cX h rfl ?_ ?_
 intro hc30 h
 refine bR ?_
 refine eX ?_
 refine bR ?_
 iterate 2 refine sX ?_
 obtain ⟨x31, hx31, h⟩ := obind h
 refine sS rfl rfl rfl (zmv rfl rfl hx31) ?_
 obtain ⟨x32, hx32, h⟩ := obind h
 refine sS rfl rfl rfl (z05 rfl Z0x rfl (wkr (wkr (wkr .nil))) ⟨(z07 z0s ((a0).asDict)), ⟨(z07 z0s x31), ⟨rfl, trivial⟩⟩⟩ (c_q00 ((a0).asDict) x31 x32 hx32) rfl) ?_
 refine eX ?_
 obtain rfl := eI h; exact z04 eK
 intro hc30 h
 refine bR ?_
 refine sS rfl rfl rfl (z39 rfl rfl) ?_
 refine sX ?_
 refine eX ?_
 refine cX h rfl ?_ ?_
 intro hc33 h
 refine bR ?_
 refine eX ?_
 refine bR ?_
 refine sX ?_
 obtain ⟨x34, hx34, h⟩ := obind h
 refine sS rfl rfl rfl (zpd rfl rfl hx34) ?_
 refine eX ?_
 refine z0b ?_
 refine z0b (z1z 8 [] [] mo (by kernel_rfl) ?_)
 refine gX ?_
 obtain ⟨x35, hx35, h⟩ := obind h
 refine z1o rfl rfl rfl rfl (fun H hp => z1k rfl rfl hx35) ?_
 iterate 3 refine gX ?_
 obtain ⟨x36, hx36, h⟩ := obind h
 refine z1o rfl rfl rfl rfl (fun H hp => z1k rfl rfl hx36) ?_
 iterate 2 refine gX ?_
 refine z24 ?_
 change AO _ _ _ _ _
 obtain ⟨x37, hx37, h⟩ := obind h
 refine sS rfl rfl rfl (z05 rfl zxr rfl (wkr (wkr .nil)) ⟨rfl, ⟨rfl, trivial⟩⟩ (zwb x35.cls x36.cls x37 hx37) rfl) ?_
 refine eX ?_
 refine bR ?_
 refine sX ?_
 refine eX ?_
 refine cX h rfl ?_ ?_
 intro hc38 h
 refine bR ?_
 refine sX ?_
 refine eX ?_
 obtain rfl := eI h; exact z04 eK
 intro hc38 h
 refine z09 ?_
 refine cBx ?_
 refine z0b ?_
 refine z0b (z1z 8 [] [] mo (by kernel_rfl) ?_)
 refine gX ?_
 refine z1o rfl rfl rfl rfl (fun H hp => z1k rfl rfl hx35) ?_
 iterate 3 refine gX ?_
 refine z1o rfl rfl rfl rfl (fun H hp => z1k rfl rfl hx36) ?_
 iterate 2 refine gX ?_
 refine z24 ?_
 change AO _ _ _ _ _
 obtain ⟨x39, hx39, h⟩ := obind h
 refine sS rfl rfl rfl (z05 rfl zxs rfl (wkr (wkr .nil)) ⟨rfl, ⟨rfl, trivial⟩⟩ (zwa x35.ver x36.ver x39 hx39) rfl) ?_
 refine eX ?_
 refine bR ?_
 refine sX ?_
 refine eX ?_
 refine cX h rfl ?_ ?_
 intro hc40 h
 refine bR ?_
 refine sX ?_
 refine eX ?_
 obtain rfl := eI h; exact z04 eK
 intro hc40 h
 refine z09 ?_
 refine cBx ?_
 refine z0b (z1z 8 [] [] mo (by kernel_rfl) ?_)
 refine gX ?_
 refine z1o rfl rfl rfl rfl (fun H hp => z1k rfl rfl hx35) ?_
 iterate 3 refine gX ?_
 refine z1o rfl rfl rfl rfl (fun H hp => z1k rfl rfl hx36) ?_
 iterate 2 refine gX ?_
 refine z24 ?_
 change AO _ _ _ _ _
 obtain ⟨x41, hx41, h⟩ := obind h
 refine sS rfl rfl rfl (z05 rfl Z0x rfl (wkr (wkr (wkr .nil))) ⟨(z07 z0s x35.fields), ⟨(z07 z0s x36.fields), ⟨rfl, trivial⟩⟩⟩ (c_q00 x35.fields x36.fields x41 hx41) rfl) ?_
 refine eX ?_
 obtain rfl := eI h; exact z04 eK
 intro hc33 h
 refine z09 ?_
 refine cBx ?_
 refine bR ?_
 refine eX ?_
 obtain rfl := eI h; exact z04 eK
theorem C_q19.sound : ∀ (i : C_q19) (r : i.R), z3n C_q19.F i = some r → C_q19.Q i r := by
 refine z4b (Φ := C_q19.F) (Q := C_q19.Q) ?_
 intro g hg i r h
 cases i with
 | k_q19 a0 a1 => exact zep (fun a0 a1 => g (.k_q19 a0 a1)) (fun a0 a1 r hr => hg (.k_q19 a0 a1) r hr) (fun a0 a1 => g (.k_q00 a0 a1)) (fun a0 a1 r hr => hg (.k_q00 a0 a1) r hr) (fun a0 a1 => g (.k_q02 a0 a1)) (fun a0 a1 r hr => hg (.k_q02 a0 a1) r hr) (fun a0 a1 => g (.k_q17 a0 a1)) (fun a0 a1 r hr => hg (.k_q17 a0 a1) r hr) a0 a1 r h
 | k_q00 a0 a1 => exact z1n (fun a0 a1 => g (.k_q19 a0 a1)) (fun a0 a1 r hr => hg (.k_q19 a0 a1) r hr) (fun a0 a1 => g (.k_q00 a0 a1)) (fun a0 a1 r hr => hg (.k_q00 a0 a1) r hr) (fun a0 a1 => g (.k_q02 a0 a1)) (fun a0 a1 r hr => hg (.k_q02 a0 a1) r hr) (fun a0 a1 => g (.k_q17 a0 a1)) (fun a0 a1 r hr => hg (.k_q17 a0 a1) r hr) a0 a1 r h
 | k_q02 a0 a1 => exact z1v (fun a0 a1 => g (.k_q19 a0 a1)) (fun a0 a1 r hr => hg (.k_q19 a0 a1) r hr) (fun a0 a1 => g (.k_q00 a0 a1)) (fun a0 a1 r hr => hg (.k_q00 a0 a1) r hr) (fun a0 a1 => g (.k_q02 a0 a1)) (fun a0 a1 r hr => hg (.k_q02 a0 a1) r hr) (fun a0 a1 => g (.k_q17 a0 a1)) (fun a0 a1 r hr => hg (.k_q17 a0 a1) r hr) a0 a1 r h
 | k_q17 a0 a1 => exact zeo (fun a0 a1 => g (.k_q19 a0 a1)) (fun a0 a1 r hr => hg (.k_q19 a0 a1) r hr) (fun a0 a1 => g (.k_q00 a0 a1)) (fun a0 a1 r hr => hg (.k_q00 a0 a1) r hr) (fun a0 a1 => g (.k_q02 a0 a1)) (fun a0 a1 r hr => hg (.k_q02 a0 a1) r hr) (fun a0 a1 => g (.k_q17 a0 a1)) (fun a0 a1 r hr => hg (.k_q17 a0 a1) r hr) a0 a1 r h
theorem Z27 (a0 a1 : V) (r : Int) (h : z97 a0 a1 = some r) : z0k Tryz.prog 38 [(ofV a0), (ofV a1)] (I64 r) := C_q19.sound (.k_q17 a0 a1) r h
noncomputable def zgx (a0 a1 : V) : Option Bool :=
 (zgy a0).bind fun x1 =>
 (zgy a1).bind fun x2 =>
 bif (x1.2 == 0) then (
 bif (x2.2 == 0) then (
 (z97 a0 a1).bind fun x5 =>
 some (x5 == 0)
 ) else (
 some false
 )
 ) else (
 some false
 )
theorem zro (a0 a1 : V) (r : Bool) (h : zgx a0 a1 = some r) : z0k Tryz.prog 12 [(ofV a0), (ofV a1)] (BO r) := by
 unfold zgx at h
 refine z0e Tryz.func12 rfl Tryz.ntmps12 Tryz.results12 rfl (z0i ?_)
 change BW _ _ _ ⟨[(0, (ofV a0)), (1, (ofV a1))], [], _⟩ _
 refine bR ?_
 refine eX ?_
 refine bR ?_
 refine sX ?_
 obtain ⟨x1, hx1, h⟩ := obind h
 refine sS rfl rfl rfl (z05 rfl ztq rfl (wkr .nil) ⟨(ids_V a0), trivial⟩ (zrp a0 x1 hx1) (z00 rfl (z00 rfl z02))) ?_
 iterate 4 refine sX ?_
 refine eX ?_
 refine bR ?_
 refine sX ?_
 obtain ⟨x2, hx2, h⟩ := obind h
 refine sS rfl rfl rfl (z05 rfl ztq rfl (wkr .nil) ⟨(ids_V a1), trivial⟩ (zrp a1 x2 hx2) (z00 rfl (z00 rfl z02))) ?_
 iterate 4 refine sX ?_
 refine eX ?_
 refine bR ?_
 iterate 3 refine sX ?_
 refine z0j (t := 21) rfl ?_ ?_
 intro hb3; replace h := z0o hb3 h
 iterate 2 refine yX ?_
 iterate 2 refine sX ?_
 refine z0j (t := 25) rfl ?_ ?_
 intro hb4; replace h := z0o hb4 h
 iterate 2 refine yX ?_
 obtain ⟨x5, hx5, h⟩ := obind h
 refine z1h rfl rfl rfl rfl rfl rfl (z05 rfl zxw rfl (wkr (wkr .nil)) ⟨(ids_V a0), ⟨(ids_V a1), trivial⟩⟩ (Z27 a0 a1 x5 hx5) rfl) ?_
 refine yX ?_
 refine sX ?_
 refine eX ?_
 obtain rfl := eI h; exact z04 eK
 intro hb4; replace h := z0p hb4 h
 iterate 4 refine nX ?_
 refine sX ?_
 refine eX ?_
 obtain rfl := eI h; exact z04 eK
 intro hb3; replace h := z0p hb3 h
 iterate 2 refine nX ?_
 iterate 2 refine sX ?_
 iterate 4 refine nX ?_
 refine sX ?_
 refine eX ?_
 obtain rfl := eI h; exact z04 eK
noncomputable def zsf (a0 : (List S_api_Step)) : Option (List S_api_Step) :=
 some a0
theorem Z2p (a0 r : (List S_api_Step)) (h : zsf a0 = some r) : z7n Tryz.prog 80 [(PV.sl none 83 3 (List.map z03 a0))] [] (PV.sl (some 0) 83 3 (List.map z03 r)) [.arr 83 (r).length] := by
 unfold zsf at h
 refine z0e Tryz.func80 rfl Tryz.ntmps80 Tryz.results80 rfl (z0i ?_)
 change BW _ _ _ ⟨[(0, (PV.sl none 83 3 (List.map z03 a0)))], [], _⟩ _
 refine bR ?_
 refine eX ?_
 refine bR ?_
 iterate 5 refine sX ?_
 refine sS rfl rfl rfl (zpq Tryz.underlying30 z13 rfl rfl rfl rfl) ?_
 refine eX ?_
 obtain rfl := eI h; exact z04 ⟨_, rfl, Z0q (y := (PV.sl (some 0) 83 3 (List.map z03 a0))) 0 rfl (Wk.refl _) (zn3 (z1a z01 _)) (zdg (z1a z01 _) rfl) ⟨rfl, rfl⟩⟩
noncomputable def za9 (a0 : S_api_Step) (a1 : (List S_api_Step)) : Option (List S_api_Step) :=
 (zsf a1).bind fun x1 =>
 (z9p 32 x1 ([a0] : (List S_api_Step))).bind fun x2 =>
 some x2
theorem zls (a0 : S_api_Step) (a1 r : (List S_api_Step)) (h : za9 a0 a1 = some r) : z0k Tryz.prog 79 [(z03 a0), (PV.pt 30 (PV.sl none 83 3 (List.map z03 a1)) 0)] (PV.sl none 83 3 (List.map z03 r)) := by
 unfold za9 at h
 refine z0e Tryz.func79 rfl Tryz.ntmps79 Tryz.results79 rfl (z0i ?_)
 change BW _ _ _ ⟨[(0, (z03 a0)), (1, (PV.pt 30 (PV.sl none 83 3 (List.map z03 a1)) 0))], [], _⟩ _
 refine bR ?_
 refine sX ?_
 refine eX ?_
 refine z0b (z1z 4 [1] [0] mo (by kernel_rfl) ?_)
 refine gX ?_
 obtain ⟨x1, hx1, h⟩ := obind h
 refine z9o rfl rfl rfl rfl (z78 rfl Z3f rfl (wkr .nil) ⟨(z07 z01 a1), trivial⟩ (Z2p a1 x1 hx1) (zdg (z1a z01 _) rfl) rfl) ⟨rfl, trivial⟩ ?_
 refine gX ?_
 refine z1o rfl rfl rfl rfl (fun H hp => (zj1 (xs := [(PV.agg [(z0n a0.f_Name), (BO a0.f_At), (I64 a0.f_Index)])]) Tryz.underlying30 z13 rfl rfl rfl rfl rfl rfl ⟨lbE rfl, lbE rfl⟩ rfl).cast (y := (PV.sl none 83 3 (List.map z03 ([a0] : (List S_api_Step))))) rfl rfl) ?_
 refine z24 ?_
 change AO _ _ _ _ _
 obtain ⟨x2, hx2, h⟩ := obind h
 refine sS rfl rfl rfl (z34 Tryz.underlying30 z13 rfl Tryz.underlying30 rfl rfl rfl rfl z3x z3f hx2 rfl) ?_
 refine eX ?_
 obtain rfl := eI h; exact z04 ⟨_, rfl, z0f (y := (PV.sl none 83 3 (List.map z03 x2))) Wk.tok (z07 z01 x2) ⟨rfl, rfl⟩⟩
noncomputable def zsg (a0 : (List S_api_Step)) : Option (List S_api_Step) :=
 (z9p 32 ([] : (List S_api_Step)) a0).bind fun x2 =>
 some x2
theorem Z2q (a0 r : (List S_api_Step)) (h : zsg a0 = some r) : z0k Tryz.prog 47 [(PV.sl none 83 3 (List.map z03 a0))] (PV.sl none 83 3 (List.map z03 r)) := by
 unfold zsg at h
 refine z0e Tryz.func47 rfl Tryz.ntmps47 Tryz.results47 rfl (z0i ?_)
 change BW _ _ _ ⟨[(0, (PV.sl none 83 3 (List.map z03 a0)))], [], _⟩ _
 refine bR ?_
 refine eX ?_
 refine z0b ?_
 refine bR ?_
 refine sX ?_
 refine zcz rfl rfl rfl Tryz.underlying30 rfl rfl ?_
 intro nb1 hnb1
 refine z0d ?_
 refine cBx ?_
 cases nb1
 refine zfh rfl ?_
 refine z09 ?_
 refine cBx ?_
 refine bR ?_
 refine sS rfl rfl rfl ((z19 (xs := []) Tryz.underlying30 z13 rfl rfl rfl rfl rfl rfl ⟨lbE rfl, lbE rfl⟩ rfl).cast (y := (PV.sl (some 0) 83 3 (List.map z03 ([] : (List S_api_Step))))) rfl rfl) ?_
 refine sX ?_
 obtain ⟨x2, hx2, h⟩ := obind h
 refine sS rfl rfl rfl (z34 Tryz.underlying30 z13 rfl Tryz.underlying30 rfl rfl rfl rfl z3x z3f hx2 rfl) ?_
 refine eX ?_
 obtain rfl := eI h; exact z04 ⟨_, rfl, z0f (y := (PV.sl none 83 3 (List.map z03 x2))) Wk.tok (z07 z01 x2) ⟨rfl, rfl⟩⟩
 have hz := List.map_eq_nil_iff.1 (hnb1 rfl)
 rw [hz] at h
 replace h : some [] = some r := h
 refine zfg rfl ?_
 refine bR ?_
 refine eX ?_
 obtain rfl := eI h; exact z04 ⟨_, rfl, z0f (y := (PV.sl none 83 3 (List.map z03 []))) Wk.nil (z07 z01 ([])) ⟨rfl, rfl⟩⟩
noncomputable def zp5 (a0 : V) : Option V :=
 (z73 a0).bind fun x1 =>
 some x1.1
theorem Z24 (a0 r : V) (h : zp5 a0 = some r) : z0k Tryz.prog 48 [(ofV a0)] (ofV r) := by
 unfold zp5 at h
 refine z0e Tryz.func48 rfl Tryz.ntmps48 Tryz.results48 rfl (z0i ?_)
 change BW _ _ _ ⟨[(0, (ofV a0))], [], _⟩ _
 refine bR ?_
 refine eX ?_
 refine bR ?_
 refine sX ?_
 obtain ⟨x1, hx1, h⟩ := obind h
 refine sS rfl rfl rfl (z05 rfl zn7 rfl (wkr .nil) ⟨(ids_V a0), trivial⟩ (zlq a0 x1 hx1) (z00 (ids_V x1.1) (z00 rfl z02))) ?_
 iterate 4 refine sX ?_
 refine eX ?_
 refine bR ?_
 refine sX ?_
 refine eX ?_
 obtain rfl := eI h; exact z04 ⟨_, rfl, z0f (y := (ofV x1.1)) (Wk.refl _) (ids_V x1.1) ⟨rfl, rfl⟩⟩
noncomputable def zd4 (a0 : Int) (a1 : (List S_api_Step)) (a2 : V) (a3 : (List S_api_Edit)) : Option (List S_api_Edit) :=
 (zsg a1).bind fun x1 =>
 (zp5 a2).bind fun x2 =>
 (z9p 48 a3 ([(S_api_Edit.mk a0 x1 x2)] : (List S_api_Edit))).bind fun x3 =>
 some x3
theorem znx (a0 : Int) (a1 : (List S_api_Step)) (a2 : V) (a3 r : (List S_api_Edit)) (h : zd4 a0 a1 a2 a3 = some r) : z7n Tryz.prog 46 [(I64 a0), (PV.sl none 83 3 (List.map z03 a1)), (ofV a2), (PV.rf 0 0)] [.box 46 [(PV.sl (some 1) 53 3 (List.map z06 a3))], .arr 53 (a3).length] (PV.tup []) [.box 46 [(PV.sl (some 1) 53 3 (List.map z06 r))], .arr 53 (r).length] := by
 unfold zd4 at h
 refine z0e Tryz.func46 rfl Tryz.ntmps46 Tryz.results46 rfl (z0i ?_)
 change BW _ _ _ ⟨[(0, (I64 a0)), (1, (PV.sl none 83 3 (List.map z03 a1))), (2, (ofV a2)), (3, (PV.rf 0 0))], [.box 46 [(PV.sl (some 1) 53 3 (List.map z06 a3))], .arr 53 (a3).length], _⟩ _
 refine z1z 8 [7] [0] mo (by kernel_rfl) ?_
 iterate 3 refine gX ?_
 obtain ⟨x1, hx1, h⟩ := obind h
 refine z1o rfl rfl rfl rfl (fun H hp => z05 rfl Z3s rfl (wkr .nil) ⟨(z07 z01 a1), trivial⟩ (Z2q a1 x1 hx1) (z07 z01 x1)) ?_
 refine gX ?_
 obtain ⟨x2, hx2, h⟩ := obind h
 refine z1o rfl rfl rfl rfl (fun H hp => z05 rfl Z3r rfl (wkr .nil) ⟨(ids_V a2), trivial⟩ (Z24 a2 x2 hx2) (ids_V x2)) ?_
 refine z1o rfl rfl rfl rfl (fun H hp => z1i (cs := [(I64 a0), (PV.sl none 83 3 (List.map z03 x1)), (ofV x2)]) zrk z3r rfl rfl (by simp only [List.all_cons, List.all_nil, z4c, z1x, Bool.and_true, Bool.true_and]; try rfl) (by simp only [z3k, List.getElem?_cons_zero, List.getElem?_cons_succ, z0x, z0u]; rfl)) ?_
 refine z9o rfl rfl rfl rfl ((z19 (xs := [(PV.agg [(I64 a0), (PV.sl none 83 3 (List.map z03 x1)), (ofV x2)])]) Tryz.underlying46 z3r rfl rfl rfl (by simp only [List.all_cons, List.all_nil, z4c, z1x, Bool.and_true, Bool.true_and]; try rfl) (by simp only [List.all_cons, List.all_nil, csz_V, z2x, z0x, z0u]; try rfl) rfl ⟨lbE rfl, lbE rfl⟩ (by simp only [z8m, z3k, List.flatMap_cons, List.flatMap_nil, z0x, z0u]; try rfl)).cast (y := (PV.sl (some 2) 53 3 (List.map z06 ([(S_api_Edit.mk a0 x1 x2)] : (List S_api_Edit))))) rfl rfl) ⟨rfl, trivial⟩ ?_
 refine z24 ?_
 change AO _ _ _ _ _
 obtain ⟨x3, hx3, h⟩ := obind h
 refine sS rfl rfl rfl (z34 Tryz.underlying46 z3r rfl Tryz.underlying46 rfl rfl rfl rfl z5p z47 hx3 rfl) ?_
 refine z1g rfl rfl (z18 zvd rfl rfl rfl rfl rfl rfl (lbE rfl) rfl) ?_
 refine z0d ?_
 change ∃ xs, _ = some xs ∧ EndOk _ _ _ _
 obtain rfl := Option.some.inj h
 exact ⟨_, rfl, endR (y := (PV.tup [])) 2 (Wk.refl _) rfl rfl (.tup .nil) (.cons (.box (.cons (.row rfl (z1a z08 x3)) .nil)) (.cons .arr .nil)) ⟨rfl, rfl⟩⟩
noncomputable def zg5 : Option ((List (Str × V)) × (List (Str × V)) × Bool) :=
 some ([], [], false)
noncomputable def zdj (a0 a1 : V) (s3 : Bool) : Option ((List (Str × V)) × (List (Str × V)) × Bool) :=
 bif s3 then (
 ((a0).asRec).bind fun x5 =>
 ((a1).asRec).bind fun x6 =>
 some (x5.fields, x6.fields, true)
 ) else (
 zg5
 )
noncomputable def zwq (a0 a1 : V) : Option ((List (Str × V)) × (List (Str × V)) × Bool) :=
 bif (a0).isDict then (
 some ((a0).asDict, (a1).asDict, (a1).isDict)
 ) else (
 bif (a0).isRec then (
 bif (a1).isRec then (
 ((a0).asRec).bind fun x8 =>
 ((a1).asRec).bind fun x9 =>
 bif (x8.cls == x9.cls) then (
 zdj a0 a1 (x8.ver == x9.ver)
 ) else (
 zdj a0 a1 false
 )
 ) else (
 zdj a0 a1 false
 )
 ) else (
 zg5
 )
 )
theorem Z21 (a0 a1 : V) (r : ((List (Str × V)) × (List (Str × V)) × Bool)) (h : zwq a0 a1 = some r) : z0k Tryz.prog 81 [(ofV a0), (ofV a1)] (PV.tup [(PV.sl none 69 2 (List.map ofFld r.1)), (PV.sl none 69 2 (List.map ofFld r.2.1)), (BO r.2.2)]) := by
 unfold zwq at h
 refine z0e Tryz.func81 rfl Tryz.ntmps81 Tryz.results81 rfl (z0i ?_)
 change BW _ _ _ ⟨[(0, (ofV a0)), (1, (ofV a1))], [], _⟩ _
 refine bR ?_
 iterate 2 refine sX ?_
 refine eX ?_
 refine jX (ι := Unit) (fun i => zg5 = some r) (fun i => []) (fun i => []) ?_ ?_
 rintro ⟨⟩ h; replace h : zg5 = some r := h; unfold zg5 at h
 change BW _ _ _ ⟨[], [], _⟩ _
 refine bR ?_
 iterate 2 refine sX ?_
 refine eX ?_
 obtain rfl := eI h; exact z04 ⟨_, rfl, z0f (y := (PV.tup [(PV.sl none 69 2 (List.map ofFld [])), (PV.sl none 69 2 (List.map ofFld [])), (BO false)])) (Wk.tup (.cons Wk.nil (.cons Wk.nil (wkr .nil)))) (z00 (z07 z0s ([])) (z00 (z07 z0s ([])) (z00 rfl z02))) ⟨rfl, rfl⟩⟩
 refine bR ?_
 refine eX ?_
 refine z0m ?_
 refine cBx ?_
 refine bR ?_
 refine sS rfl rfl rfl (z2r rfl rfl) ?_
 refine sX ?_
 refine eX ?_
 refine cX h rfl ?_ ?_
 intro hc1 h
 refine bR ?_
 refine eX ?_
 refine bR ?_
 refine sX ?_
 refine sS rfl rfl rfl (z2r rfl rfl) ?_
 iterate 4 refine sX ?_
 refine eX ?_
 refine bR ?_
 iterate 5 refine sX ?_
 refine eX ?_
 obtain rfl := eI h; exact z04 ⟨_, rfl, z0f (y := (PV.tup [(PV.sl none 69 2 (List.map ofFld (a0).asDict)), (PV.sl none 69 2 (List.map ofFld (a1).asDict)), (BO ((a1).isDict))])) (Wk.refl _) (z00 (z07 z0s ((a0).asDict)) (z00 (z07 z0s ((a1).asDict)) (z00 rfl z02))) ⟨rfl, rfl⟩⟩
 intro hc1 h
 refine bR ?_
 refine sS rfl rfl rfl (z39 rfl rfl) ?_
 refine sX ?_
 refine eX ?_
 refine cX h rfl ?_ ?_
 intro hc2 h
 refine bR ?_
 refine eX ?_
 refine bR ?_
 refine sX ?_
 refine sS rfl rfl rfl (z39 rfl rfl) ?_
 iterate 4 refine sX ?_
 refine eX ?_
 refine z2b (ι := Bool) (fun i => zdj a0 a1 i = some r) (fun i => [(10, (ofRecP (a0).asRec)), (11, (ofRecP (a1).asRec)), (55, (BO i))]) (fun i => []) ?_ ?_ ?_
 intro i; exact ⟨lbE rfl, ⟨(z0c (zf6 _)), ⟨(z0c (zf6 _)), ⟨(z0c rfl), trivial⟩⟩⟩, trivial⟩
 rintro s3 h; replace h : zdj a0 a1 s3 = some r := h; unfold zdj at h
 change BW _ _ _ ⟨[(10, (ofRecP (a0).asRec)), (11, (ofRecP (a1).asRec)), (55, (BO s3))], [], _⟩ _
 refine cX h rfl ?_ ?_
 intro hc4 h
 refine z0b (z1z 9 [] [] mo (by kernel_rfl) ?_)
 refine gX ?_
 obtain ⟨x5, hx5, h⟩ := obind h
 refine z1o rfl rfl rfl rfl (fun H hp => z1k rfl rfl hx5) ?_
 iterate 3 refine gX ?_
 obtain ⟨x6, hx6, h⟩ := obind h
 refine z1o rfl rfl rfl rfl (fun H hp => z1k rfl rfl hx6) ?_
 iterate 3 refine gX ?_
 refine z24 ?_
 change AO _ _ _ _ _
 refine sX ?_
 refine eX ?_
 obtain rfl := eI h; exact z04 ⟨_, rfl, z0f (y := (PV.tup [(PV.sl none 69 2 (List.map ofFld x5.fields)), (PV.sl none 69 2 (List.map ofFld x6.fields)), (BO true)])) (Wk.refl _) (z00 (z07 z0s x5.fields) (z00 (z07 z0s x6.fields) (z00 rfl z02))) ⟨rfl, rfl⟩⟩
 intro hc4 h
 refine z09 ?_
 exact ⟨rfl, (), h, jN⟩
 refine z1z 21 [] [] mo (by kernel_rfl) ?_
 iterate 2 refine gX ?_
 refine z6r 34 rfl ?_ ?_
 intro hb7; replace h := z0o hb7 h
 refine wX ?_
 obtain ⟨x8, hx8, h⟩ := obind h
 refine z6t rfl rfl rfl rfl rfl rfl rfl (fun H hp => z1k rfl rfl hx8) ?_
 iterate 3 refine wX ?_
 obtain ⟨x9, hx9, h⟩ := obind h
 refine z6t rfl rfl rfl rfl rfl rfl rfl (fun H hp => z1k rfl rfl hx9) ?_
 iterate 2 refine wX ?_
 refine z6t rfl rfl rfl rfl rfl rfl rfl (fun H hp => (z2h (a := x8.cls) (b := x9.cls) rfl rfl rfl rfl).cast (y := (BO ((x8.cls == x9.cls)))) rfl rfl) ?_
 iterate 2 refine gX ?_
 refine z6r 45 rfl ?_ ?_
 intro hb10; replace h := z0o hb10 h
 refine wX ?_
 refine z6t rfl rfl rfl rfl rfl rfl rfl (fun H hp => z1k rfl rfl hx8) ?_
 iterate 3 refine wX ?_
 refine z6t rfl rfl rfl rfl rfl rfl rfl (fun H hp => z1k rfl rfl hx9) ?_
 iterate 2 refine wX ?_
 refine z24 ?_
 change AO _ _ _ _ _
 refine yX ?_
 refine sX (z0d ?_)
 exact ⟨rfl, (x8.ver == x9.ver), h, jN⟩
 intro hb10; replace h := z0p hb10 h
 iterate 8 refine mX ?_
 refine z24 ?_
 change AO _ _ _ _ _
 refine nX ?_
 refine sX (z0d ?_)
 exact ⟨rfl, false, h, jN⟩
 intro hb7; replace h := z0p hb7 h
 iterate 9 refine mX ?_
 iterate 2 refine gX ?_
 iterate 8 refine mX ?_
 refine z24 ?_
 change AO _ _ _ _ _
 refine nX ?_
 refine sX (z0d ?_)
 exact ⟨rfl, false, h, jN⟩
 intro hc2 h
 refine z09 ?_
 exact ⟨rfl, (), h, jN⟩
end Go.Proofs.YthidgpcbnieleaaGreatDoor
