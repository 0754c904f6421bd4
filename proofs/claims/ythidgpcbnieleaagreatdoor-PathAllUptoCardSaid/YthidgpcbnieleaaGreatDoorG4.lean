/- Pure functions, and that calls answer as they say. -/
import Derived.Test.YthidgpcbnieleaaGreatDoorG3
namespace Go.Proofs.YthidgpcbnieleaaGreatDoor
open Go Aw
set_option linter.unusedVariables false
set_option linter.unusedSimpArgs false
set_option maxRecDepth 20000
set_option maxHeartbeats 2000000
variable {ι : Type} {ρ : ι → Type}
noncomputable def zkr (r_q1q : (Str × V) → (Str × V) → Option Int) (r_q00 : (List (Str × V)) → (List (Str × V)) → Option Int) (r_q02 : (List V) → (List V) → Option Int) (r_q1k : V → V → Option Int) (a0 a1 : (Str × V)) : Option Int :=
 (zk0 a0.1 a1.1).bind fun x1 =>
 bif (x1 != 0) then (
 some x1
 ) else (
 (r_q1k a0.2 a1.2).bind fun x3 =>
 some x3
 )
theorem zw7 (r_q1q : OF ρ → (Str × V) → (Str × V) → Option Int) (h_r_q1q : ∀ y0 y1, CM (fun G => r_q1q G y0 y1)) (r_q00 : OF ρ → (List (Str × V)) → (List (Str × V)) → Option Int) (h_r_q00 : ∀ y0 y1, CM (fun G => r_q00 G y0 y1)) (r_q02 : OF ρ → (List V) → (List V) → Option Int) (h_r_q02 : ∀ y0 y1, CM (fun G => r_q02 G y0 y1)) (r_q1k : OF ρ → V → V → Option Int) (h_r_q1k : ∀ y0 y1, CM (fun G => r_q1k G y0 y1)) (a0 a1 : (Str × V)) : CM (fun G : OF ρ => zkr (r_q1q G) (r_q00 G) (r_q02 G) (r_q1k G) a0 a1) := by
 simp only [zkr]
 repeat (first | exact z0c | exact h_r_q1q _ _ | exact h_r_q00 _ _ | exact h_r_q02 _ _ | exact h_r_q1k _ _ | refine z11 ?_ ?_ | refine z12 ?_ (fun _ => ?_))
noncomputable def z5x (r_q1q : (Str × V) → (Str × V) → Option Int) (a0 a1 : (List (Str × V))) (g1 : Nat → Option Int) (s1 : Nat) : Option Int :=
 bif (decide (((s1 : Nat) : Int) < (((a0).length : Nat) : Int))) then (
 ((a0)[s1]?).bind fun x4 =>
 bif (decide (((s1 : Nat) : Int) ≥ (((a1).length : Nat) : Int))) then (
 some 1
 ) else (
 ((a1)[s1]?).bind fun x6 =>
 (r_q1q x4 x6).bind fun x7 =>
 bif (x7 != 0) then (
 some x7
 ) else (
 g1 (s1 + 1)
 )
 )
 ) else (
 bif (decide ((((a0).length : Nat) : Int) < (((a1).length : Nat) : Int))) then (
 some (-1)
 ) else (
 some 0
 )
 )
theorem zb1 (r_q1q : OF ρ → (Str × V) → (Str × V) → Option Int) (h_r_q1q : ∀ y0 y1, CM (fun G => r_q1q G y0 y1)) (g1 : OF ρ → Nat → Option Int) (h_g1 : ∀ y0, CM (fun G => g1 G y0)) (a0 a1 : (List (Str × V))) (s1 : Nat) : CM (fun G : OF ρ => z5x (r_q1q G) a0 a1 (g1 G) s1) := by
 simp only [z5x]
 repeat (first | exact z0c | exact h_r_q1q _ _ | exact h_g1 _ | refine z11 ?_ ?_ | refine z12 ?_ (fun _ => ?_))
noncomputable def zep (r_q1q : (Str × V) → (Str × V) → Option Int) (a0 a1 : (List (Str × V))) (s1 : Nat) : Option Int :=
 z2w (ι := Nat) (ρ := fun _ => Int) (fun g i => z5x r_q1q a0 a1 (fun s1 => g s1) i) s1
theorem zi0 (r_q1q : (Str × V) → (Str × V) → Option Int) (a0 a1 : (List (Str × V))) (s1 : Nat) : zep r_q1q a0 a1 s1 = z5x r_q1q a0 a1 (zep r_q1q a0 a1) s1 :=
 z19 (ι := Nat) (ρ := fun _ => Int) (Φ := fun g i => z5x r_q1q a0 a1 (fun s1 => g s1) i) (fun i => zb1 (ι := Nat) (ρ := fun _ => Int) (fun _ => r_q1q) (fun _ _ => z0c) (fun g => (fun s1 => g s1)) (fun _ => z17) a0 a1 i) s1
theorem zq7 (r_q1q : OF ρ → (Str × V) → (Str × V) → Option Int) (h_r_q1q : ∀ y0 y1, CM (fun G => r_q1q G y0 y1)) (a0 a1 : (List (Str × V))) (s1 : Nat) : CM (fun G : OF ρ => zep (r_q1q G) a0 a1 s1) :=
 z40 (κ := Nat) (τ := fun _ => Int) (Φ := fun G g i => z5x (r_q1q G) a0 a1 (fun s1 => g s1) i) (fun g i => zb1 r_q1q h_r_q1q (fun _ => (fun s1 => g s1)) (fun _ => z0c) a0 a1 i) (fun G i => zb1 (ι := Nat) (ρ := fun _ => Int) (fun _ => r_q1q G) (fun _ _ => z0c) (fun g => (fun s1 => g s1)) (fun _ => z17) a0 a1 i) s1
noncomputable def zl7 (r_q1q : (Str × V) → (Str × V) → Option Int) (r_q00 : (List (Str × V)) → (List (Str × V)) → Option Int) (r_q02 : (List V) → (List V) → Option Int) (r_q1k : V → V → Option Int) (a0 a1 : (List (Str × V))) : Option Int :=
 zep r_q1q a0 a1 0
theorem zwq (r_q1q : OF ρ → (Str × V) → (Str × V) → Option Int) (h_r_q1q : ∀ y0 y1, CM (fun G => r_q1q G y0 y1)) (r_q00 : OF ρ → (List (Str × V)) → (List (Str × V)) → Option Int) (h_r_q00 : ∀ y0 y1, CM (fun G => r_q00 G y0 y1)) (r_q02 : OF ρ → (List V) → (List V) → Option Int) (h_r_q02 : ∀ y0 y1, CM (fun G => r_q02 G y0 y1)) (r_q1k : OF ρ → V → V → Option Int) (h_r_q1k : ∀ y0 y1, CM (fun G => r_q1k G y0 y1)) (a0 a1 : (List (Str × V))) : CM (fun G : OF ρ => zl7 (r_q1q G) (r_q00 G) (r_q02 G) (r_q1k G) a0 a1) := by
 simp only [zl7]
 repeat (first | exact z0c | exact h_r_q1q _ _ | exact h_r_q00 _ _ | exact h_r_q02 _ _ | exact h_r_q1k _ _ | apply zq7 | refine z11 ?_ ?_ | refine z12 ?_ (fun _ => ?_) | intro _ | assumption)
noncomputable def z5w (r_q1k : V → V → Option Int) (a0 a1 : (List V)) (g1 : Nat → Option Int) (s1 : Nat) : Option Int :=
 bif (decide (((s1 : Nat) : Int) < (((a0).length : Nat) : Int))) then (
 ((a0)[s1]?).bind fun x4 =>
 bif (decide (((s1 : Nat) : Int) ≥ (((a1).length : Nat) : Int))) then (
 some 1
 ) else (
 ((a1)[s1]?).bind fun x6 =>
 (r_q1k x4 x6).bind fun x7 =>
 bif (x7 != 0) then (
 some x7
 ) else (
 g1 (s1 + 1)
 )
 )
 ) else (
 bif (decide ((((a0).length : Nat) : Int) < (((a1).length : Nat) : Int))) then (
 some (-1)
 ) else (
 some 0
 )
 )
theorem zb0 (r_q1k : OF ρ → V → V → Option Int) (h_r_q1k : ∀ y0 y1, CM (fun G => r_q1k G y0 y1)) (g1 : OF ρ → Nat → Option Int) (h_g1 : ∀ y0, CM (fun G => g1 G y0)) (a0 a1 : (List V)) (s1 : Nat) : CM (fun G : OF ρ => z5w (r_q1k G) a0 a1 (g1 G) s1) := by
 simp only [z5w]
 repeat (first | exact z0c | exact h_r_q1k _ _ | exact h_g1 _ | refine z11 ?_ ?_ | refine z12 ?_ (fun _ => ?_))
noncomputable def zeo (r_q1k : V → V → Option Int) (a0 a1 : (List V)) (s1 : Nat) : Option Int :=
 z2w (ι := Nat) (ρ := fun _ => Int) (fun g i => z5w r_q1k a0 a1 (fun s1 => g s1) i) s1
theorem zhx (r_q1k : V → V → Option Int) (a0 a1 : (List V)) (s1 : Nat) : zeo r_q1k a0 a1 s1 = z5w r_q1k a0 a1 (zeo r_q1k a0 a1) s1 :=
 z19 (ι := Nat) (ρ := fun _ => Int) (Φ := fun g i => z5w r_q1k a0 a1 (fun s1 => g s1) i) (fun i => zb0 (ι := Nat) (ρ := fun _ => Int) (fun _ => r_q1k) (fun _ _ => z0c) (fun g => (fun s1 => g s1)) (fun _ => z17) a0 a1 i) s1
theorem zq6 (r_q1k : OF ρ → V → V → Option Int) (h_r_q1k : ∀ y0 y1, CM (fun G => r_q1k G y0 y1)) (a0 a1 : (List V)) (s1 : Nat) : CM (fun G : OF ρ => zeo (r_q1k G) a0 a1 s1) :=
 z40 (κ := Nat) (τ := fun _ => Int) (Φ := fun G g i => z5w (r_q1k G) a0 a1 (fun s1 => g s1) i) (fun g i => zb0 r_q1k h_r_q1k (fun _ => (fun s1 => g s1)) (fun _ => z0c) a0 a1 i) (fun G i => zb0 (ι := Nat) (ρ := fun _ => Int) (fun _ => r_q1k G) (fun _ _ => z0c) (fun g => (fun s1 => g s1)) (fun _ => z17) a0 a1 i) s1
noncomputable def zl6 (r_q1q : (Str × V) → (Str × V) → Option Int) (r_q00 : (List (Str × V)) → (List (Str × V)) → Option Int) (r_q02 : (List V) → (List V) → Option Int) (r_q1k : V → V → Option Int) (a0 a1 : (List V)) : Option Int :=
 zeo r_q1k a0 a1 0
theorem zwp (r_q1q : OF ρ → (Str × V) → (Str × V) → Option Int) (h_r_q1q : ∀ y0 y1, CM (fun G => r_q1q G y0 y1)) (r_q00 : OF ρ → (List (Str × V)) → (List (Str × V)) → Option Int) (h_r_q00 : ∀ y0 y1, CM (fun G => r_q00 G y0 y1)) (r_q02 : OF ρ → (List V) → (List V) → Option Int) (h_r_q02 : ∀ y0 y1, CM (fun G => r_q02 G y0 y1)) (r_q1k : OF ρ → V → V → Option Int) (h_r_q1k : ∀ y0 y1, CM (fun G => r_q1k G y0 y1)) (a0 a1 : (List V)) : CM (fun G : OF ρ => zl6 (r_q1q G) (r_q00 G) (r_q02 G) (r_q1k G) a0 a1) := by
 simp only [zl6]
 repeat (first | exact z0c | exact h_r_q1q _ _ | exact h_r_q00 _ _ | exact h_r_q02 _ _ | exact h_r_q1k _ _ | apply zq6 | refine z11 ?_ ?_ | refine z12 ?_ (fun _ => ?_) | intro _ | assumption)
noncomputable def zks (r_q1q : (Str × V) → (Str × V) → Option Int) (r_q00 : (List (Str × V)) → (List (Str × V)) → Option Int) (r_q02 : (List V) → (List V) → Option Int) (r_q1k : V → V → Option Int) (a0 a1 : V) : Option Int :=
 (zjt a0).bind fun x1 =>
 (zjt a1).bind fun x2 =>
 (zny x1 x2).bind fun x3 =>
 bif (x3 != 0) then (
 some x3
 ) else (
 bif (a0).isBool then (
 (zqq ((a0).asBool)).bind fun x6 =>
 ((a1).theBool).bind fun x7 =>
 (zqq x7).bind fun x8 =>
 (zny x6 x8).bind fun x9 =>
 some x9
 ) else (
 bif (a0).isInt then (
 ((a1).theInt).bind fun x11 =>
 (zu3 ((a0).asInt) x11).bind fun x12 =>
 some x12
 ) else (
 bif (a0).isFloat then (
 (znw ((a0).asFloat)).bind fun x14 =>
 ((a1).theFloat).bind fun x15 =>
 (znw x15).bind fun x16 =>
 (zu6 x14 x16).bind fun x17 =>
 some x17
 ) else (
 bif (a0).isText then (
 ((a1).theText).bind fun x19 =>
 (zk0 ((a0).asText) x19).bind fun x20 =>
 some x20
 ) else (
 bif (a0).isBytes then (
 ((a1).theBytes).bind fun x22 =>
 (zu9 ((a0).asBytes) x22).bind fun x23 =>
 some x23
 ) else (
 bif (a0).isRef then (
 ((a1).theRef).bind fun x25 =>
 (zu8 ((a0).asRef) x25).bind fun x26 =>
 some x26
 ) else (
 bif (a0).isList then (
 ((a1).theList).bind fun x28 =>
 (r_q02 ((a0).asList) x28).bind fun x29 =>
 some x29
 ) else (
 bif (a0).isDict then (
 ((a1).theDict).bind fun x31 =>
 (r_q00 ((a0).asDict) x31).bind fun x32 =>
 some x32
 ) else (
 bif (a0).isRec then (
 ((a1).theRec).bind fun x34 =>
 ((a0).asRec).bind fun x35 =>
 (x34).bind fun x36 =>
 (zk0 x35.cls x36.cls).bind fun x37 =>
 bif (x37 != 0) then (
 some x37
 ) else (
 (zny x35.ver x36.ver).bind fun x39 =>
 bif (x39 != 0) then (
 some x39
 ) else (
 (r_q00 x35.fields x36.fields).bind fun x41 =>
 some x41
 )
 )
 ) else (
 some 0
 )
 )
 )
 )
 )
 )
 )
 )
 )
 )
theorem zw8 (r_q1q : OF ρ → (Str × V) → (Str × V) → Option Int) (h_r_q1q : ∀ y0 y1, CM (fun G => r_q1q G y0 y1)) (r_q00 : OF ρ → (List (Str × V)) → (List (Str × V)) → Option Int) (h_r_q00 : ∀ y0 y1, CM (fun G => r_q00 G y0 y1)) (r_q02 : OF ρ → (List V) → (List V) → Option Int) (h_r_q02 : ∀ y0 y1, CM (fun G => r_q02 G y0 y1)) (r_q1k : OF ρ → V → V → Option Int) (h_r_q1k : ∀ y0 y1, CM (fun G => r_q1k G y0 y1)) (a0 a1 : V) : CM (fun G : OF ρ => zks (r_q1q G) (r_q00 G) (r_q02 G) (r_q1k G) a0 a1) := by
 simp only [zks]
 repeat (first | exact z0c | exact h_r_q1q _ _ | exact h_r_q00 _ _ | exact h_r_q02 _ _ | exact h_r_q1k _ _ | refine z11 ?_ ?_ | refine z12 ?_ (fun _ => ?_))
inductive C_q1q where
 | k_q1q (a0 : (Str × V)) (a1 : (Str × V))
 | k_q00 (a0 : (List (Str × V))) (a1 : (List (Str × V)))
 | k_q02 (a0 : (List V)) (a1 : (List V))
 | k_q1k (a0 : V) (a1 : V)
def C_q1q.R : C_q1q → Type
 | .k_q1q _ _ => Int
 | .k_q00 _ _ => Int
 | .k_q02 _ _ => Int
 | .k_q1k _ _ => Int
noncomputable def C_q1q.F (g : ∀ i : C_q1q, Option i.R) : ∀ i : C_q1q, Option i.R
 | .k_q1q a0 a1 => zkr (fun a0 a1 => g (.k_q1q a0 a1)) (fun a0 a1 => g (.k_q00 a0 a1)) (fun a0 a1 => g (.k_q02 a0 a1)) (fun a0 a1 => g (.k_q1k a0 a1)) a0 a1
 | .k_q00 a0 a1 => zl7 (fun a0 a1 => g (.k_q1q a0 a1)) (fun a0 a1 => g (.k_q00 a0 a1)) (fun a0 a1 => g (.k_q02 a0 a1)) (fun a0 a1 => g (.k_q1k a0 a1)) a0 a1
 | .k_q02 a0 a1 => zl6 (fun a0 a1 => g (.k_q1q a0 a1)) (fun a0 a1 => g (.k_q00 a0 a1)) (fun a0 a1 => g (.k_q02 a0 a1)) (fun a0 a1 => g (.k_q1k a0 a1)) a0 a1
 | .k_q1k a0 a1 => zks (fun a0 a1 => g (.k_q1q a0 a1)) (fun a0 a1 => g (.k_q00 a0 a1)) (fun a0 a1 => g (.k_q02 a0 a1)) (fun a0 a1 => g (.k_q1k a0 a1)) a0 a1
noncomputable def zjw (a0 a1 : (Str × V)) : Option Int := z2w C_q1q.F (.k_q1q a0 a1)
noncomputable def zoa (a0 a1 : (List (Str × V))) : Option Int := z2w C_q1q.F (.k_q00 a0 a1)
noncomputable def zo9 (a0 a1 : (List V)) : Option Int := z2w C_q1q.F (.k_q02 a0 a1)
noncomputable def z9s (a0 a1 : V) : Option Int := z2w C_q1q.F (.k_q1k a0 a1)
abbrev gg6 := fun (g : ∀ i : C_q1q, Option i.R) a0 a1 => g (.k_q1q a0 a1)
theorem hh6 (a0 a1 : _) : CM (ρ := C_q1q.R) (fun g => g (C_q1q.k_q1q a0 a1)) := z17
abbrev gg7 := fun (g : ∀ i : C_q1q, Option i.R) a0 a1 => g (.k_q00 a0 a1)
theorem hh7 (a0 a1 : _) : CM (ρ := C_q1q.R) (fun g => g (C_q1q.k_q00 a0 a1)) := z17
abbrev gg8 := fun (g : ∀ i : C_q1q, Option i.R) a0 a1 => g (.k_q02 a0 a1)
theorem hh8 (a0 a1 : _) : CM (ρ := C_q1q.R) (fun g => g (C_q1q.k_q02 a0 a1)) := z17
abbrev gg9 := fun (g : ∀ i : C_q1q, Option i.R) a0 a1 => g (.k_q1k a0 a1)
theorem hh9 (a0 a1 : _) : CM (ρ := C_q1q.R) (fun g => g (C_q1q.k_q1k a0 a1)) := z17
theorem C_q1q.cm (i : C_q1q) : CM (fun g : (∀ i : C_q1q, Option i.R) => C_q1q.F g i) := by
 cases i with
 | k_q1q a0 a1 => exact zw7 gg6 hh6 gg7 hh7 gg8 hh8 gg9 hh9 a0 a1
 | k_q00 a0 a1 => exact zwq gg6 hh6 gg7 hh7 gg8 hh8 gg9 hh9 a0 a1
 | k_q02 a0 a1 => exact zwp gg6 hh6 gg7 hh7 gg8 hh8 gg9 hh9 a0 a1
 | k_q1k a0 a1 => exact zw8 gg6 hh6 gg7 hh7 gg8 hh8 gg9 hh9 a0 a1
theorem Z7u (a0 a1 : (Str × V)) : zjw a0 a1 = zkr zjw zoa zo9 z9s a0 a1 := z19 C_q1q.cm (.k_q1q a0 a1)
theorem Z8c (a0 a1 : (List (Str × V))) : zoa a0 a1 = zl7 zjw zoa zo9 z9s a0 a1 := z19 C_q1q.cm (.k_q00 a0 a1)
theorem Z8b (a0 a1 : (List V)) : zo9 a0 a1 = zl6 zjw zoa zo9 z9s a0 a1 := z19 C_q1q.cm (.k_q02 a0 a1)
theorem Z7v (a0 a1 : V) : z9s a0 a1 = zks zjw zoa zo9 z9s a0 a1 := z19 C_q1q.cm (.k_q1k a0 a1)
def C_q1q.Q : ∀ i : C_q1q, i.R → Prop
 | .k_q1q a0 a1 => fun (r : Int) => z0m Tryz.prog 70 [(ofFld a0), (ofFld a1)] (I64 r)
 | .k_q00 a0 a1 => fun (r : Int) => z0m Tryz.prog 69 [(PV.sl none 69 2 (List.map ofFld a0)), (PV.sl none 69 2 (List.map ofFld a1)), (PV.fn (.func 70) [] [])] (I64 r)
 | .k_q02 a0 a1 => fun (r : Int) => z0m Tryz.prog 68 [(PV.sl none 20 1 (List.map ofV a0)), (PV.sl none 20 1 (List.map ofV a1)), (PV.fn (.func 38) [] [])] (I64 r)
 | .k_q1k a0 a1 => fun (r : Int) => z0m Tryz.prog 38 [(ofV a0), (ofV a1)] (I64 r)
theorem zfh (r_q1q : (Str × V) → (Str × V) → Option Int) (c_q1q : ∀ (a0 : (Str × V)) (a1 : (Str × V)) r, r_q1q a0 a1 = some r → z0m Tryz.prog 70 [(ofFld a0), (ofFld a1)] (I64 r)) (r_q00 : (List (Str × V)) → (List (Str × V)) → Option Int) (c_q00 : ∀ (a0 : (List (Str × V))) (a1 : (List (Str × V))) r, r_q00 a0 a1 = some r → z0m Tryz.prog 69 [(PV.sl none 69 2 (List.map ofFld a0)), (PV.sl none 69 2 (List.map ofFld a1)), (PV.fn (.func 70) [] [])] (I64 r)) (r_q02 : (List V) → (List V) → Option Int) (c_q02 : ∀ (a0 : (List V)) (a1 : (List V)) r, r_q02 a0 a1 = some r → z0m Tryz.prog 68 [(PV.sl none 20 1 (List.map ofV a0)), (PV.sl none 20 1 (List.map ofV a1)), (PV.fn (.func 38) [] [])] (I64 r)) (r_q1k : V → V → Option Int) (c_q1k : ∀ (a0 : V) (a1 : V) r, r_q1k a0 a1 = some r → z0m Tryz.prog 38 [(ofV a0), (ofV a1)] (I64 r)) (a0 a1 : (Str × V)) (r : Int) (h : zkr r_q1q r_q00 r_q02 r_q1k a0 a1 = some r) : z0m Tryz.prog 70 [(ofFld a0), (ofFld a1)] (I64 r) := by
 unfold zkr at h
 refine z0d Tryz.func70 rfl Tryz.ntmps70 Tryz.results70 rfl (z0g ?_)
 change BW _ _ _ ⟨[(0, (ofFld a0)), (1, (ofFld a1))], [], _⟩ _
 refine bR ?_
 iterate 2 refine sX ?_
 refine eX ?_
 refine z08 ?_
 refine bR ?_
 iterate 4 refine sX ?_
 obtain ⟨x1, hx1, h⟩ := obind h
 refine sS rfl rfl rfl (z06 rfl Z04 rfl (wkr (wkr .nil)) ⟨rfl, ⟨rfl, trivial⟩⟩ (zyg a0.1 a1.1 x1 hx1) rfl) ?_
 refine eX ?_
 refine bR ?_
 refine sX ?_
 refine eX ?_
 refine cX h rfl ?_ ?_
 intro hc2 h
 refine bR ?_
 refine sX ?_
 refine eX ?_
 obtain rfl := eI h; exact z05 eK
 intro hc2 h
 refine z07 ?_
 refine cBx ?_
 refine bR ?_
 iterate 4 refine sX ?_
 obtain ⟨x3, hx3, h⟩ := obind h
 refine sS rfl rfl rfl (z06 rfl Z09 rfl (wkr (wkr .nil)) ⟨(ids_V a0.2), ⟨(ids_V a1.2), trivial⟩⟩ (c_q1k a0.2 a1.2 x3 hx3) rfl) ?_
 refine eX ?_
 obtain rfl := eI h; exact z05 eK
theorem z1v (r_q1q : (Str × V) → (Str × V) → Option Int) (c_q1q : ∀ (a0 : (Str × V)) (a1 : (Str × V)) r, r_q1q a0 a1 = some r → z0m Tryz.prog 70 [(ofFld a0), (ofFld a1)] (I64 r)) (r_q00 : (List (Str × V)) → (List (Str × V)) → Option Int) (c_q00 : ∀ (a0 : (List (Str × V))) (a1 : (List (Str × V))) r, r_q00 a0 a1 = some r → z0m Tryz.prog 69 [(PV.sl none 69 2 (List.map ofFld a0)), (PV.sl none 69 2 (List.map ofFld a1)), (PV.fn (.func 70) [] [])] (I64 r)) (r_q02 : (List V) → (List V) → Option Int) (c_q02 : ∀ (a0 : (List V)) (a1 : (List V)) r, r_q02 a0 a1 = some r → z0m Tryz.prog 68 [(PV.sl none 20 1 (List.map ofV a0)), (PV.sl none 20 1 (List.map ofV a1)), (PV.fn (.func 38) [] [])] (I64 r)) (r_q1k : V → V → Option Int) (c_q1k : ∀ (a0 : V) (a1 : V) r, r_q1k a0 a1 = some r → z0m Tryz.prog 38 [(ofV a0), (ofV a1)] (I64 r)) (a0 a1 : (List (Str × V))) (r : Int) (h : zl7 r_q1q r_q00 r_q02 r_q1k a0 a1 = some r) : z0m Tryz.prog 69 [(PV.sl none 69 2 (List.map ofFld a0)), (PV.sl none 69 2 (List.map ofFld a1)), (PV.fn (.func 70) [] [])] (I64 r) := by
 unfold zl7 at h
 refine z0d Tryz.func69 rfl Tryz.ntmps69 Tryz.results69 rfl (z0g ?_)
 change BW _ _ _ ⟨[(0, (PV.sl none 69 2 (List.map ofFld a0))), (1, (PV.sl none 69 2 (List.map ofFld a1))), (2, (PV.fn (.func 70) [] []))], [], _⟩ _
 refine bR ?_
 refine eX ?_
 refine z08 ?_
 refine bR ?_
 iterate 2 refine sX ?_
 refine eX ?_
 refine z0h ?_
 refine cBx ?_
 unfold zep at h
 refine lX (σ := Nat) (fun i => [(0, (PV.sl none 69 2 (List.map ofFld a0))), (1, (PV.sl none 69 2 (List.map ofFld a1))), (2, (PV.fn (.func 70) [] [])), (11, (PV.sl none 69 2 (List.map ofFld a0))), (12, (I64 ((((a0).length : Nat) : Int)))), (13, (I64 (((i : Nat) : Int))))]) (fun i => []) 0 h ?_ ?_
 exact jN
 rintro g1_f s1 h; replace h : z5x r_q1q a0 a1 (fun y0 => g1_f y0) s1 = some r := h; unfold z5x at h
 change BW _ _ _ ⟨[(0, (PV.sl none 69 2 (List.map ofFld a0))), (1, (PV.sl none 69 2 (List.map ofFld a1))), (2, (PV.fn (.func 70) [] [])), (11, (PV.sl none 69 2 (List.map ofFld a0))), (12, (I64 ((((a0).length : Nat) : Int)))), (13, (I64 (((s1 : Nat) : Int))))], [], _⟩ _
 refine bR ?_
 refine eX ?_
 refine z08 ?_
 refine z3j (t := 11) rfl fun hb3 => ?_
 try rw [List.length_map] at hb3
 refine cX h rfl ?_ ?_
 intro hc2 h
 have hc2_ := of_decide_eq_true hc2
 refine z07 ?_
 refine cBx ?_
 refine z08 ?_
 refine z0h ?_
 refine cBx ?_
 refine bR ?_
 refine sX ?_
 obtain ⟨x4, hx4, h⟩ := obind h
 refine sS rfl rfl rfl (z1r (i := s1) Tryz.underlying71 z0z rfl rfl rfl hx4 rfl) ?_
 refine sX ?_
 refine sS rfl rfl rfl ((z14 z0z rfl).cast (H'' := [.box 69 [(z0i []), (ofV V.nil)]]) rfl (by simp only [mk_nil]; rfl)) ?_
 refine sX ?_
 refine z0j rfl rfl (z0e z0z rfl rfl rfl rfl rfl rfl (lbE rfl) (by show List.all [(z0i x4.1), (ofV x4.2)] z6n = true; simp only [List.all_cons, List.all_nil, zb5, z3v, Bool.and_true, Bool.true_and]; try rfl)) ?_
 refine z0a ?_
 refine cBx ?_
 refine z08 ?_
 refine bR ?_
 iterate 3 refine sX ?_
 refine eX ?_
 refine cX h rfl ?_ ?_
 intro hc5 h
 refine bR ?_
 refine eX ?_
 obtain rfl := eI h; exact z05 eK
 intro hc5 h
 refine z07 ?_
 refine cBx ?_
 refine bR ?_
 iterate 2 refine sX ?_
 obtain ⟨x6, hx6, h⟩ := obind h
 refine sS rfl rfl rfl (z1r (i := s1) Tryz.underlying71 z0z rfl rfl rfl hx6 rfl) ?_
 refine sX ?_
 refine sS rfl rfl rfl ((z14 z0z rfl).cast (H'' := [.box 69 [(z0i x4.1), (ofV x4.2)], .box 69 [(z0i []), (ofV V.nil)]]) rfl (by simp only [mk_nil]; rfl)) ?_
 refine z0j rfl rfl (z0e z0z rfl rfl rfl rfl rfl rfl (lbE rfl) (by show List.all [(z0i x6.1), (ofV x6.2)] z6n = true; simp only [List.all_cons, List.all_nil, zb5, z3v, Bool.and_true, Bool.true_and]; try rfl)) ?_
 refine z0a ?_
 refine cBx ?_
 refine bR ?_
 iterate 3 refine sX ?_
 obtain ⟨x7, hx7, h⟩ := obind h
 refine sS rfl rfl rfl (z4o rfl rfl Z72 rfl (wkr (wkr .nil)) ⟨(z0r x4), ⟨(z0r x6), trivial⟩⟩ (c_q1q x4 x6 x7 hx7) rfl) ?_
 refine eX ?_
 refine bR ?_
 refine sX ?_
 refine eX ?_
 refine cX h rfl ?_ ?_
 intro hc8 h
 refine bR ?_
 refine sX ?_
 refine eX ?_
 obtain rfl := eI h; exact z05 eK
 intro hc8 h
 refine z07 ?_
 refine cBx ?_
 refine z0f ?_
 refine sS rfl rfl rfl (z27 (k := s1) (c := 1) rfl rfl rfl (by omega)) ?_
 refine sX (z0a ?_)
 exact ⟨rfl, (s1 + 1), h, jN⟩
 intro hc2 h
 refine z1z ?_
 refine cBx ?_
 refine z08 ?_
 refine bR ?_
 iterate 4 refine sX ?_
 refine eX ?_
 refine cX h rfl ?_ ?_
 intro hc9 h
 refine bR ?_
 refine eX ?_
 obtain rfl := eI h; exact z05 eK
 intro hc9 h
 refine z07 ?_
 refine cBx ?_
 refine bR ?_
 refine eX ?_
 obtain rfl := eI h; exact z05 eK
theorem z25 (r_q1q : (Str × V) → (Str × V) → Option Int) (c_q1q : ∀ (a0 : (Str × V)) (a1 : (Str × V)) r, r_q1q a0 a1 = some r → z0m Tryz.prog 70 [(ofFld a0), (ofFld a1)] (I64 r)) (r_q00 : (List (Str × V)) → (List (Str × V)) → Option Int) (c_q00 : ∀ (a0 : (List (Str × V))) (a1 : (List (Str × V))) r, r_q00 a0 a1 = some r → z0m Tryz.prog 69 [(PV.sl none 69 2 (List.map ofFld a0)), (PV.sl none 69 2 (List.map ofFld a1)), (PV.fn (.func 70) [] [])] (I64 r)) (r_q02 : (List V) → (List V) → Option Int) (c_q02 : ∀ (a0 : (List V)) (a1 : (List V)) r, r_q02 a0 a1 = some r → z0m Tryz.prog 68 [(PV.sl none 20 1 (List.map ofV a0)), (PV.sl none 20 1 (List.map ofV a1)), (PV.fn (.func 38) [] [])] (I64 r)) (r_q1k : V → V → Option Int) (c_q1k : ∀ (a0 : V) (a1 : V) r, r_q1k a0 a1 = some r → z0m Tryz.prog 38 [(ofV a0), (ofV a1)] (I64 r)) (a0 a1 : (List V)) (r : Int) (h : zl6 r_q1q r_q00 r_q02 r_q1k a0 a1 = some r) : z0m Tryz.prog 68 [(PV.sl none 20 1 (List.map ofV a0)), (PV.sl none 20 1 (List.map ofV a1)), (PV.fn (.func 38) [] [])] (I64 r) := by
 unfold zl6 at h
 refine z0d Tryz.func68 rfl Tryz.ntmps68 Tryz.results68 rfl (z0g ?_)
 change BW _ _ _ ⟨[(0, (PV.sl none 20 1 (List.map ofV a0))), (1, (PV.sl none 20 1 (List.map ofV a1))), (2, (PV.fn (.func 38) [] []))], [], _⟩ _
 refine bR ?_
 refine eX ?_
 refine z08 ?_
 refine bR ?_
 iterate 2 refine sX ?_
 refine eX ?_
 refine z0h ?_
 refine cBx ?_
 unfold zeo at h
 refine lX (σ := Nat) (fun i => [(0, (PV.sl none 20 1 (List.map ofV a0))), (1, (PV.sl none 20 1 (List.map ofV a1))), (2, (PV.fn (.func 38) [] [])), (11, (PV.sl none 20 1 (List.map ofV a0))), (12, (I64 ((((a0).length : Nat) : Int)))), (13, (I64 (((i : Nat) : Int))))]) (fun i => []) 0 h ?_ ?_
 exact jN
 rintro g1_f s1 h; replace h : z5w r_q1k a0 a1 (fun y0 => g1_f y0) s1 = some r := h; unfold z5w at h
 change BW _ _ _ ⟨[(0, (PV.sl none 20 1 (List.map ofV a0))), (1, (PV.sl none 20 1 (List.map ofV a1))), (2, (PV.fn (.func 38) [] [])), (11, (PV.sl none 20 1 (List.map ofV a0))), (12, (I64 ((((a0).length : Nat) : Int)))), (13, (I64 (((s1 : Nat) : Int))))], [], _⟩ _
 refine bR ?_
 refine eX ?_
 refine z08 ?_
 refine z3j (t := 11) rfl fun hb3 => ?_
 try rw [List.length_map] at hb3
 refine cX h rfl ?_ ?_
 intro hc2 h
 have hc2_ := of_decide_eq_true hc2
 refine z07 ?_
 refine cBx ?_
 refine z08 ?_
 refine z0h ?_
 refine cBx ?_
 refine bR ?_
 refine sX ?_
 obtain ⟨x4, hx4, h⟩ := obind h
 refine sS rfl rfl rfl (z1r (i := s1) Tryz.underlying67 z1t rfl rfl rfl hx4 rfl) ?_
 refine sS rfl rfl rfl (z1y (y := (ofV x4)) Tryz.underlying20 rfl rfl rfl (by rw [z0t]; rfl)) ?_
 refine sX ?_
 refine eX ?_
 refine z08 ?_
 refine bR ?_
 iterate 3 refine sX ?_
 refine eX ?_
 refine cX h rfl ?_ ?_
 intro hc5 h
 refine bR ?_
 refine eX ?_
 obtain rfl := eI h; exact z05 eK
 intro hc5 h
 refine z07 ?_
 refine cBx ?_
 refine bR ?_
 iterate 2 refine sX ?_
 obtain ⟨x6, hx6, h⟩ := obind h
 refine sS rfl rfl rfl (z1r (i := s1) Tryz.underlying67 z1t rfl rfl rfl hx6 rfl) ?_
 refine sS rfl rfl rfl (z1y (y := (ofV x6)) Tryz.underlying20 rfl rfl rfl (by rw [z0t]; rfl)) ?_
 refine eX ?_
 refine bR ?_
 iterate 3 refine sX ?_
 obtain ⟨x7, hx7, h⟩ := obind h
 refine sS rfl rfl rfl (z4o rfl rfl Z09 rfl (wkr (wkr .nil)) ⟨(ids_V x4), ⟨(ids_V x6), trivial⟩⟩ (c_q1k x4 x6 x7 hx7) rfl) ?_
 refine eX ?_
 refine bR ?_
 refine sX ?_
 refine eX ?_
 refine cX h rfl ?_ ?_
 intro hc8 h
 refine bR ?_
 refine sX ?_
 refine eX ?_
 obtain rfl := eI h; exact z05 eK
 intro hc8 h
 refine z07 ?_
 refine cBx ?_
 refine z0f ?_
 refine sS rfl rfl rfl (z27 (k := s1) (c := 1) rfl rfl rfl (by omega)) ?_
 refine sX (z0a ?_)
 exact ⟨rfl, (s1 + 1), h, jN⟩
 intro hc2 h
 refine z1z ?_
 refine cBx ?_
 refine z08 ?_
 refine bR ?_
 iterate 4 refine sX ?_
 refine eX ?_
 refine cX h rfl ?_ ?_
 intro hc9 h
 refine bR ?_
 refine eX ?_
 obtain rfl := eI h; exact z05 eK
 intro hc9 h
 refine z07 ?_
 refine cBx ?_
 refine bR ?_
 refine eX ?_
 obtain rfl := eI h; exact z05 eK
theorem zfg (r_q1q : (Str × V) → (Str × V) → Option Int) (c_q1q : ∀ (a0 : (Str × V)) (a1 : (Str × V)) r, r_q1q a0 a1 = some r → z0m Tryz.prog 70 [(ofFld a0), (ofFld a1)] (I64 r)) (r_q00 : (List (Str × V)) → (List (Str × V)) → Option Int) (c_q00 : ∀ (a0 : (List (Str × V))) (a1 : (List (Str × V))) r, r_q00 a0 a1 = some r → z0m Tryz.prog 69 [(PV.sl none 69 2 (List.map ofFld a0)), (PV.sl none 69 2 (List.map ofFld a1)), (PV.fn (.func 70) [] [])] (I64 r)) (r_q02 : (List V) → (List V) → Option Int) (c_q02 : ∀ (a0 : (List V)) (a1 : (List V)) r, r_q02 a0 a1 = some r → z0m Tryz.prog 68 [(PV.sl none 20 1 (List.map ofV a0)), (PV.sl none 20 1 (List.map ofV a1)), (PV.fn (.func 38) [] [])] (I64 r)) (r_q1k : V → V → Option Int) (c_q1k : ∀ (a0 : V) (a1 : V) r, r_q1k a0 a1 = some r → z0m Tryz.prog 38 [(ofV a0), (ofV a1)] (I64 r)) (a0 a1 : V) (r : Int) (h : zks r_q1q r_q00 r_q02 r_q1k a0 a1 = some r) : z0m Tryz.prog 38 [(ofV a0), (ofV a1)] (I64 r) := by
 unfold zks at h
 refine z0d Tryz.func38 rfl Tryz.ntmps38 Tryz.results38 rfl (z0g ?_)
 change BW _ _ _ ⟨[(0, (ofV a0)), (1, (ofV a1))], [], _⟩ _
 refine bR ?_
 refine eX ?_
 refine z08 ?_
 refine bR ?_
 refine sX ?_
 obtain ⟨x1, hx1, h⟩ := obind h
 refine sS rfl rfl rfl (z06 rfl zvj rfl (wkr .nil) ⟨(ids_V a0), trivial⟩ (ztd a0 x1 hx1) rfl) ?_
 refine sX ?_
 obtain ⟨x2, hx2, h⟩ := obind h
 refine sS rfl rfl rfl (z06 rfl zvj rfl (wkr .nil) ⟨(ids_V a1), trivial⟩ (ztd a1 x2 hx2) rfl) ?_
 obtain ⟨x3, hx3, h⟩ := obind h
 refine sS rfl rfl rfl (z06 rfl Z05 rfl (wkr (wkr .nil)) ⟨rfl, ⟨rfl, trivial⟩⟩ (zyf x1 x2 x3 hx3) rfl) ?_
 refine eX ?_
 refine bR ?_
 refine sX ?_
 refine eX ?_
 refine cX h rfl ?_ ?_
 intro hc4 h
 refine bR ?_
 refine sX ?_
 refine eX ?_
 obtain rfl := eI h; exact z05 eK
 intro hc4 h
 refine z07 ?_
 refine cBx ?_
 refine z08 ?_
 refine bR ?_
 refine eX ?_
 refine z0h ?_
 refine cBx ?_
 refine bR ?_
 refine sS rfl rfl rfl (zeq rfl rfl) ?_
 refine sX ?_
 refine eX ?_
 refine cX h rfl ?_ ?_
 intro hc5 h
 refine bR ?_
 refine eX ?_
 refine z08 (z1l 4 [] [] mo (by kernel_rfl) ?_)
 refine gX ?_
 obtain ⟨x6, hx6, h⟩ := obind h
 refine z1p rfl rfl rfl rfl (fun H hp => z06 rfl Z3o rfl (wkr .nil) ⟨rfl, trivial⟩ (Z1u ((a0).asBool) x6 hx6) rfl) ?_
 refine gX ?_
 obtain ⟨x7, hx7, h⟩ := obind h
 refine z1p rfl rfl rfl rfl (fun H hp => zog rfl rfl hx7) ?_
 refine z1u ?_
 change AO _ _ _ _ _
 obtain ⟨x8, hx8, h⟩ := obind h
 refine sS rfl rfl rfl (z06 rfl Z3o rfl (wkr .nil) ⟨rfl, trivial⟩ (Z1u x7 x8 hx8) rfl) ?_
 obtain ⟨x9, hx9, h⟩ := obind h
 refine sS rfl rfl rfl (z06 rfl Z05 rfl (wkr (wkr .nil)) ⟨rfl, ⟨rfl, trivial⟩⟩ (zyf x6 x8 x9 hx9) rfl) ?_
 refine eX ?_
 obtain rfl := eI h; exact z05 eK
 intro hc5 h
 refine bR ?_
 refine sS rfl rfl rfl (zi9 rfl rfl) ?_
 refine sX ?_
 refine eX ?_
 refine cX h rfl ?_ ?_
 intro hc10 h
 refine bR ?_
 refine eX ?_
 refine bR ?_
 iterate 2 refine sX ?_
 obtain ⟨x11, hx11, h⟩ := obind h
 refine sS rfl rfl rfl (zr4 rfl rfl hx11) ?_
 obtain ⟨x12, hx12, h⟩ := obind h
 refine sS rfl rfl rfl (z06 rfl Z77 rfl (wkr (wkr .nil)) ⟨rfl, ⟨rfl, trivial⟩⟩ (Z56 ((a0).asInt) x11 x12 hx12) rfl) ?_
 refine eX ?_
 obtain rfl := eI h; exact z05 eK
 intro hc10 h
 refine bR ?_
 refine sS rfl rfl rfl (zd5 rfl rfl) ?_
 refine sX ?_
 refine eX ?_
 refine cX h rfl ?_ ?_
 intro hc13 h
 refine bR ?_
 refine eX ?_
 refine z08 (z1l 4 [] [] mo (by kernel_rfl) ?_)
 refine gX ?_
 obtain ⟨x14, hx14, h⟩ := obind h
 refine z1p rfl rfl rfl rfl (fun H hp => z06 rfl Z3n rfl (wkr .nil) ⟨rfl, trivial⟩ (Z1s ((a0).asFloat) x14 hx14) rfl) ?_
 refine gX ?_
 obtain ⟨x15, hx15, h⟩ := obind h
 refine z1p rfl rfl rfl rfl (fun H hp => zk5 rfl rfl hx15) ?_
 refine z1u ?_
 change AO _ _ _ _ _
 obtain ⟨x16, hx16, h⟩ := obind h
 refine sS rfl rfl rfl (z06 rfl Z3n rfl (wkr .nil) ⟨rfl, trivial⟩ (Z1s x15 x16 hx16) rfl) ?_
 obtain ⟨x17, hx17, h⟩ := obind h
 refine sS rfl rfl rfl (z06 rfl Z76 rfl (wkr (wkr .nil)) ⟨rfl, ⟨rfl, trivial⟩⟩ (Z59 x14 x16 x17 hx17) rfl) ?_
 refine eX ?_
 obtain rfl := eI h; exact z05 eK
 intro hc13 h
 refine bR ?_
 refine sS rfl rfl rfl (zb3 rfl rfl) ?_
 refine sX ?_
 refine eX ?_
 refine cX h rfl ?_ ?_
 intro hc18 h
 refine bR ?_
 refine eX ?_
 refine bR ?_
 iterate 2 refine sX ?_
 obtain ⟨x19, hx19, h⟩ := obind h
 refine sS rfl rfl rfl (zod rfl rfl hx19) ?_
 obtain ⟨x20, hx20, h⟩ := obind h
 refine sS rfl rfl rfl (z06 rfl Z04 rfl (wkr (wkr .nil)) ⟨rfl, ⟨rfl, trivial⟩⟩ (zyg ((a0).asText) x19 x20 hx20) rfl) ?_
 refine eX ?_
 obtain rfl := eI h; exact z05 eK
 intro hc18 h
 refine bR ?_
 refine sS rfl rfl rfl (z4z rfl rfl) ?_
 refine sX ?_
 refine eX ?_
 refine cX h rfl ?_ ?_
 intro hc21 h
 refine bR ?_
 refine eX ?_
 refine bR ?_
 iterate 2 refine sX ?_
 obtain ⟨x22, hx22, h⟩ := obind h
 refine sS rfl rfl rfl (zk6 rfl rfl hx22) ?_
 obtain ⟨x23, hx23, h⟩ := obind h
 refine sS rfl rfl rfl (z06 rfl Z75 rfl (wkr (wkr .nil)) ⟨(z03 (fun _ => rfl) ((a0).asBytes)), ⟨(z03 (fun _ => rfl) x22), trivial⟩⟩ (Z5j ((a0).asBytes) x22 x23 hx23) rfl) ?_
 refine eX ?_
 obtain rfl := eI h; exact z05 eK
 intro hc21 h
 refine bR ?_
 refine sS rfl rfl rfl (zi8 rfl rfl) ?_
 refine sX ?_
 refine eX ?_
 refine cX h rfl ?_ ?_
 intro hc24 h
 refine bR ?_
 refine eX ?_
 refine bR ?_
 iterate 2 refine sX ?_
 obtain ⟨x25, hx25, h⟩ := obind h
 refine sS rfl rfl rfl (zr2 rfl rfl hx25) ?_
 obtain ⟨x26, hx26, h⟩ := obind h
 refine sS rfl rfl rfl (z06 rfl Z74 rfl (wkr (wkr .nil)) ⟨rfl, ⟨rfl, trivial⟩⟩ (Z5b ((a0).asRef) x25 x26 hx26) rfl) ?_
 refine eX ?_
 obtain rfl := eI h; exact z05 eK
 intro hc24 h
 refine bR ?_
 refine sS rfl rfl rfl (z1w rfl rfl) ?_
 refine sX ?_
 refine eX ?_
 refine cX h rfl ?_ ?_
 intro hc27 h
 refine bR ?_
 refine eX ?_
 refine bR ?_
 iterate 2 refine sX ?_
 obtain ⟨x28, hx28, h⟩ := obind h
 refine sS rfl rfl rfl (zoe rfl rfl hx28) ?_
 obtain ⟨x29, hx29, h⟩ := obind h
 refine sS rfl rfl rfl (z06 rfl Z73 rfl (wkr (wkr (wkr .nil))) ⟨(z03 ids_V ((a0).asList)), ⟨(z03 ids_V x28), ⟨rfl, trivial⟩⟩⟩ (c_q02 ((a0).asList) x28 x29 hx29) rfl) ?_
 refine eX ?_
 obtain rfl := eI h; exact z05 eK
 intro hc27 h
 refine bR ?_
 refine sS rfl rfl rfl (z2r rfl rfl) ?_
 refine sX ?_
 refine eX ?_
 refine cX h rfl ?_ ?_
 intro hc30 h
 refine bR ?_
 refine eX ?_
 refine bR ?_
 iterate 2 refine sX ?_
 obtain ⟨x31, hx31, h⟩ := obind h
 refine sS rfl rfl rfl (zof rfl rfl hx31) ?_
 obtain ⟨x32, hx32, h⟩ := obind h
 refine sS rfl rfl rfl (z06 rfl Z3m rfl (wkr (wkr (wkr .nil))) ⟨(z03 z0r ((a0).asDict)), ⟨(z03 z0r x31), ⟨rfl, trivial⟩⟩⟩ (c_q00 ((a0).asDict) x31 x32 hx32) rfl) ?_
 refine eX ?_
 obtain rfl := eI h; exact z05 eK
 intro hc30 h
 refine bR ?_
 refine sS rfl rfl rfl (z35 rfl rfl) ?_
 refine sX ?_
 refine eX ?_
 refine cX h rfl ?_ ?_
 intro hc33 h
 refine bR ?_
 refine eX ?_
 refine bR ?_
 refine sX ?_
 obtain ⟨x34, hx34, h⟩ := obind h
 refine sS rfl rfl rfl (zr3 rfl rfl hx34) ?_
 refine eX ?_
 refine z08 ?_
 refine z08 (z1l 8 [] [] mo (by kernel_rfl) ?_)
 refine gX ?_
 obtain ⟨x35, hx35, h⟩ := obind h
 refine z1p rfl rfl rfl rfl (fun H hp => z1m rfl rfl hx35) ?_
 iterate 3 refine gX ?_
 obtain ⟨x36, hx36, h⟩ := obind h
 refine z1p rfl rfl rfl rfl (fun H hp => z1m rfl rfl hx36) ?_
 iterate 2 refine gX ?_
 refine z1u ?_
 change AO _ _ _ _ _
 obtain ⟨x37, hx37, h⟩ := obind h
 refine sS rfl rfl rfl (z06 rfl Z04 rfl (wkr (wkr .nil)) ⟨rfl, ⟨rfl, trivial⟩⟩ (zyg x35.cls x36.cls x37 hx37) rfl) ?_
 refine eX ?_
 refine bR ?_
 refine sX ?_
 refine eX ?_
 refine cX h rfl ?_ ?_
 intro hc38 h
 refine bR ?_
 refine sX ?_
 refine eX ?_
 obtain rfl := eI h; exact z05 eK
 intro hc38 h
 refine z07 ?_
 refine cBx ?_
 refine z08 ?_
 refine z08 (z1l 8 [] [] mo (by kernel_rfl) ?_)
 refine gX ?_
 refine z1p rfl rfl rfl rfl (fun H hp => z1m rfl rfl hx35) ?_
 iterate 3 refine gX ?_
 refine z1p rfl rfl rfl rfl (fun H hp => z1m rfl rfl hx36) ?_
 iterate 2 refine gX ?_
 refine z1u ?_
 change AO _ _ _ _ _
 obtain ⟨x39, hx39, h⟩ := obind h
 refine sS rfl rfl rfl (z06 rfl Z05 rfl (wkr (wkr .nil)) ⟨rfl, ⟨rfl, trivial⟩⟩ (zyf x35.ver x36.ver x39 hx39) rfl) ?_
 refine eX ?_
 refine bR ?_
 refine sX ?_
 refine eX ?_
 refine cX h rfl ?_ ?_
 intro hc40 h
 refine bR ?_
 refine sX ?_
 refine eX ?_
 obtain rfl := eI h; exact z05 eK
 intro hc40 h
 refine z07 ?_
 refine cBx ?_
 refine z08 (z1l 8 [] [] mo (by kernel_rfl) ?_)
 refine gX ?_
 refine z1p rfl rfl rfl rfl (fun H hp => z1m rfl rfl hx35) ?_
 iterate 3 refine gX ?_
 refine z1p rfl rfl rfl rfl (fun H hp => z1m rfl rfl hx36) ?_
 iterate 2 refine gX ?_
 refine z1u ?_
 change AO _ _ _ _ _
 obtain ⟨x41, hx41, h⟩ := obind h
 refine sS rfl rfl rfl (z06 rfl Z3m rfl (wkr (wkr (wkr .nil))) ⟨(z03 z0r x35.fields), ⟨(z03 z0r x36.fields), ⟨rfl, trivial⟩⟩⟩ (c_q00 x35.fields x36.fields x41 hx41) rfl) ?_
 refine eX ?_
 obtain rfl := eI h; exact z05 eK
 intro hc33 h
 refine z07 ?_
 refine cBx ?_
 refine bR ?_
 refine eX ?_
 obtain rfl := eI h; exact z05 eK
theorem C_q1q.sound : ∀ (i : C_q1q) (r : i.R), z2w C_q1q.F i = some r → C_q1q.Q i r := by
 refine z3z (Φ := C_q1q.F) (Q := C_q1q.Q) ?_
 intro g hg i r h
 cases i with
 | k_q1q a0 a1 => exact zfh (fun a0 a1 => g (.k_q1q a0 a1)) (fun a0 a1 r hr => hg (.k_q1q a0 a1) r hr) (fun a0 a1 => g (.k_q00 a0 a1)) (fun a0 a1 r hr => hg (.k_q00 a0 a1) r hr) (fun a0 a1 => g (.k_q02 a0 a1)) (fun a0 a1 r hr => hg (.k_q02 a0 a1) r hr) (fun a0 a1 => g (.k_q1k a0 a1)) (fun a0 a1 r hr => hg (.k_q1k a0 a1) r hr) a0 a1 r h
 | k_q00 a0 a1 => exact z1v (fun a0 a1 => g (.k_q1q a0 a1)) (fun a0 a1 r hr => hg (.k_q1q a0 a1) r hr) (fun a0 a1 => g (.k_q00 a0 a1)) (fun a0 a1 r hr => hg (.k_q00 a0 a1) r hr) (fun a0 a1 => g (.k_q02 a0 a1)) (fun a0 a1 r hr => hg (.k_q02 a0 a1) r hr) (fun a0 a1 => g (.k_q1k a0 a1)) (fun a0 a1 r hr => hg (.k_q1k a0 a1) r hr) a0 a1 r h
 | k_q02 a0 a1 => exact z25 (fun a0 a1 => g (.k_q1q a0 a1)) (fun a0 a1 r hr => hg (.k_q1q a0 a1) r hr) (fun a0 a1 => g (.k_q00 a0 a1)) (fun a0 a1 r hr => hg (.k_q00 a0 a1) r hr) (fun a0 a1 => g (.k_q02 a0 a1)) (fun a0 a1 r hr => hg (.k_q02 a0 a1) r hr) (fun a0 a1 => g (.k_q1k a0 a1)) (fun a0 a1 r hr => hg (.k_q1k a0 a1) r hr) a0 a1 r h
 | k_q1k a0 a1 => exact zfg (fun a0 a1 => g (.k_q1q a0 a1)) (fun a0 a1 r hr => hg (.k_q1q a0 a1) r hr) (fun a0 a1 => g (.k_q00 a0 a1)) (fun a0 a1 r hr => hg (.k_q00 a0 a1) r hr) (fun a0 a1 => g (.k_q02 a0 a1)) (fun a0 a1 r hr => hg (.k_q02 a0 a1) r hr) (fun a0 a1 => g (.k_q1k a0 a1)) (fun a0 a1 r hr => hg (.k_q1k a0 a1) r hr) a0 a1 r h
theorem Z4y (a0 a1 : V) (r : Int) (h : z9s a0 a1 = some r) : z0m Tryz.prog 38 [(ofV a0), (ofV a1)] (I64 r) := C_q1q.sound (.k_q1k a0 a1) r h
noncomputable def zdv (a0 a1 : V) : Option Bool :=
 (zi4 a0).bind fun x1 =>
 (zi4 a1).bind fun x2 =>
 bif (x1.2 == 0) then (
 bif (x2.2 == 0) then (
 (z9s a0 a1).bind fun x5 =>
 some (x5 == 0)
 ) else (
 some false
 )
 ) else (
 some false
 )
theorem znd (a0 a1 : V) (r : Bool) (h : zdv a0 a1 = some r) : z0m Tryz.prog 12 [(ofV a0), (ofV a1)] (BO r) := by
 unfold zdv at h
 refine z0d Tryz.func12 rfl Tryz.ntmps12 Tryz.results12 rfl (z0g ?_)
 change BW _ _ _ ⟨[(0, (ofV a0)), (1, (ofV a1))], [], _⟩ _
 refine bR ?_
 refine eX ?_
 refine bR ?_
 refine sX ?_
 obtain ⟨x1, hx1, h⟩ := obind h
 refine sS rfl rfl rfl (z06 rfl zvn rfl (wkr .nil) ⟨(ids_V a0), trivial⟩ (zte a0 x1 hx1) (z01 rfl (z01 rfl z04))) ?_
 iterate 4 refine sX ?_
 refine eX ?_
 refine bR ?_
 refine sX ?_
 obtain ⟨x2, hx2, h⟩ := obind h
 refine sS rfl rfl rfl (z06 rfl zvn rfl (wkr .nil) ⟨(ids_V a1), trivial⟩ (zte a1 x2 hx2) (z01 rfl (z01 rfl z04))) ?_
 iterate 4 refine sX ?_
 refine eX ?_
 refine bR ?_
 iterate 3 refine sX ?_
 refine z0q (t := 21) rfl ?_ ?_
 intro hb3; replace h := z0x hb3 h
 iterate 2 refine yX ?_
 iterate 2 refine sX ?_
 refine z0q (t := 25) rfl ?_ ?_
 intro hb4; replace h := z0x hb4 h
 iterate 2 refine yX ?_
 obtain ⟨x5, hx5, h⟩ := obind h
 refine z1q rfl rfl rfl rfl rfl rfl (z06 rfl Z09 rfl (wkr (wkr .nil)) ⟨(ids_V a0), ⟨(ids_V a1), trivial⟩⟩ (Z4y a0 a1 x5 hx5) rfl) ?_
 refine yX ?_
 refine sX ?_
 refine eX ?_
 obtain rfl := eI h; exact z05 eK
 intro hb4; replace h := z0y hb4 h
 iterate 4 refine nX ?_
 refine sX ?_
 refine eX ?_
 obtain rfl := eI h; exact z05 eK
 intro hb3; replace h := z0y hb3 h
 iterate 2 refine nX ?_
 iterate 2 refine sX ?_
 iterate 4 refine nX ?_
 refine sX ?_
 refine eX ?_
 obtain rfl := eI h; exact z05 eK
noncomputable def zdx (a0 : (List S_api_Step)) : Option (List S_api_Step) :=
 some a0
theorem ztg (a0 r : (List S_api_Step)) (h : zdx a0 = some r) : z18 Tryz.prog 80 [(PV.sl none 83 3 (List.map z00 a0))] [] (PV.sl (some 0) 83 3 (List.map z00 r)) [.arr 83 (r).length] := by
 unfold zdx at h
 refine z0d Tryz.func80 rfl Tryz.ntmps80 Tryz.results80 rfl (z0g ?_)
 change BW _ _ _ ⟨[(0, (PV.sl none 83 3 (List.map z00 a0)))], [], _⟩ _
 refine bR ?_
 refine eX ?_
 refine bR ?_
 iterate 5 refine sX ?_
 refine sS rfl rfl rfl (zrg Tryz.underlying30 z1h rfl rfl rfl rfl) ?_
 refine eX ?_
 obtain rfl := eI h; exact z05 ⟨_, rfl, Z3c (y := (PV.sl (some 0) 83 3 (List.map z00 a0))) 0 rfl (Wk.refl _) (zon (z0u z02 _)) (z67 (z0u z02 _) rfl) ⟨rfl, rfl⟩⟩
noncomputable def zb2 (a0 : S_api_Step) (a1 : (List S_api_Step)) : Option (List S_api_Step) :=
 (zdx a1).bind fun x1 =>
 (z8k 32 x1 ([a0] : (List S_api_Step))).bind fun x2 =>
 some x2
theorem zne (a0 : S_api_Step) (a1 r : (List S_api_Step)) (h : zb2 a0 a1 = some r) : z0m Tryz.prog 79 [(z00 a0), (PV.pt 30 (PV.sl none 83 3 (List.map z00 a1)) 0)] (PV.sl none 83 3 (List.map z00 r)) := by
 unfold zb2 at h
 refine z0d Tryz.func79 rfl Tryz.ntmps79 Tryz.results79 rfl (z0g ?_)
 change BW _ _ _ ⟨[(0, (z00 a0)), (1, (PV.pt 30 (PV.sl none 83 3 (List.map z00 a1)) 0))], [], _⟩ _
 refine bR ?_
 refine sX ?_
 refine eX ?_
 refine z08 (z1l 4 [1] [0] mo (by kernel_rfl) ?_)
 refine gX ?_
 obtain ⟨x1, hx1, h⟩ := obind h
 refine z41 rfl rfl rfl rfl (z49 rfl zvi rfl (wkr .nil) ⟨(z03 z02 a1), trivial⟩ (ztg a1 x1 hx1) (z67 (z0u z02 _) rfl) rfl) ⟨rfl, trivial⟩ ?_
 refine gX ?_
 refine z1p rfl rfl rfl rfl (fun H hp => (z77 (xs := [(PV.agg [(z0i a0.f_Name), (BO a0.f_At), (I64 a0.f_Index)])]) Tryz.underlying30 z1h rfl rfl rfl rfl rfl rfl ⟨lbE rfl, lbE rfl⟩ rfl).cast (y := (PV.sl none 83 3 (List.map z00 ([a0] : (List S_api_Step))))) rfl rfl) ?_
 refine z1u ?_
 change AO _ _ _ _ _
 obtain ⟨x2, hx2, h⟩ := obind h
 refine sS rfl rfl rfl (z2l Tryz.underlying30 z1h rfl Tryz.underlying30 rfl rfl rfl rfl z2x z2j hx2 rfl) ?_
 refine eX ?_
 obtain rfl := eI h; exact z05 ⟨_, rfl, z0p (y := (PV.sl none 83 3 (List.map z00 x2))) Wk.tok (z03 z02 x2) ⟨rfl, rfl⟩⟩
noncomputable def zfs (a0 : (List S_api_Step)) : Option (List S_api_Step) :=
 (z8k 32 ([] : (List S_api_Step)) a0).bind fun x2 =>
 some x2
theorem zti (a0 r : (List S_api_Step)) (h : zfs a0 = some r) : z0m Tryz.prog 47 [(PV.sl none 83 3 (List.map z00 a0))] (PV.sl none 83 3 (List.map z00 r)) := by
 unfold zfs at h
 refine z0d Tryz.func47 rfl Tryz.ntmps47 Tryz.results47 rfl (z0g ?_)
 change BW _ _ _ ⟨[(0, (PV.sl none 83 3 (List.map z00 a0)))], [], _⟩ _
 refine bR ?_
 refine eX ?_
 refine z08 ?_
 refine bR ?_
 refine sX ?_
 refine zaa rfl rfl rfl Tryz.underlying30 rfl rfl ?_
 intro nb1 hnb1
 refine z0a ?_
 refine cBx ?_
 cases nb1
 refine z7c rfl ?_
 refine z07 ?_
 refine cBx ?_
 refine bR ?_
 refine sS rfl rfl rfl ((z1e (xs := []) Tryz.underlying30 z1h rfl rfl rfl rfl rfl rfl ⟨lbE rfl, lbE rfl⟩ rfl).cast (y := (PV.sl (some 0) 83 3 (List.map z00 ([] : (List S_api_Step))))) rfl rfl) ?_
 refine sX ?_
 obtain ⟨x2, hx2, h⟩ := obind h
 refine sS rfl rfl rfl (z2l Tryz.underlying30 z1h rfl Tryz.underlying30 rfl rfl rfl rfl z2x z2j hx2 rfl) ?_
 refine eX ?_
 obtain rfl := eI h; exact z05 ⟨_, rfl, z0p (y := (PV.sl none 83 3 (List.map z00 x2))) Wk.tok (z03 z02 x2) ⟨rfl, rfl⟩⟩
 have hz := List.map_eq_nil_iff.1 (hnb1 rfl)
 rw [hz] at h
 replace h : some [] = some r := h
 refine zc2 rfl ?_
 refine bR ?_
 refine eX ?_
 obtain rfl := eI h; exact z05 ⟨_, rfl, z0p (y := (PV.sl none 83 3 (List.map z00 []))) Wk.nil (z03 z02 ([])) ⟨rfl, rfl⟩⟩
noncomputable def zjp (a0 : V) : Option V :=
 (z8q a0).bind fun x1 =>
 some x1.1
theorem zyd (a0 r : V) (h : zjp a0 = some r) : z0m Tryz.prog 48 [(ofV a0)] (ofV r) := by
 unfold zjp at h
 refine z0d Tryz.func48 rfl Tryz.ntmps48 Tryz.results48 rfl (z0g ?_)
 change BW _ _ _ ⟨[(0, (ofV a0))], [], _⟩ _
 refine bR ?_
 refine eX ?_
 refine bR ?_
 refine sX ?_
 obtain ⟨x1, hx1, h⟩ := obind h
 refine sS rfl rfl rfl (z06 rfl zkh rfl (wkr .nil) ⟨(ids_V a0), trivial⟩ (zjh a0 x1 hx1) (z01 (ids_V x1.1) (z01 rfl z04))) ?_
 iterate 4 refine sX ?_
 refine eX ?_
 refine bR ?_
 refine sX ?_
 refine eX ?_
 obtain rfl := eI h; exact z05 ⟨_, rfl, z0p (y := (ofV x1.1)) (Wk.refl _) (ids_V x1.1) ⟨rfl, rfl⟩⟩
noncomputable def zdw (a0 : Int) (a1 : (List S_api_Step)) (a2 : V) (a3 : (List S_api_Edit)) : Option (List S_api_Edit) :=
 (zfs a1).bind fun x1 =>
 (zjp a2).bind fun x2 =>
 (z8k 48 a3 ([(S_api_Edit.mk a0 x1 x2)] : (List S_api_Edit))).bind fun x3 =>
 some x3
theorem zpa (a0 : Int) (a1 : (List S_api_Step)) (a2 : V) (a3 r : (List S_api_Edit)) (h : zdw a0 a1 a2 a3 = some r) : z18 Tryz.prog 46 [(I64 a0), (PV.sl none 83 3 (List.map z00 a1)), (ofV a2), (PV.rf 0 0)] [.box 46 [(PV.sl (some 1) 53 3 (List.map z0l a3))], .arr 53 (a3).length] (PV.tup []) [.box 46 [(PV.sl (some 1) 53 3 (List.map z0l r))], .arr 53 (r).length] := by
 unfold zdw at h
 refine z0d Tryz.func46 rfl Tryz.ntmps46 Tryz.results46 rfl (z0g ?_)
 change BW _ _ _ ⟨[(0, (I64 a0)), (1, (PV.sl none 83 3 (List.map z00 a1))), (2, (ofV a2)), (3, (PV.rf 0 0))], [.box 46 [(PV.sl (some 1) 53 3 (List.map z0l a3))], .arr 53 (a3).length], _⟩ _
 refine z1l 8 [7] [0] mo (by kernel_rfl) ?_
 iterate 3 refine gX ?_
 obtain ⟨x1, hx1, h⟩ := obind h
 refine z1p rfl rfl rfl rfl (fun H hp => z06 rfl zvm rfl (wkr .nil) ⟨(z03 z02 a1), trivial⟩ (zti a1 x1 hx1) (z03 z02 x1)) ?_
 refine gX ?_
 obtain ⟨x2, hx2, h⟩ := obind h
 refine z1p rfl rfl rfl rfl (fun H hp => z06 rfl Z07 rfl (wkr .nil) ⟨(ids_V a2), trivial⟩ (zyd a2 x2 hx2) (ids_V x2)) ?_
 refine z1p rfl rfl rfl rfl (fun H hp => z1g (cs := [(I64 a0), (PV.sl none 83 3 (List.map z00 x1)), (ofV x2)]) Z1h zip rfl rfl (by simp only [List.all_cons, List.all_nil, z3t, z29, Bool.and_true, Bool.true_and]; try rfl) (by simp only [z3u, List.getElem?_cons_zero, List.getElem?_cons_succ, z0t, z10]; rfl)) ?_
 refine z41 rfl rfl rfl rfl ((z1e (xs := [(PV.agg [(I64 a0), (PV.sl none 83 3 (List.map z00 x1)), (ofV x2)])]) Tryz.underlying46 zip rfl rfl rfl (by simp only [List.all_cons, List.all_nil, z3t, z29, Bool.and_true, Bool.true_and]; try rfl) (by simp only [List.all_cons, List.all_nil, csz_V, z31, z0t, z10]; try rfl) rfl ⟨lbE rfl, lbE rfl⟩ (by simp only [z8z, z3u, List.flatMap_cons, List.flatMap_nil, z0t, z10]; try rfl)).cast (y := (PV.sl (some 2) 53 3 (List.map z0l ([(S_api_Edit.mk a0 x1 x2)] : (List S_api_Edit))))) rfl rfl) ⟨rfl, trivial⟩ ?_
 refine z1u ?_
 change AO _ _ _ _ _
 obtain ⟨x3, hx3, h⟩ := obind h
 refine sS rfl rfl rfl (z2l Tryz.underlying46 zip rfl Tryz.underlying46 rfl rfl rfl rfl ze0 zbs hx3 rfl) ?_
 refine z0j rfl rfl (z0e zxg rfl rfl rfl rfl rfl rfl (lbE rfl) rfl) ?_
 refine z0a ?_
 change ∃ xs, _ = some xs ∧ EndOk _ _ _ _
 obtain rfl := Option.some.inj h
 exact ⟨_, rfl, endR (y := (PV.tup [])) 2 (Wk.refl _) rfl rfl (.tup .nil) (.cons (.box (.cons (.row rfl (z0u z0k x3)) .nil)) (.cons .arr .nil)) ⟨rfl, rfl⟩⟩
noncomputable def zh7 : Option ((List (Str × V)) × (List (Str × V)) × Bool) :=
 some ([], [], false)
noncomputable def ze9 (a0 a1 : V) (s3 : Bool) : Option ((List (Str × V)) × (List (Str × V)) × Bool) :=
 bif s3 then (
 ((a0).asRec).bind fun x5 =>
 ((a1).asRec).bind fun x6 =>
 some (x5.fields, x6.fields, true)
 ) else (
 zh7
 )
noncomputable def zz0 (a0 a1 : V) : Option ((List (Str × V)) × (List (Str × V)) × Bool) :=
 bif (a0).isDict then (
 some ((a0).asDict, (a1).asDict, (a1).isDict)
 ) else (
 bif (a0).isRec then (
 bif (a1).isRec then (
 ((a0).asRec).bind fun x8 =>
 ((a1).asRec).bind fun x9 =>
 bif (x8.cls == x9.cls) then (
 ze9 a0 a1 (x8.ver == x9.ver)
 ) else (
 ze9 a0 a1 false
 )
 ) else (
 ze9 a0 a1 false
 )
 ) else (
 zh7
 )
 )
theorem Z4r (a0 a1 : V) (r : ((List (Str × V)) × (List (Str × V)) × Bool)) (h : zz0 a0 a1 = some r) : z0m Tryz.prog 81 [(ofV a0), (ofV a1)] (PV.tup [(PV.sl none 69 2 (List.map ofFld r.1)), (PV.sl none 69 2 (List.map ofFld r.2.1)), (BO r.2.2)]) := by
 unfold zz0 at h
 refine z0d Tryz.func81 rfl Tryz.ntmps81 Tryz.results81 rfl (z0g ?_)
 change BW _ _ _ ⟨[(0, (ofV a0)), (1, (ofV a1))], [], _⟩ _
 refine bR ?_
 iterate 2 refine sX ?_
 refine eX ?_
 refine jX (ι := Unit) (fun i => zh7 = some r) (fun i => []) (fun i => []) ?_ ?_
 rintro ⟨⟩ h; replace h : zh7 = some r := h; unfold zh7 at h
 change BW _ _ _ ⟨[], [], _⟩ _
 refine bR ?_
 iterate 2 refine sX ?_
 refine eX ?_
 obtain rfl := eI h; exact z05 ⟨_, rfl, z0p (y := (PV.tup [(PV.sl none 69 2 (List.map ofFld [])), (PV.sl none 69 2 (List.map ofFld [])), (BO false)])) (Wk.tup (.cons Wk.nil (.cons Wk.nil (wkr .nil)))) (z01 (z03 z0r ([])) (z01 (z03 z0r ([])) (z01 rfl z04))) ⟨rfl, rfl⟩⟩
 refine bR ?_
 refine eX ?_
 refine z0h ?_
 refine cBx ?_
 refine bR ?_
 refine sS rfl rfl rfl (z2r rfl rfl) ?_
 refine sX ?_
 refine eX ?_
 refine cX h rfl ?_ ?_
 intro hc1 h
 refine bR ?_
 refine eX ?_
 refine bR ?_
 refine sX ?_
 refine sS rfl rfl rfl (z2r rfl rfl) ?_
 iterate 4 refine sX ?_
 refine eX ?_
 refine bR ?_
 iterate 5 refine sX ?_
 refine eX ?_
 obtain rfl := eI h; exact z05 ⟨_, rfl, z0p (y := (PV.tup [(PV.sl none 69 2 (List.map ofFld (a0).asDict)), (PV.sl none 69 2 (List.map ofFld (a1).asDict)), (BO ((a1).isDict))])) (Wk.refl _) (z01 (z03 z0r ((a0).asDict)) (z01 (z03 z0r ((a1).asDict)) (z01 rfl z04))) ⟨rfl, rfl⟩⟩
 intro hc1 h
 refine bR ?_
 refine sS rfl rfl rfl (z35 rfl rfl) ?_
 refine sX ?_
 refine eX ?_
 refine cX h rfl ?_ ?_
 intro hc2 h
 refine bR ?_
 refine eX ?_
 refine bR ?_
 refine sX ?_
 refine sS rfl rfl rfl (z35 rfl rfl) ?_
 iterate 4 refine sX ?_
 refine eX ?_
 refine z2t (ι := Bool) (fun i => ze9 a0 a1 i = some r) (fun i => [(10, (ofRecP (a0).asRec)), (11, (ofRecP (a1).asRec)), (55, (BO i))]) (fun i => []) ?_ ?_ ?_
 intro i; exact ⟨lbE rfl, ⟨(z09 (zg9 _)), ⟨(z09 (zg9 _)), ⟨(z09 rfl), trivial⟩⟩⟩, trivial⟩
 rintro s3 h; replace h : ze9 a0 a1 s3 = some r := h; unfold ze9 at h
 change BW _ _ _ ⟨[(10, (ofRecP (a0).asRec)), (11, (ofRecP (a1).asRec)), (55, (BO s3))], [], _⟩ _
 refine cX h rfl ?_ ?_
 intro hc4 h
 refine z08 (z1l 9 [] [] mo (by kernel_rfl) ?_)
 refine gX ?_
 obtain ⟨x5, hx5, h⟩ := obind h
 refine z1p rfl rfl rfl rfl (fun H hp => z1m rfl rfl hx5) ?_
 iterate 3 refine gX ?_
 obtain ⟨x6, hx6, h⟩ := obind h
 refine z1p rfl rfl rfl rfl (fun H hp => z1m rfl rfl hx6) ?_
 iterate 3 refine gX ?_
 refine z1u ?_
 change AO _ _ _ _ _
 refine sX ?_
 refine eX ?_
 obtain rfl := eI h; exact z05 ⟨_, rfl, z0p (y := (PV.tup [(PV.sl none 69 2 (List.map ofFld x5.fields)), (PV.sl none 69 2 (List.map ofFld x6.fields)), (BO true)])) (Wk.refl _) (z01 (z03 z0r x5.fields) (z01 (z03 z0r x6.fields) (z01 rfl z04))) ⟨rfl, rfl⟩⟩
 intro hc4 h
 refine z07 ?_
 exact ⟨rfl, (), h, jN⟩
 refine z1l 21 [] [] mo (by kernel_rfl) ?_
 iterate 2 refine gX ?_
 refine z7e 34 rfl ?_ ?_
 intro hb7; replace h := z0x hb7 h
 refine wX ?_
 obtain ⟨x8, hx8, h⟩ := obind h
 refine z7h rfl rfl rfl rfl rfl rfl rfl (fun H hp => z1m rfl rfl hx8) ?_
 iterate 3 refine wX ?_
 obtain ⟨x9, hx9, h⟩ := obind h
 refine z7h rfl rfl rfl rfl rfl rfl rfl (fun H hp => z1m rfl rfl hx9) ?_
 iterate 2 refine wX ?_
 refine z7h rfl rfl rfl rfl rfl rfl rfl (fun H hp => (z2p (a := x8.cls) (b := x9.cls) rfl rfl rfl rfl).cast (y := (BO ((x8.cls == x9.cls)))) rfl rfl) ?_
 iterate 2 refine gX ?_
 refine z7e 45 rfl ?_ ?_
 intro hb10; replace h := z0x hb10 h
 refine wX ?_
 refine z7h rfl rfl rfl rfl rfl rfl rfl (fun H hp => z1m rfl rfl hx8) ?_
 iterate 3 refine wX ?_
 refine z7h rfl rfl rfl rfl rfl rfl rfl (fun H hp => z1m rfl rfl hx9) ?_
 iterate 2 refine wX ?_
 refine z1u ?_
 change AO _ _ _ _ _
 refine yX ?_
 refine sX (z0a ?_)
 exact ⟨rfl, (x8.ver == x9.ver), h, jN⟩
 intro hb10; replace h := z0y hb10 h
 iterate 8 refine mX ?_
 refine z1u ?_
 change AO _ _ _ _ _
 refine nX ?_
 refine sX (z0a ?_)
 exact ⟨rfl, false, h, jN⟩
 intro hb7; replace h := z0y hb7 h
 iterate 9 refine mX ?_
 iterate 2 refine gX ?_
 iterate 8 refine mX ?_
 refine z1u ?_
 change AO _ _ _ _ _
 refine nX ?_
 refine sX (z0a ?_)
 exact ⟨rfl, false, h, jN⟩
 intro hc2 h
 refine z07 ?_
 exact ⟨rfl, (), h, jN⟩
end Go.Proofs.YthidgpcbnieleaaGreatDoor
