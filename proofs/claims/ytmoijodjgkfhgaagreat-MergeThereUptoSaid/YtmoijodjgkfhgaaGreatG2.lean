/- Pure functions, and that calls answer as they say. -/
import Derived.Test.YtmoijodjgkfhgaaGreatG1
namespace Go.Proofs.YtmoijodjgkfhgaaGreat
open Go Aw
set_option linter.unusedVariables false
set_option linter.unusedSimpArgs false
set_option maxRecDepth 20000
set_option maxHeartbeats 2000000
variable {ι : Type} {ρ : ι → Type}
noncomputable def zm0 (r_q1h : (Str × V) → (Str × V) → Option Int) (r_q00 : (List (Str × V)) → (List (Str × V)) → Option Int) (r_q02 : (List V) → (List V) → Option Int) (r_q1l : V → V → Option Int) (a0 a1 : (Str × V)) : Option Int :=
 (zl4 a0.1 a1.1).bind fun x1 =>
 bif (x1 != 0) then (
 some x1
 ) else (
 (r_q1l a0.2 a1.2).bind fun x3 =>
 some x3
 )
theorem zya (r_q1h : OF ρ → (Str × V) → (Str × V) → Option Int) (h_r_q1h : ∀ y0 y1, CM (fun G => r_q1h G y0 y1)) (r_q00 : OF ρ → (List (Str × V)) → (List (Str × V)) → Option Int) (h_r_q00 : ∀ y0 y1, CM (fun G => r_q00 G y0 y1)) (r_q02 : OF ρ → (List V) → (List V) → Option Int) (h_r_q02 : ∀ y0 y1, CM (fun G => r_q02 G y0 y1)) (r_q1l : OF ρ → V → V → Option Int) (h_r_q1l : ∀ y0 y1, CM (fun G => r_q1l G y0 y1)) (a0 a1 : (Str × V)) : CM (fun G : OF ρ => zm0 (r_q1h G) (r_q00 G) (r_q02 G) (r_q1l G) a0 a1) := by
 simp only [zm0]
 repeat (first | exact z0i | exact h_r_q1h _ _ | exact h_r_q00 _ _ | exact h_r_q02 _ _ | exact h_r_q1l _ _ | refine z18 ?_ ?_ | refine z19 ?_ (fun _ => ?_))
noncomputable def z6h (r_q1h : (Str × V) → (Str × V) → Option Int) (a0 a1 : (List (Str × V))) (g1 : Nat → Option Int) (s1 : Nat) : Option Int :=
 bif (decide (((s1 : Nat) : Int) < (((a0).length : Nat) : Int))) then (
 ((a0)[s1]?).bind fun x4 =>
 bif (decide (((s1 : Nat) : Int) ≥ (((a1).length : Nat) : Int))) then (
 some 1
 ) else (
 ((a1)[s1]?).bind fun x6 =>
 (r_q1h x4 x6).bind fun x7 =>
 bif (x7 != 0) then (
 some x7
 ) else (
 g1 (s1 + 1)
 )
 )
 ) else (
 bif (decide ((((a0).length : Nat) : Int) < (((a1).length : Nat) : Int))) then (
 some (-1)
 ) else (
 some 0
 )
 )
theorem zbs (r_q1h : OF ρ → (Str × V) → (Str × V) → Option Int) (h_r_q1h : ∀ y0 y1, CM (fun G => r_q1h G y0 y1)) (g1 : OF ρ → Nat → Option Int) (h_g1 : ∀ y0, CM (fun G => g1 G y0)) (a0 a1 : (List (Str × V))) (s1 : Nat) : CM (fun G : OF ρ => z6h (r_q1h G) a0 a1 (g1 G) s1) := by
 simp only [z6h]
 repeat (first | exact z0i | exact h_r_q1h _ _ | exact h_g1 _ | refine z18 ?_ ?_ | refine z19 ?_ (fun _ => ?_))
noncomputable def zfl (r_q1h : (Str × V) → (Str × V) → Option Int) (a0 a1 : (List (Str × V))) (s1 : Nat) : Option Int :=
 z3q (ι := Nat) (ρ := fun _ => Int) (fun g i => z6h r_q1h a0 a1 (fun s1 => g s1) i) s1
theorem ziw (r_q1h : (Str × V) → (Str × V) → Option Int) (a0 a1 : (List (Str × V))) (s1 : Nat) : zfl r_q1h a0 a1 s1 = z6h r_q1h a0 a1 (zfl r_q1h a0 a1) s1 :=
 z1j (ι := Nat) (ρ := fun _ => Int) (Φ := fun g i => z6h r_q1h a0 a1 (fun s1 => g s1) i) (fun i => zbs (ι := Nat) (ρ := fun _ => Int) (fun _ => r_q1h) (fun _ _ => z0i) (fun g => (fun s1 => g s1)) (fun _ => z1l) a0 a1 i) s1
theorem zs6 (r_q1h : OF ρ → (Str × V) → (Str × V) → Option Int) (h_r_q1h : ∀ y0 y1, CM (fun G => r_q1h G y0 y1)) (a0 a1 : (List (Str × V))) (s1 : Nat) : CM (fun G : OF ρ => zfl (r_q1h G) a0 a1 s1) :=
 z5z (κ := Nat) (τ := fun _ => Int) (Φ := fun G g i => z6h (r_q1h G) a0 a1 (fun s1 => g s1) i) (fun g i => zbs r_q1h h_r_q1h (fun _ => (fun s1 => g s1)) (fun _ => z0i) a0 a1 i) (fun G i => zbs (ι := Nat) (ρ := fun _ => Int) (fun _ => r_q1h G) (fun _ _ => z0i) (fun g => (fun s1 => g s1)) (fun _ => z1l) a0 a1 i) s1
noncomputable def zm7 (r_q1h : (Str × V) → (Str × V) → Option Int) (r_q00 : (List (Str × V)) → (List (Str × V)) → Option Int) (r_q02 : (List V) → (List V) → Option Int) (r_q1l : V → V → Option Int) (a0 a1 : (List (Str × V))) : Option Int :=
 zfl r_q1h a0 a1 0
theorem zyn (r_q1h : OF ρ → (Str × V) → (Str × V) → Option Int) (h_r_q1h : ∀ y0 y1, CM (fun G => r_q1h G y0 y1)) (r_q00 : OF ρ → (List (Str × V)) → (List (Str × V)) → Option Int) (h_r_q00 : ∀ y0 y1, CM (fun G => r_q00 G y0 y1)) (r_q02 : OF ρ → (List V) → (List V) → Option Int) (h_r_q02 : ∀ y0 y1, CM (fun G => r_q02 G y0 y1)) (r_q1l : OF ρ → V → V → Option Int) (h_r_q1l : ∀ y0 y1, CM (fun G => r_q1l G y0 y1)) (a0 a1 : (List (Str × V))) : CM (fun G : OF ρ => zm7 (r_q1h G) (r_q00 G) (r_q02 G) (r_q1l G) a0 a1) := by
 simp only [zm7]
 repeat (first | exact z0i | exact h_r_q1h _ _ | exact h_r_q00 _ _ | exact h_r_q02 _ _ | exact h_r_q1l _ _ | apply zs6 | refine z18 ?_ ?_ | refine z19 ?_ (fun _ => ?_) | intro _ | assumption)
noncomputable def z6g (r_q1l : V → V → Option Int) (a0 a1 : (List V)) (g1 : Nat → Option Int) (s1 : Nat) : Option Int :=
 bif (decide (((s1 : Nat) : Int) < (((a0).length : Nat) : Int))) then (
 ((a0)[s1]?).bind fun x4 =>
 bif (decide (((s1 : Nat) : Int) ≥ (((a1).length : Nat) : Int))) then (
 some 1
 ) else (
 ((a1)[s1]?).bind fun x6 =>
 (r_q1l x4 x6).bind fun x7 =>
 bif (x7 != 0) then (
 some x7
 ) else (
 g1 (s1 + 1)
 )
 )
 ) else (
 bif (decide ((((a0).length : Nat) : Int) < (((a1).length : Nat) : Int))) then (
 some (-1)
 ) else (
 some 0
 )
 )
theorem zbr (r_q1l : OF ρ → V → V → Option Int) (h_r_q1l : ∀ y0 y1, CM (fun G => r_q1l G y0 y1)) (g1 : OF ρ → Nat → Option Int) (h_g1 : ∀ y0, CM (fun G => g1 G y0)) (a0 a1 : (List V)) (s1 : Nat) : CM (fun G : OF ρ => z6g (r_q1l G) a0 a1 (g1 G) s1) := by
 simp only [z6g]
 repeat (first | exact z0i | exact h_r_q1l _ _ | exact h_g1 _ | refine z18 ?_ ?_ | refine z19 ?_ (fun _ => ?_))
noncomputable def zfk (r_q1l : V → V → Option Int) (a0 a1 : (List V)) (s1 : Nat) : Option Int :=
 z3q (ι := Nat) (ρ := fun _ => Int) (fun g i => z6g r_q1l a0 a1 (fun s1 => g s1) i) s1
theorem zit (r_q1l : V → V → Option Int) (a0 a1 : (List V)) (s1 : Nat) : zfk r_q1l a0 a1 s1 = z6g r_q1l a0 a1 (zfk r_q1l a0 a1) s1 :=
 z1j (ι := Nat) (ρ := fun _ => Int) (Φ := fun g i => z6g r_q1l a0 a1 (fun s1 => g s1) i) (fun i => zbr (ι := Nat) (ρ := fun _ => Int) (fun _ => r_q1l) (fun _ _ => z0i) (fun g => (fun s1 => g s1)) (fun _ => z1l) a0 a1 i) s1
theorem zs5 (r_q1l : OF ρ → V → V → Option Int) (h_r_q1l : ∀ y0 y1, CM (fun G => r_q1l G y0 y1)) (a0 a1 : (List V)) (s1 : Nat) : CM (fun G : OF ρ => zfk (r_q1l G) a0 a1 s1) :=
 z5z (κ := Nat) (τ := fun _ => Int) (Φ := fun G g i => z6g (r_q1l G) a0 a1 (fun s1 => g s1) i) (fun g i => zbr r_q1l h_r_q1l (fun _ => (fun s1 => g s1)) (fun _ => z0i) a0 a1 i) (fun G i => zbr (ι := Nat) (ρ := fun _ => Int) (fun _ => r_q1l G) (fun _ _ => z0i) (fun g => (fun s1 => g s1)) (fun _ => z1l) a0 a1 i) s1
noncomputable def zm6 (r_q1h : (Str × V) → (Str × V) → Option Int) (r_q00 : (List (Str × V)) → (List (Str × V)) → Option Int) (r_q02 : (List V) → (List V) → Option Int) (r_q1l : V → V → Option Int) (a0 a1 : (List V)) : Option Int :=
 zfk r_q1l a0 a1 0
theorem zym (r_q1h : OF ρ → (Str × V) → (Str × V) → Option Int) (h_r_q1h : ∀ y0 y1, CM (fun G => r_q1h G y0 y1)) (r_q00 : OF ρ → (List (Str × V)) → (List (Str × V)) → Option Int) (h_r_q00 : ∀ y0 y1, CM (fun G => r_q00 G y0 y1)) (r_q02 : OF ρ → (List V) → (List V) → Option Int) (h_r_q02 : ∀ y0 y1, CM (fun G => r_q02 G y0 y1)) (r_q1l : OF ρ → V → V → Option Int) (h_r_q1l : ∀ y0 y1, CM (fun G => r_q1l G y0 y1)) (a0 a1 : (List V)) : CM (fun G : OF ρ => zm6 (r_q1h G) (r_q00 G) (r_q02 G) (r_q1l G) a0 a1) := by
 simp only [zm6]
 repeat (first | exact z0i | exact h_r_q1h _ _ | exact h_r_q00 _ _ | exact h_r_q02 _ _ | exact h_r_q1l _ _ | apply zs5 | refine z18 ?_ ?_ | refine z19 ?_ (fun _ => ?_) | intro _ | assumption)
noncomputable def zlz (r_q1h : (Str × V) → (Str × V) → Option Int) (r_q00 : (List (Str × V)) → (List (Str × V)) → Option Int) (r_q02 : (List V) → (List V) → Option Int) (r_q1l : V → V → Option Int) (a0 a1 : V) : Option Int :=
 (zkx a0).bind fun x1 =>
 (zkx a1).bind fun x2 =>
 (zp5 x1 x2).bind fun x3 =>
 bif (x3 != 0) then (
 some x3
 ) else (
 bif (a0).isBool then (
 (zsl ((a0).asBool)).bind fun x6 =>
 ((a1).theBool).bind fun x7 =>
 (zsl x7).bind fun x8 =>
 (zp5 x6 x8).bind fun x9 =>
 some x9
 ) else (
 bif (a0).isInt then (
 ((a1).theInt).bind fun x11 =>
 (zw4 ((a0).asInt) x11).bind fun x12 =>
 some x12
 ) else (
 bif (a0).isFloat then (
 (zp2 ((a0).asFloat)).bind fun x14 =>
 ((a1).theFloat).bind fun x15 =>
 (zp2 x15).bind fun x16 =>
 (zw5 x14 x16).bind fun x17 =>
 some x17
 ) else (
 bif (a0).isText then (
 ((a1).theText).bind fun x19 =>
 (zl4 ((a0).asText) x19).bind fun x20 =>
 some x20
 ) else (
 bif (a0).isBytes then (
 ((a1).theBytes).bind fun x22 =>
 (zwb ((a0).asBytes) x22).bind fun x23 =>
 some x23
 ) else (
 bif (a0).isRef then (
 ((a1).theRef).bind fun x25 =>
 (zw7 ((a0).asRef) x25).bind fun x26 =>
 some x26
 ) else (
 bif (a0).isList then (
 ((a1).theList).bind fun x28 =>
 (r_q02 ((a0).asList) x28).bind fun x29 =>
 some x29
 ) else (
 bif (a0).isDict then (
 ((a1).theDict).bind fun x31 =>
 (r_q00 ((a0).asDict) x31).bind fun x32 =>
 some x32
 ) else (
 bif (a0).isRec then (
 ((a1).theRec).bind fun x34 =>
 ((a0).asRec).bind fun x35 =>
 (x34).bind fun x36 =>
 (zl4 x35.cls x36.cls).bind fun x37 =>
 bif (x37 != 0) then (
 some x37
 ) else (
 (zp5 x35.ver x36.ver).bind fun x39 =>
 bif (x39 != 0) then (
 some x39
 ) else (
 (r_q00 x35.fields x36.fields).bind fun x41 =>
 some x41
 )
 )
 ) else (
 some 0
 )
 )
 )
 )
 )
 )
 )
 )
 )
 )
theorem zy9 (r_q1h : OF ρ → (Str × V) → (Str × V) → Option Int) (h_r_q1h : ∀ y0 y1, CM (fun G => r_q1h G y0 y1)) (r_q00 : OF ρ → (List (Str × V)) → (List (Str × V)) → Option Int) (h_r_q00 : ∀ y0 y1, CM (fun G => r_q00 G y0 y1)) (r_q02 : OF ρ → (List V) → (List V) → Option Int) (h_r_q02 : ∀ y0 y1, CM (fun G => r_q02 G y0 y1)) (r_q1l : OF ρ → V → V → Option Int) (h_r_q1l : ∀ y0 y1, CM (fun G => r_q1l G y0 y1)) (a0 a1 : V) : CM (fun G : OF ρ => zlz (r_q1h G) (r_q00 G) (r_q02 G) (r_q1l G) a0 a1) := by
 simp only [zlz]
 repeat (first | exact z0i | exact h_r_q1h _ _ | exact h_r_q00 _ _ | exact h_r_q02 _ _ | exact h_r_q1l _ _ | refine z18 ?_ ?_ | refine z19 ?_ (fun _ => ?_))
inductive C_q1h where
 | k_q1h (a0 : (Str × V)) (a1 : (Str × V))
 | k_q00 (a0 : (List (Str × V))) (a1 : (List (Str × V)))
 | k_q02 (a0 : (List V)) (a1 : (List V))
 | k_q1l (a0 : V) (a1 : V)
def C_q1h.R : C_q1h → Type
 | .k_q1h _ _ => Int
 | .k_q00 _ _ => Int
 | .k_q02 _ _ => Int
 | .k_q1l _ _ => Int
noncomputable def C_q1h.F (g : ∀ i : C_q1h, Option i.R) : ∀ i : C_q1h, Option i.R
 | .k_q1h a0 a1 => zm0 (fun a0 a1 => g (.k_q1h a0 a1)) (fun a0 a1 => g (.k_q00 a0 a1)) (fun a0 a1 => g (.k_q02 a0 a1)) (fun a0 a1 => g (.k_q1l a0 a1)) a0 a1
 | .k_q00 a0 a1 => zm7 (fun a0 a1 => g (.k_q1h a0 a1)) (fun a0 a1 => g (.k_q00 a0 a1)) (fun a0 a1 => g (.k_q02 a0 a1)) (fun a0 a1 => g (.k_q1l a0 a1)) a0 a1
 | .k_q02 a0 a1 => zm6 (fun a0 a1 => g (.k_q1h a0 a1)) (fun a0 a1 => g (.k_q00 a0 a1)) (fun a0 a1 => g (.k_q02 a0 a1)) (fun a0 a1 => g (.k_q1l a0 a1)) a0 a1
 | .k_q1l a0 a1 => zlz (fun a0 a1 => g (.k_q1h a0 a1)) (fun a0 a1 => g (.k_q00 a0 a1)) (fun a0 a1 => g (.k_q02 a0 a1)) (fun a0 a1 => g (.k_q1l a0 a1)) a0 a1
noncomputable def zl1 (a0 a1 : (Str × V)) : Option Int := z3q C_q1h.F (.k_q1h a0 a1)
noncomputable def zpi (a0 a1 : (List (Str × V))) : Option Int := z3q C_q1h.F (.k_q00 a0 a1)
noncomputable def zph (a0 a1 : (List V)) : Option Int := z3q C_q1h.F (.k_q02 a0 a1)
noncomputable def zao (a0 a1 : V) : Option Int := z3q C_q1h.F (.k_q1l a0 a1)
abbrev gg3 := fun (g : ∀ i : C_q1h, Option i.R) a0 a1 => g (.k_q1h a0 a1)
theorem hh3 (a0 a1 : _) : CM (ρ := C_q1h.R) (fun g => g (C_q1h.k_q1h a0 a1)) := z1l
abbrev gg4 := fun (g : ∀ i : C_q1h, Option i.R) a0 a1 => g (.k_q00 a0 a1)
theorem hh4 (a0 a1 : _) : CM (ρ := C_q1h.R) (fun g => g (C_q1h.k_q00 a0 a1)) := z1l
abbrev gg5 := fun (g : ∀ i : C_q1h, Option i.R) a0 a1 => g (.k_q02 a0 a1)
theorem hh5 (a0 a1 : _) : CM (ρ := C_q1h.R) (fun g => g (C_q1h.k_q02 a0 a1)) := z1l
abbrev gg6 := fun (g : ∀ i : C_q1h, Option i.R) a0 a1 => g (.k_q1l a0 a1)
theorem hh6 (a0 a1 : _) : CM (ρ := C_q1h.R) (fun g => g (C_q1h.k_q1l a0 a1)) := z1l
theorem C_q1h.cm (i : C_q1h) : CM (fun g : (∀ i : C_q1h, Option i.R) => C_q1h.F g i) := by
 cases i with
 | k_q1h a0 a1 => exact zya gg3 hh3 gg4 hh4 gg5 hh5 gg6 hh6 a0 a1
 | k_q00 a0 a1 => exact zyn gg3 hh3 gg4 hh4 gg5 hh5 gg6 hh6 a0 a1
 | k_q02 a0 a1 => exact zym gg3 hh3 gg4 hh4 gg5 hh5 gg6 hh6 a0 a1
 | k_q1l a0 a1 => exact zy9 gg3 hh3 gg4 hh4 gg5 hh5 gg6 hh6 a0 a1
theorem Z8w (a0 a1 : (Str × V)) : zl1 a0 a1 = zm0 zl1 zpi zph zao a0 a1 := z1j C_q1h.cm (.k_q1h a0 a1)
theorem Z95 (a0 a1 : (List (Str × V))) : zpi a0 a1 = zm7 zl1 zpi zph zao a0 a1 := z1j C_q1h.cm (.k_q00 a0 a1)
theorem Z94 (a0 a1 : (List V)) : zph a0 a1 = zm6 zl1 zpi zph zao a0 a1 := z1j C_q1h.cm (.k_q02 a0 a1)
theorem Z8v (a0 a1 : V) : zao a0 a1 = zlz zl1 zpi zph zao a0 a1 := z1j C_q1h.cm (.k_q1l a0 a1)
def C_q1h.Q : ∀ i : C_q1h, i.R → Prop
 | .k_q1h a0 a1 => fun (r : Int) => z0p Tryz.prog 80 [(ofFld a0), (ofFld a1)] (I64 r)
 | .k_q00 a0 a1 => fun (r : Int) => z0p Tryz.prog 79 [(PV.sl none 86 2 (List.map ofFld a0)), (PV.sl none 86 2 (List.map ofFld a1)), (PV.fn (.func 80) [] [])] (I64 r)
 | .k_q02 a0 a1 => fun (r : Int) => z0p Tryz.prog 78 [(PV.sl none 20 1 (List.map ofV a0)), (PV.sl none 20 1 (List.map ofV a1)), (PV.fn (.func 40) [] [])] (I64 r)
 | .k_q1l a0 a1 => fun (r : Int) => z0p Tryz.prog 40 [(ofV a0), (ofV a1)] (I64 r)
theorem zgd (r_q1h : (Str × V) → (Str × V) → Option Int) (c_q1h : ∀ (a0 : (Str × V)) (a1 : (Str × V)) r, r_q1h a0 a1 = some r → z0p Tryz.prog 80 [(ofFld a0), (ofFld a1)] (I64 r)) (r_q00 : (List (Str × V)) → (List (Str × V)) → Option Int) (c_q00 : ∀ (a0 : (List (Str × V))) (a1 : (List (Str × V))) r, r_q00 a0 a1 = some r → z0p Tryz.prog 79 [(PV.sl none 86 2 (List.map ofFld a0)), (PV.sl none 86 2 (List.map ofFld a1)), (PV.fn (.func 80) [] [])] (I64 r)) (r_q02 : (List V) → (List V) → Option Int) (c_q02 : ∀ (a0 : (List V)) (a1 : (List V)) r, r_q02 a0 a1 = some r → z0p Tryz.prog 78 [(PV.sl none 20 1 (List.map ofV a0)), (PV.sl none 20 1 (List.map ofV a1)), (PV.fn (.func 40) [] [])] (I64 r)) (r_q1l : V → V → Option Int) (c_q1l : ∀ (a0 : V) (a1 : V) r, r_q1l a0 a1 = some r → z0p Tryz.prog 40 [(ofV a0), (ofV a1)] (I64 r)) (a0 a1 : (Str × V)) (r : Int) (h : zm0 r_q1h r_q00 r_q02 r_q1l a0 a1 = some r) : z0p Tryz.prog 80 [(ofFld a0), (ofFld a1)] (I64 r) := by
 unfold zm0 at h
 refine z0j Tryz.func80 rfl Tryz.ntmps80 Tryz.results80 rfl (z0n ?_)
 change BW _ _ _ ⟨[(0, (ofFld a0)), (1, (ofFld a1))], [], _⟩ _
 refine bR ?_
 iterate 2 refine sX ?_
 refine eX ?_
 refine z0f ?_
 refine bR ?_
 iterate 4 refine sX ?_
 obtain ⟨x1, hx1, h⟩ := obind h
 refine sS rfl rfl rfl (z08 rfl Z2a rfl (wkr (wkr .nil)) ⟨rfl, ⟨rfl, trivial⟩⟩ (Z0p a0.1 a1.1 x1 hx1) rfl) ?_
 refine eX ?_
 refine bR ?_
 refine sX ?_
 refine eX ?_
 refine cX h rfl ?_ ?_
 intro hc2 h
 refine bR ?_
 refine sX ?_
 refine eX ?_
 obtain rfl := eI h; exact z06 eK
 intro hc2 h
 refine z0g ?_
 refine cBx ?_
 refine bR ?_
 iterate 4 refine sX ?_
 obtain ⟨x3, hx3, h⟩ := obind h
 refine sS rfl rfl rfl (z08 rfl Z2e rfl (wkr (wkr .nil)) ⟨(ids_V a0.2), ⟨(ids_V a1.2), trivial⟩⟩ (c_q1l a0.2 a1.2 x3 hx3) rfl) ?_
 refine eX ?_
 obtain rfl := eI h; exact z06 eK
theorem z1t (r_q1h : (Str × V) → (Str × V) → Option Int) (c_q1h : ∀ (a0 : (Str × V)) (a1 : (Str × V)) r, r_q1h a0 a1 = some r → z0p Tryz.prog 80 [(ofFld a0), (ofFld a1)] (I64 r)) (r_q00 : (List (Str × V)) → (List (Str × V)) → Option Int) (c_q00 : ∀ (a0 : (List (Str × V))) (a1 : (List (Str × V))) r, r_q00 a0 a1 = some r → z0p Tryz.prog 79 [(PV.sl none 86 2 (List.map ofFld a0)), (PV.sl none 86 2 (List.map ofFld a1)), (PV.fn (.func 80) [] [])] (I64 r)) (r_q02 : (List V) → (List V) → Option Int) (c_q02 : ∀ (a0 : (List V)) (a1 : (List V)) r, r_q02 a0 a1 = some r → z0p Tryz.prog 78 [(PV.sl none 20 1 (List.map ofV a0)), (PV.sl none 20 1 (List.map ofV a1)), (PV.fn (.func 40) [] [])] (I64 r)) (r_q1l : V → V → Option Int) (c_q1l : ∀ (a0 : V) (a1 : V) r, r_q1l a0 a1 = some r → z0p Tryz.prog 40 [(ofV a0), (ofV a1)] (I64 r)) (a0 a1 : (List (Str × V))) (r : Int) (h : zm7 r_q1h r_q00 r_q02 r_q1l a0 a1 = some r) : z0p Tryz.prog 79 [(PV.sl none 86 2 (List.map ofFld a0)), (PV.sl none 86 2 (List.map ofFld a1)), (PV.fn (.func 80) [] [])] (I64 r) := by
 unfold zm7 at h
 refine z0j Tryz.func79 rfl Tryz.ntmps79 Tryz.results79 rfl (z0n ?_)
 change BW _ _ _ ⟨[(0, (PV.sl none 86 2 (List.map ofFld a0))), (1, (PV.sl none 86 2 (List.map ofFld a1))), (2, (PV.fn (.func 80) [] []))], [], _⟩ _
 refine bR ?_
 refine eX ?_
 refine z0f ?_
 refine bR ?_
 iterate 2 refine sX ?_
 refine eX ?_
 refine z0o ?_
 refine cBx ?_
 unfold zfl at h
 refine lX (σ := Nat) (fun i => [(0, (PV.sl none 86 2 (List.map ofFld a0))), (1, (PV.sl none 86 2 (List.map ofFld a1))), (2, (PV.fn (.func 80) [] [])), (11, (PV.sl none 86 2 (List.map ofFld a0))), (12, (I64 ((((a0).length : Nat) : Int)))), (13, (I64 (((i : Nat) : Int))))]) (fun i => []) 0 h ?_ ?_
 exact jN
 rintro g1_f s1 h; replace h : z6h r_q1h a0 a1 (fun y0 => g1_f y0) s1 = some r := h; unfold z6h at h
 change BW _ _ _ ⟨[(0, (PV.sl none 86 2 (List.map ofFld a0))), (1, (PV.sl none 86 2 (List.map ofFld a1))), (2, (PV.fn (.func 80) [] [])), (11, (PV.sl none 86 2 (List.map ofFld a0))), (12, (I64 ((((a0).length : Nat) : Int)))), (13, (I64 (((s1 : Nat) : Int))))], [], _⟩ _
 refine bR ?_
 refine eX ?_
 refine z0f ?_
 refine z4a (t := 11) rfl fun hb3 => ?_
 try rw [List.length_map] at hb3
 refine cX h rfl ?_ ?_
 intro hc2 h
 have hc2_ := of_decide_eq_true hc2
 refine z0g ?_
 refine cBx ?_
 refine z0f ?_
 refine z0o ?_
 refine cBx ?_
 refine bR ?_
 refine sX ?_
 obtain ⟨x4, hx4, h⟩ := obind h
 refine sS rfl rfl rfl (z1p (i := s1) Tryz.underlying68 z13 rfl rfl rfl hx4 rfl) ?_
 refine sX ?_
 refine sS rfl rfl rfl ((z1h z13 rfl).cast (H'' := [.box 86 [(ofStr []), (ofV V.nil)]]) rfl (by simp only [mk_nil]; rfl)) ?_
 refine sX ?_
 refine z14 rfl rfl (z0y z13 rfl rfl rfl rfl rfl rfl (lbE rfl) (by show List.all [(ofStr x4.1), (ofV x4.2)] z45 = true; simp only [List.all_cons, List.all_nil, z3w, z1q, Bool.and_true, Bool.true_and]; try rfl)) ?_
 refine z0h ?_
 refine cBx ?_
 refine z0f ?_
 refine bR ?_
 iterate 3 refine sX ?_
 refine eX ?_
 refine cX h rfl ?_ ?_
 intro hc5 h
 refine bR ?_
 refine eX ?_
 obtain rfl := eI h; exact z06 eK
 intro hc5 h
 refine z0g ?_
 refine cBx ?_
 refine bR ?_
 iterate 2 refine sX ?_
 obtain ⟨x6, hx6, h⟩ := obind h
 refine sS rfl rfl rfl (z1p (i := s1) Tryz.underlying68 z13 rfl rfl rfl hx6 rfl) ?_
 refine sX ?_
 refine sS rfl rfl rfl ((z1h z13 rfl).cast (H'' := [.box 86 [(ofStr x4.1), (ofV x4.2)], .box 86 [(ofStr []), (ofV V.nil)]]) rfl (by simp only [mk_nil]; rfl)) ?_
 refine z14 rfl rfl (z0y z13 rfl rfl rfl rfl rfl rfl (lbE rfl) (by show List.all [(ofStr x6.1), (ofV x6.2)] z45 = true; simp only [List.all_cons, List.all_nil, z3w, z1q, Bool.and_true, Bool.true_and]; try rfl)) ?_
 refine z0h ?_
 refine cBx ?_
 refine bR ?_
 iterate 3 refine sX ?_
 obtain ⟨x7, hx7, h⟩ := obind h
 refine sS rfl rfl rfl (z6t rfl rfl Z8b rfl (wkr (wkr .nil)) ⟨(z0m x4), ⟨(z0m x6), trivial⟩⟩ (c_q1h x4 x6 x7 hx7) rfl) ?_
 refine eX ?_
 refine bR ?_
 refine sX ?_
 refine eX ?_
 refine cX h rfl ?_ ?_
 intro hc8 h
 refine bR ?_
 refine sX ?_
 refine eX ?_
 obtain rfl := eI h; exact z06 eK
 intro hc8 h
 refine z0g ?_
 refine cBx ?_
 refine z0l ?_
 refine sS rfl rfl rfl (z2o (k := s1) (c := 1) rfl rfl rfl (by omega)) ?_
 refine sX (z0h ?_)
 exact ⟨rfl, (s1 + 1), h, jN⟩
 intro hc2 h
 refine z2b ?_
 refine cBx ?_
 refine z0f ?_
 refine bR ?_
 iterate 4 refine sX ?_
 refine eX ?_
 refine cX h rfl ?_ ?_
 intro hc9 h
 refine bR ?_
 refine eX ?_
 obtain rfl := eI h; exact z06 eK
 intro hc9 h
 refine z0g ?_
 refine cBx ?_
 refine bR ?_
 refine eX ?_
 obtain rfl := eI h; exact z06 eK
theorem z24 (r_q1h : (Str × V) → (Str × V) → Option Int) (c_q1h : ∀ (a0 : (Str × V)) (a1 : (Str × V)) r, r_q1h a0 a1 = some r → z0p Tryz.prog 80 [(ofFld a0), (ofFld a1)] (I64 r)) (r_q00 : (List (Str × V)) → (List (Str × V)) → Option Int) (c_q00 : ∀ (a0 : (List (Str × V))) (a1 : (List (Str × V))) r, r_q00 a0 a1 = some r → z0p Tryz.prog 79 [(PV.sl none 86 2 (List.map ofFld a0)), (PV.sl none 86 2 (List.map ofFld a1)), (PV.fn (.func 80) [] [])] (I64 r)) (r_q02 : (List V) → (List V) → Option Int) (c_q02 : ∀ (a0 : (List V)) (a1 : (List V)) r, r_q02 a0 a1 = some r → z0p Tryz.prog 78 [(PV.sl none 20 1 (List.map ofV a0)), (PV.sl none 20 1 (List.map ofV a1)), (PV.fn (.func 40) [] [])] (I64 r)) (r_q1l : V → V → Option Int) (c_q1l : ∀ (a0 : V) (a1 : V) r, r_q1l a0 a1 = some r → z0p Tryz.prog 40 [(ofV a0), (ofV a1)] (I64 r)) (a0 a1 : (List V)) (r : Int) (h : zm6 r_q1h r_q00 r_q02 r_q1l a0 a1 = some r) : z0p Tryz.prog 78 [(PV.sl none 20 1 (List.map ofV a0)), (PV.sl none 20 1 (List.map ofV a1)), (PV.fn (.func 40) [] [])] (I64 r) := by
 unfold zm6 at h
 refine z0j Tryz.func78 rfl Tryz.ntmps78 Tryz.results78 rfl (z0n ?_)
 change BW _ _ _ ⟨[(0, (PV.sl none 20 1 (List.map ofV a0))), (1, (PV.sl none 20 1 (List.map ofV a1))), (2, (PV.fn (.func 40) [] []))], [], _⟩ _
 refine bR ?_
 refine eX ?_
 refine z0f ?_
 refine bR ?_
 iterate 2 refine sX ?_
 refine eX ?_
 refine z0o ?_
 refine cBx ?_
 unfold zfk at h
 refine lX (σ := Nat) (fun i => [(0, (PV.sl none 20 1 (List.map ofV a0))), (1, (PV.sl none 20 1 (List.map ofV a1))), (2, (PV.fn (.func 40) [] [])), (11, (PV.sl none 20 1 (List.map ofV a0))), (12, (I64 ((((a0).length : Nat) : Int)))), (13, (I64 (((i : Nat) : Int))))]) (fun i => []) 0 h ?_ ?_
 exact jN
 rintro g1_f s1 h; replace h : z6g r_q1l a0 a1 (fun y0 => g1_f y0) s1 = some r := h; unfold z6g at h
 change BW _ _ _ ⟨[(0, (PV.sl none 20 1 (List.map ofV a0))), (1, (PV.sl none 20 1 (List.map ofV a1))), (2, (PV.fn (.func 40) [] [])), (11, (PV.sl none 20 1 (List.map ofV a0))), (12, (I64 ((((a0).length : Nat) : Int)))), (13, (I64 (((s1 : Nat) : Int))))], [], _⟩ _
 refine bR ?_
 refine eX ?_
 refine z0f ?_
 refine z4a (t := 11) rfl fun hb3 => ?_
 try rw [List.length_map] at hb3
 refine cX h rfl ?_ ?_
 intro hc2 h
 have hc2_ := of_decide_eq_true hc2
 refine z0g ?_
 refine cBx ?_
 refine z0f ?_
 refine z0o ?_
 refine cBx ?_
 refine bR ?_
 refine sX ?_
 obtain ⟨x4, hx4, h⟩ := obind h
 refine sS rfl rfl rfl (z1p (i := s1) Tryz.underlying66 z1v rfl rfl rfl hx4 rfl) ?_
 refine sS rfl rfl rfl (z4e (y := (ofV x4)) Tryz.underlying20 rfl rfl rfl (by rw [z0u]; rfl)) ?_
 refine sX ?_
 refine eX ?_
 refine z0f ?_
 refine bR ?_
 iterate 3 refine sX ?_
 refine eX ?_
 refine cX h rfl ?_ ?_
 intro hc5 h
 refine bR ?_
 refine eX ?_
 obtain rfl := eI h; exact z06 eK
 intro hc5 h
 refine z0g ?_
 refine cBx ?_
 refine bR ?_
 iterate 2 refine sX ?_
 obtain ⟨x6, hx6, h⟩ := obind h
 refine sS rfl rfl rfl (z1p (i := s1) Tryz.underlying66 z1v rfl rfl rfl hx6 rfl) ?_
 refine sS rfl rfl rfl (z4e (y := (ofV x6)) Tryz.underlying20 rfl rfl rfl (by rw [z0u]; rfl)) ?_
 refine eX ?_
 refine bR ?_
 iterate 3 refine sX ?_
 obtain ⟨x7, hx7, h⟩ := obind h
 refine sS rfl rfl rfl (z6t rfl rfl Z2e rfl (wkr (wkr .nil)) ⟨(ids_V x4), ⟨(ids_V x6), trivial⟩⟩ (c_q1l x4 x6 x7 hx7) rfl) ?_
 refine eX ?_
 refine bR ?_
 refine sX ?_
 refine eX ?_
 refine cX h rfl ?_ ?_
 intro hc8 h
 refine bR ?_
 refine sX ?_
 refine eX ?_
 obtain rfl := eI h; exact z06 eK
 intro hc8 h
 refine z0g ?_
 refine cBx ?_
 refine z0l ?_
 refine sS rfl rfl rfl (z2o (k := s1) (c := 1) rfl rfl rfl (by omega)) ?_
 refine sX (z0h ?_)
 exact ⟨rfl, (s1 + 1), h, jN⟩
 intro hc2 h
 refine z2b ?_
 refine cBx ?_
 refine z0f ?_
 refine bR ?_
 iterate 4 refine sX ?_
 refine eX ?_
 refine cX h rfl ?_ ?_
 intro hc9 h
 refine bR ?_
 refine eX ?_
 obtain rfl := eI h; exact z06 eK
 intro hc9 h
 refine z0g ?_
 refine cBx ?_
 refine bR ?_
 refine eX ?_
 obtain rfl := eI h; exact z06 eK
theorem zgc (r_q1h : (Str × V) → (Str × V) → Option Int) (c_q1h : ∀ (a0 : (Str × V)) (a1 : (Str × V)) r, r_q1h a0 a1 = some r → z0p Tryz.prog 80 [(ofFld a0), (ofFld a1)] (I64 r)) (r_q00 : (List (Str × V)) → (List (Str × V)) → Option Int) (c_q00 : ∀ (a0 : (List (Str × V))) (a1 : (List (Str × V))) r, r_q00 a0 a1 = some r → z0p Tryz.prog 79 [(PV.sl none 86 2 (List.map ofFld a0)), (PV.sl none 86 2 (List.map ofFld a1)), (PV.fn (.func 80) [] [])] (I64 r)) (r_q02 : (List V) → (List V) → Option Int) (c_q02 : ∀ (a0 : (List V)) (a1 : (List V)) r, r_q02 a0 a1 = some r → z0p Tryz.prog 78 [(PV.sl none 20 1 (List.map ofV a0)), (PV.sl none 20 1 (List.map ofV a1)), (PV.fn (.func 40) [] [])] (I64 r)) (r_q1l : V → V → Option Int) (c_q1l : ∀ (a0 : V) (a1 : V) r, r_q1l a0 a1 = some r → z0p Tryz.prog 40 [(ofV a0), (ofV a1)] (I64 r)) (a0 a1 : V) (r : Int) (h : zlz r_q1h r_q00 r_q02 r_q1l a0 a1 = some r) : z0p Tryz.prog 40 [(ofV a0), (ofV a1)] (I64 r) := by
 unfold zlz at h
 refine z0j Tryz.func40 rfl Tryz.ntmps40 Tryz.results40 rfl (z0n ?_)
 change BW _ _ _ ⟨[(0, (ofV a0)), (1, (ofV a1))], [], _⟩ _
 refine bR ?_
 refine eX ?_
 refine z0f ?_
 refine bR ?_
 refine sX ?_
 obtain ⟨x1, hx1, h⟩ := obind h
 refine sS rfl rfl rfl (z08 rfl zxi rfl (wkr .nil) ⟨(ids_V a0), trivial⟩ (zvh a0 x1 hx1) rfl) ?_
 refine sX ?_
 obtain ⟨x2, hx2, h⟩ := obind h
 refine sS rfl rfl rfl (z08 rfl zxi rfl (wkr .nil) ⟨(ids_V a1), trivial⟩ (zvh a1 x2 hx2) rfl) ?_
 obtain ⟨x3, hx3, h⟩ := obind h
 refine sS rfl rfl rfl (z08 rfl Z2b rfl (wkr (wkr .nil)) ⟨rfl, ⟨rfl, trivial⟩⟩ (Z0m x1 x2 x3 hx3) rfl) ?_
 refine eX ?_
 refine bR ?_
 refine sX ?_
 refine eX ?_
 refine cX h rfl ?_ ?_
 intro hc4 h
 refine bR ?_
 refine sX ?_
 refine eX ?_
 obtain rfl := eI h; exact z06 eK
 intro hc4 h
 refine z0g ?_
 refine cBx ?_
 refine z0f ?_
 refine bR ?_
 refine eX ?_
 refine z0o ?_
 refine cBx ?_
 refine bR ?_
 refine sS rfl rfl rfl (zfm rfl rfl) ?_
 refine sX ?_
 refine eX ?_
 refine cX h rfl ?_ ?_
 intro hc5 h
 refine bR ?_
 refine eX ?_
 refine z0f (z1w 4 [] [] mo (by kernel_rfl) ?_)
 refine gX ?_
 obtain ⟨x6, hx6, h⟩ := obind h
 refine z1r rfl rfl rfl rfl (fun H hp => z08 rfl Z5h rfl (wkr .nil) ⟨rfl, trivial⟩ (Z3z ((a0).asBool) x6 hx6) rfl) ?_
 refine gX ?_
 obtain ⟨x7, hx7, h⟩ := obind h
 refine z1r rfl rfl rfl rfl (fun H hp => zpo rfl rfl hx7) ?_
 refine z20 ?_
 change AO _ _ _ _ _
 obtain ⟨x8, hx8, h⟩ := obind h
 refine sS rfl rfl rfl (z08 rfl Z5h rfl (wkr .nil) ⟨rfl, trivial⟩ (Z3z x7 x8 hx8) rfl) ?_
 obtain ⟨x9, hx9, h⟩ := obind h
 refine sS rfl rfl rfl (z08 rfl Z2b rfl (wkr (wkr .nil)) ⟨rfl, ⟨rfl, trivial⟩⟩ (Z0m x6 x8 x9 hx9) rfl) ?_
 refine eX ?_
 obtain rfl := eI h; exact z06 eK
 intro hc5 h
 refine bR ?_
 refine sS rfl rfl rfl (zj8 rfl rfl) ?_
 refine sX ?_
 refine eX ?_
 refine cX h rfl ?_ ?_
 intro hc10 h
 refine bR ?_
 refine eX ?_
 refine bR ?_
 iterate 2 refine sX ?_
 obtain ⟨x11, hx11, h⟩ := obind h
 refine sS rfl rfl rfl (zst rfl rfl hx11) ?_
 obtain ⟨x12, hx12, h⟩ := obind h
 refine sS rfl rfl rfl (z08 rfl Z8g rfl (wkr (wkr .nil)) ⟨rfl, ⟨rfl, trivial⟩⟩ (Z7f ((a0).asInt) x11 x12 hx12) rfl) ?_
 refine eX ?_
 obtain rfl := eI h; exact z06 eK
 intro hc10 h
 refine bR ?_
 refine sS rfl rfl rfl (ze4 rfl rfl) ?_
 refine sX ?_
 refine eX ?_
 refine cX h rfl ?_ ?_
 intro hc13 h
 refine bR ?_
 refine eX ?_
 refine z0f (z1w 4 [] [] mo (by kernel_rfl) ?_)
 refine gX ?_
 obtain ⟨x14, hx14, h⟩ := obind h
 refine z1r rfl rfl rfl rfl (fun H hp => z08 rfl Z5g rfl (wkr .nil) ⟨rfl, trivial⟩ (Z40 ((a0).asFloat) x14 hx14) rfl) ?_
 refine gX ?_
 obtain ⟨x15, hx15, h⟩ := obind h
 refine z1r rfl rfl rfl rfl (fun H hp => zl6 rfl rfl hx15) ?_
 refine z20 ?_
 change AO _ _ _ _ _
 obtain ⟨x16, hx16, h⟩ := obind h
 refine sS rfl rfl rfl (z08 rfl Z5g rfl (wkr .nil) ⟨rfl, trivial⟩ (Z40 x15 x16 hx16) rfl) ?_
 obtain ⟨x17, hx17, h⟩ := obind h
 refine sS rfl rfl rfl (z08 rfl Z8f rfl (wkr (wkr .nil)) ⟨rfl, ⟨rfl, trivial⟩⟩ (Z7h x14 x16 x17 hx17) rfl) ?_
 refine eX ?_
 obtain rfl := eI h; exact z06 eK
 intro hc13 h
 refine bR ?_
 refine sS rfl rfl rfl (zbu rfl rfl) ?_
 refine sX ?_
 refine eX ?_
 refine cX h rfl ?_ ?_
 intro hc18 h
 refine bR ?_
 refine eX ?_
 refine bR ?_
 iterate 2 refine sX ?_
 obtain ⟨x19, hx19, h⟩ := obind h
 refine sS rfl rfl rfl (zpl rfl rfl hx19) ?_
 obtain ⟨x20, hx20, h⟩ := obind h
 refine sS rfl rfl rfl (z08 rfl Z2a rfl (wkr (wkr .nil)) ⟨rfl, ⟨rfl, trivial⟩⟩ (Z0p ((a0).asText) x19 x20 hx20) rfl) ?_
 refine eX ?_
 obtain rfl := eI h; exact z06 eK
 intro hc18 h
 refine bR ?_
 refine sS rfl rfl rfl (z7n rfl rfl) ?_
 refine sX ?_
 refine eX ?_
 refine cX h rfl ?_ ?_
 intro hc21 h
 refine bR ?_
 refine eX ?_
 refine bR ?_
 iterate 2 refine sX ?_
 obtain ⟨x22, hx22, h⟩ := obind h
 refine sS rfl rfl rfl (zl7 rfl rfl hx22) ?_
 obtain ⟨x23, hx23, h⟩ := obind h
 refine sS rfl rfl rfl (z08 rfl Z8e rfl (wkr (wkr .nil)) ⟨(z05 (fun _ => rfl) ((a0).asBytes)), ⟨(z05 (fun _ => rfl) x22), trivial⟩⟩ (Z7p ((a0).asBytes) x22 x23 hx23) rfl) ?_
 refine eX ?_
 obtain rfl := eI h; exact z06 eK
 intro hc21 h
 refine bR ?_
 refine sS rfl rfl rfl (zj7 rfl rfl) ?_
 refine sX ?_
 refine eX ?_
 refine cX h rfl ?_ ?_
 intro hc24 h
 refine bR ?_
 refine eX ?_
 refine bR ?_
 iterate 2 refine sX ?_
 obtain ⟨x25, hx25, h⟩ := obind h
 refine sS rfl rfl rfl (zsr rfl rfl hx25) ?_
 obtain ⟨x26, hx26, h⟩ := obind h
 refine sS rfl rfl rfl (z08 rfl Z8d rfl (wkr (wkr .nil)) ⟨rfl, ⟨rfl, trivial⟩⟩ (Z7l ((a0).asRef) x25 x26 hx26) rfl) ?_
 refine eX ?_
 obtain rfl := eI h; exact z06 eK
 intro hc24 h
 refine bR ?_
 refine sS rfl rfl rfl (z1x rfl rfl) ?_
 refine sX ?_
 refine eX ?_
 refine cX h rfl ?_ ?_
 intro hc27 h
 refine bR ?_
 refine eX ?_
 refine bR ?_
 iterate 2 refine sX ?_
 obtain ⟨x28, hx28, h⟩ := obind h
 refine sS rfl rfl rfl (zpm rfl rfl hx28) ?_
 obtain ⟨x29, hx29, h⟩ := obind h
 refine sS rfl rfl rfl (z08 rfl Z8c rfl (wkr (wkr (wkr .nil))) ⟨(z05 ids_V ((a0).asList)), ⟨(z05 ids_V x28), ⟨rfl, trivial⟩⟩⟩ (c_q02 ((a0).asList) x28 x29 hx29) rfl) ?_
 refine eX ?_
 obtain rfl := eI h; exact z06 eK
 intro hc27 h
 refine bR ?_
 refine sS rfl rfl rfl (z2v rfl rfl) ?_
 refine sX ?_
 refine eX ?_
 refine cX h rfl ?_ ?_
 intro hc30 h
 refine bR ?_
 refine eX ?_
 refine bR ?_
 iterate 2 refine sX ?_
 obtain ⟨x31, hx31, h⟩ := obind h
 refine sS rfl rfl rfl (zpn rfl rfl hx31) ?_
 obtain ⟨x32, hx32, h⟩ := obind h
 refine sS rfl rfl rfl (z08 rfl Z5f rfl (wkr (wkr (wkr .nil))) ⟨(z05 z0m ((a0).asDict)), ⟨(z05 z0m x31), ⟨rfl, trivial⟩⟩⟩ (c_q00 ((a0).asDict) x31 x32 hx32) rfl) ?_
 refine eX ?_
 obtain rfl := eI h; exact z06 eK
 intro hc30 h
 refine bR ?_
 refine sS rfl rfl rfl (z3g rfl rfl) ?_
 refine sX ?_
 refine eX ?_
 refine cX h rfl ?_ ?_
 intro hc33 h
 refine bR ?_
 refine eX ?_
 refine bR ?_
 refine sX ?_
 obtain ⟨x34, hx34, h⟩ := obind h
 refine sS rfl rfl rfl (zss rfl rfl hx34) ?_
 refine eX ?_
 refine z0f ?_
 refine z0f (z1w 8 [] [] mo (by kernel_rfl) ?_)
 refine gX ?_
 obtain ⟨x35, hx35, h⟩ := obind h
 refine z1r rfl rfl rfl rfl (fun H hp => z1o rfl rfl hx35) ?_
 iterate 3 refine gX ?_
 obtain ⟨x36, hx36, h⟩ := obind h
 refine z1r rfl rfl rfl rfl (fun H hp => z1o rfl rfl hx36) ?_
 iterate 2 refine gX ?_
 refine z20 ?_
 change AO _ _ _ _ _
 obtain ⟨x37, hx37, h⟩ := obind h
 refine sS rfl rfl rfl (z08 rfl Z2a rfl (wkr (wkr .nil)) ⟨rfl, ⟨rfl, trivial⟩⟩ (Z0p x35.cls x36.cls x37 hx37) rfl) ?_
 refine eX ?_
 refine bR ?_
 refine sX ?_
 refine eX ?_
 refine cX h rfl ?_ ?_
 intro hc38 h
 refine bR ?_
 refine sX ?_
 refine eX ?_
 obtain rfl := eI h; exact z06 eK
 intro hc38 h
 refine z0g ?_
 refine cBx ?_
 refine z0f ?_
 refine z0f (z1w 8 [] [] mo (by kernel_rfl) ?_)
 refine gX ?_
 refine z1r rfl rfl rfl rfl (fun H hp => z1o rfl rfl hx35) ?_
 iterate 3 refine gX ?_
 refine z1r rfl rfl rfl rfl (fun H hp => z1o rfl rfl hx36) ?_
 iterate 2 refine gX ?_
 refine z20 ?_
 change AO _ _ _ _ _
 obtain ⟨x39, hx39, h⟩ := obind h
 refine sS rfl rfl rfl (z08 rfl Z2b rfl (wkr (wkr .nil)) ⟨rfl, ⟨rfl, trivial⟩⟩ (Z0m x35.ver x36.ver x39 hx39) rfl) ?_
 refine eX ?_
 refine bR ?_
 refine sX ?_
 refine eX ?_
 refine cX h rfl ?_ ?_
 intro hc40 h
 refine bR ?_
 refine sX ?_
 refine eX ?_
 obtain rfl := eI h; exact z06 eK
 intro hc40 h
 refine z0g ?_
 refine cBx ?_
 refine z0f (z1w 8 [] [] mo (by kernel_rfl) ?_)
 refine gX ?_
 refine z1r rfl rfl rfl rfl (fun H hp => z1o rfl rfl hx35) ?_
 iterate 3 refine gX ?_
 refine z1r rfl rfl rfl rfl (fun H hp => z1o rfl rfl hx36) ?_
 iterate 2 refine gX ?_
 refine z20 ?_
 change AO _ _ _ _ _
 obtain ⟨x41, hx41, h⟩ := obind h
 refine sS rfl rfl rfl (z08 rfl Z5f rfl (wkr (wkr (wkr .nil))) ⟨(z05 z0m x35.fields), ⟨(z05 z0m x36.fields), ⟨rfl, trivial⟩⟩⟩ (c_q00 x35.fields x36.fields x41 hx41) rfl) ?_
 refine eX ?_
 obtain rfl := eI h; exact z06 eK
 intro hc33 h
 refine z0g ?_
 refine cBx ?_
 refine bR ?_
 refine eX ?_
 obtain rfl := eI h; exact z06 eK
theorem C_q1h.sound : ∀ (i : C_q1h) (r : i.R), z3q C_q1h.F i = some r → C_q1h.Q i r := by
 refine z50 (Φ := C_q1h.F) (Q := C_q1h.Q) ?_
 intro g hg i r h
 cases i with
 | k_q1h a0 a1 => exact zgd (fun a0 a1 => g (.k_q1h a0 a1)) (fun a0 a1 r hr => hg (.k_q1h a0 a1) r hr) (fun a0 a1 => g (.k_q00 a0 a1)) (fun a0 a1 r hr => hg (.k_q00 a0 a1) r hr) (fun a0 a1 => g (.k_q02 a0 a1)) (fun a0 a1 r hr => hg (.k_q02 a0 a1) r hr) (fun a0 a1 => g (.k_q1l a0 a1)) (fun a0 a1 r hr => hg (.k_q1l a0 a1) r hr) a0 a1 r h
 | k_q00 a0 a1 => exact z1t (fun a0 a1 => g (.k_q1h a0 a1)) (fun a0 a1 r hr => hg (.k_q1h a0 a1) r hr) (fun a0 a1 => g (.k_q00 a0 a1)) (fun a0 a1 r hr => hg (.k_q00 a0 a1) r hr) (fun a0 a1 => g (.k_q02 a0 a1)) (fun a0 a1 r hr => hg (.k_q02 a0 a1) r hr) (fun a0 a1 => g (.k_q1l a0 a1)) (fun a0 a1 r hr => hg (.k_q1l a0 a1) r hr) a0 a1 r h
 | k_q02 a0 a1 => exact z24 (fun a0 a1 => g (.k_q1h a0 a1)) (fun a0 a1 r hr => hg (.k_q1h a0 a1) r hr) (fun a0 a1 => g (.k_q00 a0 a1)) (fun a0 a1 r hr => hg (.k_q00 a0 a1) r hr) (fun a0 a1 => g (.k_q02 a0 a1)) (fun a0 a1 r hr => hg (.k_q02 a0 a1) r hr) (fun a0 a1 => g (.k_q1l a0 a1)) (fun a0 a1 r hr => hg (.k_q1l a0 a1) r hr) a0 a1 r h
 | k_q1l a0 a1 => exact zgc (fun a0 a1 => g (.k_q1h a0 a1)) (fun a0 a1 r hr => hg (.k_q1h a0 a1) r hr) (fun a0 a1 => g (.k_q00 a0 a1)) (fun a0 a1 r hr => hg (.k_q00 a0 a1) r hr) (fun a0 a1 => g (.k_q02 a0 a1)) (fun a0 a1 r hr => hg (.k_q02 a0 a1) r hr) (fun a0 a1 => g (.k_q1l a0 a1)) (fun a0 a1 r hr => hg (.k_q1l a0 a1) r hr) a0 a1 r h
theorem Z75 (a0 a1 : V) (r : Int) (h : zao a0 a1 = some r) : z0p Tryz.prog 40 [(ofV a0), (ofV a1)] (I64 r) := C_q1h.sound (.k_q1l a0 a1) r h
noncomputable def zgr (a0 a1 : V) : Option Bool :=
 (zj1 a0).bind fun x1 =>
 (zj1 a1).bind fun x2 =>
 bif (x1.2 == 0) then (
 bif (x2.2 == 0) then (
 (zao a0 a1).bind fun x5 =>
 some (x5 == 0)
 ) else (
 some false
 )
 ) else (
 some false
 )
theorem zvg (a0 a1 : V) (r : Bool) (h : zgr a0 a1 = some r) : z0p Tryz.prog 20 [(ofV a0), (ofV a1)] (BO r) := by
 unfold zgr at h
 refine z0j Tryz.func20 rfl Tryz.ntmps20 Tryz.results20 rfl (z0n ?_)
 change BW _ _ _ ⟨[(0, (ofV a0)), (1, (ofV a1))], [], _⟩ _
 refine bR ?_
 refine eX ?_
 refine bR ?_
 refine sX ?_
 obtain ⟨x1, hx1, h⟩ := obind h
 refine sS rfl rfl rfl (z08 rfl zxm rfl (wkr .nil) ⟨(ids_V a0), trivial⟩ (zvi a0 x1 hx1) (z00 rfl (z00 rfl z04))) ?_
 iterate 4 refine sX ?_
 refine eX ?_
 refine bR ?_
 refine sX ?_
 obtain ⟨x2, hx2, h⟩ := obind h
 refine sS rfl rfl rfl (z08 rfl zxm rfl (wkr .nil) ⟨(ids_V a1), trivial⟩ (zvi a1 x2 hx2) (z00 rfl (z00 rfl z04))) ?_
 iterate 4 refine sX ?_
 refine eX ?_
 refine bR ?_
 iterate 3 refine sX ?_
 refine z0t (t := 21) rfl ?_ ?_
 intro hb3; replace h := z10 hb3 h
 iterate 2 refine yX ?_
 iterate 2 refine sX ?_
 refine z0t (t := 25) rfl ?_ ?_
 intro hb4; replace h := z10 hb4 h
 iterate 2 refine yX ?_
 obtain ⟨x5, hx5, h⟩ := obind h
 refine z23 rfl rfl rfl rfl rfl rfl (z08 rfl Z2e rfl (wkr (wkr .nil)) ⟨(ids_V a0), ⟨(ids_V a1), trivial⟩⟩ (Z75 a0 a1 x5 hx5) rfl) ?_
 refine yX ?_
 refine sX ?_
 refine eX ?_
 obtain rfl := eI h; exact z06 eK
 intro hb4; replace h := z11 hb4 h
 iterate 4 refine nX ?_
 refine sX ?_
 refine eX ?_
 obtain rfl := eI h; exact z06 eK
 intro hb3; replace h := z11 hb3 h
 iterate 2 refine nX ?_
 iterate 2 refine sX ?_
 iterate 4 refine nX ?_
 refine sX ?_
 refine eX ?_
 obtain rfl := eI h; exact z06 eK
noncomputable def zkv (a0 a1 : S_merge_side) : Option Bool :=
 bif (a0.f_has == a1.f_has) then (
 bif (!a0.f_has) then (
 some true
 ) else (
 (zgr a0.f_v a1.f_v).bind fun x3 =>
 some x3
 )
 ) else (
 some false
 )
theorem Z0i (a0 a1 : S_merge_side) (r : Bool) (h : zkv a0 a1 = some r) : z0p Tryz.prog 86 [(z09 a0), (z09 a1)] (BO r) := by
 unfold zkv at h
 refine z0j Tryz.func86 rfl Tryz.ntmps86 Tryz.results86 rfl (z0n ?_)
 change BW _ _ _ ⟨[(0, (z09 a0)), (1, (z09 a1))], [], _⟩ _
 refine bR ?_
 iterate 2 refine sX ?_
 refine eX ?_
 refine bR ?_
 iterate 4 refine sX ?_
 refine sS rfl rfl rfl (Z1i Tryz.underlying4 rfl rfl rfl) ?_
 refine sX ?_
 refine z0t (t := 10) rfl ?_ ?_
 intro hb1; replace h := z10 hb1 h
 iterate 4 refine yX ?_
 refine z0t (t := 14) rfl ?_ ?_
 intro hb2; replace h := z10 hb2 h
 iterate 5 refine nX ?_
 refine yX ?_
 refine sX ?_
 refine eX ?_
 obtain rfl := eI h; exact z06 eK
 intro hb2; replace h := z11 hb2 h
 iterate 4 refine yX ?_
 obtain ⟨x3, hx3, h⟩ := obind h
 refine z23 rfl rfl rfl rfl rfl rfl (z08 rfl zxn rfl (wkr (wkr .nil)) ⟨(ids_V a0.f_v), ⟨(ids_V a1.f_v), trivial⟩⟩ (zvg a0.f_v a1.f_v x3 hx3) rfl) ?_
 refine yX ?_
 refine sX ?_
 refine eX ?_
 obtain rfl := eI h; exact z06 eK
 intro hb1; replace h := z11 hb1 h
 iterate 10 refine nX ?_
 refine sX ?_
 refine eX ?_
 obtain rfl := eI h; exact z06 eK
noncomputable def zpf (a0 : (List S_api_Step)) : Option (List S_api_Step) :=
 (zch 32 ([] : (List S_api_Step)) a0).bind fun x2 =>
 some x2
theorem Z4a (a0 r : (List S_api_Step)) (h : zpf a0 = some r) : z0p Tryz.prog 34 [(PV.sl none 82 3 (List.map z01 a0))] (PV.sl none 82 3 (List.map z01 r)) := by
 unfold zpf at h
 refine z0j Tryz.func34 rfl Tryz.ntmps34 Tryz.results34 rfl (z0n ?_)
 change BW _ _ _ ⟨[(0, (PV.sl none 82 3 (List.map z01 a0)))], [], _⟩ _
 refine bR ?_
 refine eX ?_
 refine z0f ?_
 refine bR ?_
 refine sX ?_
 refine zeu rfl rfl rfl Tryz.underlying47 rfl rfl ?_
 intro nb1 hnb1
 refine z0h ?_
 refine cBx ?_
 cases nb1
 refine zd4 rfl ?_
 refine z0g ?_
 refine cBx ?_
 refine bR ?_
 refine sS rfl rfl rfl ((z1a (xs := []) Tryz.underlying47 z1u rfl rfl rfl rfl rfl rfl ⟨lbE rfl, lbE rfl⟩ rfl).cast (y := (PV.sl (some 0) 82 3 (List.map z01 ([] : (List S_api_Step))))) rfl rfl) ?_
 refine sX ?_
 obtain ⟨x2, hx2, h⟩ := obind h
 refine sS rfl rfl rfl (z34 Tryz.underlying47 z1u rfl Tryz.underlying47 rfl rfl rfl rfl z3r z37 hx2 rfl) ?_
 refine eX ?_
 obtain rfl := eI h; exact z06 ⟨_, rfl, z0r (y := (PV.sl none 82 3 (List.map z01 x2))) Wk.tok (z05 z02 x2) ⟨rfl, rfl⟩⟩
 have hz := List.map_eq_nil_iff.1 (hnb1 rfl)
 rw [hz] at h
 replace h : some [] = some r := h
 refine zd3 rfl ?_
 refine bR ?_
 refine eX ?_
 obtain rfl := eI h; exact z06 ⟨_, rfl, z0r (y := (PV.sl none 82 3 (List.map z01 []))) Wk.nil (z05 z02 ([])) ⟨rfl, rfl⟩⟩
end Go.Proofs.YtmoijodjgkfhgaaGreat
