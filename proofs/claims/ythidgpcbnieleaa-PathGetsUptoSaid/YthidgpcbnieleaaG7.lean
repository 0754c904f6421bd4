/- Pure functions, and that calls answer as they say. -/
import Derived.Test.YthidgpcbnieleaaG6
namespace Go.Proofs.Ythidgpcbnieleaa
open Go Aw
set_option linter.unusedVariables false
set_option linter.unusedSimpArgs false
set_option maxRecDepth 20000
set_option maxHeartbeats 2000000
variable {ι : Type} {ρ : ι → Type}
noncomputable def z55 (r_q1u : V → Int → Option Term) (a0 : (List (Str × V))) (a1 : Int) (g1 : (List (Str × Term)) → Nat → Option (List (Str × Term))) (s1 : (List (Str × Term))) (s2 : Nat) : Option (List (Str × Term)) :=
 bif (decide (((s2 : Nat) : Int) < (((a0).length : Nat) : Int))) then (
 ((a0)[s2]?).bind fun x5 =>
 ((a0)[s2]?).bind fun x6 =>
 (r_q1u x6.2 (IntKind.i64.wrap (a1 + 1))).bind fun x7 =>
 (z6x 168 s1 ([(x5.1, x7)] : (List (Str × Term)))).bind fun x8 =>
 g1 x8 (s2 + 1)
 ) else (
 some s1
 )
theorem zae (r_q1u : OF ρ → V → Int → Option Term) (h_r_q1u : ∀ y0 y1, CM (fun G => r_q1u G y0 y1)) (g1 : OF ρ → (List (Str × Term)) → Nat → Option (List (Str × Term))) (h_g1 : ∀ y0 y1, CM (fun G => g1 G y0 y1)) (a0 : (List (Str × V))) (a1 : Int) (s1 : (List (Str × Term))) (s2 : Nat) : CM (fun G : OF ρ => z55 (r_q1u G) a0 a1 (g1 G) s1 s2) := by
 simp only [z55]
 repeat (first | exact z0h | exact h_r_q1u _ _ | exact h_g1 _ _ | refine z10 ?_ ?_ | refine z11 ?_ (fun _ => ?_))
noncomputable def zei (r_q1u : V → Int → Option Term) (a0 : (List (Str × V))) (a1 : Int) (s1 : (List (Str × Term))) (s2 : Nat) : Option (List (Str × Term)) :=
 z3b (ι := ((List (Str × Term)) × Nat)) (ρ := fun _ => (List (Str × Term))) (fun g i => z55 r_q1u a0 a1 (fun s1 s2 => g (s1, s2)) i.1 i.2) (s1, s2)
theorem zhn (r_q1u : V → Int → Option Term) (a0 : (List (Str × V))) (a1 : Int) (s1 : (List (Str × Term))) (s2 : Nat) : zei r_q1u a0 a1 s1 s2 = z55 r_q1u a0 a1 (zei r_q1u a0 a1) s1 s2 :=
 z1f (ι := ((List (Str × Term)) × Nat)) (ρ := fun _ => (List (Str × Term))) (Φ := fun g i => z55 r_q1u a0 a1 (fun s1 s2 => g (s1, s2)) i.1 i.2) (fun i => zae (ι := ((List (Str × Term)) × Nat)) (ρ := fun _ => (List (Str × Term))) (fun _ => r_q1u) (fun _ _ => z0h) (fun g => (fun s1 s2 => g (s1, s2))) (fun _ _ => z1i) a0 a1 i.1 i.2) (s1, s2)
theorem zpg (r_q1u : OF ρ → V → Int → Option Term) (h_r_q1u : ∀ y0 y1, CM (fun G => r_q1u G y0 y1)) (a0 : (List (Str × V))) (a1 : Int) (s1 : (List (Str × Term))) (s2 : Nat) : CM (fun G : OF ρ => zei (r_q1u G) a0 a1 s1 s2) :=
 z5z (κ := ((List (Str × Term)) × Nat)) (τ := fun _ => (List (Str × Term))) (Φ := fun G g i => z55 (r_q1u G) a0 a1 (fun s1 s2 => g (s1, s2)) i.1 i.2) (fun g i => zae r_q1u h_r_q1u (fun _ => (fun s1 s2 => g (s1, s2))) (fun _ _ => z0h) a0 a1 i.1 i.2) (fun G i => zae (ι := ((List (Str × Term)) × Nat)) (ρ := fun _ => (List (Str × Term))) (fun _ => r_q1u G) (fun _ _ => z0h) (fun g => (fun s1 s2 => g (s1, s2))) (fun _ _ => z1i) a0 a1 i.1 i.2) (s1, s2)
noncomputable def zje (r_q11 : (List (Str × V)) → Int → Option (List (Str × Term))) (r_q1u : V → Int → Option Term) (a0 : (List (Str × V))) (a1 : Int) : Option (List (Str × Term)) :=
 zei r_q1u a0 a1 ([] : (List (Str × Term))) 0
theorem zv2 (r_q11 : OF ρ → (List (Str × V)) → Int → Option (List (Str × Term))) (h_r_q11 : ∀ y0 y1, CM (fun G => r_q11 G y0 y1)) (r_q1u : OF ρ → V → Int → Option Term) (h_r_q1u : ∀ y0 y1, CM (fun G => r_q1u G y0 y1)) (a0 : (List (Str × V))) (a1 : Int) : CM (fun G : OF ρ => zje (r_q11 G) (r_q1u G) a0 a1) := by
 simp only [zje]
 repeat (first | exact z0h | exact h_r_q11 _ _ | exact h_r_q1u _ _ | apply zpg | refine z10 ?_ ?_ | refine z11 ?_ (fun _ => ?_) | intro _ | assumption)
noncomputable def z51 (r_q1u : V → Int → Option Term) (a0 : V) (a1 : Int) (g1 : Nat → (List Term) → Option Term) (s11 : Nat) (s12 : (List Term)) : Option Term :=
 bif (decide (((s11 : Nat) : Int) < ((((a0).asList).length : Nat) : Int))) then (
 (((a0).asList)[s11]?).bind fun x15 =>
 (r_q1u x15 (IntKind.i64.wrap (a1 + 1))).bind fun x16 =>
 (z6x 152 s12 ([x16] : (List Term))).bind fun x17 =>
 g1 (s11 + 1) x17
 ) else (
 some (Term.mk 8 false 0 0 [] [] 0 s12 [] [] 0)
 )
theorem zab (r_q1u : OF ρ → V → Int → Option Term) (h_r_q1u : ∀ y0 y1, CM (fun G => r_q1u G y0 y1)) (g1 : OF ρ → Nat → (List Term) → Option Term) (h_g1 : ∀ y0 y1, CM (fun G => g1 G y0 y1)) (a0 : V) (a1 : Int) (s11 : Nat) (s12 : (List Term)) : CM (fun G : OF ρ => z51 (r_q1u G) a0 a1 (g1 G) s11 s12) := by
 simp only [z51]
 repeat (first | exact z0h | exact h_r_q1u _ _ | exact h_g1 _ _ | refine z10 ?_ ?_ | refine z11 ?_ (fun _ => ?_))
noncomputable def zec (r_q1u : V → Int → Option Term) (a0 : V) (a1 : Int) (s11 : Nat) (s12 : (List Term)) : Option Term :=
 z3b (ι := (Nat × (List Term))) (ρ := fun _ => Term) (fun g i => z51 r_q1u a0 a1 (fun s11 s12 => g (s11, s12)) i.1 i.2) (s11, s12)
theorem zh8 (r_q1u : V → Int → Option Term) (a0 : V) (a1 : Int) (s11 : Nat) (s12 : (List Term)) : zec r_q1u a0 a1 s11 s12 = z51 r_q1u a0 a1 (zec r_q1u a0 a1) s11 s12 :=
 z1f (ι := (Nat × (List Term))) (ρ := fun _ => Term) (Φ := fun g i => z51 r_q1u a0 a1 (fun s11 s12 => g (s11, s12)) i.1 i.2) (fun i => zab (ι := (Nat × (List Term))) (ρ := fun _ => Term) (fun _ => r_q1u) (fun _ _ => z0h) (fun g => (fun s11 s12 => g (s11, s12))) (fun _ _ => z1i) a0 a1 i.1 i.2) (s11, s12)
theorem zp4 (r_q1u : OF ρ → V → Int → Option Term) (h_r_q1u : ∀ y0 y1, CM (fun G => r_q1u G y0 y1)) (a0 : V) (a1 : Int) (s11 : Nat) (s12 : (List Term)) : CM (fun G : OF ρ => zec (r_q1u G) a0 a1 s11 s12) :=
 z5z (κ := (Nat × (List Term))) (τ := fun _ => Term) (Φ := fun G g i => z51 (r_q1u G) a0 a1 (fun s11 s12 => g (s11, s12)) i.1 i.2) (fun g i => zab r_q1u h_r_q1u (fun _ => (fun s11 s12 => g (s11, s12))) (fun _ _ => z0h) a0 a1 i.1 i.2) (fun G i => zab (ι := (Nat × (List Term))) (ρ := fun _ => Term) (fun _ => r_q1u G) (fun _ _ => z0h) (fun g => (fun s11 s12 => g (s11, s12))) (fun _ _ => z1i) a0 a1 i.1 i.2) (s11, s12)
noncomputable def zkc (r_q11 : (List (Str × V)) → Int → Option (List (Str × Term))) (r_q1u : V → Int → Option Term) (a0 : V) (a1 : Int) : Option Term :=
 bif (decide (a1 > 400)) then (
 some (Term.mk 0 false 0 0 [] [] 0 [] [] [] 0)
 ) else (
 bif (a0).isNil then (
 some (Term.mk 1 false 0 0 [] [] 0 [] [] [] 0)
 ) else (
 bif (a0).isBool then (
 some (Term.mk 2 (a0).asBool 0 0 [] [] 0 [] [] [] 0)
 ) else (
 bif (a0).isInt then (
 some (Term.mk 3 false (a0).asInt 0 [] [] 0 [] [] [] 0)
 ) else (
 bif (a0).isFloat then (
 some (Term.mk 4 false 0 (a0).asFloat [] [] 0 [] [] [] 0)
 ) else (
 bif (a0).isText then (
 some (Term.mk 5 false 0 0 (a0).asText [] 0 [] [] [] 0)
 ) else (
 bif (a0).isBytes then (
 (z6x 1 ([] : Str) ((a0).asBytes)).bind fun x8 =>
 some (Term.mk 6 false 0 0 [] x8 0 [] [] [] 0)
 ) else (
 bif (a0).isRef then (
 some (Term.mk 7 false 0 0 [] [] (a0).asRef [] [] [] 0)
 ) else (
 bif (a0).isList then (
 zec r_q1u a0 a1 0 ([])
 ) else (
 bif (a0).isDict then (
 (r_q11 ((a0).asDict) a1).bind fun x19 =>
 some (Term.mk 9 false 0 0 [] [] 0 [] x19 [] 0)
 ) else (
 bif (a0).isRec then (
 bif ((a0).asRec).isNone then (
 some (Term.mk 11 false 0 0 [] [] 0 [] [] [] 0)
 ) else (
 ((a0).asRec).bind fun x22 =>
 (r_q11 x22.fields a1).bind fun x23 =>
 some (Term.mk 10 false 0 0 [] [] 0 [] x23 x22.cls x22.ver)
 )
 ) else (
 some (Term.mk 0 false 0 0 [] [] 0 [] [] [] 0)
 )
 )
 )
 )
 )
 )
 )
 )
 )
 )
 )
theorem zuy (r_q11 : OF ρ → (List (Str × V)) → Int → Option (List (Str × Term))) (h_r_q11 : ∀ y0 y1, CM (fun G => r_q11 G y0 y1)) (r_q1u : OF ρ → V → Int → Option Term) (h_r_q1u : ∀ y0 y1, CM (fun G => r_q1u G y0 y1)) (a0 : V) (a1 : Int) : CM (fun G : OF ρ => zkc (r_q11 G) (r_q1u G) a0 a1) := by
 simp only [zkc]
 repeat (first | exact z0h | exact h_r_q11 _ _ | exact h_r_q1u _ _ | apply zp4 | refine z10 ?_ ?_ | refine z11 ?_ (fun _ => ?_) | intro _ | assumption)
inductive C_q11 where
 | k_q11 (a0 : (List (Str × V))) (a1 : Int)
 | k_q1u (a0 : V) (a1 : Int)
def C_q11.R : C_q11 → Type
 | .k_q11 _ _ => (List (Str × Term))
 | .k_q1u _ _ => Term
noncomputable def C_q11.F (g : ∀ i : C_q11, Option i.R) : ∀ i : C_q11, Option i.R
 | .k_q11 a0 a1 => zje (fun a0 a1 => g (.k_q11 a0 a1)) (fun a0 a1 => g (.k_q1u a0 a1)) a0 a1
 | .k_q1u a0 a1 => zkc (fun a0 a1 => g (.k_q11 a0 a1)) (fun a0 a1 => g (.k_q1u a0 a1)) a0 a1
noncomputable def zqh (a0 : (List (Str × V))) (a1 : Int) : Option (List (Str × Term)) := z3b C_q11.F (.k_q11 a0 a1)
noncomputable def zcv (a0 : V) (a1 : Int) : Option Term := z3b C_q11.F (.k_q1u a0 a1)
abbrev Z61 := fun (g : ∀ i : C_q11, Option i.R) a0 a1 => g (.k_q11 a0 a1)
theorem Z5x (a0 a1 : _) : CM (ρ := C_q11.R) (fun g => g (C_q11.k_q11 a0 a1)) := z1i
abbrev Z60 := fun (g : ∀ i : C_q11, Option i.R) a0 a1 => g (.k_q1u a0 a1)
theorem Z5w (a0 a1 : _) : CM (ρ := C_q11.R) (fun g => g (C_q11.k_q1u a0 a1)) := z1i
theorem C_q11.cm (i : C_q11) : CM (fun g : (∀ i : C_q11, Option i.R) => C_q11.F g i) := by
 cases i with
 | k_q11 a0 a1 => exact zv2 Z61 Z5x Z60 Z5w a0 a1
 | k_q1u a0 a1 => exact zuy Z61 Z5x Z60 Z5w a0 a1
theorem Z27 (a0 : (List (Str × V))) (a1 : Int) : zqh a0 a1 = zje zqh zcv a0 a1 := z1f C_q11.cm (.k_q11 a0 a1)
theorem Z4w (a0 : V) (a1 : Int) : zcv a0 a1 = zkc zqh zcv a0 a1 := z1f C_q11.cm (.k_q1u a0 a1)
def C_q11.Q : ∀ i : C_q11, i.R → Prop
 | .k_q11 a0 a1 => fun (r : (List (Str × Term))) => z0o Try.prog 96 [(PV.sl none 96 2 (List.map ofFld a0)), (I64 a1)] (PV.sl none 94 12 (List.map z0s r))
 | .k_q1u a0 a1 => fun (r : Term) => z0o Try.prog 87 [(ofV a0), (I64 a1)] (z0b r)
theorem zgt (r_q11 : (List (Str × V)) → Int → Option (List (Str × Term))) (c_q11 : ∀ (a0 : (List (Str × V))) (a1 : Int) r, r_q11 a0 a1 = some r → z0o Try.prog 96 [(PV.sl none 96 2 (List.map ofFld a0)), (I64 a1)] (PV.sl none 94 12 (List.map z0s r))) (r_q1u : V → Int → Option Term) (c_q1u : ∀ (a0 : V) (a1 : Int) r, r_q1u a0 a1 = some r → z0o Try.prog 87 [(ofV a0), (I64 a1)] (z0b r)) (a0 : (List (Str × V))) (a1 : Int) (r : (List (Str × Term))) (h : zje r_q11 r_q1u a0 a1 = some r) : z0o Try.prog 96 [(PV.sl none 96 2 (List.map ofFld a0)), (I64 a1)] (PV.sl none 94 12 (List.map z0s r)) := by
 unfold zje at h
 refine z0j Try.func96 rfl Try.ntmps96 Try.results96 rfl (z0q ?_)
 change BW _ _ _ ⟨[(0, (PV.sl none 96 2 (List.map ofFld a0))), (1, (I64 a1))], [], _⟩ _
 refine bR ?_
 refine eX ?_
 refine bR ?_
 refine sS rfl rfl rfl ((z16 (xs := []) Try.underlying27 z22 rfl rfl rfl rfl rfl rfl ⟨lbE rfl, lbE rfl⟩ rfl).cast (y := (PV.sl (some 0) 94 12 (List.map z0s ([] : (List (Str × Term)))))) rfl rfl) ?_
 refine eX ?_
 refine z0d ?_
 refine bR ?_
 refine eX ?_
 refine z0r ?_
 refine cBx ?_
 unfold zei at h
 refine z3c (σ := ((List (Str × Term)) × Nat)) (fun i => [(0, (PV.sl none 96 2 (List.map ofFld a0))), (1, (I64 a1)), (5, (PV.sl (some 0) 94 12 (List.map z0s i.1))), (6, (I64 (((i.2 : Nat) : Int))))]) (fun i => [.arr 94 (i.1).length]) (([] : (List (Str × Term))), 0) h ?_ ?_ ?_
 intro i; exact ⟨lbE rfl, ⟨(z02 (z0f z19 _)), ⟨(z02 rfl), ⟨(z4m rfl (z36 z1l _)), ⟨(z02 rfl), trivial⟩⟩⟩⟩, trivial⟩
 exact jN
 rintro g1_f ⟨s1, s2⟩ h; replace h : z55 r_q1u a0 a1 (fun y0 y1 => g1_f (y0, y1)) s1 s2 = some r := h; unfold z55 at h
 change BW _ _ _ ⟨[(0, (PV.sl none 96 2 (List.map ofFld a0))), (1, (I64 a1)), (5, (PV.sl (some 0) 94 12 (List.map z0s s1))), (6, (I64 (((s2 : Nat) : Int))))], [.arr 94 (s1).length], _⟩ _
 refine z0d ?_
 refine bR ?_
 iterate 3 refine sX ?_
 refine eX ?_
 refine z3p (t := 9) rfl fun hb4 => ?_
 try rw [List.length_map] at hb4
 refine cX h rfl ?_ ?_
 intro hc3 h
 have hc3_ := of_decide_eq_true hc3
 refine z0c ?_
 refine cBx ?_
 refine z0d ?_
 refine z0r ?_
 refine cBx ?_
 refine z1y 16 [15] [] mo (by kernel_rfl) ?_
 iterate 3 refine gX ?_
 obtain ⟨x5, hx5, h⟩ := obind h
 refine z1v rfl rfl rfl rfl (fun H hp => z1d (i := s2) Try.underlying64 z1c rfl rfl rfl hx5 rfl) ?_
 iterate 4 refine gX ?_
 obtain ⟨x6, hx6, h⟩ := obind h
 refine z1v rfl rfl rfl rfl (fun H hp => z1d (i := s2) Try.underlying64 z1c rfl rfl rfl hx6 rfl) ?_
 iterate 4 refine gX ?_
 obtain ⟨x7, hx7, h⟩ := obind h
 refine z1v rfl rfl rfl rfl (fun H hp => z03 rfl zyb rfl (wkr (wkr .nil)) ⟨(ids_V x6.2), ⟨rfl, trivial⟩⟩ (c_q1u x6.2 (IntKind.i64.wrap (a1 + 1)) x7 hx7) (z06 x7)) ?_
 refine z1v rfl rfl rfl rfl (fun H hp => z1a (cs := [(z0k x5.1), (I64 x7.kind), (BO x7.bool), (I64 x7.int), (PV.v (.float .f64 x7.float)), (z0k x7.text), (PV.sl none 5 1 (List.map ofB x7.bytes)), (PV.v (.int .u64 x7.ref)), (PV.sl none 29 11 (List.map z15 x7.list)), (PV.sl none 94 12 (List.map z0s x7.fields)), (z0k x7.cls), (I64 x7.ver)]) zt4 z22 rfl rfl rfl rfl) ?_
 refine z9y rfl rfl rfl rfl ((z16 (xs := [(PV.agg [(z0k x5.1), (I64 x7.kind), (BO x7.bool), (I64 x7.int), (PV.v (.float .f64 x7.float)), (z0k x7.text), (PV.sl none 5 1 (List.map ofB x7.bytes)), (PV.v (.int .u64 x7.ref)), (PV.sl none 29 11 (List.map z15 x7.list)), (PV.sl none 94 12 (List.map z0s x7.fields)), (z0k x7.cls), (I64 x7.ver)])]) Try.underlying27 z22 rfl rfl rfl rfl rfl rfl ⟨lbE rfl, lbE rfl⟩ rfl).cast (y := (PV.sl (some 1) 94 12 (List.map z0s ([(x5.1, x7)] : (List (Str × Term)))))) (by simp only [List.map_cons, List.map_nil, z1o]; try rfl) rfl) trivial ?_
 refine z23 ?_
 change AO _ _ _ _ _
 obtain ⟨x8, hx8, h⟩ := obind h
 refine sS rfl rfl rfl (z21 Try.underlying27 z22 rfl Try.underlying27 rfl rfl rfl rfl z7j z4q hx8 rfl) ?_
 refine eX ?_
 refine z0e ?_
 refine sX ?_
 refine sS rfl rfl rfl (z20 (k := s2) (c := 1) rfl rfl rfl (by omega)) ?_
 refine sX (z08 ?_)
 exact ⟨rfl, (x8, (s2 + 1)), h, jN⟩
 intro hc3 h
 refine z1z ?_
 refine cBx ?_
 refine bR ?_
 refine sX ?_
 refine eX ?_
 obtain rfl := eI h; exact z04 ⟨_, rfl, z0p (y := (PV.sl none 94 12 (List.map z0s s1))) Wk.tok (z0f z1l s1) ⟨rfl, rfl⟩⟩
theorem zmr (r_q11 : (List (Str × V)) → Int → Option (List (Str × Term))) (c_q11 : ∀ (a0 : (List (Str × V))) (a1 : Int) r, r_q11 a0 a1 = some r → z0o Try.prog 96 [(PV.sl none 96 2 (List.map ofFld a0)), (I64 a1)] (PV.sl none 94 12 (List.map z0s r))) (r_q1u : V → Int → Option Term) (c_q1u : ∀ (a0 : V) (a1 : Int) r, r_q1u a0 a1 = some r → z0o Try.prog 87 [(ofV a0), (I64 a1)] (z0b r)) (a0 : V) (a1 : Int) (r : Term) (h : zkc r_q11 r_q1u a0 a1 = some r) : z0o Try.prog 87 [(ofV a0), (I64 a1)] (z0b r) := by
 unfold zkc at h
 refine z0j Try.func87 rfl Try.ntmps87 Try.results87 rfl (z0q ?_)
 change BW _ _ _ ⟨[(0, (ofV a0)), (1, (I64 a1))], [], _⟩ _
 refine bR ?_
 refine sS rfl rfl rfl (z1b z0v rfl) (z08 ?_)
 refine cBx ?_
 refine z0d ?_
 refine bR ?_
 refine sX ?_
 refine eX ?_
 refine cX h rfl ?_ ?_
 intro hc1 h
 refine bR ?_
 refine sS rfl rfl rfl (z1a (cs := [(I64 0), (BO false), (I64 0), (PV.v (.float .f64 0)), (z0k []), (PV.v (.slice none 0 0)), (PV.v (.int .u64 0)), (PV.v (.slice none 0 0)), (PV.v (.slice none 0 0)), (z0k []), (I64 0)]) z81 z0v rfl rfl rfl rfl) ?_
 refine z0l rfl rfl (z0g z0v rfl rfl rfl rfl rfl rfl (lbE rfl) rfl) ?_
 refine z08 ?_
 refine cBx ?_
 obtain rfl := eI h; exact z04 ⟨_, rfl, z0p (y := (z0b (Term.mk 0 false 0 0 [] [] 0 [] [] [] 0))) (Wk.agg (wkr (wkr (wkr (wkr (wkr (wkn (wkr (wkn (wkn (wkr (wkr .nil)))))))))))) (z06 (Term.mk 0 false 0 0 [] [] 0 [] [] [] 0)) ⟨rfl, rfl⟩⟩
 intro hc1 h
 refine z0c ?_
 refine cBx ?_
 refine z0d ?_
 refine bR ?_
 refine eX ?_
 refine z0r ?_
 refine cBx ?_
 refine bR ?_
 refine sS rfl rfl rfl (zet Try.underlying20 rfl rfl) (z08 ?_)
 refine cBx ?_
 refine cX h rfl ?_ ?_
 intro hc2 h
 refine bR ?_
 refine eX ?_
 refine bR ?_
 refine sS rfl rfl rfl (z1a (cs := [(I64 1), (BO false), (I64 0), (PV.v (.float .f64 0)), (z0k []), (PV.v (.slice none 0 0)), (PV.v (.int .u64 0)), (PV.v (.slice none 0 0)), (PV.v (.slice none 0 0)), (z0k []), (I64 0)]) z81 z0v rfl rfl rfl rfl) ?_
 refine z0l rfl rfl (z0g z0v rfl rfl rfl rfl rfl rfl (lbE rfl) rfl) ?_
 refine z08 ?_
 refine cBx ?_
 obtain rfl := eI h; exact z04 ⟨_, rfl, z0p (y := (z0b (Term.mk 1 false 0 0 [] [] 0 [] [] [] 0))) (Wk.agg (wkr (wkr (wkr (wkr (wkr (wkn (wkr (wkn (wkn (wkr (wkr .nil)))))))))))) (z06 (Term.mk 1 false 0 0 [] [] 0 [] [] [] 0)) ⟨rfl, rfl⟩⟩
 intro hc2 h
 refine bR ?_
 refine sS rfl rfl rfl (zeu rfl rfl) ?_
 refine sX ?_
 refine eX ?_
 refine cX h rfl ?_ ?_
 intro hc3 h
 refine bR ?_
 refine eX ?_
 refine bR ?_
 refine sX ?_
 refine sS rfl rfl rfl (z1a (cs := [(I64 2), (BO ((a0).asBool)), (I64 0), (PV.v (.float .f64 0)), (z0k []), (PV.v (.slice none 0 0)), (PV.v (.int .u64 0)), (PV.v (.slice none 0 0)), (PV.v (.slice none 0 0)), (z0k []), (I64 0)]) z81 z0v rfl rfl rfl rfl) ?_
 refine z0l rfl rfl (z0g z0v rfl rfl rfl rfl rfl rfl (lbE rfl) rfl) ?_
 refine z08 ?_
 refine cBx ?_
 obtain rfl := eI h; exact z04 ⟨_, rfl, z0p (y := (z0b (Term.mk 2 (a0).asBool 0 0 [] [] 0 [] [] [] 0))) (Wk.agg (wkr (wkr (wkr (wkr (wkr (wkn (wkr (wkn (wkn (wkr (wkr .nil)))))))))))) (z06 (Term.mk 2 (a0).asBool 0 0 [] [] 0 [] [] [] 0)) ⟨rfl, rfl⟩⟩
 intro hc3 h
 refine bR ?_
 refine sS rfl rfl rfl (zii rfl rfl) ?_
 refine sX ?_
 refine eX ?_
 refine cX h rfl ?_ ?_
 intro hc4 h
 refine bR ?_
 refine eX ?_
 refine bR ?_
 refine sX ?_
 refine sS rfl rfl rfl (z1a (cs := [(I64 3), (BO false), (I64 ((a0).asInt)), (PV.v (.float .f64 0)), (z0k []), (PV.v (.slice none 0 0)), (PV.v (.int .u64 0)), (PV.v (.slice none 0 0)), (PV.v (.slice none 0 0)), (z0k []), (I64 0)]) z81 z0v rfl rfl rfl rfl) ?_
 refine z0l rfl rfl (z0g z0v rfl rfl rfl rfl rfl rfl (lbE rfl) rfl) ?_
 refine z08 ?_
 refine cBx ?_
 obtain rfl := eI h; exact z04 ⟨_, rfl, z0p (y := (z0b (Term.mk 3 false (a0).asInt 0 [] [] 0 [] [] [] 0))) (Wk.agg (wkr (wkr (wkr (wkr (wkr (wkn (wkr (wkn (wkn (wkr (wkr .nil)))))))))))) (z06 (Term.mk 3 false (a0).asInt 0 [] [] 0 [] [] [] 0)) ⟨rfl, rfl⟩⟩
 intro hc4 h
 refine bR ?_
 refine sS rfl rfl rfl (zcz rfl rfl) ?_
 refine sX ?_
 refine eX ?_
 refine cX h rfl ?_ ?_
 intro hc5 h
 refine bR ?_
 refine eX ?_
 refine bR ?_
 refine sX ?_
 refine sS rfl rfl rfl (z1a (cs := [(I64 4), (BO false), (I64 0), (PV.v (.float .f64 (a0).asFloat)), (z0k []), (PV.v (.slice none 0 0)), (PV.v (.int .u64 0)), (PV.v (.slice none 0 0)), (PV.v (.slice none 0 0)), (z0k []), (I64 0)]) z81 z0v rfl rfl rfl rfl) ?_
 refine z0l rfl rfl (z0g z0v rfl rfl rfl rfl rfl rfl (lbE rfl) rfl) ?_
 refine z08 ?_
 refine cBx ?_
 obtain rfl := eI h; exact z04 ⟨_, rfl, z0p (y := (z0b (Term.mk 4 false 0 (a0).asFloat [] [] 0 [] [] [] 0))) (Wk.agg (wkr (wkr (wkr (wkr (wkr (wkn (wkr (wkn (wkn (wkr (wkr .nil)))))))))))) (z06 (Term.mk 4 false 0 (a0).asFloat [] [] 0 [] [] [] 0)) ⟨rfl, rfl⟩⟩
 intro hc5 h
 refine bR ?_
 refine sS rfl rfl rfl (zan rfl rfl) ?_
 refine sX ?_
 refine eX ?_
 refine cX h rfl ?_ ?_
 intro hc6 h
 refine bR ?_
 refine eX ?_
 refine bR ?_
 refine sX ?_
 refine sS rfl rfl rfl (z1a (cs := [(I64 5), (BO false), (I64 0), (PV.v (.float .f64 0)), (z0k (a0).asText), (PV.v (.slice none 0 0)), (PV.v (.int .u64 0)), (PV.v (.slice none 0 0)), (PV.v (.slice none 0 0)), (z0k []), (I64 0)]) z81 z0v rfl rfl rfl rfl) ?_
 refine z0l rfl rfl (z0g z0v rfl rfl rfl rfl rfl rfl (lbE rfl) rfl) ?_
 refine z08 ?_
 refine cBx ?_
 obtain rfl := eI h; exact z04 ⟨_, rfl, z0p (y := (z0b (Term.mk 5 false 0 0 (a0).asText [] 0 [] [] [] 0))) (Wk.agg (wkr (wkr (wkr (wkr (wkr (wkn (wkr (wkn (wkn (wkr (wkr .nil)))))))))))) (z06 (Term.mk 5 false 0 0 (a0).asText [] 0 [] [] [] 0)) ⟨rfl, rfl⟩⟩
 intro hc6 h
 refine bR ?_
 refine sS rfl rfl rfl (z6g rfl rfl) ?_
 refine sX ?_
 refine eX ?_
 refine cX h rfl ?_ ?_
 intro hc7 h
 refine bR ?_
 refine eX ?_
 refine bR ?_
 refine sS rfl rfl rfl ((z16 (xs := []) Try.underlying23 inf_5 rfl rfl rfl rfl rfl rfl ⟨lbE rfl, lbE rfl⟩ rfl).cast (y := (PV.sl (some 1) 5 1 (List.map ofB ([] : Str)))) rfl rfl) ?_
 refine sX ?_
 obtain ⟨x8, hx8, h⟩ := obind h
 refine sS rfl rfl rfl (z21 Try.underlying23 inf_5 rfl Try.underlying23 rfl rfl rfl rfl (fun _ => rfl) (fun _ => rfl) hx8 rfl) ?_
 refine sS rfl rfl rfl (z1a (cs := [(I64 6), (BO false), (I64 0), (PV.v (.float .f64 0)), (z0k []), (PV.sl (some 1) 5 1 (List.map ofB x8)), (PV.v (.int .u64 0)), (PV.v (.slice none 0 0)), (PV.v (.slice none 0 0)), (z0k []), (I64 0)]) z81 z0v rfl rfl rfl rfl) ?_
 refine z0l rfl rfl (z0g z0v rfl rfl rfl rfl rfl rfl (lbE rfl) rfl) ?_
 refine z08 ?_
 refine cBx ?_
 obtain rfl := eI h; exact z04 ⟨_, rfl, z0p (y := (z0b (Term.mk 6 false 0 0 [] x8 0 [] [] [] 0))) (Wk.agg (wkr (wkr (wkr (wkr (wkr (.cons Wk.tok (wkr (wkn (wkn (wkr (wkr .nil)))))))))))) (z06 (Term.mk 6 false 0 0 [] x8 0 [] [] [] 0)) ⟨rfl, rfl⟩⟩
 intro hc7 h
 refine bR ?_
 refine sS rfl rfl rfl (zih rfl rfl) ?_
 refine sX ?_
 refine eX ?_
 refine cX h rfl ?_ ?_
 intro hc9 h
 refine bR ?_
 refine eX ?_
 refine bR ?_
 refine sX ?_
 refine sS rfl rfl rfl (z1a (cs := [(I64 7), (BO false), (I64 0), (PV.v (.float .f64 0)), (z0k []), (PV.v (.slice none 0 0)), (PV.v (.int .u64 (a0).asRef)), (PV.v (.slice none 0 0)), (PV.v (.slice none 0 0)), (z0k []), (I64 0)]) z81 z0v rfl rfl rfl rfl) ?_
 refine z0l rfl rfl (z0g z0v rfl rfl rfl rfl rfl rfl (lbE rfl) rfl) ?_
 refine z08 ?_
 refine cBx ?_
 obtain rfl := eI h; exact z04 ⟨_, rfl, z0p (y := (z0b (Term.mk 7 false 0 0 [] [] (a0).asRef [] [] [] 0))) (Wk.agg (wkr (wkr (wkr (wkr (wkr (wkn (wkr (wkn (wkn (wkr (wkr .nil)))))))))))) (z06 (Term.mk 7 false 0 0 [] [] (a0).asRef [] [] [] 0)) ⟨rfl, rfl⟩⟩
 intro hc9 h
 refine bR ?_
 refine sS rfl rfl rfl (z2t rfl rfl) ?_
 refine sX ?_
 refine eX ?_
 refine cX h rfl ?_ ?_
 intro hc10 h
 refine bR ?_
 refine eX ?_
 refine bR ?_
 refine sS rfl rfl rfl (z1a (cs := [(I64 8), (BO false), (I64 0), (PV.v (.float .f64 0)), (z0k []), (PV.v (.slice none 0 0)), (PV.v (.int .u64 0)), (PV.v (.slice none 0 0)), (PV.v (.slice none 0 0)), (z0k []), (I64 0)]) z81 z0v rfl rfl rfl rfl) ?_
 refine sS rfl rfl rfl (z1b z0v rfl) ?_
 refine z0l rfl rfl (z0g z0v rfl rfl rfl rfl rfl rfl (lbE rfl) rfl) ?_
 refine z08 ?_
 refine cBx ?_
 refine z0d ?_
 refine bR ?_
 refine eX ?_
 refine z0r ?_
 refine cBx ?_
 refine zjb (s := ⟨_, _, _⟩) 1 7 29 (sz := 11) rfl rfl rfl ?_
 unfold zec at h
 refine z3c (σ := (Nat × (List Term))) (fun i => [(1, (I64 a1)), (4, (PV.rf 0 0)), (12, (PV.sl none 20 1 (List.map ofV (a0).asList))), (13, (PV.rf 1 0)), (14, (I64 (((i.1 : Nat) : Int))))]) (fun i => [.box 29 z3d, .box 29 [(I64 8), (BO false), (I64 0), (PV.v (.float .f64 0)), (z0k []), (PV.v (.slice none 0 0)), (PV.v (.int .u64 0)), (PV.sl (some 2) 29 11 (List.map z15 i.2)), (PV.v (.slice none 0 0)), (z0k []), (I64 0)], .arr 29 (i.2).length]) (0, []) h ?_ ?_ ?_
 intro i; exact ⟨lbE rfl, ⟨(z02 rfl), ⟨(il_rf rfl), ⟨(z02 (z0f ids_V _)), ⟨(il_rf rfl), ⟨(z02 rfl), trivial⟩⟩⟩⟩⟩, ⟨⟨(z02 rfl), ⟨(z02 rfl), ⟨(z02 rfl), ⟨(z02 rfl), ⟨(z02 rfl), ⟨(z02 rfl), ⟨(z02 rfl), ⟨(z02 rfl), ⟨(z02 rfl), ⟨(z02 rfl), ⟨(z02 rfl), trivial⟩⟩⟩⟩⟩⟩⟩⟩⟩⟩⟩, ⟨⟨(z02 rfl), ⟨(z02 rfl), ⟨(z02 rfl), ⟨(z02 rfl), ⟨(z02 rfl), ⟨(z02 rfl), ⟨(z02 rfl), ⟨(z4m rfl (z36 z2e _)), ⟨(z02 rfl), ⟨(z02 rfl), ⟨(z02 rfl), trivial⟩⟩⟩⟩⟩⟩⟩⟩⟩⟩⟩, trivial⟩⟩⟩
 exact jN
 rintro g1_f ⟨s11, s12⟩ h; replace h : z51 r_q1u a0 a1 (fun y0 y1 => g1_f (y0, y1)) s11 s12 = some r := h; unfold z51 at h
 change BW _ _ _ ⟨[(1, (I64 a1)), (4, (PV.rf 0 0)), (12, (PV.sl none 20 1 (List.map ofV (a0).asList))), (13, (PV.rf 1 0)), (14, (I64 (((s11 : Nat) : Int))))], [.box 29 z3d, .box 29 [(I64 8), (BO false), (I64 0), (PV.v (.float .f64 0)), (z0k []), (PV.v (.slice none 0 0)), (PV.v (.int .u64 0)), (PV.sl (some 2) 29 11 (List.map z15 s12)), (PV.v (.slice none 0 0)), (z0k []), (I64 0)], .arr 29 (s12).length], _⟩ _
 refine z0d ?_
 refine bR ?_
 iterate 3 refine sX ?_
 refine eX ?_
 refine z3p (t := 60) rfl fun hb14 => ?_
 try rw [List.length_map] at hb14
 refine cX h rfl ?_ ?_
 intro hc13 h
 have hc13_ := of_decide_eq_true hc13
 refine z0c ?_
 refine cBx ?_
 refine z0d ?_
 refine z0r ?_
 refine cBx ?_
 refine z1y 10 [9] [1] mo (by kernel_rfl) ?_
 iterate 4 refine gX ?_
 obtain ⟨x15, hx15, h⟩ := obind h
 refine z1v rfl rfl rfl rfl (fun H hp => z1d (i := s11) Try.underlying62 z2g rfl rfl rfl hx15 rfl) ?_
 refine z1v rfl rfl rfl rfl (fun H hp => z6j (y := (ofV x15)) Try.underlying20 rfl rfl rfl (by rw [z1x]; rfl)) ?_
 iterate 2 refine gX ?_
 obtain ⟨x16, hx16, h⟩ := obind h
 refine z1v rfl rfl rfl rfl (fun H hp => z03 rfl zyb rfl (wkr (wkr .nil)) ⟨(ids_V x15), ⟨rfl, trivial⟩⟩ (c_q1u x15 (IntKind.i64.wrap (a1 + 1)) x16 hx16) (z06 x16)) ?_
 refine z9y rfl rfl rfl rfl ((z16 (xs := [(z0b x16)]) Try.underlying26 z0v rfl rfl rfl rfl rfl rfl ⟨lbE rfl, lbE rfl⟩ rfl).cast (y := (PV.sl (some 3) 29 11 (List.map z15 ([x16] : (List Term))))) (by simp only [List.map_cons, List.map_nil, z2b]; try rfl) rfl) ⟨rfl, trivial⟩ ?_
 refine z23 ?_
 change AO _ _ _ _ _
 obtain ⟨x17, hx17, h⟩ := obind h
 refine sS rfl rfl rfl (z21 Try.underlying26 z0v rfl Try.underlying26 rfl rfl rfl rfl z7y z4g hx17 rfl) ?_
 refine sX ?_
 refine z0l rfl rfl (z0g zrs rfl rfl rfl rfl rfl rfl (lbE rfl) rfl) ?_
 refine z08 ?_
 refine cBx ?_
 refine z0e ?_
 refine sX ?_
 refine sS rfl rfl rfl (z20 (k := s11) (c := 1) rfl rfl rfl (by omega)) ?_
 refine sX (z08 ?_)
 exact ⟨rfl, ((s11 + 1), x17), h, jN⟩
 intro hc13 h
 refine z1z ?_
 refine cBx ?_
 refine bR ?_
 refine sX ?_
 refine z0l rfl rfl (z0g z0v rfl rfl rfl rfl rfl rfl (lbE rfl) rfl) ?_
 refine z08 ?_
 refine cBx ?_
 obtain rfl := eI h; exact z04 ⟨_, rfl, z0p (y := (z0b (Term.mk 8 false 0 0 [] [] 0 s12 [] [] 0))) (Wk.agg (wkr (wkr (wkr (wkr (wkr (wkn (wkr (.cons Wk.tok (wkn (wkr (wkr .nil)))))))))))) (z06 (Term.mk 8 false 0 0 [] [] 0 s12 [] [] 0)) ⟨rfl, rfl⟩⟩
 intro hc10 h
 refine bR ?_
 refine sS rfl rfl rfl (z3o rfl rfl) ?_
 refine sX ?_
 refine eX ?_
 refine cX h rfl ?_ ?_
 intro hc18 h
 refine bR ?_
 refine eX ?_
 refine bR ?_
 iterate 2 refine sX ?_
 obtain ⟨x19, hx19, h⟩ := obind h
 refine sS rfl rfl rfl (z03 rfl Z1i rfl (wkr (wkr .nil)) ⟨(z0f z19 ((a0).asDict)), ⟨rfl, trivial⟩⟩ (c_q11 ((a0).asDict) a1 x19 hx19) (z0f z1l x19)) ?_
 refine sS rfl rfl rfl (z1a (cs := [(I64 9), (BO false), (I64 0), (PV.v (.float .f64 0)), (z0k []), (PV.v (.slice none 0 0)), (PV.v (.int .u64 0)), (PV.v (.slice none 0 0)), (PV.sl none 94 12 (List.map z0s x19)), (z0k []), (I64 0)]) z81 z0v rfl rfl rfl rfl) ?_
 refine z0l rfl rfl (z0g z0v rfl rfl rfl rfl rfl rfl (lbE rfl) rfl) ?_
 refine z08 ?_
 refine cBx ?_
 obtain rfl := eI h; exact z04 ⟨_, rfl, z0p (y := (z0b (Term.mk 9 false 0 0 [] [] 0 [] x19 [] 0))) (Wk.agg (wkr (wkr (wkr (wkr (wkr (wkn (wkr (wkn (wkr (wkr (wkr .nil)))))))))))) (z06 (Term.mk 9 false 0 0 [] [] 0 [] x19 [] 0)) ⟨rfl, rfl⟩⟩
 intro hc18 h
 refine bR ?_
 refine sS rfl rfl rfl (z48 rfl rfl) ?_
 refine sX ?_
 refine eX ?_
 refine cX h rfl ?_ ?_
 intro hc20 h
 refine bR ?_
 refine eX ?_
 refine z0d ?_
 refine bR ?_
 refine sX ?_
 refine sS rfl rfl rfl (zaq Try.underlying66 rfl rfl) (z08 ?_)
 refine cBx ?_
 refine cX h rfl ?_ ?_
 intro hc21 h
 refine bR ?_
 refine sS rfl rfl rfl (z1a (cs := [(I64 11), (BO false), (I64 0), (PV.v (.float .f64 0)), (z0k []), (PV.v (.slice none 0 0)), (PV.v (.int .u64 0)), (PV.v (.slice none 0 0)), (PV.v (.slice none 0 0)), (z0k []), (I64 0)]) z81 z0v rfl rfl rfl rfl) ?_
 refine z0l rfl rfl (z0g z0v rfl rfl rfl rfl rfl rfl (lbE rfl) rfl) ?_
 refine z08 ?_
 refine cBx ?_
 obtain rfl := eI h; exact z04 ⟨_, rfl, z0p (y := (z0b (Term.mk 11 false 0 0 [] [] 0 [] [] [] 0))) (Wk.agg (wkr (wkr (wkr (wkr (wkr (wkn (wkr (wkn (wkn (wkr (wkr .nil)))))))))))) (z06 (Term.mk 11 false 0 0 [] [] 0 [] [] [] 0)) ⟨rfl, rfl⟩⟩
 intro hc21 h
 refine z0c ?_
 refine cBx ?_
 refine z0d (z1y 14 [] [] mo (by kernel_rfl) ?_)
 refine gX ?_
 obtain ⟨x22, hx22, h⟩ := obind h
 refine z1v rfl rfl rfl rfl (fun H hp => z2d rfl rfl hx22) ?_
 iterate 3 refine gX ?_
 refine z1v rfl rfl rfl rfl (fun H hp => z2d rfl rfl hx22) ?_
 iterate 3 refine gX ?_
 refine z1v rfl rfl rfl rfl (fun H hp => z2d rfl rfl hx22) ?_
 iterate 3 refine gX ?_
 obtain ⟨x23, hx23, h⟩ := obind h
 refine z1v rfl rfl rfl rfl (fun H hp => z03 rfl Z1i rfl (wkr (wkr .nil)) ⟨(z0f z19 x22.fields), ⟨rfl, trivial⟩⟩ (c_q11 x22.fields a1 x23 hx23) (z0f z1l x23)) ?_
 refine z23 ?_
 change AO _ _ _ _ _
 refine sS rfl rfl rfl (z1a (cs := [(I64 10), (BO false), (I64 0), (PV.v (.float .f64 0)), (z0k []), (PV.v (.slice none 0 0)), (PV.v (.int .u64 0)), (PV.v (.slice none 0 0)), (PV.sl none 94 12 (List.map z0s x23)), (z0k x22.cls), (I64 x22.ver)]) z81 z0v rfl rfl rfl rfl) ?_
 refine z0l rfl rfl (z0g z0v rfl rfl rfl rfl rfl rfl (lbE rfl) rfl) ?_
 refine z08 ?_
 refine cBx ?_
 obtain rfl := eI h; exact z04 ⟨_, rfl, z0p (y := (z0b (Term.mk 10 false 0 0 [] [] 0 [] x23 x22.cls x22.ver))) (Wk.agg (wkr (wkr (wkr (wkr (wkr (wkn (wkr (wkn (wkr (wkr (wkr .nil)))))))))))) (z06 (Term.mk 10 false 0 0 [] [] 0 [] x23 x22.cls x22.ver)) ⟨rfl, rfl⟩⟩
 intro hc20 h
 refine z0c ?_
 refine cBx ?_
 refine bR ?_
 refine sS rfl rfl rfl (z1a (cs := [(I64 0), (BO false), (I64 0), (PV.v (.float .f64 0)), (z0k []), (PV.v (.slice none 0 0)), (PV.v (.int .u64 0)), (PV.v (.slice none 0 0)), (PV.v (.slice none 0 0)), (z0k []), (I64 0)]) z81 z0v rfl rfl rfl rfl) ?_
 refine z0l rfl rfl (z0g z0v rfl rfl rfl rfl rfl rfl (lbE rfl) rfl) ?_
 refine z08 ?_
 refine cBx ?_
 obtain rfl := eI h; exact z04 ⟨_, rfl, z0p (y := (z0b (Term.mk 0 false 0 0 [] [] 0 [] [] [] 0))) (Wk.agg (wkr (wkr (wkr (wkr (wkr (wkn (wkr (wkn (wkn (wkr (wkr .nil)))))))))))) (z06 (Term.mk 0 false 0 0 [] [] 0 [] [] [] 0)) ⟨rfl, rfl⟩⟩
theorem C_q11.sound : ∀ (i : C_q11) (r : i.R), z3b C_q11.F i = some r → C_q11.Q i r := by
 refine z42 (Φ := C_q11.F) (Q := C_q11.Q) ?_
 intro g hg i r h
 cases i with
 | k_q11 a0 a1 => exact zgt (fun a0 a1 => g (.k_q11 a0 a1)) (fun a0 a1 r hr => hg (.k_q11 a0 a1) r hr) (fun a0 a1 => g (.k_q1u a0 a1)) (fun a0 a1 r hr => hg (.k_q1u a0 a1) r hr) a0 a1 r h
 | k_q1u a0 a1 => exact zmr (fun a0 a1 => g (.k_q11 a0 a1)) (fun a0 a1 r hr => hg (.k_q11 a0 a1) r hr) (fun a0 a1 => g (.k_q1u a0 a1)) (fun a0 a1 r hr => hg (.k_q1u a0 a1) r hr) a0 a1 r h
theorem Z2v (a0 : V) (a1 : Int) (r : Term) (h : zcv a0 a1 = some r) : z0o Try.prog 87 [(ofV a0), (I64 a1)] (z0b r) := C_q11.sound (.k_q1u a0 a1) r h
noncomputable def ztn (a0 : V) : Option Term :=
 (zcv a0 0).bind fun x1 =>
 some x1
theorem Z2t (a0 : V) (r : Term) (h : ztn a0 = some r) : z0o Try.prog 61 [(ofV a0)] (z0b r) := by
 unfold ztn at h
 refine z0j Try.func61 rfl Try.ntmps61 Try.results61 rfl (z0q ?_)
 change BW _ _ _ ⟨[(0, (ofV a0))], [], _⟩ _
 refine bR ?_
 refine sS rfl rfl rfl (z1b z0v rfl) (z08 ?_)
 refine cBx ?_
 refine bR ?_
 refine sX ?_
 obtain ⟨x1, hx1, h⟩ := obind h
 refine sS rfl rfl rfl (z03 rfl zyb rfl (wkr (wkr .nil)) ⟨(ids_V a0), ⟨rfl, trivial⟩⟩ (Z2v a0 0 x1 hx1) (z06 x1)) ?_
 refine z0l rfl rfl (z0g z0v rfl rfl rfl rfl rfl rfl (lbE rfl) rfl) ?_
 refine z08 ?_
 refine cBx ?_
 obtain rfl := eI h; exact z04 ⟨_, rfl, z0p (y := (z0b x1)) (Wk.refl _) (z06 x1) ⟨rfl, rfl⟩⟩
noncomputable def zcl (g1 : Nat → Option Bool) (s2 : Nat) (s5 : Bool) : Option Bool :=
 bif s5 then (
 some false
 ) else (
 g1 (s2 + 1)
 )
theorem zpi (g1 : OF ρ → Nat → Option Bool) (h_g1 : ∀ y0, CM (fun G => g1 G y0)) (s2 : Nat) (s5 : Bool) : CM (fun G : OF ρ => zcl (g1 G) s2 s5) := by
 simp only [zcl]
 repeat (first | exact z0h | exact h_g1 _ | refine z10 ?_ ?_ | refine z11 ?_ (fun _ => ?_))
noncomputable def z56 (r_q1y : Term → Term → Option Bool) (a0 a1 : (List (Str × Term))) (g1 : Nat → Option Bool) (s2 : Nat) : Option Bool :=
 bif (decide (((s2 : Nat) : Int) < (((a0).length : Nat) : Int))) then (
 ((a0)[s2]?).bind fun x7 =>
 ((a1)[s2]?).bind fun x8 =>
 bif (!(x7.1 == x8.1)) then (
 zcl g1 s2 true
 ) else (
 ((a0)[s2]?).bind fun x10 =>
 ((a1)[s2]?).bind fun x11 =>
 (r_q1y (x10.2) (x11.2)).bind fun x12 =>
 zcl g1 s2 (!x12)
 )
 ) else (
 some true
 )
theorem zaf (r_q1y : OF ρ → Term → Term → Option Bool) (h_r_q1y : ∀ y0 y1, CM (fun G => r_q1y G y0 y1)) (g1 : OF ρ → Nat → Option Bool) (h_g1 : ∀ y0, CM (fun G => g1 G y0)) (a0 a1 : (List (Str × Term))) (s2 : Nat) : CM (fun G : OF ρ => z56 (r_q1y G) a0 a1 (g1 G) s2) := by
 simp only [z56]
 repeat (first | exact z0h | exact h_r_q1y _ _ | exact h_g1 _ | apply zpi | refine z10 ?_ ?_ | refine z11 ?_ (fun _ => ?_) | intro _ | assumption)
noncomputable def zej (r_q1y : Term → Term → Option Bool) (a0 a1 : (List (Str × Term))) (s2 : Nat) : Option Bool :=
 z3b (ι := Nat) (ρ := fun _ => Bool) (fun g i => z56 r_q1y a0 a1 (fun s2 => g s2) i) s2
theorem zhq (r_q1y : Term → Term → Option Bool) (a0 a1 : (List (Str × Term))) (s2 : Nat) : zej r_q1y a0 a1 s2 = z56 r_q1y a0 a1 (zej r_q1y a0 a1) s2 :=
 z1f (ι := Nat) (ρ := fun _ => Bool) (Φ := fun g i => z56 r_q1y a0 a1 (fun s2 => g s2) i) (fun i => zaf (ι := Nat) (ρ := fun _ => Bool) (fun _ => r_q1y) (fun _ _ => z0h) (fun g => (fun s2 => g s2)) (fun _ => z1i) a0 a1 i) s2
theorem zph (r_q1y : OF ρ → Term → Term → Option Bool) (h_r_q1y : ∀ y0 y1, CM (fun G => r_q1y G y0 y1)) (a0 a1 : (List (Str × Term))) (s2 : Nat) : CM (fun G : OF ρ => zej (r_q1y G) a0 a1 s2) :=
 z5z (κ := Nat) (τ := fun _ => Bool) (Φ := fun G g i => z56 (r_q1y G) a0 a1 (fun s2 => g s2) i) (fun g i => zaf r_q1y h_r_q1y (fun _ => (fun s2 => g s2)) (fun _ => z0h) a0 a1 i) (fun G i => zaf (ι := Nat) (ρ := fun _ => Bool) (fun _ => r_q1y G) (fun _ _ => z0h) (fun g => (fun s2 => g s2)) (fun _ => z1i) a0 a1 i) s2
noncomputable def zkf (r_q0x : (List (Str × Term)) → (List (Str × Term)) → Option Bool) (r_q1r : (List Term) → (List Term) → Option Bool) (r_q1y : Term → Term → Option Bool) (a0 a1 : (List (Str × Term))) : Option Bool :=
 bif ((((a0).length : Nat) : Int) != (((a1).length : Nat) : Int)) then (
 some false
 ) else (
 zej r_q1y a0 a1 0
 )
theorem zv3 (r_q0x : OF ρ → (List (Str × Term)) → (List (Str × Term)) → Option Bool) (h_r_q0x : ∀ y0 y1, CM (fun G => r_q0x G y0 y1)) (r_q1r : OF ρ → (List Term) → (List Term) → Option Bool) (h_r_q1r : ∀ y0 y1, CM (fun G => r_q1r G y0 y1)) (r_q1y : OF ρ → Term → Term → Option Bool) (h_r_q1y : ∀ y0 y1, CM (fun G => r_q1y G y0 y1)) (a0 a1 : (List (Str × Term))) : CM (fun G : OF ρ => zkf (r_q0x G) (r_q1r G) (r_q1y G) a0 a1) := by
 simp only [zkf]
 repeat (first | exact z0h | exact h_r_q0x _ _ | exact h_r_q1r _ _ | exact h_r_q1y _ _ | apply zph | refine z10 ?_ ?_ | refine z11 ?_ (fun _ => ?_) | intro _ | assumption)
noncomputable def z52 (r_q1y : Term → Term → Option Bool) (a0 a1 : (List Term)) (g1 : Nat → Option Bool) (s2 : Nat) : Option Bool :=
 bif (decide (((s2 : Nat) : Int) < (((a0).length : Nat) : Int))) then (
 ((a0)[s2]?).bind fun x5 =>
 ((a1)[s2]?).bind fun x6 =>
 (r_q1y x5 x6).bind fun x7 =>
 bif (!x7) then (
 some false
 ) else (
 g1 (s2 + 1)
 )
 ) else (
 some true
 )
theorem zac (r_q1y : OF ρ → Term → Term → Option Bool) (h_r_q1y : ∀ y0 y1, CM (fun G => r_q1y G y0 y1)) (g1 : OF ρ → Nat → Option Bool) (h_g1 : ∀ y0, CM (fun G => g1 G y0)) (a0 a1 : (List Term)) (s2 : Nat) : CM (fun G : OF ρ => z52 (r_q1y G) a0 a1 (g1 G) s2) := by
 simp only [z52]
 repeat (first | exact z0h | exact h_r_q1y _ _ | exact h_g1 _ | refine z10 ?_ ?_ | refine z11 ?_ (fun _ => ?_))
noncomputable def zee (r_q1y : Term → Term → Option Bool) (a0 a1 : (List Term)) (s2 : Nat) : Option Bool :=
 z3b (ι := Nat) (ρ := fun _ => Bool) (fun g i => z52 r_q1y a0 a1 (fun s2 => g s2) i) s2
theorem zhb (r_q1y : Term → Term → Option Bool) (a0 a1 : (List Term)) (s2 : Nat) : zee r_q1y a0 a1 s2 = z52 r_q1y a0 a1 (zee r_q1y a0 a1) s2 :=
 z1f (ι := Nat) (ρ := fun _ => Bool) (Φ := fun g i => z52 r_q1y a0 a1 (fun s2 => g s2) i) (fun i => zac (ι := Nat) (ρ := fun _ => Bool) (fun _ => r_q1y) (fun _ _ => z0h) (fun g => (fun s2 => g s2)) (fun _ => z1i) a0 a1 i) s2
theorem zp5 (r_q1y : OF ρ → Term → Term → Option Bool) (h_r_q1y : ∀ y0 y1, CM (fun G => r_q1y G y0 y1)) (a0 a1 : (List Term)) (s2 : Nat) : CM (fun G : OF ρ => zee (r_q1y G) a0 a1 s2) :=
 z5z (κ := Nat) (τ := fun _ => Bool) (Φ := fun G g i => z52 (r_q1y G) a0 a1 (fun s2 => g s2) i) (fun g i => zac r_q1y h_r_q1y (fun _ => (fun s2 => g s2)) (fun _ => z0h) a0 a1 i) (fun G i => zac (ι := Nat) (ρ := fun _ => Bool) (fun _ => r_q1y G) (fun _ _ => z0h) (fun g => (fun s2 => g s2)) (fun _ => z1i) a0 a1 i) s2
noncomputable def zkd (r_q0x : (List (Str × Term)) → (List (Str × Term)) → Option Bool) (r_q1r : (List Term) → (List Term) → Option Bool) (r_q1y : Term → Term → Option Bool) (a0 a1 : (List Term)) : Option Bool :=
 bif ((((a0).length : Nat) : Int) != (((a1).length : Nat) : Int)) then (
 some false
 ) else (
 zee r_q1y a0 a1 0
 )
theorem zuz (r_q0x : OF ρ → (List (Str × Term)) → (List (Str × Term)) → Option Bool) (h_r_q0x : ∀ y0 y1, CM (fun G => r_q0x G y0 y1)) (r_q1r : OF ρ → (List Term) → (List Term) → Option Bool) (h_r_q1r : ∀ y0 y1, CM (fun G => r_q1r G y0 y1)) (r_q1y : OF ρ → Term → Term → Option Bool) (h_r_q1y : ∀ y0 y1, CM (fun G => r_q1y G y0 y1)) (a0 a1 : (List Term)) : CM (fun G : OF ρ => zkd (r_q0x G) (r_q1r G) (r_q1y G) a0 a1) := by
 simp only [zkd]
 repeat (first | exact z0h | exact h_r_q0x _ _ | exact h_r_q1r _ _ | exact h_r_q1y _ _ | apply zp5 | refine z10 ?_ ?_ | refine z11 ?_ (fun _ => ?_) | intro _ | assumption)
noncomputable def z47 (r_q0x : (List (Str × Term)) → (List (Str × Term)) → Option Bool) (r_q1r : (List Term) → (List Term) → Option Bool) (a0 a1 : Term) (s2 : Bool) : Option Bool :=
 bif s2 then (
 some true
 ) else (
 bif (a0.kind == 2) then (
 some (a0.bool == a1.bool)
 ) else (
 bif (a0.kind == 3) then (
 some (a0.int == a1.int)
 ) else (
 bif (a0.kind == 4) then (
 some (((a0.float : Nat) : Int) == ((a1.float : Nat) : Int))
 ) else (
 bif (a0.kind == 5) then (
 some (a0.text == a1.text)
 ) else (
 bif (a0.kind == 6) then (
 some (a0.bytes == a1.bytes)
 ) else (
 bif (a0.kind == 7) then (
 some (a0.ref == a1.ref)
 ) else (
 bif (a0.kind == 8) then (
 (r_q1r a0.list a1.list).bind fun x11 =>
 some x11
 ) else (
 bif (a0.kind == 9) then (
 (r_q0x a0.fields a1.fields).bind fun x13 =>
 some x13
 ) else (
 bif (a0.kind == 10) then (
 bif (a0.cls == a1.cls) then (
 bif (a0.ver == a1.ver) then (
 (r_q0x a0.fields a1.fields).bind fun x17 =>
 some x17
 ) else (
 some false
 )
 ) else (
 some false
 )
 ) else (
 some false
 )
 )
 )
 )
 )
 )
 )
 )
 )
 )
theorem zp2 (r_q0x : OF ρ → (List (Str × Term)) → (List (Str × Term)) → Option Bool) (h_r_q0x : ∀ y0 y1, CM (fun G => r_q0x G y0 y1)) (r_q1r : OF ρ → (List Term) → (List Term) → Option Bool) (h_r_q1r : ∀ y0 y1, CM (fun G => r_q1r G y0 y1)) (a0 a1 : Term) (s2 : Bool) : CM (fun G : OF ρ => z47 (r_q0x G) (r_q1r G) a0 a1 s2) := by
 simp only [z47]
 repeat (first | exact z0h | exact h_r_q0x _ _ | exact h_r_q1r _ _ | refine z10 ?_ ?_ | refine z11 ?_ (fun _ => ?_))
noncomputable def zjd (r_q0x : (List (Str × Term)) → (List (Str × Term)) → Option Bool) (r_q1r : (List Term) → (List Term) → Option Bool) (r_q1y : Term → Term → Option Bool) (a0 a1 : Term) : Option Bool :=
 bif (a0.kind != a1.kind) then (
 some false
 ) else (
 bif (a0.kind == 1) then (
 z47 r_q0x r_q1r a0 a1 (a0.kind == 1)
 ) else (
 z47 r_q0x r_q1r a0 a1 (a0.kind == 11)
 )
 )
theorem zuw (r_q0x : OF ρ → (List (Str × Term)) → (List (Str × Term)) → Option Bool) (h_r_q0x : ∀ y0 y1, CM (fun G => r_q0x G y0 y1)) (r_q1r : OF ρ → (List Term) → (List Term) → Option Bool) (h_r_q1r : ∀ y0 y1, CM (fun G => r_q1r G y0 y1)) (r_q1y : OF ρ → Term → Term → Option Bool) (h_r_q1y : ∀ y0 y1, CM (fun G => r_q1y G y0 y1)) (a0 a1 : Term) : CM (fun G : OF ρ => zjd (r_q0x G) (r_q1r G) (r_q1y G) a0 a1) := by
 simp only [zjd]
 repeat (first | exact z0h | exact h_r_q0x _ _ | exact h_r_q1r _ _ | exact h_r_q1y _ _ | apply zp2 | refine z10 ?_ ?_ | refine z11 ?_ (fun _ => ?_) | intro _ | assumption)
inductive C_q0x where
 | k_q0x (a0 : (List (Str × Term))) (a1 : (List (Str × Term)))
 | k_q1r (a0 : (List Term)) (a1 : (List Term))
 | k_q1y (a0 : Term) (a1 : Term)
def C_q0x.R : C_q0x → Type
 | .k_q0x _ _ => Bool
 | .k_q1r _ _ => Bool
 | .k_q1y _ _ => Bool
noncomputable def C_q0x.F (g : ∀ i : C_q0x, Option i.R) : ∀ i : C_q0x, Option i.R
 | .k_q0x a0 a1 => zkf (fun a0 a1 => g (.k_q0x a0 a1)) (fun a0 a1 => g (.k_q1r a0 a1)) (fun a0 a1 => g (.k_q1y a0 a1)) a0 a1
 | .k_q1r a0 a1 => zkd (fun a0 a1 => g (.k_q0x a0 a1)) (fun a0 a1 => g (.k_q1r a0 a1)) (fun a0 a1 => g (.k_q1y a0 a1)) a0 a1
 | .k_q1y a0 a1 => zjd (fun a0 a1 => g (.k_q0x a0 a1)) (fun a0 a1 => g (.k_q1r a0 a1)) (fun a0 a1 => g (.k_q1y a0 a1)) a0 a1
noncomputable def zqk (a0 a1 : (List (Str × Term))) : Option Bool := z3b C_q0x.F (.k_q0x a0 a1)
noncomputable def zq5 (a0 a1 : (List Term)) : Option Bool := z3b C_q0x.F (.k_q1r a0 a1)
noncomputable def zfv (a0 a1 : Term) : Option Bool := z3b C_q0x.F (.k_q1y a0 a1)
abbrev Z42 := fun (g : ∀ i : C_q0x, Option i.R) a0 a1 => g (.k_q0x a0 a1)
theorem Z3z (a0 a1 : _) : CM (ρ := C_q0x.R) (fun g => g (C_q0x.k_q0x a0 a1)) := z1i
abbrev Z41 := fun (g : ∀ i : C_q0x, Option i.R) a0 a1 => g (.k_q1r a0 a1)
theorem Z3y (a0 a1 : _) : CM (ρ := C_q0x.R) (fun g => g (C_q0x.k_q1r a0 a1)) := z1i
abbrev Z40 := fun (g : ∀ i : C_q0x, Option i.R) a0 a1 => g (.k_q1y a0 a1)
theorem Z3x (a0 a1 : _) : CM (ρ := C_q0x.R) (fun g => g (C_q0x.k_q1y a0 a1)) := z1i
theorem C_q0x.cm (i : C_q0x) : CM (fun g : (∀ i : C_q0x, Option i.R) => C_q0x.F g i) := by
 cases i with
 | k_q0x a0 a1 => exact zv3 Z42 Z3z Z41 Z3y Z40 Z3x a0 a1
 | k_q1r a0 a1 => exact zuz Z42 Z3z Z41 Z3y Z40 Z3x a0 a1
 | k_q1y a0 a1 => exact zuw Z42 Z3z Z41 Z3y Z40 Z3x a0 a1
theorem Z4z (a0 a1 : (List (Str × Term))) : zqk a0 a1 = zkf zqk zq5 zfv a0 a1 := z1f C_q0x.cm (.k_q0x a0 a1)
theorem Z4x (a0 a1 : (List Term)) : zq5 a0 a1 = zkd zqk zq5 zfv a0 a1 := z1f C_q0x.cm (.k_q1r a0 a1)
theorem Z26 (a0 a1 : Term) : zfv a0 a1 = zjd zqk zq5 zfv a0 a1 := z1f C_q0x.cm (.k_q1y a0 a1)
def C_q0x.Q : ∀ i : C_q0x, i.R → Prop
 | .k_q0x a0 a1 => fun (r : Bool) => z0o Try.prog 86 [(PV.sl none 94 12 (List.map z0s a0)), (PV.sl none 94 12 (List.map z0s a1))] (BO r)
 | .k_q1r a0 a1 => fun (r : Bool) => z0o Try.prog 85 [(PV.sl none 29 11 (List.map z15 a0)), (PV.sl none 29 11 (List.map z15 a1))] (BO r)
 | .k_q1y a0 a1 => fun (r : Bool) => z0o Try.prog 60 [(z0b a0), (z0b a1)] (BO r)
theorem zgu (r_q0x : (List (Str × Term)) → (List (Str × Term)) → Option Bool) (c_q0x : ∀ (a0 : (List (Str × Term))) (a1 : (List (Str × Term))) r, r_q0x a0 a1 = some r → z0o Try.prog 86 [(PV.sl none 94 12 (List.map z0s a0)), (PV.sl none 94 12 (List.map z0s a1))] (BO r)) (r_q1r : (List Term) → (List Term) → Option Bool) (c_q1r : ∀ (a0 : (List Term)) (a1 : (List Term)) r, r_q1r a0 a1 = some r → z0o Try.prog 85 [(PV.sl none 29 11 (List.map z15 a0)), (PV.sl none 29 11 (List.map z15 a1))] (BO r)) (r_q1y : Term → Term → Option Bool) (c_q1y : ∀ (a0 : Term) (a1 : Term) r, r_q1y a0 a1 = some r → z0o Try.prog 60 [(z0b a0), (z0b a1)] (BO r)) (a0 a1 : (List (Str × Term))) (r : Bool) (h : zkf r_q0x r_q1r r_q1y a0 a1 = some r) : z0o Try.prog 86 [(PV.sl none 94 12 (List.map z0s a0)), (PV.sl none 94 12 (List.map z0s a1))] (BO r) := by
 unfold zkf at h
 refine z0j Try.func86 rfl Try.ntmps86 Try.results86 rfl (z0q ?_)
 change BW _ _ _ ⟨[(0, (PV.sl none 94 12 (List.map z0s a0))), (1, (PV.sl none 94 12 (List.map z0s a1)))], [], _⟩ _
 refine bR ?_
 refine eX ?_
 refine z0d ?_
 refine bR ?_
 iterate 4 refine sX ?_
 refine eX ?_
 refine cX h rfl ?_ ?_
 intro hc1 h
 refine bR ?_
 refine eX ?_
 obtain rfl := eI h; exact z04 eK
 intro hc1 h
 refine z0c ?_
 refine cBx ?_
 refine z0d ?_
 refine bR ?_
 refine eX ?_
 refine z0r ?_
 refine cBx ?_
 unfold zej at h
 refine lX (σ := Nat) (fun i => [(0, (PV.sl none 94 12 (List.map z0s a0))), (1, (PV.sl none 94 12 (List.map z0s a1))), (5, (I64 (((i : Nat) : Int))))]) (fun i => []) 0 h ?_ ?_
 exact jN
 rintro g1_f s2 h; replace h : z56 r_q1y a0 a1 (fun y0 => g1_f y0) s2 = some r := h; unfold z56 at h
 change BW _ _ _ ⟨[(0, (PV.sl none 94 12 (List.map z0s a0))), (1, (PV.sl none 94 12 (List.map z0s a1))), (5, (I64 (((s2 : Nat) : Int))))], [], _⟩ _
 refine z0d ?_
 refine bR ?_
 iterate 3 refine sX ?_
 refine eX ?_
 refine z3p (t := 12) rfl fun hb4 => ?_
 try rw [List.length_map] at hb4
 refine cX h rfl ?_ ?_
 intro hc3 h
 have hc3_ := of_decide_eq_true hc3
 refine z0c ?_
 refine cBx ?_
 refine z0d ?_
 refine z0r ?_
 refine cBx ?_
 refine jX (ι := Bool) (fun i => zcl (fun y0 => g1_f y0) s2 i = some r) (fun i => [(0, (PV.sl none 94 12 (List.map z0s a0))), (1, (PV.sl none 94 12 (List.map z0s a1))), (5, (I64 (((s2 : Nat) : Int)))), (41, (BO i))]) (fun i => []) ?_ ?_
 rintro s5 h; replace h : zcl (fun y0 => g1_f y0) s2 s5 = some r := h; unfold zcl at h
 change BW _ _ _ ⟨[(0, (PV.sl none 94 12 (List.map z0s a0))), (1, (PV.sl none 94 12 (List.map z0s a1))), (5, (I64 (((s2 : Nat) : Int)))), (41, (BO s5))], [], _⟩ _
 refine cX h rfl ?_ ?_
 intro hc6 h
 refine bR ?_
 refine eX ?_
 obtain rfl := eI h; exact z04 eK
 intro hc6 h
 refine z0c ?_
 refine cBx ?_
 refine z0e ?_
 refine sX ?_
 refine sS rfl rfl rfl (z20 (k := s2) (c := 1) rfl rfl rfl (by omega)) ?_
 refine sX (z08 ?_)
 exact ⟨rfl, (s2 + 1), h, jN⟩
 refine z1y 22 [] [] mo (by kernel_rfl) ?_
 iterate 2 refine gX ?_
 obtain ⟨x7, hx7, h⟩ := obind h
 refine z1v rfl rfl rfl rfl (fun H hp => z1d (i := s2) Try.underlying27 z22 rfl rfl rfl hx7 (z1o _)) ?_
 iterate 4 refine gX ?_
 obtain ⟨x8, hx8, h⟩ := obind h
 refine z1v rfl rfl rfl rfl (fun H hp => z1d (i := s2) Try.underlying27 z22 rfl rfl rfl hx8 (z1o _)) ?_
 iterate 2 refine gX ?_
 refine z1v rfl rfl rfl rfl (fun H hp => (z2p (a := x7.1) (b := x8.1) rfl rfl rfl rfl).cast (y := (BO ((!(x7.1 == x8.1))))) rfl rfl) ?_
 refine gX ?_
 refine z7z 28 rfl ?_ ?_
 intro hb9; replace h := z0t hb9 h
 iterate 10 refine mX ?_
 refine z23 ?_
 change AO _ _ _ _ _
 iterate 2 refine nX ?_
 refine sX (z08 ?_)
 exact ⟨rfl, true, h, jN⟩
 intro hb9; replace h := z0u hb9 h
 iterate 2 refine wX ?_
 obtain ⟨x10, hx10, h⟩ := obind h
 refine z8b rfl rfl rfl rfl rfl rfl rfl (fun H hp => z1d (i := s2) Try.underlying27 z22 rfl rfl rfl hx10 (z1o _)) ?_
 iterate 4 refine wX ?_
 obtain ⟨x11, hx11, h⟩ := obind h
 refine z8b rfl rfl rfl rfl rfl rfl rfl (fun H hp => z1d (i := s2) Try.underlying27 z22 rfl rfl rfl hx11 (z1o _)) ?_
 iterate 2 refine wX ?_
 refine z23 ?_
 change AO _ _ _ _ _
 obtain ⟨x12, hx12, h⟩ := obind h
 refine z1t rfl rfl rfl rfl rfl rfl (z03 rfl zyg rfl (wkr (wkr .nil)) ⟨(z06 (x10.2)), ⟨(z06 (x11.2)), trivial⟩⟩ (c_q1y (x10.2) (x11.2) x12 hx12) rfl) ?_
 refine yX ?_
 refine sX (z08 ?_)
 exact ⟨rfl, (!x12), h, jN⟩
 intro hc3 h
 refine z1z ?_
 refine cBx ?_
 refine bR ?_
 refine eX ?_
 obtain rfl := eI h; exact z04 eK
theorem zms (r_q0x : (List (Str × Term)) → (List (Str × Term)) → Option Bool) (c_q0x : ∀ (a0 : (List (Str × Term))) (a1 : (List (Str × Term))) r, r_q0x a0 a1 = some r → z0o Try.prog 86 [(PV.sl none 94 12 (List.map z0s a0)), (PV.sl none 94 12 (List.map z0s a1))] (BO r)) (r_q1r : (List Term) → (List Term) → Option Bool) (c_q1r : ∀ (a0 : (List Term)) (a1 : (List Term)) r, r_q1r a0 a1 = some r → z0o Try.prog 85 [(PV.sl none 29 11 (List.map z15 a0)), (PV.sl none 29 11 (List.map z15 a1))] (BO r)) (r_q1y : Term → Term → Option Bool) (c_q1y : ∀ (a0 : Term) (a1 : Term) r, r_q1y a0 a1 = some r → z0o Try.prog 60 [(z0b a0), (z0b a1)] (BO r)) (a0 a1 : (List Term)) (r : Bool) (h : zkd r_q0x r_q1r r_q1y a0 a1 = some r) : z0o Try.prog 85 [(PV.sl none 29 11 (List.map z15 a0)), (PV.sl none 29 11 (List.map z15 a1))] (BO r) := by
 unfold zkd at h
 refine z0j Try.func85 rfl Try.ntmps85 Try.results85 rfl (z0q ?_)
 change BW _ _ _ ⟨[(0, (PV.sl none 29 11 (List.map z15 a0))), (1, (PV.sl none 29 11 (List.map z15 a1)))], [], _⟩ _
 refine bR ?_
 refine eX ?_
 refine z0d ?_
 refine bR ?_
 iterate 4 refine sX ?_
 refine eX ?_
 refine cX h rfl ?_ ?_
 intro hc1 h
 refine bR ?_
 refine eX ?_
 obtain rfl := eI h; exact z04 eK
 intro hc1 h
 refine z0c ?_
 refine cBx ?_
 refine z0d ?_
 refine bR ?_
 refine eX ?_
 refine z0r ?_
 refine cBx ?_
 unfold zee at h
 refine lX (σ := Nat) (fun i => [(0, (PV.sl none 29 11 (List.map z15 a0))), (1, (PV.sl none 29 11 (List.map z15 a1))), (5, (I64 (((i : Nat) : Int))))]) (fun i => []) 0 h ?_ ?_
 exact jN
 rintro g1_f s2 h; replace h : z52 r_q1y a0 a1 (fun y0 => g1_f y0) s2 = some r := h; unfold z52 at h
 change BW _ _ _ ⟨[(0, (PV.sl none 29 11 (List.map z15 a0))), (1, (PV.sl none 29 11 (List.map z15 a1))), (5, (I64 (((s2 : Nat) : Int))))], [], _⟩ _
 refine z0d ?_
 refine bR ?_
 iterate 3 refine sX ?_
 refine eX ?_
 refine z3p (t := 12) rfl fun hb4 => ?_
 try rw [List.length_map] at hb4
 refine cX h rfl ?_ ?_
 intro hc3 h
 have hc3_ := of_decide_eq_true hc3
 refine z0c ?_
 refine cBx ?_
 refine z0d ?_
 refine z0r ?_
 refine cBx ?_
 refine z0d (z1y 8 [] [] mo (by kernel_rfl) ?_)
 iterate 2 refine gX ?_
 obtain ⟨x5, hx5, h⟩ := obind h
 refine z1v rfl rfl rfl rfl (fun H hp => z1d (i := s2) Try.underlying26 z0v rfl rfl rfl hx5 (z2b _)) ?_
 iterate 3 refine gX ?_
 obtain ⟨x6, hx6, h⟩ := obind h
 refine z1v rfl rfl rfl rfl (fun H hp => z1d (i := s2) Try.underlying26 z0v rfl rfl rfl hx6 (z2b _)) ?_
 refine gX ?_
 refine z23 ?_
 change AO _ _ _ _ _
 obtain ⟨x7, hx7, h⟩ := obind h
 refine sS rfl rfl rfl (z03 rfl zyg rfl (wkr (wkr .nil)) ⟨(z06 x5), ⟨(z06 x6), trivial⟩⟩ (c_q1y x5 x6 x7 hx7) rfl) ?_
 refine eX ?_
 refine cX h rfl ?_ ?_
 intro hc8 h
 refine bR ?_
 refine eX ?_
 obtain rfl := eI h; exact z04 eK
 intro hc8 h
 refine z0c ?_
 refine cBx ?_
 refine z0e ?_
 refine sX ?_
 refine sS rfl rfl rfl (z20 (k := s2) (c := 1) rfl rfl rfl (by omega)) ?_
 refine sX (z08 ?_)
 exact ⟨rfl, (s2 + 1), h, jN⟩
 intro hc3 h
 refine z1z ?_
 refine cBx ?_
 refine bR ?_
 refine eX ?_
 obtain rfl := eI h; exact z04 eK
theorem zom (r_q0x : (List (Str × Term)) → (List (Str × Term)) → Option Bool) (c_q0x : ∀ (a0 : (List (Str × Term))) (a1 : (List (Str × Term))) r, r_q0x a0 a1 = some r → z0o Try.prog 86 [(PV.sl none 94 12 (List.map z0s a0)), (PV.sl none 94 12 (List.map z0s a1))] (BO r)) (r_q1r : (List Term) → (List Term) → Option Bool) (c_q1r : ∀ (a0 : (List Term)) (a1 : (List Term)) r, r_q1r a0 a1 = some r → z0o Try.prog 85 [(PV.sl none 29 11 (List.map z15 a0)), (PV.sl none 29 11 (List.map z15 a1))] (BO r)) (r_q1y : Term → Term → Option Bool) (c_q1y : ∀ (a0 : Term) (a1 : Term) r, r_q1y a0 a1 = some r → z0o Try.prog 60 [(z0b a0), (z0b a1)] (BO r)) (a0 a1 : Term) (r : Bool) (h : zjd r_q0x r_q1r r_q1y a0 a1 = some r) : z0o Try.prog 60 [(z0b a0), (z0b a1)] (BO r) := by
 unfold zjd at h
 refine z0j Try.func60 rfl Try.ntmps60 Try.results60 rfl (z0q ?_)
 change BW _ _ _ ⟨[(0, (z0b a0)), (1, (z0b a1))], [], _⟩ _
 refine bR ?_
 iterate 2 refine sX ?_
 refine eX ?_
 refine z0d ?_
 refine bR ?_
 iterate 4 refine sX ?_
 refine eX ?_
 refine cX h rfl ?_ ?_
 intro hc1 h
 refine bR ?_
 refine eX ?_
 obtain rfl := eI h; exact z04 eK
 intro hc1 h
 refine z0c ?_
 refine cBx ?_
 refine z0d ?_
 refine bR ?_
 refine sX ?_
 refine eX ?_
 refine z0r ?_
 refine cBx ?_
 refine jX (ι := Bool) (fun i => z47 r_q0x r_q1r a0 a1 i = some r) (fun i => [(2, (PV.rf 0 0)), (3, (PV.rf 1 0)), (11, (I64 a0.kind)), (12, (BO i))]) (fun i => [.box 29 (z1r a0), .box 29 (z1r a1)]) ?_ ?_
 rintro s2 h; replace h : z47 r_q0x r_q1r a0 a1 s2 = some r := h; unfold z47 at h
 change BW _ _ _ ⟨[(2, (PV.rf 0 0)), (3, (PV.rf 1 0)), (11, (I64 a0.kind)), (12, (BO s2))], [.box 29 (z1r a0), .box 29 (z1r a1)], _⟩ _
 refine cX h rfl ?_ ?_
 intro hc3 h
 refine bR ?_
 refine eX ?_
 obtain rfl := eI h; exact z04 eK
 intro hc3 h
 refine bR ?_
 refine sX ?_
 refine eX ?_
 refine cX h rfl ?_ ?_
 intro hc4 h
 refine bR ?_
 iterate 4 refine sX ?_
 refine sS rfl rfl rfl (zxo Try.underlying4 rfl rfl rfl) ?_
 refine eX ?_
 obtain rfl := eI h; exact z04 eK
 intro hc4 h
 refine bR ?_
 refine sX ?_
 refine eX ?_
 refine cX h rfl ?_ ?_
 intro hc5 h
 refine bR ?_
 iterate 5 refine sX ?_
 refine eX ?_
 obtain rfl := eI h; exact z04 eK
 intro hc5 h
 refine bR ?_
 refine sX ?_
 refine eX ?_
 refine cX h rfl ?_ ?_
 intro hc6 h
 refine z0d (z1y 5 [] [0, 1] mo (by kernel_rfl) ?_)
 iterate 2 refine gX ?_
 refine z1v rfl rfl rfl rfl (fun H hp => zd5 rfl rfl) ?_
 iterate 2 refine gX ?_
 refine z23 ?_
 change AO _ _ _ _ _
 refine sS rfl rfl rfl (zd5 rfl rfl) ?_
 refine sX ?_
 refine eX ?_
 obtain rfl := eI h; exact z04 eK
 intro hc6 h
 refine bR ?_
 refine sX ?_
 refine eX ?_
 refine cX h rfl ?_ ?_
 intro hc7 h
 refine bR ?_
 iterate 4 refine sX ?_
 refine sS rfl rfl rfl ((z2p (a := a0.text) (b := a1.text) rfl rfl rfl rfl).cast (y := (BO ((a0.text == a1.text)))) rfl rfl) ?_
 refine eX ?_
 obtain rfl := eI h; exact z04 eK
 intro hc7 h
 refine bR ?_
 refine sX ?_
 refine eX ?_
 refine cX h rfl ?_ ?_
 intro hc8 h
 refine bR ?_
 iterate 2 refine sX ?_
 refine sS rfl rfl rfl (zqr Try.underlying23 Try.underlying9 Try.underlying5 rfl rfl) ?_
 iterate 2 refine sX ?_
 refine sS rfl rfl rfl (zqr Try.underlying23 Try.underlying9 Try.underlying5 rfl rfl) ?_
 refine sS rfl rfl rfl ((z2p (a := a0.bytes) (b := a1.bytes) rfl rfl rfl rfl).cast (y := (BO ((a0.bytes == a1.bytes)))) rfl rfl) ?_
 refine eX ?_
 obtain rfl := eI h; exact z04 eK
 intro hc8 h
 refine bR ?_
 refine sX ?_
 refine eX ?_
 refine cX h rfl ?_ ?_
 intro hc9 h
 refine bR ?_
 iterate 5 refine sX ?_
 refine eX ?_
 obtain rfl := eI h; exact z04 eK
 intro hc9 h
 refine bR ?_
 refine sX ?_
 refine eX ?_
 refine cX h rfl ?_ ?_
 intro hc10 h
 refine bR ?_
 iterate 4 refine sX ?_
 obtain ⟨x11, hx11, h⟩ := obind h
 refine sS rfl rfl rfl (z03 rfl Z49 rfl (wkr (wkr .nil)) ⟨(z0f z2e a0.list), ⟨(z0f z2e a1.list), trivial⟩⟩ (c_q1r a0.list a1.list x11 hx11) rfl) ?_
 refine eX ?_
 obtain rfl := eI h; exact z04 eK
 intro hc10 h
 refine bR ?_
 refine sX ?_
 refine eX ?_
 refine cX h rfl ?_ ?_
 intro hc12 h
 refine bR ?_
 iterate 4 refine sX ?_
 obtain ⟨x13, hx13, h⟩ := obind h
 refine sS rfl rfl rfl (z03 rfl Z1m rfl (wkr (wkr .nil)) ⟨(z0f z1l a0.fields), ⟨(z0f z1l a1.fields), trivial⟩⟩ (c_q0x a0.fields a1.fields x13 hx13) rfl) ?_
 refine eX ?_
 obtain rfl := eI h; exact z04 eK
 intro hc12 h
 refine bR ?_
 refine sX ?_
 refine eX ?_
 refine cX h rfl ?_ ?_
 intro hc14 h
 refine bR ?_
 iterate 4 refine sX ?_
 refine sS rfl rfl rfl ((z2p (a := a0.cls) (b := a1.cls) rfl rfl rfl rfl).cast (y := (BO ((a0.cls == a1.cls)))) rfl rfl) ?_
 refine sX ?_
 refine z0n (t := 82) rfl ?_ ?_
 intro hb15; replace h := z0t hb15 h
 iterate 5 refine yX ?_
 iterate 2 refine sX ?_
 refine z0n (t := 89) rfl ?_ ?_
 intro hb16; replace h := z0t hb16 h
 iterate 4 refine yX ?_
 obtain ⟨x17, hx17, h⟩ := obind h
 refine z1t rfl rfl rfl rfl rfl rfl (z03 rfl Z1m rfl (wkr (wkr .nil)) ⟨(z0f z1l a0.fields), ⟨(z0f z1l a1.fields), trivial⟩⟩ (c_q0x a0.fields a1.fields x17 hx17) rfl) ?_
 refine sX ?_
 refine eX ?_
 obtain rfl := eI h; exact z04 eK
 intro hb16; replace h := z0u hb16 h
 iterate 5 refine nX ?_
 refine sX ?_
 refine eX ?_
 obtain rfl := eI h; exact z04 eK
 intro hb15; replace h := z0u hb15 h
 iterate 5 refine nX ?_
 iterate 2 refine sX ?_
 iterate 5 refine nX ?_
 refine sX ?_
 refine eX ?_
 obtain rfl := eI h; exact z04 eK
 intro hc14 h
 refine z0c ?_
 refine cBx ?_
 refine bR ?_
 refine eX ?_
 obtain rfl := eI h; exact z04 eK
 refine bR ?_
 refine sX ?_
 refine eX ?_
 refine cX h rfl ?_ ?_
 intro hc18 h
 refine z0c ?_
 exact ⟨rfl, (a0.kind == 1), h, jN⟩
 intro hc18 h
 refine z0e ?_
 refine sX ?_
 refine sX (z08 ?_)
 exact ⟨rfl, (a0.kind == 11), h, jN⟩
theorem C_q0x.sound : ∀ (i : C_q0x) (r : i.R), z3b C_q0x.F i = some r → C_q0x.Q i r := by
 refine z42 (Φ := C_q0x.F) (Q := C_q0x.Q) ?_
 intro g hg i r h
 cases i with
 | k_q0x a0 a1 => exact zgu (fun a0 a1 => g (.k_q0x a0 a1)) (fun a0 a1 r hr => hg (.k_q0x a0 a1) r hr) (fun a0 a1 => g (.k_q1r a0 a1)) (fun a0 a1 r hr => hg (.k_q1r a0 a1) r hr) (fun a0 a1 => g (.k_q1y a0 a1)) (fun a0 a1 r hr => hg (.k_q1y a0 a1) r hr) a0 a1 r h
 | k_q1r a0 a1 => exact zms (fun a0 a1 => g (.k_q0x a0 a1)) (fun a0 a1 r hr => hg (.k_q0x a0 a1) r hr) (fun a0 a1 => g (.k_q1r a0 a1)) (fun a0 a1 r hr => hg (.k_q1r a0 a1) r hr) (fun a0 a1 => g (.k_q1y a0 a1)) (fun a0 a1 r hr => hg (.k_q1y a0 a1) r hr) a0 a1 r h
 | k_q1y a0 a1 => exact zom (fun a0 a1 => g (.k_q0x a0 a1)) (fun a0 a1 r hr => hg (.k_q0x a0 a1) r hr) (fun a0 a1 => g (.k_q1r a0 a1)) (fun a0 a1 r hr => hg (.k_q1r a0 a1) r hr) (fun a0 a1 => g (.k_q1y a0 a1)) (fun a0 a1 r hr => hg (.k_q1y a0 a1) r hr) a0 a1 r h
theorem Z2s (a0 a1 : Term) (r : Bool) (h : zfv a0 a1 = some r) : z0o Try.prog 60 [(z0b a0), (z0b a1)] (BO r) := C_q0x.sound (.k_q1y a0 a1) r h
end Go.Proofs.Ythidgpcbnieleaa
