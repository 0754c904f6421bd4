/- Pure functions, and that calls answer as they say. -/
import Derived.Test.YthidgpcbnieleaaGreatDoorG6
namespace Go.Proofs.YthidgpcbnieleaaGreatDoor
open Go Aw
set_option linter.unusedVariables false
set_option linter.unusedSimpArgs false
set_option maxRecDepth 20000
set_option maxHeartbeats 2000000
variable {ι : Type} {ρ : ι → Type}
noncomputable def z5g (r_q2e : Term → Option V) (a0 : (List (Str × Term))) (g1 : (List (Str × V)) → Nat → Option (List (Str × V))) (s1 : (List (Str × V))) (s2 : Nat) : Option (List (Str × V)) :=
 bif (decide (((s2 : Nat) : Int) < (((a0).length : Nat) : Int))) then (
 ((a0)[s2]?).bind fun x5 =>
 ((a0)[s2]?).bind fun x6 =>
 (r_q2e (x6.2)).bind fun x7 =>
 (z8k 32 s1 ([(x5.1, x7)] : (List (Str × V)))).bind fun x8 =>
 g1 x8 (s2 + 1)
 ) else (
 some s1
 )
theorem zak (r_q2e : OF ρ → Term → Option V) (h_r_q2e : ∀ y0, CM (fun G => r_q2e G y0)) (g1 : OF ρ → (List (Str × V)) → Nat → Option (List (Str × V))) (h_g1 : ∀ y0 y1, CM (fun G => g1 G y0 y1)) (a0 : (List (Str × Term))) (s1 : (List (Str × V))) (s2 : Nat) : CM (fun G : OF ρ => z5g (r_q2e G) a0 (g1 G) s1 s2) := by
 simp only [z5g]
 repeat (first | exact z0c | exact h_r_q2e _ | exact h_g1 _ _ | refine z11 ?_ ?_ | refine z12 ?_ (fun _ => ?_))
noncomputable def ze7 (r_q2e : Term → Option V) (a0 : (List (Str × Term))) (s1 : (List (Str × V))) (s2 : Nat) : Option (List (Str × V)) :=
 z2w (ι := ((List (Str × V)) × Nat)) (ρ := fun _ => (List (Str × V))) (fun g i => z5g r_q2e a0 (fun s1 s2 => g (s1, s2)) i.1 i.2) (s1, s2)
theorem zh0 (r_q2e : Term → Option V) (a0 : (List (Str × Term))) (s1 : (List (Str × V))) (s2 : Nat) : ze7 r_q2e a0 s1 s2 = z5g r_q2e a0 (ze7 r_q2e a0) s1 s2 :=
 z19 (ι := ((List (Str × V)) × Nat)) (ρ := fun _ => (List (Str × V))) (Φ := fun g i => z5g r_q2e a0 (fun s1 s2 => g (s1, s2)) i.1 i.2) (fun i => zak (ι := ((List (Str × V)) × Nat)) (ρ := fun _ => (List (Str × V))) (fun _ => r_q2e) (fun _ => z0c) (fun g => (fun s1 s2 => g (s1, s2))) (fun _ _ => z17) a0 i.1 i.2) (s1, s2)
theorem zpg (r_q2e : OF ρ → Term → Option V) (h_r_q2e : ∀ y0, CM (fun G => r_q2e G y0)) (a0 : (List (Str × Term))) (s1 : (List (Str × V))) (s2 : Nat) : CM (fun G : OF ρ => ze7 (r_q2e G) a0 s1 s2) :=
 z40 (κ := ((List (Str × V)) × Nat)) (τ := fun _ => (List (Str × V))) (Φ := fun G g i => z5g (r_q2e G) a0 (fun s1 s2 => g (s1, s2)) i.1 i.2) (fun g i => zak r_q2e h_r_q2e (fun _ => (fun s1 s2 => g (s1, s2))) (fun _ _ => z0c) a0 i.1 i.2) (fun G i => zak (ι := ((List (Str × V)) × Nat)) (ρ := fun _ => (List (Str × V))) (fun _ => r_q2e G) (fun _ => z0c) (fun g => (fun s1 s2 => g (s1, s2))) (fun _ _ => z17) a0 i.1 i.2) (s1, s2)
noncomputable def zkn (r_q2k : (List (Str × Term)) → Option (List (Str × V))) (r_q2e : Term → Option V) (a0 : (List (Str × Term))) : Option (List (Str × V)) :=
 ze7 r_q2e a0 ([] : (List (Str × V))) 0
theorem zw3 (r_q2k : OF ρ → (List (Str × Term)) → Option (List (Str × V))) (h_r_q2k : ∀ y0, CM (fun G => r_q2k G y0)) (r_q2e : OF ρ → Term → Option V) (h_r_q2e : ∀ y0, CM (fun G => r_q2e G y0)) (a0 : (List (Str × Term))) : CM (fun G : OF ρ => zkn (r_q2k G) (r_q2e G) a0) := by
 simp only [zkn]
 repeat (first | exact z0c | exact h_r_q2k _ | exact h_r_q2e _ | apply zpg | refine z11 ?_ ?_ | refine z12 ?_ (fun _ => ?_) | intro _ | assumption)
noncomputable def z5h (r_q2e : Term → Option V) (a0 : Term) (g1 : (List V) → Nat → Option V) (s10 : (List V)) (s11 : Nat) : Option V :=
 bif (decide (((s11 : Nat) : Int) < (((a0.list).length : Nat) : Int))) then (
 ((a0.list)[s11]?).bind fun x14 =>
 (r_q2e x14).bind fun x15 =>
 (z8k 16 s10 ([x15] : (List V))).bind fun x16 =>
 g1 x16 (s11 + 1)
 ) else (
 some (V.list s10)
 )
theorem zal (r_q2e : OF ρ → Term → Option V) (h_r_q2e : ∀ y0, CM (fun G => r_q2e G y0)) (g1 : OF ρ → (List V) → Nat → Option V) (h_g1 : ∀ y0 y1, CM (fun G => g1 G y0 y1)) (a0 : Term) (s10 : (List V)) (s11 : Nat) : CM (fun G : OF ρ => z5h (r_q2e G) a0 (g1 G) s10 s11) := by
 simp only [z5h]
 repeat (first | exact z0c | exact h_r_q2e _ | exact h_g1 _ _ | refine z11 ?_ ?_ | refine z12 ?_ (fun _ => ?_))
noncomputable def zcr (r_q2e : Term → Option V) (a0 : Term) (s10 : (List V)) (s11 : Nat) : Option V :=
 z2w (ι := ((List V) × Nat)) (ρ := fun _ => V) (fun g i => z5h r_q2e a0 (fun s10 s11 => g (s10, s11)) i.1 i.2) (s10, s11)
theorem zh3 (r_q2e : Term → Option V) (a0 : Term) (s10 : (List V)) (s11 : Nat) : zcr r_q2e a0 s10 s11 = z5h r_q2e a0 (zcr r_q2e a0) s10 s11 :=
 z19 (ι := ((List V) × Nat)) (ρ := fun _ => V) (Φ := fun g i => z5h r_q2e a0 (fun s10 s11 => g (s10, s11)) i.1 i.2) (fun i => zal (ι := ((List V) × Nat)) (ρ := fun _ => V) (fun _ => r_q2e) (fun _ => z0c) (fun g => (fun s10 s11 => g (s10, s11))) (fun _ _ => z17) a0 i.1 i.2) (s10, s11)
theorem zph (r_q2e : OF ρ → Term → Option V) (h_r_q2e : ∀ y0, CM (fun G => r_q2e G y0)) (a0 : Term) (s10 : (List V)) (s11 : Nat) : CM (fun G : OF ρ => zcr (r_q2e G) a0 s10 s11) :=
 z40 (κ := ((List V) × Nat)) (τ := fun _ => V) (Φ := fun G g i => z5h (r_q2e G) a0 (fun s10 s11 => g (s10, s11)) i.1 i.2) (fun g i => zal r_q2e h_r_q2e (fun _ => (fun s10 s11 => g (s10, s11))) (fun _ _ => z0c) a0 i.1 i.2) (fun G i => zal (ι := ((List V) × Nat)) (ρ := fun _ => V) (fun _ => r_q2e G) (fun _ => z0c) (fun g => (fun s10 s11 => g (s10, s11))) (fun _ _ => z17) a0 i.1 i.2) (s10, s11)
noncomputable def zko (r_q2k : (List (Str × Term)) → Option (List (Str × V))) (r_q2e : Term → Option V) (a0 : Term) : Option V :=
 bif (a0.kind == 1) then (
 some V.nil
 ) else (
 bif (a0.kind == 2) then (
 some (V.bool a0.bool)
 ) else (
 bif (a0.kind == 3) then (
 some (V.int a0.int)
 ) else (
 bif (a0.kind == 4) then (
 some (V.float a0.float)
 ) else (
 bif (a0.kind == 5) then (
 some (V.text a0.text)
 ) else (
 bif (a0.kind == 6) then (
 (z8k 1 ([] : Str) a0.bytes).bind fun x7 =>
 some (V.bytes x7)
 ) else (
 bif (a0.kind == 7) then (
 some (V.ref a0.ref)
 ) else (
 bif (a0.kind == 8) then (
 zcr r_q2e a0 ([] : (List V)) 0
 ) else (
 bif (a0.kind == 9) then (
 (r_q2k a0.fields).bind fun x18 =>
 some (V.dict x18)
 ) else (
 bif (a0.kind == 10) then (
 (r_q2k a0.fields).bind fun x20 =>
 some (V.record a0.cls a0.ver x20)
 ) else (
 bif (a0.kind == 11) then (
 some V.nothing
 ) else (
 (znt a0.int).bind fun x22 =>
 some x22
 )
 )
 )
 )
 )
 )
 )
 )
 )
 )
 )
theorem zw4 (r_q2k : OF ρ → (List (Str × Term)) → Option (List (Str × V))) (h_r_q2k : ∀ y0, CM (fun G => r_q2k G y0)) (r_q2e : OF ρ → Term → Option V) (h_r_q2e : ∀ y0, CM (fun G => r_q2e G y0)) (a0 : Term) : CM (fun G : OF ρ => zko (r_q2k G) (r_q2e G) a0) := by
 simp only [zko]
 repeat (first | exact z0c | exact h_r_q2k _ | exact h_r_q2e _ | apply zph | refine z11 ?_ ?_ | refine z12 ?_ (fun _ => ?_) | intro _ | assumption)
inductive C_q2k where
 | k_q2k (a0 : (List (Str × Term)))
 | k_q2e (a0 : Term)
def C_q2k.R : C_q2k → Type
 | .k_q2k _ => (List (Str × V))
 | .k_q2e _ => V
noncomputable def C_q2k.F (g : ∀ i : C_q2k, Option i.R) : ∀ i : C_q2k, Option i.R
 | .k_q2k a0 => zkn (fun a0 => g (.k_q2k a0)) (fun a0 => g (.k_q2e a0)) a0
 | .k_q2e a0 => zko (fun a0 => g (.k_q2k a0)) (fun a0 => g (.k_q2e a0)) a0
noncomputable def ztw (a0 : (List (Str × Term))) : Option (List (Str × V)) := z2w C_q2k.F (.k_q2k a0)
noncomputable def z9r (a0 : Term) : Option V := z2w C_q2k.F (.k_q2e a0)
abbrev Z92 := fun (g : ∀ i : C_q2k, Option i.R) a0 => g (.k_q2k a0)
theorem Z8y (a0 : _) : CM (ρ := C_q2k.R) (fun g => g (C_q2k.k_q2k a0)) := z17
abbrev Z91 := fun (g : ∀ i : C_q2k, Option i.R) a0 => g (.k_q2e a0)
theorem Z8x (a0 : _) : CM (ρ := C_q2k.R) (fun g => g (C_q2k.k_q2e a0)) := z17
theorem C_q2k.cm (i : C_q2k) : CM (fun g : (∀ i : C_q2k, Option i.R) => C_q2k.F g i) := by
 cases i with
 | k_q2k a0 => exact zw3 Z92 Z8y Z91 Z8x a0
 | k_q2e a0 => exact zw4 Z92 Z8y Z91 Z8x a0
theorem Z7q (a0 : (List (Str × Term))) : ztw a0 = zkn ztw z9r a0 := z19 C_q2k.cm (.k_q2k a0)
theorem Z7r (a0 : Term) : z9r a0 = zko ztw z9r a0 := z19 C_q2k.cm (.k_q2e a0)
def C_q2k.Q : ∀ i : C_q2k, i.R → Prop
 | .k_q2k a0 => fun (r : (List (Str × V))) => z0m Tryz.prog 28 [(PV.sl none 113 12 (List.map z36 a0))] (PV.sl none 69 2 (List.map ofFld r))
 | .k_q2e a0 => fun (r : V) => z0m Tryz.prog 9 [(z3w a0)] (ofV r)
theorem zp5 (r_q2k : (List (Str × Term)) → Option (List (Str × V))) (c_q2k : ∀ (a0 : (List (Str × Term))) r, r_q2k a0 = some r → z0m Tryz.prog 28 [(PV.sl none 113 12 (List.map z36 a0))] (PV.sl none 69 2 (List.map ofFld r))) (r_q2e : Term → Option V) (c_q2e : ∀ (a0 : Term) r, r_q2e a0 = some r → z0m Tryz.prog 9 [(z3w a0)] (ofV r)) (a0 : (List (Str × Term))) (r : (List (Str × V))) (h : zkn r_q2k r_q2e a0 = some r) : z0m Tryz.prog 28 [(PV.sl none 113 12 (List.map z36 a0))] (PV.sl none 69 2 (List.map ofFld r)) := by
 unfold zkn at h
 refine z0d Tryz.func28 rfl Tryz.ntmps28 Tryz.results28 rfl (z0g ?_)
 change BW _ _ _ ⟨[(0, (PV.sl none 113 12 (List.map z36 a0)))], [], _⟩ _
 refine bR ?_
 refine eX ?_
 refine bR ?_
 refine sS rfl rfl rfl ((z1e (xs := []) Tryz.underlying71 z0z rfl rfl rfl rfl rfl rfl ⟨lbE rfl, lbE rfl⟩ rfl).cast (y := (PV.sl (some 0) 69 2 (List.map ofFld ([] : (List (Str × V)))))) rfl rfl) ?_
 refine eX ?_
 refine z08 ?_
 refine bR ?_
 refine eX ?_
 refine z0h ?_
 refine cBx ?_
 unfold ze7 at h
 refine z2u (σ := ((List (Str × V)) × Nat)) (fun i => [(0, (PV.sl none 113 12 (List.map z36 a0))), (3, (PV.sl (some 0) 69 2 (List.map ofFld i.1))), (4, (I64 (((i.2 : Nat) : Int))))]) (fun i => [.arr 69 (i.1).length]) (([] : (List (Str × V))), 0) h ?_ ?_ ?_
 intro i; exact ⟨lbE rfl, ⟨(z09 (z03 z6i _)), ⟨(z3r rfl (z0u z0r _)), ⟨(z09 rfl), trivial⟩⟩⟩, trivial⟩
 exact jN
 rintro g1_f ⟨s1, s2⟩ h; replace h : z5g r_q2e a0 (fun y0 y1 => g1_f (y0, y1)) s1 s2 = some r := h; unfold z5g at h
 change BW _ _ _ ⟨[(0, (PV.sl none 113 12 (List.map z36 a0))), (3, (PV.sl (some 0) 69 2 (List.map ofFld s1))), (4, (I64 (((s2 : Nat) : Int))))], [.arr 69 (s1).length], _⟩ _
 refine z08 ?_
 refine bR ?_
 iterate 3 refine sX ?_
 refine eX ?_
 refine z3j (t := 7) rfl fun hb4 => ?_
 try rw [List.length_map] at hb4
 refine cX h rfl ?_ ?_
 intro hc3 h
 have hc3_ := of_decide_eq_true hc3
 refine z07 ?_
 refine cBx ?_
 refine z08 ?_
 refine z0h ?_
 refine cBx ?_
 refine z1l 14 [13] [] mo (by kernel_rfl) ?_
 iterate 3 refine gX ?_
 obtain ⟨x5, hx5, h⟩ := obind h
 refine z1p rfl rfl rfl rfl (fun H hp => z1r (i := s2) Tryz.underlying27 zdg rfl rfl rfl hx5 (zb6 _)) ?_
 iterate 4 refine gX ?_
 obtain ⟨x6, hx6, h⟩ := obind h
 refine z1p rfl rfl rfl rfl (fun H hp => z1r (i := s2) Tryz.underlying27 zdg rfl rfl rfl hx6 (zb6 _)) ?_
 iterate 2 refine gX ?_
 obtain ⟨x7, hx7, h⟩ := obind h
 refine z1p rfl rfl rfl rfl (fun H hp => z06 rfl Z6w rfl (wkr .nil) ⟨(zdi (x6.2)), trivial⟩ (c_q2e (x6.2) x7 hx7) (ids_V x7)) ?_
 refine z1p rfl rfl rfl rfl (fun H hp => z1g (cs := [(z0i x5.1), (ofV x7)]) zgu z0z rfl rfl (by simp only [List.all_cons, List.all_nil, z3t, z29, Bool.and_true, Bool.true_and]; try rfl) (by simp only [z3u, List.getElem?_cons_zero, List.getElem?_cons_succ, z0t, z10]; rfl)) ?_
 refine z41 rfl rfl rfl rfl ((z1e (xs := [(PV.agg [(z0i x5.1), (ofV x7)])]) Tryz.underlying71 z0z rfl rfl rfl (by simp only [List.all_cons, List.all_nil, z3t, z29, Bool.and_true, Bool.true_and]; try rfl) (by simp only [List.all_cons, List.all_nil, csz_V, z31, z0t, z10]; try rfl) rfl ⟨lbE rfl, lbE rfl⟩ (by simp only [z8z, z3u, List.flatMap_cons, List.flatMap_nil, z0t, z10]; try rfl)).cast (y := (PV.sl (some 1) 69 2 (List.map ofFld ([(x5.1, x7)] : (List (Str × V)))))) rfl rfl) trivial ?_
 refine z1u ?_
 change AO _ _ _ _ _
 obtain ⟨x8, hx8, h⟩ := obind h
 refine sS rfl rfl rfl (z2l Tryz.underlying71 z0z rfl Tryz.underlying71 rfl rfl rfl rfl z7a z6m hx8 rfl) ?_
 refine eX ?_
 refine z0f ?_
 refine sX ?_
 refine sS rfl rfl rfl (z27 (k := s2) (c := 1) rfl rfl rfl (by omega)) ?_
 refine sX (z0a ?_)
 exact ⟨rfl, (x8, (s2 + 1)), h, jN⟩
 intro hc3 h
 refine z1z ?_
 refine cBx ?_
 refine bR ?_
 refine sX ?_
 refine eX ?_
 obtain rfl := eI h; exact z05 ⟨_, rfl, z0p (y := (PV.sl none 69 2 (List.map ofFld s1))) Wk.tok (z03 z0r s1) ⟨rfl, rfl⟩⟩
theorem zn9 (r_q2k : (List (Str × Term)) → Option (List (Str × V))) (c_q2k : ∀ (a0 : (List (Str × Term))) r, r_q2k a0 = some r → z0m Tryz.prog 28 [(PV.sl none 113 12 (List.map z36 a0))] (PV.sl none 69 2 (List.map ofFld r))) (r_q2e : Term → Option V) (c_q2e : ∀ (a0 : Term) r, r_q2e a0 = some r → z0m Tryz.prog 9 [(z3w a0)] (ofV r)) (a0 : Term) (r : V) (h : zko r_q2k r_q2e a0 = some r) : z0m Tryz.prog 9 [(z3w a0)] (ofV r) := by
 unfold zko at h
 refine z0d Tryz.func9 rfl Tryz.ntmps9 Tryz.results9 rfl (z0g ?_)
 change BW _ _ _ ⟨[(0, (z3w a0))], [], _⟩ _
 refine bR ?_
 refine sX ?_
 refine eX ?_
 refine z08 ?_
 refine bR ?_
 refine sX ?_
 refine eX ?_
 refine z0h ?_
 refine cBx ?_
 refine bR ?_
 refine sX ?_
 refine eX ?_
 refine cX h rfl ?_ ?_
 intro hc1 h
 refine bR ?_
 refine eX ?_
 obtain rfl := eI h; exact z05 ⟨_, rfl, z0p (y := (ofV V.nil)) (Wk.eq mk_nil.symm) (ids_V V.nil) ⟨rfl, rfl⟩⟩
 intro hc1 h
 refine bR ?_
 refine sX ?_
 refine eX ?_
 refine cX h rfl ?_ ?_
 intro hc2 h
 refine bR ?_
 iterate 2 refine sX ?_
 refine sS rfl rfl rfl ((z15 Tryz.underlying4 rfl rfl rfl).wk ((Wk.iface (Wk.refl _)).trans (Wk.eq (zg4 _).symm))) ?_
 refine eX ?_
 obtain rfl := eI h; exact z05 ⟨_, rfl, z0p (y := (ofV (V.bool a0.bool))) (Wk.refl _) (ids_V (V.bool a0.bool)) ⟨rfl, rfl⟩⟩
 intro hc2 h
 refine bR ?_
 refine sX ?_
 refine eX ?_
 refine cX h rfl ?_ ?_
 intro hc3 h
 refine bR ?_
 iterate 2 refine sX ?_
 refine sS rfl rfl rfl ((z15 Tryz.underlying2 rfl rfl rfl).wk ((Wk.iface (Wk.refl _)).trans (Wk.eq (zig _).symm))) ?_
 refine eX ?_
 obtain rfl := eI h; exact z05 ⟨_, rfl, z0p (y := (ofV (V.int a0.int))) (Wk.refl _) (ids_V (V.int a0.int)) ⟨rfl, rfl⟩⟩
 intro hc3 h
 refine bR ?_
 refine sX ?_
 refine eX ?_
 refine cX h rfl ?_ ?_
 intro hc4 h
 refine bR ?_
 iterate 2 refine sX ?_
 refine sS rfl rfl rfl ((z15 Tryz.underlying22 rfl rfl rfl).wk ((Wk.iface (Wk.refl _)).trans (Wk.eq (zv2 _).symm))) ?_
 refine eX ?_
 obtain rfl := eI h; exact z05 ⟨_, rfl, z0p (y := (ofV (V.float a0.float))) (Wk.refl _) (ids_V (V.float a0.float)) ⟨rfl, rfl⟩⟩
 intro hc4 h
 refine bR ?_
 refine sX ?_
 refine eX ?_
 refine cX h rfl ?_ ?_
 intro hc5 h
 refine bR ?_
 iterate 2 refine sX ?_
 refine sS rfl rfl rfl ((z15 Tryz.underlying9 rfl rfl rfl).wk ((Wk.iface (Wk.refl _)).trans (Wk.eq (zze _).symm))) ?_
 refine eX ?_
 obtain rfl := eI h; exact z05 ⟨_, rfl, z0p (y := (ofV (V.text a0.text))) (Wk.refl _) (ids_V (V.text a0.text)) ⟨rfl, rfl⟩⟩
 intro hc5 h
 refine bR ?_
 refine sX ?_
 refine eX ?_
 refine cX h rfl ?_ ?_
 intro hc6 h
 refine bR ?_
 refine sS rfl rfl rfl ((z1e (xs := []) Tryz.underlying23 inf_5 rfl rfl rfl rfl rfl rfl ⟨lbE rfl, lbE rfl⟩ rfl).cast (y := (PV.sl (some 1) 5 1 (List.map ofB ([] : Str)))) rfl rfl) ?_
 iterate 2 refine sX ?_
 obtain ⟨x7, hx7, h⟩ := obind h
 refine sS rfl rfl rfl (z2l Tryz.underlying23 inf_5 rfl Tryz.underlying23 rfl rfl rfl rfl (fun _ => rfl) (fun _ => rfl) hx7 rfl) ?_
 refine sS rfl rfl rfl ((z15 Tryz.underlying23 rfl rfl rfl).wk ((Wk.iface Wk.tok).trans (Wk.eq (zg3 _).symm))) ?_
 refine eX ?_
 obtain rfl := eI h; exact z05 ⟨_, rfl, z0p (y := (ofV (V.bytes x7))) (Wk.refl _) (ids_V (V.bytes x7)) ⟨rfl, rfl⟩⟩
 intro hc6 h
 refine bR ?_
 refine sX ?_
 refine eX ?_
 refine cX h rfl ?_ ?_
 intro hc8 h
 refine bR ?_
 iterate 2 refine sX ?_
 refine sS rfl rfl rfl ((z15 Tryz.underlying25 rfl rfl rfl).wk ((Wk.iface (Wk.refl _)).trans (Wk.eq (Z2l _).symm))) ?_
 refine eX ?_
 obtain rfl := eI h; exact z05 ⟨_, rfl, z0p (y := (ofV (V.ref a0.ref))) (Wk.refl _) (ids_V (V.ref a0.ref)) ⟨rfl, rfl⟩⟩
 intro hc8 h
 refine bR ?_
 refine sX ?_
 refine eX ?_
 refine cX h rfl ?_ ?_
 intro hc9 h
 refine bR ?_
 refine sS rfl rfl rfl ((z1e (xs := []) Tryz.underlying67 z1t rfl rfl rfl rfl rfl rfl ⟨lbE rfl, lbE rfl⟩ rfl).cast (y := (PV.sl (some 1) 20 1 (List.map ofV ([] : (List V))))) rfl rfl) ?_
 refine eX ?_
 refine z08 ?_
 refine bR ?_
 refine eX ?_
 refine z0h ?_
 refine cBx ?_
 unfold zcr at h
 refine z2u (σ := ((List V) × Nat)) (fun i => [(1, (PV.rf 0 0)), (3, (PV.sl (some 1) 20 1 (List.map ofV i.1))), (4, (I64 (((i.2 : Nat) : Int))))]) (fun i => [.box 29 (cc0 a0), .arr 20 (i.1).length]) (([] : (List V)), 0) h ?_ ?_ ?_
 intro i; exact ⟨lbE rfl, ⟨(il_rf rfl), ⟨(z3r rfl (z0u ids_V _)), ⟨(z09 rfl), trivial⟩⟩⟩, ⟨⟨(z09 rfl), ⟨(z09 rfl), ⟨(z09 rfl), ⟨(z09 rfl), ⟨(z09 rfl), ⟨(z09 (z03 (fun _ => rfl) _)), ⟨(z09 rfl), ⟨(z09 (z03 z8c _)), ⟨(z09 (z03 z6i _)), ⟨(z09 rfl), ⟨(z09 rfl), trivial⟩⟩⟩⟩⟩⟩⟩⟩⟩⟩⟩, trivial⟩⟩
 exact jN
 rintro g1_f ⟨s10, s11⟩ h; replace h : z5h r_q2e a0 (fun y0 y1 => g1_f (y0, y1)) s10 s11 = some r := h; unfold z5h at h
 change BW _ _ _ ⟨[(1, (PV.rf 0 0)), (3, (PV.sl (some 1) 20 1 (List.map ofV s10))), (4, (I64 (((s11 : Nat) : Int))))], [.box 29 (cc0 a0), .arr 20 (s10).length], _⟩ _
 refine z08 ?_
 refine bR ?_
 iterate 4 refine sX ?_
 refine eX ?_
 refine z3j (t := 47) rfl fun hb13 => ?_
 try rw [List.length_map] at hb13
 refine cX h rfl ?_ ?_
 intro hc12 h
 have hc12_ := of_decide_eq_true hc12
 refine z07 ?_
 refine cBx ?_
 refine z08 ?_
 refine z0h ?_
 refine cBx ?_
 refine z0f ?_
 iterate 4 refine sX ?_
 obtain ⟨x14, hx14, h⟩ := obind h
 refine sS rfl rfl rfl (z1r (i := s11) Tryz.underlying26 ziq rfl rfl rfl hx14 (z9x _)) ?_
 refine sX ?_
 obtain ⟨x15, hx15, h⟩ := obind h
 refine sS rfl rfl rfl (z06 rfl Z6w rfl (wkr .nil) ⟨(zdi x14), trivial⟩ (c_q2e x14 x15 hx15) (ids_V x15)) ?_
 refine sS rfl rfl rfl ((z1e (xs := [(ofV x15)]) Tryz.underlying67 z1t rfl rfl rfl (by simp only [List.all_cons, List.all_nil, z3t, z29, Bool.and_true, Bool.true_and]; try rfl) (by simp only [List.all_cons, List.all_nil, csz_V, z31, z0t, z10]; try rfl) rfl ⟨lbE rfl, lbE rfl⟩ (by simp only [z8z, z3u, List.flatMap_cons, List.flatMap_nil, z0t, z10]; try rfl)).cast (y := (PV.sl (some 2) 20 1 (List.map ofV ([x15] : (List V))))) rfl rfl) ?_
 obtain ⟨x16, hx16, h⟩ := obind h
 refine sS rfl rfl rfl (z2l Tryz.underlying67 z1t rfl Tryz.underlying67 rfl rfl rfl rfl csz_V z4i hx16 rfl) ?_
 refine eX ?_
 refine z0f ?_
 refine sX ?_
 refine sS rfl rfl rfl (z27 (k := s11) (c := 1) rfl rfl rfl (by omega)) ?_
 refine sX (z0a ?_)
 exact ⟨rfl, (x16, (s11 + 1)), h, jN⟩
 intro hc12 h
 refine z1z ?_
 refine cBx ?_
 refine bR ?_
 refine sX ?_
 refine sS rfl rfl rfl ((z15 Tryz.underlying67 rfl rfl rfl).wk ((Wk.iface Wk.tok).trans (Wk.eq (z7w _).symm))) ?_
 refine eX ?_
 obtain rfl := eI h; exact z05 ⟨_, rfl, z0p (y := (ofV (V.list s10))) (Wk.refl _) (ids_V (V.list s10)) ⟨rfl, rfl⟩⟩
 intro hc9 h
 refine bR ?_
 refine sX ?_
 refine eX ?_
 refine cX h rfl ?_ ?_
 intro hc17 h
 refine bR ?_
 iterate 2 refine sX ?_
 obtain ⟨x18, hx18, h⟩ := obind h
 refine sS rfl rfl rfl (z06 rfl Z3s rfl (wkr .nil) ⟨(z03 z6i a0.fields), trivial⟩ (c_q2k a0.fields x18 hx18) (z03 z0r x18)) ?_
 refine sS rfl rfl rfl ((z15 Tryz.underlying71 rfl rfl rfl).wk ((Wk.iface (Wk.refl _)).trans (Wk.eq (z50 _).symm))) ?_
 refine eX ?_
 obtain rfl := eI h; exact z05 ⟨_, rfl, z0p (y := (ofV (V.dict x18))) (Wk.refl _) (ids_V (V.dict x18)) ⟨rfl, rfl⟩⟩
 intro hc17 h
 refine bR ?_
 refine sX ?_
 refine eX ?_
 refine cX h rfl ?_ ?_
 intro hc19 h
 refine z08 (z1l 7 [] [0] mo (by kernel_rfl) ?_)
 iterate 6 refine gX ?_
 obtain ⟨x20, hx20, h⟩ := obind h
 refine z1p rfl rfl rfl rfl (fun H hp => z06 rfl Z3s rfl (wkr .nil) ⟨(z03 z6i a0.fields), trivial⟩ (c_q2k a0.fields x20 hx20) (z03 z0r x20)) ?_
 refine z1u ?_
 change AO _ _ _ _ _
 refine sS rfl rfl rfl (z1g (cs := [(z0i a0.cls), (I64 a0.ver), (PV.sl none 69 2 (List.map ofFld x20))]) zjd zez rfl rfl rfl rfl) ?_
 refine sX ?_
 refine sS rfl rfl rfl (z15 Tryz.underlying73 rfl rfl rfl) ?_
 refine eX ?_
 refine z3p 1 2 (y := (ofV (V.record a0.cls a0.ver x20))) rfl rfl ((Wk.iface (Wk.pt (x := .agg [(z0i a0.cls), (I64 a0.ver), (PV.sl none 69 2 (List.map ofFld x20))]) (y := zg0 (Rec.mk a0.cls a0.ver x20)) (wkr (wkr (wkr .nil))))).trans (Wk.eq (zet (some (Rec.mk a0.cls a0.ver x20))).symm)) ?_
 obtain rfl := eI h; exact z05 ⟨_, rfl, z0p (y := (ofV (V.record a0.cls a0.ver x20))) (Wk.refl _) (ids_V (V.record a0.cls a0.ver x20)) ⟨rfl, rfl⟩⟩
 intro hc19 h
 refine bR ?_
 refine sX ?_
 refine eX ?_
 refine cX h rfl ?_ ?_
 intro hc21 h
 refine bR ?_
 refine eX ?_
 refine bR ?_
 refine sX ?_
 refine sS rfl rfl rfl ((z15 Tryz.underlying73 rfl rfl rfl).wk (Wk.eq (zet none).symm)) ?_
 refine eX ?_
 obtain rfl := eI h; exact z05 ⟨_, rfl, z0p (y := (ofV V.nothing)) (Wk.refl _) (ids_V V.nothing) ⟨rfl, rfl⟩⟩
 intro hc21 h
 refine z07 ?_
 refine cBx ?_
 refine bR ?_
 iterate 2 refine sX ?_
 obtain ⟨x22, hx22, h⟩ := obind h
 refine sS rfl rfl rfl (z06 rfl Z7e rfl (wkr .nil) ⟨rfl, trivial⟩ (Z4h a0.int x22 hx22) (ids_V x22)) ?_
 refine eX ?_
 obtain rfl := eI h; exact z05 ⟨_, rfl, z0p (y := (ofV x22)) (Wk.refl _) (ids_V x22) ⟨rfl, rfl⟩⟩
theorem C_q2k.sound : ∀ (i : C_q2k) (r : i.R), z2w C_q2k.F i = some r → C_q2k.Q i r := by
 refine z3z (Φ := C_q2k.F) (Q := C_q2k.Q) ?_
 intro g hg i r h
 cases i with
 | k_q2k a0 => exact zp5 (fun a0 => g (.k_q2k a0)) (fun a0 r hr => hg (.k_q2k a0) r hr) (fun a0 => g (.k_q2e a0)) (fun a0 r hr => hg (.k_q2e a0) r hr) a0 r h
 | k_q2e a0 => exact zn9 (fun a0 => g (.k_q2k a0)) (fun a0 r hr => hg (.k_q2k a0) r hr) (fun a0 => g (.k_q2e a0)) (fun a0 r hr => hg (.k_q2e a0) r hr) a0 r h
theorem Z4l (a0 : Term) (r : V) (h : z9r a0 = some r) : z0m Tryz.prog 9 [(z3w a0)] (ofV r) := C_q2k.sound (.k_q2e a0) r h
noncomputable def zct (a4 : Int) (s2 : Bool) : Option (Int × Bool × Int) :=
 bif (decide ((IntKind.i64.wrap (a4 + 1)) > 300)) then (
 some (2, s2, (IntKind.i64.wrap (a4 + 1)))
 ) else (
 some (0, s2, (IntKind.i64.wrap (a4 + 1)))
 )
noncomputable def zu4 (a0 : (List S_api_Step)) (a1 a2 : V) (a3 : Bool) (a4 : Int) : Option (Int × Bool × Int) :=
 (zi3 a2 a0).bind fun x1 =>
 bif a3 then (
 bif (x1.2 == 0) then (
 (zdv x1.1 a1).bind fun x6 =>
 zct a4 x6
 ) else (
 zct a4 false
 )
 ) else (
 zct a4 false
 )
theorem Z57 (a0 : (List S_api_Step)) (a1 a2 : V) (a3 : Bool) (a4 : Int) (r : (Int × Bool × Int)) (h : zu4 a0 a1 a2 a3 a4 = some r) : z18 Tryz.prog 21 [(PV.sl none 83 3 (List.map z00 a0)), (ofV a1), (PV.pt 20 (ofV a2) 0), (PV.rf 0 0), (PV.rf 1 0)] [.box 4 [(BO a3)], .box 3 [(I64 a4)]] (I64 r.1) [.box 4 [(BO r.2.1)], .box 3 [(I64 r.2.2)]] := by
 unfold zu4 at h
 refine z0d Tryz.func21 rfl Tryz.ntmps21 Tryz.results21 rfl (z0g ?_)
 change BW _ _ _ ⟨[(0, (PV.sl none 83 3 (List.map z00 a0))), (1, (ofV a1)), (2, (PV.pt 20 (ofV a2) 0)), (3, (PV.rf 0 0)), (4, (PV.rf 1 0))], [.box 4 [(BO a3)], .box 3 [(I64 a4)]], _⟩ _
 refine bR ?_
 refine eX ?_
 refine bR ?_
 refine sS rfl rfl rfl (z1y (y := (ofV a2)) Tryz.underlying20 rfl rfl rfl (by rw [z0t]; rfl)) ?_
 refine sX ?_
 obtain ⟨x1, hx1, h⟩ := obind h
 refine sS rfl rfl rfl (z06 rfl Z3v rfl (wkr (wkr .nil)) ⟨(ids_V a2), ⟨(z03 z02 a0), trivial⟩⟩ (Z1p a2 a0 x1 hx1) (z01 (ids_V x1.1) (z01 rfl z04))) ?_
 iterate 4 refine sX ?_
 refine eX ?_
 refine jX (ι := Bool) (fun i => zct a4 i = some r) (fun i => [(3, (PV.rf 0 0)), (4, (PV.rf 1 0))]) (fun i => [.box 4 [(BO i)], .box 3 [(I64 a4)]]) ?_ ?_
 rintro s2 h; replace h : zct a4 s2 = some r := h; unfold zct at h
 change BW _ _ _ ⟨[(3, (PV.rf 0 0)), (4, (PV.rf 1 0))], [.box 4 [(BO s2)], .box 3 [(I64 a4)]], _⟩ _
 refine bR ?_
 iterate 2 refine sX ?_
 refine z0j rfl rfl (z0e z8f rfl rfl rfl rfl rfl rfl (lbE rfl) rfl) ?_
 refine z0a ?_
 refine cBx ?_
 refine z08 ?_
 refine bR ?_
 refine sX ?_
 refine eX ?_
 refine cX h rfl ?_ ?_
 intro hc3 h
 refine bR ?_
 refine eX ?_
 obtain rfl := eI h; exact z05 ⟨_, rfl, endR (y := (I64 2)) 2 (Wk.refl _) rfl rfl (.same rfl) (.cons (.box (.cons (.same rfl) .nil)) (.cons (.box (.cons (.same rfl) .nil)) .nil)) ⟨rfl, rfl⟩⟩
 intro hc3 h
 refine z07 ?_
 refine cBx ?_
 refine bR ?_
 refine eX ?_
 obtain rfl := eI h; exact z05 ⟨_, rfl, endR (y := (I64 0)) 2 (Wk.refl _) rfl rfl (.same rfl) (.cons (.box (.cons (.same rfl) .nil)) (.cons (.box (.cons (.same rfl) .nil)) .nil)) ⟨rfl, rfl⟩⟩
 refine z0f ?_
 iterate 2 refine sX ?_
 refine z0q (t := 17) rfl ?_ ?_
 intro hb4; replace h := z0x hb4 h
 iterate 2 refine yX ?_
 iterate 2 refine sX ?_
 refine z0q (t := 21) rfl ?_ ?_
 intro hb5; replace h := z0x hb5 h
 iterate 2 refine yX ?_
 obtain ⟨x6, hx6, h⟩ := obind h
 refine z1q rfl rfl rfl rfl rfl rfl (z06 rfl zop rfl (wkr (wkr .nil)) ⟨(ids_V x1.1), ⟨(ids_V a1), trivial⟩⟩ (znd x1.1 a1 x6 hx6) rfl) ?_
 refine sX ?_
 refine z0j rfl rfl (z0e z3a rfl rfl rfl rfl rfl rfl (lbE rfl) rfl) ?_
 refine z0a ?_
 exact ⟨rfl, x6, h, jN⟩
 intro hb5; replace h := z0y hb5 h
 iterate 3 refine nX ?_
 refine sX ?_
 refine z0j rfl rfl (z0e z3a rfl rfl rfl rfl rfl rfl (lbE rfl) rfl) ?_
 refine z0a ?_
 exact ⟨rfl, false, h, jN⟩
 intro hb4; replace h := z0y hb4 h
 iterate 2 refine nX ?_
 iterate 2 refine sX ?_
 iterate 3 refine nX ?_
 refine sX ?_
 refine z0j rfl rfl (z0e z3a rfl rfl rfl rfl rfl rfl (lbE rfl) rfl) ?_
 refine z0a ?_
 exact ⟨rfl, false, h, jN⟩
noncomputable def zu1 (a0c0 : V) (a0c1 : Bool) (a0c2 : Int) (a1 : (List S_api_Step)) (a2 : V) (a3 : Int) : Option (Bool × Int × Int) :=
 (zfs a1).bind fun x1 =>
 (zjp a2).bind fun x2 =>
 (zu4 x1 x2 a0c0 a0c1 a0c2).bind fun x3 =>
 some (x3.2.1, x3.2.2, x3.1)
theorem Z54 (a0c0 : V) (a0c1 : Bool) (a0c2 : Int) (a1 : (List S_api_Step)) (a2 : V) (a3 : Int) (r : (Bool × Int × Int)) (h : zu1 a0c0 a0c1 a0c2 a1 a2 a3 = some r) : z18 Tryz.prog 83 [(PV.rf 0 0), (PV.pt 30 (PV.sl none 83 3 (List.map z00 a1)) 0), (PV.pt 20 (ofV a2) 0), (PV.rf 3 0)] [.box 56 [(PV.fn (.func 21) [] [(PV.pt 20 (ofV a0c0) 0), (PV.rf 1 0), (PV.rf 2 0)])], .box 4 [(BO a0c1)], .box 3 [(I64 a0c2)], .box 3 [(I64 a3)]] (PV.tup []) [.box 56 [(PV.fn (.func 21) [] [(PV.pt 20 (ofV a0c0) 0), (PV.rf 1 0), (PV.rf 2 0)])], .box 4 [(BO r.1)], .box 3 [(I64 r.2.1)], .box 3 [(I64 r.2.2)]] := by
 unfold zu1 at h
 refine z0d Tryz.func83 rfl Tryz.ntmps83 Tryz.results83 rfl (z0g ?_)
 change BW _ _ _ ⟨[(0, (PV.rf 0 0)), (1, (PV.pt 30 (PV.sl none 83 3 (List.map z00 a1)) 0)), (2, (PV.pt 20 (ofV a2) 0)), (3, (PV.rf 3 0))], [.box 56 [(PV.fn (.func 21) [] [(PV.pt 20 (ofV a0c0) 0), (PV.rf 1 0), (PV.rf 2 0)])], .box 4 [(BO a0c1)], .box 3 [(I64 a0c2)], .box 3 [(I64 a3)]], _⟩ _
 refine z1l 5 [] [0] mo (by kernel_rfl) ?_
 iterate 2 refine gX ?_
 obtain ⟨x1, hx1, h⟩ := obind h
 refine z1p rfl rfl rfl rfl (fun H hp => z06 rfl zvm rfl (wkr .nil) ⟨(z03 z02 a1), trivial⟩ (zti a1 x1 hx1) (z03 z02 x1)) ?_
 refine z1p rfl rfl rfl rfl (fun H hp => z1y (y := (ofV a2)) Tryz.underlying20 rfl rfl rfl (by rw [z0t]; rfl)) ?_
 obtain ⟨x2, hx2, h⟩ := obind h
 refine z1p rfl rfl rfl rfl (fun H hp => z06 rfl Z07 rfl (wkr .nil) ⟨(ids_V a2), trivial⟩ (zyd a2 x2 hx2) (ids_V x2)) ?_
 refine z1u ?_
 change AO _ _ _ _ _
 obtain ⟨x3, hx3, h⟩ := obind h
 refine sS rfl rfl rfl (Op1.cast (y := (I64 x3.1)) (H'' := [.box 56 [(PV.fn (.func 21) [] [(PV.pt 20 (ofV a0c0) 0), (PV.rf 1 0), (PV.rf 2 0)])], .box 4 [(BO x3.2.1)], .box 3 [(I64 x3.2.2)], .box 3 [(I64 a3)]]) (z1b [1, 2] (.held rfl rfl) Z7l rfl (wkr (wkr (wkr (wkr (wkr .nil))))) rfl (.cons rfl (.box (.cons (.same rfl) .nil)) (.cons rfl (.box (.cons (.same rfl) .nil)) .nil)) (.cons (.same (z03 z02 x1)) (.cons (.same (ids_V x2)) (.cons (.same (z13 (ids_V a0c0))) (.cons (.rf rfl) (.cons (.rf rfl) .nil))))) (Z57 x1 x2 a0c0 a0c1 a0c2 x3 hx3) (.same rfl) (.cons (.box (.cons (.same rfl) .nil)) (.cons (.box (.cons (.same rfl) .nil)) .nil)) rfl) rfl rfl) ?_
 refine z0j rfl rfl (z0e z8f rfl rfl rfl rfl rfl rfl (lbE rfl) rfl) ?_
 refine z0a ?_
 change ∃ xs, _ = some xs ∧ EndOk _ _ _ _
 obtain rfl := Option.some.inj h
 exact ⟨_, rfl, endR (y := (PV.tup [])) 4 (Wk.refl _) rfl rfl (.tup .nil) (.cons (.box (.cons (.fn (.cons (.same (z13 (ids_V _))) (.cons (.rf rfl) (.cons (.rf rfl) .nil)))) .nil)) (.cons (.box (.cons (.same rfl) .nil)) (.cons (.box (.cons (.same rfl) .nil)) (.cons (.box (.cons (.same rfl) .nil)) .nil)))) ⟨rfl, rfl⟩⟩
noncomputable def zo4 (a0 : Bool) : Option Bool :=
 bif a0 then (
 none
 ) else (
 some a0
 )
theorem zyh (a0 r : Bool) (h : zo4 a0 = some r) : DCalls Tryz.prog 106 [(PV.rf 0 0)] [.box 4 [(BO a0)]] .ret (fun H' => H' = [.box 4 [(BO r)]]) := by
 unfold zo4 at h
 refine zix Tryz.func106 rfl Tryz.ntmps106 rfl rfl (z0g ?_)
 change BW _ _ _ ⟨[(0, (PV.rf 0 0))], [.box 4 [(BO a0)]], _⟩ _
 refine bR ?_
 refine eX ?_
 refine cX h rfl ?_ ?_
 intro hc1 h
 refine z0f ?_
 cases h
 intro hc1 h
 refine z07 ?_
 change ∃ xs, _ = some xs ∧ EndOk _ _ _ _
 obtain rfl := Option.some.inj h
 exact ⟨_, rfl, endR (y := (PV.tup [])) 1 (Wk.refl _) rfl rfl (.tup .nil) (.cons (.box (.cons (.same rfl) .nil)) .nil) ⟨rfl, rfl⟩⟩
noncomputable def zr0 (a0c0c0 : V) (a0c0c1 : Bool) (a0c0c2 : Int) (a0c1 : (List S_api_Step)) (a0c2 : V) (a0c3 : Int) : Option (Bool × Bool × Int × Int) :=
 (zu1 a0c0c0 a0c0c1 a0c0c2 a0c1 a0c2 a0c3).bind fun x1 =>
 (zo4 false).bind fun x2 =>
 some (x2, x1.1, x1.2.1, x1.2.2)
theorem Z5o (a0c0c0 : V) (a0c0c1 : Bool) (a0c0c2 : Int) (a0c1 : (List S_api_Step)) (a0c2 : V) (a0c3 : Int) (r : (Bool × Bool × Int × Int)) (h : zr0 a0c0c0 a0c0c1 a0c0c2 a0c1 a0c2 a0c3 = some r) : z18 Tryz.prog 82 [(PV.fn (.func 83) [] [(PV.rf 0 0), (PV.pt 30 (PV.sl none 83 3 (List.map z00 a0c1)) 0), (PV.pt 20 (ofV a0c2) 0), (PV.rf 3 0)])] [.box 56 [(PV.fn (.func 21) [] [(PV.pt 20 (ofV a0c0c0) 0), (PV.rf 1 0), (PV.rf 2 0)])], .box 4 [(BO a0c0c1)], .box 3 [(I64 a0c0c2)], .box 3 [(I64 a0c3)]] (BO r.1) [.box 56 [(PV.fn (.func 21) [] [(PV.pt 20 (ofV a0c0c0) 0), (PV.rf 1 0), (PV.rf 2 0)])], .box 4 [(BO r.2.1)], .box 3 [(I64 r.2.2.1)], .box 3 [(I64 r.2.2.2)]] := by
 unfold zr0 at h
 refine z82 Tryz.func82 rfl Tryz.ntmps82 rfl ?_
 change DW _ _ _ _ _ ⟨[(0, (PV.fn (.func 83) [] [(PV.rf 0 0), (PV.pt 30 (PV.sl none 83 3 (List.map z00 a0c1)) 0), (PV.pt 20 (ofV a0c2) 0), (PV.rf 3 0)]))], [.box 56 [(PV.fn (.func 21) [] [(PV.pt 20 (ofV a0c0c0) 0), (PV.rf 1 0), (PV.rf 2 0)])], .box 4 [(BO a0c0c1)], .box 3 [(I64 a0c0c2)], .box 3 [(I64 a0c3)]], _⟩ _
 refine zf5 ?_
 refine cBx ?_
 refine z0f ?_
 refine sS rfl rfl rfl (z14 z3a rfl) (z0a ?_)
 change DW _ _ _ _ _ _ _
 refine zf5 ?_
 refine cBx ?_
 refine z0f ?_
 refine z0j rfl rfl (z0e z3a rfl rfl rfl rfl rfl rfl (lbE rfl) rfl) ?_
 refine z0a ?_
 change DW _ _ _ _ _ _ _
 refine zgc (caps := [.tmp 2]) rfl rfl rfl rfl rfl rfl rfl rfl ?_
 refine zsg zsf Tryz.results82 ?_
 refine cBx ?_
 refine bR ?_
 refine sX ?_
 obtain ⟨x1, hx1, h⟩ := obind h
 refine sS rfl rfl rfl (Op1.cast (y := (PV.tup [])) (H'' := [.box 56 [(PV.fn (.func 21) [] [(PV.pt 20 (ofV a0c0c0) 0), (PV.rf 1 0), (PV.rf 2 0)])], .box 4 [(BO x1.1)], .box 3 [(I64 x1.2.1)], .box 3 [(I64 x1.2.2)], .box 4 [(BO true)]]) (z1b [0, 1, 2, 3] (.held rfl rfl) Z3k rfl (wkr (wkr (wkr (wkr .nil)))) rfl (.cons rfl (.box (.cons (.fn (.cons (.same (z13 (ids_V _))) (.cons (.rf rfl) (.cons (.rf rfl) .nil)))) .nil)) (.cons rfl (.box (.cons (.same rfl) .nil)) (.cons rfl (.box (.cons (.same rfl) .nil)) (.cons rfl (.box (.cons (.same rfl) .nil)) .nil)))) (.cons (.rf rfl) (.cons (.same (z13 (z03 z02 a0c1))) (.cons (.same (z13 (ids_V a0c2))) (.cons (.rf rfl) .nil)))) (Z54 a0c0c0 a0c0c1 a0c0c2 a0c1 a0c2 a0c3 x1 hx1) (.same z04) (.cons (.box (.cons (.fn (.cons (.same (z13 (ids_V _))) (.cons (.rf rfl) (.cons (.rf rfl) .nil)))) .nil)) (.cons (.box (.cons (.same rfl) .nil)) (.cons (.box (.cons (.same rfl) .nil)) (.cons (.box (.cons (.same rfl) .nil)) .nil)))) rfl) rfl rfl) (z0a ?_)
 refine cBx ?_
 refine bR ?_
 refine z0j rfl rfl (z0e z3a rfl rfl rfl rfl rfl rfl (lbE rfl) rfl) ?_
 refine z0a ?_
 refine cBx ?_
 refine z05 ?_
 refine zdo ?_
 obtain ⟨x2, hx2, h⟩ := obind h
 obtain rfl := Option.some.inj h
 refine zkg [4] rfl (.cons rfl (.box (.cons (.same rfl) .nil)) .nil) (.cons (.rf rfl) .nil) (fun p hp => by cases hp) (zyh false x2 hx2) (.cons (.box (.cons (.same rfl) .nil)) .nil) rfl rfl ?_
 exact endR (y := (BO x2)) 4 (Wk.refl _) rfl rfl (.same rfl) (.cons (.box (.cons (.fn (.cons (.same (z13 (ids_V _))) (.cons (.rf rfl) (.cons (.rf rfl) .nil)))) .nil)) (.cons (.box (.cons (.same rfl) .nil)) (.cons (.box (.cons (.same rfl) .nil)) (.cons (.box (.cons (.same rfl) .nil)) .nil)))) ⟨rfl, rfl⟩
end Go.Proofs.YthidgpcbnieleaaGreatDoor
