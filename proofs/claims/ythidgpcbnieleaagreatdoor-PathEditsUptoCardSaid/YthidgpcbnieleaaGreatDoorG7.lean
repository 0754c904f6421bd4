/- Pure functions, and that calls answer as they say. -/
import Derived.Test.YthidgpcbnieleaaGreatDoorG6
namespace Go.Proofs.YthidgpcbnieleaaGreatDoor
open Go Aw
set_option linter.unusedVariables false
set_option linter.unusedSimpArgs false
set_option maxRecDepth 20000
set_option maxHeartbeats 2000000
variable {ι : Type} {ρ : ι → Type}
noncomputable def z5a (r_q1t : Term → Option V) (a0 : (List (Str × Term))) (g1 : (List (Str × V)) → Nat → Option (List (Str × V))) (s1 : (List (Str × V))) (s2 : Nat) : Option (List (Str × V)) :=
 bif (decide (((s2 : Nat) : Int) < (((a0).length : Nat) : Int))) then (
 ((a0)[s2]?).bind fun x5 =>
 ((a0)[s2]?).bind fun x6 =>
 (r_q1t (x6.2)).bind fun x7 =>
 (z9p 32 s1 ([(x5.1, x7)] : (List (Str × V)))).bind fun x8 =>
 g1 x8 (s2 + 1)
 ) else (
 some s1
 )
theorem z9z (r_q1t : OF ρ → Term → Option V) (h_r_q1t : ∀ y0, CM (fun G => r_q1t G y0)) (g1 : OF ρ → (List (Str × V)) → Nat → Option (List (Str × V))) (h_g1 : ∀ y0 y1, CM (fun G => g1 G y0 y1)) (a0 : (List (Str × Term))) (s1 : (List (Str × V))) (s2 : Nat) : CM (fun G : OF ρ => z5a (r_q1t G) a0 (g1 G) s1 s2) := by
 simp only [z5a]
 repeat (first | exact z0h | exact h_r_q1t _ | exact h_g1 _ _ | refine z14 ?_ ?_ | refine z15 ?_ (fun _ => ?_))
noncomputable def zdh (r_q1t : Term → Option V) (a0 : (List (Str × Term))) (s1 : (List (Str × V))) (s2 : Nat) : Option (List (Str × V)) :=
 z3n (ι := ((List (Str × V)) × Nat)) (ρ := fun _ => (List (Str × V))) (fun g i => z5a r_q1t a0 (fun s1 s2 => g (s1, s2)) i.1 i.2) (s1, s2)
theorem zfy (r_q1t : Term → Option V) (a0 : (List (Str × Term))) (s1 : (List (Str × V))) (s2 : Nat) : zdh r_q1t a0 s1 s2 = z5a r_q1t a0 (zdh r_q1t a0) s1 s2 :=
 z1f (ι := ((List (Str × V)) × Nat)) (ρ := fun _ => (List (Str × V))) (Φ := fun g i => z5a r_q1t a0 (fun s1 s2 => g (s1, s2)) i.1 i.2) (fun i => z9z (ι := ((List (Str × V)) × Nat)) (ρ := fun _ => (List (Str × V))) (fun _ => r_q1t) (fun _ => z0h) (fun g => (fun s1 s2 => g (s1, s2))) (fun _ _ => z1j) a0 i.1 i.2) (s1, s2)
theorem zo3 (r_q1t : OF ρ → Term → Option V) (h_r_q1t : ∀ y0, CM (fun G => r_q1t G y0)) (a0 : (List (Str × Term))) (s1 : (List (Str × V))) (s2 : Nat) : CM (fun G : OF ρ => zdh (r_q1t G) a0 s1 s2) :=
 z87 (κ := ((List (Str × V)) × Nat)) (τ := fun _ => (List (Str × V))) (Φ := fun G g i => z5a (r_q1t G) a0 (fun s1 s2 => g (s1, s2)) i.1 i.2) (fun g i => z9z r_q1t h_r_q1t (fun _ => (fun s1 s2 => g (s1, s2))) (fun _ _ => z0h) a0 i.1 i.2) (fun G i => z9z (ι := ((List (Str × V)) × Nat)) (ρ := fun _ => (List (Str × V))) (fun _ => r_q1t G) (fun _ => z0h) (fun g => (fun s1 s2 => g (s1, s2))) (fun _ _ => z1j) a0 i.1 i.2) (s1, s2)
noncomputable def zjd (r_q20 : (List (Str × Term)) → Option (List (Str × V))) (r_q1t : Term → Option V) (a0 : (List (Str × Term))) : Option (List (Str × V)) :=
 zdh r_q1t a0 ([] : (List (Str × V))) 0
theorem zu8 (r_q20 : OF ρ → (List (Str × Term)) → Option (List (Str × V))) (h_r_q20 : ∀ y0, CM (fun G => r_q20 G y0)) (r_q1t : OF ρ → Term → Option V) (h_r_q1t : ∀ y0, CM (fun G => r_q1t G y0)) (a0 : (List (Str × Term))) : CM (fun G : OF ρ => zjd (r_q20 G) (r_q1t G) a0) := by
 simp only [zjd]
 repeat (first | exact z0h | exact h_r_q20 _ | exact h_r_q1t _ | apply zo3 | refine z14 ?_ ?_ | refine z15 ?_ (fun _ => ?_) | intro _ | assumption)
noncomputable def z5b (r_q1t : Term → Option V) (a0 : Term) (g1 : (List V) → Nat → Option V) (s10 : (List V)) (s11 : Nat) : Option V :=
 bif (decide (((s11 : Nat) : Int) < (((a0.list).length : Nat) : Int))) then (
 ((a0.list)[s11]?).bind fun x14 =>
 (r_q1t x14).bind fun x15 =>
 (z9p 16 s10 ([x15] : (List V))).bind fun x16 =>
 g1 x16 (s11 + 1)
 ) else (
 some (V.list s10)
 )
theorem za0 (r_q1t : OF ρ → Term → Option V) (h_r_q1t : ∀ y0, CM (fun G => r_q1t G y0)) (g1 : OF ρ → (List V) → Nat → Option V) (h_g1 : ∀ y0 y1, CM (fun G => g1 G y0 y1)) (a0 : Term) (s10 : (List V)) (s11 : Nat) : CM (fun G : OF ρ => z5b (r_q1t G) a0 (g1 G) s10 s11) := by
 simp only [z5b]
 repeat (first | exact z0h | exact h_r_q1t _ | exact h_g1 _ _ | refine z14 ?_ ?_ | refine z15 ?_ (fun _ => ?_))
noncomputable def zbv (r_q1t : Term → Option V) (a0 : Term) (s10 : (List V)) (s11 : Nat) : Option V :=
 z3n (ι := ((List V) × Nat)) (ρ := fun _ => V) (fun g i => z5b r_q1t a0 (fun s10 s11 => g (s10, s11)) i.1 i.2) (s10, s11)
theorem zg1 (r_q1t : Term → Option V) (a0 : Term) (s10 : (List V)) (s11 : Nat) : zbv r_q1t a0 s10 s11 = z5b r_q1t a0 (zbv r_q1t a0) s10 s11 :=
 z1f (ι := ((List V) × Nat)) (ρ := fun _ => V) (Φ := fun g i => z5b r_q1t a0 (fun s10 s11 => g (s10, s11)) i.1 i.2) (fun i => za0 (ι := ((List V) × Nat)) (ρ := fun _ => V) (fun _ => r_q1t) (fun _ => z0h) (fun g => (fun s10 s11 => g (s10, s11))) (fun _ _ => z1j) a0 i.1 i.2) (s10, s11)
theorem zo4 (r_q1t : OF ρ → Term → Option V) (h_r_q1t : ∀ y0, CM (fun G => r_q1t G y0)) (a0 : Term) (s10 : (List V)) (s11 : Nat) : CM (fun G : OF ρ => zbv (r_q1t G) a0 s10 s11) :=
 z87 (κ := ((List V) × Nat)) (τ := fun _ => V) (Φ := fun G g i => z5b (r_q1t G) a0 (fun s10 s11 => g (s10, s11)) i.1 i.2) (fun g i => za0 r_q1t h_r_q1t (fun _ => (fun s10 s11 => g (s10, s11))) (fun _ _ => z0h) a0 i.1 i.2) (fun G i => za0 (ι := ((List V) × Nat)) (ρ := fun _ => V) (fun _ => r_q1t G) (fun _ => z0h) (fun g => (fun s10 s11 => g (s10, s11))) (fun _ _ => z1j) a0 i.1 i.2) (s10, s11)
noncomputable def zje (r_q20 : (List (Str × Term)) → Option (List (Str × V))) (r_q1t : Term → Option V) (a0 : Term) : Option V :=
 bif (a0.kind == 1) then (
 some V.nil
 ) else (
 bif (a0.kind == 2) then (
 some (V.bool a0.bool)
 ) else (
 bif (a0.kind == 3) then (
 some (V.int a0.int)
 ) else (
 bif (a0.kind == 4) then (
 some (V.float a0.float)
 ) else (
 bif (a0.kind == 5) then (
 some (V.text a0.text)
 ) else (
 bif (a0.kind == 6) then (
 (z9p 1 ([] : Str) a0.bytes).bind fun x7 =>
 some (V.bytes x7)
 ) else (
 bif (a0.kind == 7) then (
 some (V.ref a0.ref)
 ) else (
 bif (a0.kind == 8) then (
 zbv r_q1t a0 ([] : (List V)) 0
 ) else (
 bif (a0.kind == 9) then (
 (r_q20 a0.fields).bind fun x18 =>
 some (V.dict x18)
 ) else (
 bif (a0.kind == 10) then (
 (r_q20 a0.fields).bind fun x20 =>
 some (V.record a0.cls a0.ver x20)
 ) else (
 bif (a0.kind == 11) then (
 some V.nothing
 ) else (
 (zma a0.int).bind fun x22 =>
 some x22
 )
 )
 )
 )
 )
 )
 )
 )
 )
 )
 )
theorem zu9 (r_q20 : OF ρ → (List (Str × Term)) → Option (List (Str × V))) (h_r_q20 : ∀ y0, CM (fun G => r_q20 G y0)) (r_q1t : OF ρ → Term → Option V) (h_r_q1t : ∀ y0, CM (fun G => r_q1t G y0)) (a0 : Term) : CM (fun G : OF ρ => zje (r_q20 G) (r_q1t G) a0) := by
 simp only [zje]
 repeat (first | exact z0h | exact h_r_q20 _ | exact h_r_q1t _ | apply zo4 | refine z14 ?_ ?_ | refine z15 ?_ (fun _ => ?_) | intro _ | assumption)
inductive C_q20 where
 | k_q20 (a0 : (List (Str × Term)))
 | k_q1t (a0 : Term)
def C_q20.R : C_q20 → Type
 | .k_q20 _ => (List (Str × V))
 | .k_q1t _ => V
noncomputable def C_q20.F (g : ∀ i : C_q20, Option i.R) : ∀ i : C_q20, Option i.R
 | .k_q20 a0 => zjd (fun a0 => g (.k_q20 a0)) (fun a0 => g (.k_q1t a0)) a0
 | .k_q1t a0 => zje (fun a0 => g (.k_q20 a0)) (fun a0 => g (.k_q1t a0)) a0
noncomputable def zs4 (a0 : (List (Str × Term))) : Option (List (Str × V)) := z3n C_q20.F (.k_q20 a0)
noncomputable def z8b (a0 : Term) : Option V := z3n C_q20.F (.k_q1t a0)
abbrev Z52 := fun (g : ∀ i : C_q20, Option i.R) a0 => g (.k_q20 a0)
theorem Z50 (a0 : _) : CM (ρ := C_q20.R) (fun g => g (C_q20.k_q20 a0)) := z1j
abbrev Z51 := fun (g : ∀ i : C_q20, Option i.R) a0 => g (.k_q1t a0)
theorem Z4z (a0 : _) : CM (ρ := C_q20.R) (fun g => g (C_q20.k_q1t a0)) := z1j
theorem C_q20.cm (i : C_q20) : CM (fun g : (∀ i : C_q20, Option i.R) => C_q20.F g i) := by
 cases i with
 | k_q20 a0 => exact zu8 Z52 Z50 Z51 Z4z a0
 | k_q1t a0 => exact zu9 Z52 Z50 Z51 Z4z a0
theorem Z43 (a0 : (List (Str × Term))) : zs4 a0 = zjd zs4 z8b a0 := z1f C_q20.cm (.k_q20 a0)
theorem Z44 (a0 : Term) : z8b a0 = zje zs4 z8b a0 := z1f C_q20.cm (.k_q1t a0)
def C_q20.Q : ∀ i : C_q20, i.R → Prop
 | .k_q20 a0 => fun (r : (List (Str × V))) => z0k Tryz.prog 28 [(PV.sl none 113 12 (List.map z3g a0))] (PV.sl none 69 2 (List.map ofFld r))
 | .k_q1t a0 => fun (r : V) => z0k Tryz.prog 9 [(z3l a0)] (ofV r)
theorem zns (r_q20 : (List (Str × Term)) → Option (List (Str × V))) (c_q20 : ∀ (a0 : (List (Str × Term))) r, r_q20 a0 = some r → z0k Tryz.prog 28 [(PV.sl none 113 12 (List.map z3g a0))] (PV.sl none 69 2 (List.map ofFld r))) (r_q1t : Term → Option V) (c_q1t : ∀ (a0 : Term) r, r_q1t a0 = some r → z0k Tryz.prog 9 [(z3l a0)] (ofV r)) (a0 : (List (Str × Term))) (r : (List (Str × V))) (h : zjd r_q20 r_q1t a0 = some r) : z0k Tryz.prog 28 [(PV.sl none 113 12 (List.map z3g a0))] (PV.sl none 69 2 (List.map ofFld r)) := by
 unfold zjd at h
 refine z0e Tryz.func28 rfl Tryz.ntmps28 Tryz.results28 rfl (z0i ?_)
 change BW _ _ _ ⟨[(0, (PV.sl none 113 12 (List.map z3g a0)))], [], _⟩ _
 refine bR ?_
 refine eX ?_
 refine bR ?_
 refine sS rfl rfl rfl ((z19 (xs := []) Tryz.underlying71 z0v rfl rfl rfl rfl rfl rfl ⟨lbE rfl, lbE rfl⟩ rfl).cast (y := (PV.sl (some 0) 69 2 (List.map ofFld ([] : (List (Str × V)))))) rfl rfl) ?_
 refine eX ?_
 refine z0b ?_
 refine bR ?_
 refine eX ?_
 refine z0m ?_
 refine cBx ?_
 unfold zdh at h
 refine z3o (σ := ((List (Str × V)) × Nat)) (fun i => [(0, (PV.sl none 113 12 (List.map z3g a0))), (3, (PV.sl (some 0) 69 2 (List.map ofFld i.1))), (4, (I64 (((i.2 : Nat) : Int))))]) (fun i => [.arr 69 (i.1).length]) (([] : (List (Str × V))), 0) h ?_ ?_ ?_
 intro i; exact ⟨lbE rfl, ⟨(z0c (z07 z4q _)), ⟨(z4o rfl (z1a z0s _)), ⟨(z0c rfl), trivial⟩⟩⟩, trivial⟩
 exact jN
 rintro g1_f ⟨s1, s2⟩ h; replace h : z5a r_q1t a0 (fun y0 y1 => g1_f (y0, y1)) s1 s2 = some r := h; unfold z5a at h
 change BW _ _ _ ⟨[(0, (PV.sl none 113 12 (List.map z3g a0))), (3, (PV.sl (some 0) 69 2 (List.map ofFld s1))), (4, (I64 (((s2 : Nat) : Int))))], [.arr 69 (s1).length], _⟩ _
 refine z0b ?_
 refine bR ?_
 iterate 3 refine sX ?_
 refine eX ?_
 refine z4u (t := 7) rfl fun hb4 => ?_
 try rw [List.length_map] at hb4
 refine cX h rfl ?_ ?_
 intro hc3 h
 have hc3_ := of_decide_eq_true hc3
 refine z09 ?_
 refine cBx ?_
 refine z0b ?_
 refine z0m ?_
 refine cBx ?_
 refine z1z 14 [13] [] mo (by kernel_rfl) ?_
 iterate 3 refine gX ?_
 obtain ⟨x5, hx5, h⟩ := obind h
 refine z1o rfl rfl rfl rfl (fun H hp => z1m (i := s2) Tryz.underlying27 zcs rfl rfl rfl hx5 (zab _)) ?_
 iterate 4 refine gX ?_
 obtain ⟨x6, hx6, h⟩ := obind h
 refine z1o rfl rfl rfl rfl (fun H hp => z1m (i := s2) Tryz.underlying27 zcs rfl rfl rfl hx6 (zab _)) ?_
 iterate 2 refine gX ?_
 obtain ⟨x7, hx7, h⟩ := obind h
 refine z1o rfl rfl rfl rfl (fun H hp => z05 rfl Z1p rfl (wkr .nil) ⟨(z9h (x6.2)), trivial⟩ (c_q1t (x6.2) x7 hx7) (ids_V x7)) ?_
 refine z1o rfl rfl rfl rfl (fun H hp => z1i (cs := [(z0n x5.1), (ofV x7)]) zia z0v rfl rfl (by simp only [List.all_cons, List.all_nil, z4c, z1x, Bool.and_true, Bool.true_and]; try rfl) (by simp only [z3k, List.getElem?_cons_zero, List.getElem?_cons_succ, z0x, z0u]; rfl)) ?_
 refine z9o rfl rfl rfl rfl ((z19 (xs := [(PV.agg [(z0n x5.1), (ofV x7)])]) Tryz.underlying71 z0v rfl rfl rfl (by simp only [List.all_cons, List.all_nil, z4c, z1x, Bool.and_true, Bool.true_and]; try rfl) (by simp only [List.all_cons, List.all_nil, csz_V, z2x, z0x, z0u]; try rfl) rfl ⟨lbE rfl, lbE rfl⟩ (by simp only [z8m, z3k, List.flatMap_cons, List.flatMap_nil, z0x, z0u]; try rfl)).cast (y := (PV.sl (some 1) 69 2 (List.map ofFld ([(x5.1, x7)] : (List (Str × V)))))) rfl rfl) trivial ?_
 refine z24 ?_
 change AO _ _ _ _ _
 obtain ⟨x8, hx8, h⟩ := obind h
 refine sS rfl rfl rfl (z34 Tryz.underlying71 z0v rfl Tryz.underlying71 rfl rfl rfl rfl z7i z7l hx8 rfl) ?_
 refine eX ?_
 refine z0g ?_
 refine sX ?_
 refine sS rfl rfl rfl (z2p (k := s2) (c := 1) rfl rfl rfl (by omega)) ?_
 refine sX (z0d ?_)
 exact ⟨rfl, (x8, (s2 + 1)), h, jN⟩
 intro hc3 h
 refine z2c ?_
 refine cBx ?_
 refine bR ?_
 refine sX ?_
 refine eX ?_
 obtain rfl := eI h; exact z04 ⟨_, rfl, z0f (y := (PV.sl none 69 2 (List.map ofFld s1))) Wk.tok (z07 z0s s1) ⟨rfl, rfl⟩⟩
theorem zlm (r_q20 : (List (Str × Term)) → Option (List (Str × V))) (c_q20 : ∀ (a0 : (List (Str × Term))) r, r_q20 a0 = some r → z0k Tryz.prog 28 [(PV.sl none 113 12 (List.map z3g a0))] (PV.sl none 69 2 (List.map ofFld r))) (r_q1t : Term → Option V) (c_q1t : ∀ (a0 : Term) r, r_q1t a0 = some r → z0k Tryz.prog 9 [(z3l a0)] (ofV r)) (a0 : Term) (r : V) (h : zje r_q20 r_q1t a0 = some r) : z0k Tryz.prog 9 [(z3l a0)] (ofV r) := by
 unfold zje at h
 refine z0e Tryz.func9 rfl Tryz.ntmps9 Tryz.results9 rfl (z0i ?_)
 change BW _ _ _ ⟨[(0, (z3l a0))], [], _⟩ _
 refine bR ?_
 refine sX ?_
 refine eX ?_
 refine z0b ?_
 refine bR ?_
 refine sX ?_
 refine eX ?_
 refine z0m ?_
 refine cBx ?_
 refine bR ?_
 refine sX ?_
 refine eX ?_
 refine cX h rfl ?_ ?_
 intro hc1 h
 refine bR ?_
 refine eX ?_
 obtain rfl := eI h; exact z04 ⟨_, rfl, z0f (y := (ofV V.nil)) (Wk.eq mk_nil.symm) (ids_V V.nil) ⟨rfl, rfl⟩⟩
 intro hc1 h
 refine bR ?_
 refine sX ?_
 refine eX ?_
 refine cX h rfl ?_ ?_
 intro hc2 h
 refine bR ?_
 iterate 2 refine sX ?_
 refine sS rfl rfl rfl ((z10 Tryz.underlying4 rfl rfl rfl).wk ((Wk.iface (Wk.refl _)).trans (Wk.eq (zf1 _).symm))) ?_
 refine eX ?_
 obtain rfl := eI h; exact z04 ⟨_, rfl, z0f (y := (ofV (V.bool a0.bool))) (Wk.refl _) (ids_V (V.bool a0.bool)) ⟨rfl, rfl⟩⟩
 intro hc2 h
 refine bR ?_
 refine sX ?_
 refine eX ?_
 refine cX h rfl ?_ ?_
 intro hc3 h
 refine bR ?_
 iterate 2 refine sX ?_
 refine sS rfl rfl rfl ((z10 Tryz.underlying2 rfl rfl rfl).wk ((Wk.iface (Wk.refl _)).trans (Wk.eq (zhc _).symm))) ?_
 refine eX ?_
 obtain rfl := eI h; exact z04 ⟨_, rfl, z0f (y := (ofV (V.int a0.int))) (Wk.refl _) (ids_V (V.int a0.int)) ⟨rfl, rfl⟩⟩
 intro hc3 h
 refine bR ?_
 refine sX ?_
 refine eX ?_
 refine cX h rfl ?_ ?_
 intro hc4 h
 refine bR ?_
 iterate 2 refine sX ?_
 refine sS rfl rfl rfl ((z10 Tryz.underlying22 rfl rfl rfl).wk ((Wk.iface (Wk.refl _)).trans (Wk.eq (zta _).symm))) ?_
 refine eX ?_
 obtain rfl := eI h; exact z04 ⟨_, rfl, z0f (y := (ofV (V.float a0.float))) (Wk.refl _) (ids_V (V.float a0.float)) ⟨rfl, rfl⟩⟩
 intro hc4 h
 refine bR ?_
 refine sX ?_
 refine eX ?_
 refine cX h rfl ?_ ?_
 intro hc5 h
 refine bR ?_
 iterate 2 refine sX ?_
 refine sS rfl rfl rfl ((z10 Tryz.underlying9 rfl rfl rfl).wk ((Wk.iface (Wk.refl _)).trans (Wk.eq (zx5 _).symm))) ?_
 refine eX ?_
 obtain rfl := eI h; exact z04 ⟨_, rfl, z0f (y := (ofV (V.text a0.text))) (Wk.refl _) (ids_V (V.text a0.text)) ⟨rfl, rfl⟩⟩
 intro hc5 h
 refine bR ?_
 refine sX ?_
 refine eX ?_
 refine cX h rfl ?_ ?_
 intro hc6 h
 refine bR ?_
 refine sS rfl rfl rfl ((z19 (xs := []) Tryz.underlying23 inf_5 rfl rfl rfl rfl rfl rfl ⟨lbE rfl, lbE rfl⟩ rfl).cast (y := (PV.sl (some 1) 5 1 (List.map ofB ([] : Str)))) rfl rfl) ?_
 iterate 2 refine sX ?_
 obtain ⟨x7, hx7, h⟩ := obind h
 refine sS rfl rfl rfl (z34 Tryz.underlying23 inf_5 rfl Tryz.underlying23 rfl rfl rfl rfl (fun _ => rfl) (fun _ => rfl) hx7 rfl) ?_
 refine sS rfl rfl rfl ((z10 Tryz.underlying23 rfl rfl rfl).wk ((Wk.iface Wk.tok).trans (Wk.eq (zkf _).symm))) ?_
 refine eX ?_
 obtain rfl := eI h; exact z04 ⟨_, rfl, z0f (y := (ofV (V.bytes x7))) (Wk.refl _) (ids_V (V.bytes x7)) ⟨rfl, rfl⟩⟩
 intro hc6 h
 refine bR ?_
 refine sX ?_
 refine eX ?_
 refine cX h rfl ?_ ?_
 intro hc8 h
 refine bR ?_
 iterate 2 refine sX ?_
 refine sS rfl rfl rfl ((z10 Tryz.underlying25 rfl rfl rfl).wk ((Wk.iface (Wk.refl _)).trans (Wk.eq (zzy _).symm))) ?_
 refine eX ?_
 obtain rfl := eI h; exact z04 ⟨_, rfl, z0f (y := (ofV (V.ref a0.ref))) (Wk.refl _) (ids_V (V.ref a0.ref)) ⟨rfl, rfl⟩⟩
 intro hc8 h
 refine bR ?_
 refine sX ?_
 refine eX ?_
 refine cX h rfl ?_ ?_
 intro hc9 h
 refine bR ?_
 refine sS rfl rfl rfl ((z19 (xs := []) Tryz.underlying67 z29 rfl rfl rfl rfl rfl rfl ⟨lbE rfl, lbE rfl⟩ rfl).cast (y := (PV.sl (some 1) 20 1 (List.map ofV ([] : (List V))))) rfl rfl) ?_
 refine eX ?_
 refine z0b ?_
 refine bR ?_
 refine eX ?_
 refine z0m ?_
 refine cBx ?_
 unfold zbv at h
 refine z3o (σ := ((List V) × Nat)) (fun i => [(1, (PV.rf 0 0)), (3, (PV.sl (some 1) 20 1 (List.map ofV i.1))), (4, (I64 (((i.2 : Nat) : Int))))]) (fun i => [.box 29 [(I64 a0.kind), (BO a0.bool), (I64 a0.int), (PV.v (.float .f64 a0.float)), (z0n a0.text), (PV.sl none 5 1 (List.map ofB a0.bytes)), (PV.v (.int .u64 a0.ref)), (PV.sl none 29 11 (List.map z4k a0.list)), (PV.sl none 113 12 (List.map z3g a0.fields)), (z0n a0.cls), (I64 a0.ver)], .arr 20 (i.1).length]) (([] : (List V)), 0) h ?_ ?_ ?_
 intro i; exact ⟨lbE rfl, ⟨(il_rf rfl), ⟨(z4o rfl (z1a ids_V _)), ⟨(z0c rfl), trivial⟩⟩⟩, ⟨⟨(z0c rfl), ⟨(z0c rfl), ⟨(z0c rfl), ⟨(z0c rfl), ⟨(z0c rfl), ⟨(z0c (z07 (fun _ => rfl) _)), ⟨(z0c rfl), ⟨(z0c (z07 z6o _)), ⟨(z0c (z07 z4q _)), ⟨(z0c rfl), ⟨(z0c rfl), trivial⟩⟩⟩⟩⟩⟩⟩⟩⟩⟩⟩, trivial⟩⟩
 exact jN
 rintro g1_f ⟨s10, s11⟩ h; replace h : z5b r_q1t a0 (fun y0 y1 => g1_f (y0, y1)) s10 s11 = some r := h; unfold z5b at h
 change BW _ _ _ ⟨[(1, (PV.rf 0 0)), (3, (PV.sl (some 1) 20 1 (List.map ofV s10))), (4, (I64 (((s11 : Nat) : Int))))], [.box 29 [(I64 a0.kind), (BO a0.bool), (I64 a0.int), (PV.v (.float .f64 a0.float)), (z0n a0.text), (PV.sl none 5 1 (List.map ofB a0.bytes)), (PV.v (.int .u64 a0.ref)), (PV.sl none 29 11 (List.map z4k a0.list)), (PV.sl none 113 12 (List.map z3g a0.fields)), (z0n a0.cls), (I64 a0.ver)], .arr 20 (s10).length], _⟩ _
 refine z0b ?_
 refine bR ?_
 iterate 4 refine sX ?_
 refine eX ?_
 refine z4u (t := 47) rfl fun hb13 => ?_
 try rw [List.length_map] at hb13
 refine cX h rfl ?_ ?_
 intro hc12 h
 have hc12_ := of_decide_eq_true hc12
 refine z09 ?_
 refine cBx ?_
 refine z0b ?_
 refine z0m ?_
 refine cBx ?_
 refine z0g ?_
 iterate 4 refine sX ?_
 obtain ⟨x14, hx14, h⟩ := obind h
 refine sS rfl rfl rfl (z1m (i := s11) Tryz.underlying26 zhm rfl rfl rfl hx14 (z9d _)) ?_
 refine sX ?_
 obtain ⟨x15, hx15, h⟩ := obind h
 refine sS rfl rfl rfl (z05 rfl Z1p rfl (wkr .nil) ⟨(z9h x14), trivial⟩ (c_q1t x14 x15 hx15) (ids_V x15)) ?_
 refine sS rfl rfl rfl ((z19 (xs := [(ofV x15)]) Tryz.underlying67 z29 rfl rfl rfl (by simp only [List.all_cons, List.all_nil, z4c, z1x, Bool.and_true, Bool.true_and]; try rfl) (by simp only [List.all_cons, List.all_nil, csz_V, z2x, z0x, z0u]; try rfl) rfl ⟨lbE rfl, lbE rfl⟩ (by simp only [z8m, z3k, List.flatMap_cons, List.flatMap_nil, z0x, z0u]; try rfl)).cast (y := (PV.sl (some 2) 20 1 (List.map ofV ([x15] : (List V))))) rfl rfl) ?_
 obtain ⟨x16, hx16, h⟩ := obind h
 refine sS rfl rfl rfl (z34 Tryz.underlying67 z29 rfl Tryz.underlying67 rfl rfl rfl rfl csz_V z8l hx16 rfl) ?_
 refine eX ?_
 refine z0g ?_
 refine sX ?_
 refine sS rfl rfl rfl (z2p (k := s11) (c := 1) rfl rfl rfl (by omega)) ?_
 refine sX (z0d ?_)
 exact ⟨rfl, (x16, (s11 + 1)), h, jN⟩
 intro hc12 h
 refine z2c ?_
 refine cBx ?_
 refine bR ?_
 refine sX ?_
 refine sS rfl rfl rfl ((z10 Tryz.underlying67 rfl rfl rfl).wk ((Wk.iface Wk.tok).trans (Wk.eq (z8d _).symm))) ?_
 refine eX ?_
 obtain rfl := eI h; exact z04 ⟨_, rfl, z0f (y := (ofV (V.list s10))) (Wk.refl _) (ids_V (V.list s10)) ⟨rfl, rfl⟩⟩
 intro hc9 h
 refine bR ?_
 refine sX ?_
 refine eX ?_
 refine cX h rfl ?_ ?_
 intro hc17 h
 refine bR ?_
 iterate 2 refine sX ?_
 obtain ⟨x18, hx18, h⟩ := obind h
 refine sS rfl rfl rfl (z05 rfl Z13 rfl (wkr .nil) ⟨(z07 z4q a0.fields), trivial⟩ (c_q20 a0.fields x18 hx18) (z07 z0s x18)) ?_
 refine sS rfl rfl rfl ((z10 Tryz.underlying71 rfl rfl rfl).wk ((Wk.iface (Wk.refl _)).trans (Wk.eq (z5n _).symm))) ?_
 refine eX ?_
 obtain rfl := eI h; exact z04 ⟨_, rfl, z0f (y := (ofV (V.dict x18))) (Wk.refl _) (ids_V (V.dict x18)) ⟨rfl, rfl⟩⟩
 intro hc17 h
 refine bR ?_
 refine sX ?_
 refine eX ?_
 refine cX h rfl ?_ ?_
 intro hc19 h
 refine z0b (z1z 7 [] [0] mo (by kernel_rfl) ?_)
 iterate 6 refine gX ?_
 obtain ⟨x20, hx20, h⟩ := obind h
 refine z1o rfl rfl rfl rfl (fun H hp => z05 rfl Z13 rfl (wkr .nil) ⟨(z07 z4q a0.fields), trivial⟩ (c_q20 a0.fields x20 hx20) (z07 z0s x20)) ?_
 refine z24 ?_
 change AO _ _ _ _ _
 refine sS rfl rfl rfl (z1i (cs := [(z0n a0.cls), (I64 a0.ver), (PV.sl none 69 2 (List.map ofFld x20))]) zlo zhl rfl rfl rfl rfl) ?_
 refine sX ?_
 refine sS rfl rfl rfl (z10 Tryz.underlying73 rfl rfl rfl) ?_
 refine eX ?_
 refine z7m 1 2 (y := (ofV (V.record a0.cls a0.ver x20))) rfl rfl ((Wk.iface (Wk.pt (x := .agg [(z0n a0.cls), (I64 a0.ver), (PV.sl none 69 2 (List.map ofFld x20))]) (y := zh8 (Rec.mk a0.cls a0.ver x20)) (wkr (wkr (wkr .nil))))).trans (Wk.eq (zhb (some (Rec.mk a0.cls a0.ver x20))).symm)) ?_
 obtain rfl := eI h; exact z04 ⟨_, rfl, z0f (y := (ofV (V.record a0.cls a0.ver x20))) (Wk.refl _) (ids_V (V.record a0.cls a0.ver x20)) ⟨rfl, rfl⟩⟩
 intro hc19 h
 refine bR ?_
 refine sX ?_
 refine eX ?_
 refine cX h rfl ?_ ?_
 intro hc21 h
 refine bR ?_
 refine eX ?_
 refine bR ?_
 refine sX ?_
 refine sS rfl rfl rfl ((z10 Tryz.underlying73 rfl rfl rfl).wk (Wk.eq (zhb none).symm)) ?_
 refine eX ?_
 obtain rfl := eI h; exact z04 ⟨_, rfl, z0f (y := (ofV V.nothing)) (Wk.refl _) (ids_V V.nothing) ⟨rfl, rfl⟩⟩
 intro hc21 h
 refine z09 ?_
 refine cBx ?_
 refine bR ?_
 iterate 2 refine sX ?_
 obtain ⟨x22, hx22, h⟩ := obind h
 refine sS rfl rfl rfl (z05 rfl Z3w rfl (wkr .nil) ⟨rfl, trivial⟩ (Z1t a0.int x22 hx22) (ids_V x22)) ?_
 refine eX ?_
 obtain rfl := eI h; exact z04 ⟨_, rfl, z0f (y := (ofV x22)) (Wk.refl _) (ids_V x22) ⟨rfl, rfl⟩⟩
theorem C_q20.sound : ∀ (i : C_q20) (r : i.R), z3n C_q20.F i = some r → C_q20.Q i r := by
 refine z4b (Φ := C_q20.F) (Q := C_q20.Q) ?_
 intro g hg i r h
 cases i with
 | k_q20 a0 => exact zns (fun a0 => g (.k_q20 a0)) (fun a0 r hr => hg (.k_q20 a0) r hr) (fun a0 => g (.k_q1t a0)) (fun a0 r hr => hg (.k_q1t a0) r hr) a0 r h
 | k_q1t a0 => exact zlm (fun a0 => g (.k_q20 a0)) (fun a0 r hr => hg (.k_q20 a0) r hr) (fun a0 => g (.k_q1t a0)) (fun a0 r hr => hg (.k_q1t a0) r hr) a0 r h
theorem zz2 (a0 : Term) (r : V) (h : z8b a0 = some r) : z0k Tryz.prog 9 [(z3l a0)] (ofV r) := C_q20.sound (.k_q1t a0) r h
noncomputable def z6b (a0 : (List S_ref04_Edit)) (g1 : (List S_api_Edit) → Nat → Option (List S_api_Edit)) (s1 : (List S_api_Edit)) (s2 : Nat) : Option (List S_api_Edit) :=
 bif (decide (((s2 : Nat) : Int) < (((a0).length : Nat) : Int))) then (
 ((a0)[s2]?).bind fun x5 =>
 ((a0)[s2]?).bind fun x6 =>
 (z9p 32 ([] : (List S_api_Step)) x6.f_Way).bind fun x7 =>
 ((a0)[s2]?).bind fun x8 =>
 (z8b (x8.f_Term)).bind fun x9 =>
 (z9p 48 s1 ([(S_api_Edit.mk x5.f_What x7 x9)] : (List S_api_Edit))).bind fun x10 =>
 g1 x10 (s2 + 1)
 ) else (
 (z9p 48 s1 ([(S_api_Edit.mk 77 [] V.nil)] : (List S_api_Edit))).bind fun x11 =>
 some x11
 )
theorem zm4 (g1 : OF ρ → (List S_api_Edit) → Nat → Option (List S_api_Edit)) (h_g1 : ∀ y0 y1, CM (fun G => g1 G y0 y1)) (a0 : (List S_ref04_Edit)) (s1 : (List S_api_Edit)) (s2 : Nat) : CM (fun G : OF ρ => z6b a0 (g1 G) s1 s2) := by
 simp only [z6b]
 repeat (first | exact z0h | exact h_g1 _ _ | refine z14 ?_ ?_ | refine z15 ?_ (fun _ => ?_))
noncomputable def zgd (a0 : (List S_ref04_Edit)) (s1 : (List S_api_Edit)) (s2 : Nat) : Option (List S_api_Edit) :=
 z3n (ι := ((List S_api_Edit) × Nat)) (ρ := fun _ => (List S_api_Edit)) (fun g i => z6b a0 (fun s1 s2 => g (s1, s2)) i.1 i.2) (s1, s2)
theorem zgc (a0 : (List S_ref04_Edit)) (s1 : (List S_api_Edit)) (s2 : Nat) : zgd a0 s1 s2 = z6b a0 (zgd a0) s1 s2 :=
 z1f (ι := ((List S_api_Edit) × Nat)) (ρ := fun _ => (List S_api_Edit)) (Φ := fun g i => z6b a0 (fun s1 s2 => g (s1, s2)) i.1 i.2) (fun i => zm4 (ι := ((List S_api_Edit) × Nat)) (ρ := fun _ => (List S_api_Edit)) (fun g => (fun s1 s2 => g (s1, s2))) (fun _ _ => z1j) a0 i.1 i.2) (s1, s2)
noncomputable def zs5 (a0 : (List S_ref04_Edit)) : Option (List S_api_Edit) :=
 zgd a0 ([]) 0
theorem Z26 (a0 : (List S_ref04_Edit)) (r : (List S_api_Edit)) (h : zs5 a0 = some r) : z0k Tryz.prog 17 [(PV.sl none 100 13 (List.map z1p a0))] (PV.sl none 53 3 (List.map z06 r)) := by
 unfold zs5 at h
 refine z0e Tryz.func17 rfl Tryz.ntmps17 Tryz.results17 rfl (z0i ?_)
 change BW _ _ _ ⟨[(0, (PV.sl none 100 13 (List.map z1p a0)))], [], _⟩ _
 refine bR ?_
 refine eX ?_
 refine bR ?_
 refine eX ?_
 refine z0b ?_
 refine bR ?_
 refine eX ?_
 refine z0m ?_
 refine cBx ?_
 refine zl4 (s := ⟨_, _, _⟩) 3 53 (sz := 3) rfl rfl ?_
 unfold zgd at h
 refine z3o (σ := ((List S_api_Edit) × Nat)) (fun i => [(0, (PV.sl none 100 13 (List.map z1p a0))), (3, (PV.sl (some 0) 53 3 (List.map z06 i.1))), (4, (I64 (((i.2 : Nat) : Int))))]) (fun i => [.arr 53 (i.1).length]) ([], 0) h ?_ ?_ ?_
 intro i; exact ⟨lbE rfl, ⟨(z0c (z07 z45 _)), ⟨(z4o rfl (z1a z08 _)), ⟨(z0c rfl), trivial⟩⟩⟩, trivial⟩
 exact jN
 rintro g1_f ⟨s1, s2⟩ h; replace h : z6b a0 (fun y0 y1 => g1_f (y0, y1)) s1 s2 = some r := h; unfold z6b at h
 change BW _ _ _ ⟨[(0, (PV.sl none 100 13 (List.map z1p a0))), (3, (PV.sl (some 0) 53 3 (List.map z06 s1))), (4, (I64 (((s2 : Nat) : Int))))], [.arr 53 (s1).length], _⟩ _
 refine z0b ?_
 refine bR ?_
 iterate 3 refine sX ?_
 refine eX ?_
 refine z4u (t := 6) rfl fun hb4 => ?_
 try rw [List.length_map] at hb4
 refine cX h rfl ?_ ?_
 intro hc3 h
 have hc3_ := of_decide_eq_true hc3
 refine z09 ?_
 refine cBx ?_
 refine z0b ?_
 refine z0m ?_
 refine cBx ?_
 refine z1z 21 [6, 12, 20] [] mo (by kernel_rfl) ?_
 iterate 3 refine gX ?_
 obtain ⟨x5, hx5, h⟩ := obind h
 refine z1o rfl rfl rfl rfl (fun H hp => z1m (i := s2) Tryz.underlying45 zac rfl rfl rfl hx5 rfl) ?_
 iterate 2 refine gX ?_
 refine z9o rfl rfl rfl rfl ((z19 (xs := []) Tryz.underlying30 z13 rfl rfl rfl rfl rfl rfl ⟨lbE rfl, lbE rfl⟩ rfl).cast (y := (PV.sl (some 1) 83 3 (List.map z03 ([] : (List S_api_Step))))) rfl rfl) trivial ?_
 iterate 2 refine gX ?_
 obtain ⟨x6, hx6, h⟩ := obind h
 refine z1o rfl rfl rfl rfl (fun H hp => z1m (i := s2) Tryz.underlying45 zac rfl rfl rfl hx6 rfl) ?_
 iterate 2 refine gX ?_
 obtain ⟨x7, hx7, h⟩ := obind h
 refine z9o rfl rfl rfl rfl (z34 Tryz.underlying30 z13 rfl Tryz.underlying30 rfl rfl rfl rfl z3x z3f hx7 rfl) trivial ?_
 iterate 2 refine gX ?_
 obtain ⟨x8, hx8, h⟩ := obind h
 refine z1o rfl rfl rfl rfl (fun H hp => z1m (i := s2) Tryz.underlying45 zac rfl rfl rfl hx8 rfl) ?_
 iterate 2 refine gX ?_
 obtain ⟨x9, hx9, h⟩ := obind h
 refine z1o rfl rfl rfl rfl (fun H hp => z05 rfl Z1p rfl (wkr .nil) ⟨(z9h (x8.f_Term)), trivial⟩ (zz2 (x8.f_Term) x9 hx9) (ids_V x9)) ?_
 refine z1o rfl rfl rfl rfl (fun H hp => z1i (cs := [(I64 x5.f_What), (PV.sl (some 1) 83 3 (List.map z03 x7)), (ofV x9)]) zrk z3r rfl rfl (by simp only [List.all_cons, List.all_nil, z4c, z1x, Bool.and_true, Bool.true_and]; try rfl) (by simp only [z3k, List.getElem?_cons_zero, List.getElem?_cons_succ, z0x, z0u]; rfl)) ?_
 refine z9o rfl rfl rfl rfl (((z19 (xs := [(PV.agg [(I64 x5.f_What), (PV.sl (some 1) 83 3 (List.map z03 x7)), (ofV x9)])]) Tryz.underlying46 z3r rfl rfl rfl (by simp only [List.all_cons, List.all_nil, z4c, z1x, Bool.and_true, Bool.true_and]; try rfl) (by simp only [List.all_cons, List.all_nil, csz_V, z2x, z0x, z0u]; try rfl) rfl ⟨lbE rfl, lbE rfl⟩ (by simp only [z8m, z3k, List.flatMap_cons, List.flatMap_nil, z0x, z0u]; try rfl)).wk (Wk.sl (.cons (y := (z06 (S_api_Edit.mk x5.f_What x7 x9))) (wkr (.cons Wk.tok (wkr .nil))) .nil))).cast (y := (PV.sl (some 2) 53 3 (List.map z06 ([(S_api_Edit.mk x5.f_What x7 x9)] : (List S_api_Edit))))) rfl rfl) trivial ?_
 refine z24 ?_
 change AO _ _ _ _ _
 obtain ⟨x10, hx10, h⟩ := obind h
 refine sS rfl rfl rfl (z34 Tryz.underlying46 z3r rfl Tryz.underlying46 rfl rfl rfl rfl z5p z47 hx10 rfl) ?_
 refine eX ?_
 refine z0g ?_
 refine sX ?_
 refine sS rfl rfl rfl (z2p (k := s2) (c := 1) rfl rfl rfl (by omega)) ?_
 refine sX (z0d ?_)
 exact ⟨rfl, (x10, (s2 + 1)), h, jN⟩
 intro hc3 h
 refine z2c ?_
 refine cBx ?_
 refine bR ?_
 refine sX ?_
 refine sS rfl rfl rfl (z1i (cs := [(I64 77), (PV.v (.slice none 0 0)), (PV.v .nilIface)]) zrk z3r rfl rfl rfl rfl) ?_
 refine sS rfl rfl rfl (((z19 (xs := [(PV.agg [(I64 77), (PV.v (.slice none 0 0)), (PV.v .nilIface)])]) Tryz.underlying46 z3r rfl rfl rfl (by simp only [List.all_cons, List.all_nil, z4c, z1x, Bool.and_true, Bool.true_and]; try rfl) (by simp only [List.all_cons, List.all_nil, csz_V, z2x, z0x, z0u]; try rfl) rfl ⟨lbE rfl, lbE rfl⟩ (by simp only [z8m, z3k, List.flatMap_cons, List.flatMap_nil, z0x, z0u]; try rfl)).wk (Wk.sl (.cons (y := (z06 (S_api_Edit.mk 77 [] V.nil))) (wkr (.cons Wk.nil (.cons (Wk.eq mk_nil.symm) .nil))) .nil))).cast (y := (PV.sl (some 1) 53 3 (List.map z06 ([(S_api_Edit.mk 77 [] V.nil)] : (List S_api_Edit))))) rfl rfl) ?_
 obtain ⟨x11, hx11, h⟩ := obind h
 refine sS rfl rfl rfl (z34 Tryz.underlying46 z3r rfl Tryz.underlying46 rfl rfl rfl rfl z5p z47 hx11 rfl) ?_
 refine eX ?_
 obtain rfl := eI h; exact z04 ⟨_, rfl, z0f (y := (PV.sl none 53 3 (List.map z06 x11))) Wk.tok (z07 z08 x11) ⟨rfl, rfl⟩⟩
noncomputable def zs7 (a0 : V) (a1 : S_api_Step) (a2 : S_api_Edit) : Option V :=
 (z82 a0 a1 a2.f_Value).bind fun x1 =>
 some x1
theorem Z2b (a0 : V) (a1 : S_api_Step) (a2 : S_api_Edit) (r : V) (h : zs7 a0 a1 a2 = some r) : z0k Tryz.prog 77 [(ofV a0), (z03 a1), (PV.pt 53 (z06 a2) 0)] (ofV r) := by
 unfold zs7 at h
 refine z0e Tryz.func77 rfl Tryz.ntmps77 Tryz.results77 rfl (z0i ?_)
 change BW _ _ _ ⟨[(0, (ofV a0)), (1, (z03 a1)), (2, (PV.pt 53 (z06 a2) 0))], [], _⟩ _
 refine bR ?_
 refine sX ?_
 refine eX ?_
 refine bR ?_
 iterate 4 refine sX ?_
 obtain ⟨x1, hx1, h⟩ := obind h
 refine sS rfl rfl rfl (z05 rfl zj8 rfl (wkr (wkr (wkr .nil))) ⟨(ids_V a0), ⟨(z01 a1), ⟨(ids_V a2.f_Value), trivial⟩⟩⟩ (zie a0 a1 a2.f_Value x1 hx1) (ids_V x1)) ?_
 refine eX ?_
 obtain rfl := eI h; exact z04 ⟨_, rfl, z0f (y := (ofV x1)) (Wk.refl _) (ids_V x1) ⟨rfl, rfl⟩⟩
noncomputable def zgq (a0 : V) (a3c0 : S_api_Edit) (x1 : S_api_Step) (s4 : Int) : Option (V × Int) :=
 bif (s4 != 0) then (
 some (V.nil, s4)
 ) else (
 (zs7 a0 x1 a3c0).bind fun x6 =>
 some (x6, 0)
 )
noncomputable def zav (a0 : V) (a3c0 : S_api_Edit) (x1 : S_api_Step) (x3 : (V × Int)) (s7 : Bool) : Option (V × Int) :=
 bif s7 then (
 zgq a0 a3c0 x1 0
 ) else (
 zgq a0 a3c0 x1 x3.2
 )
noncomputable def zng (r_q08 : V → (List S_api_Step) → Bool → S_api_Edit → Option (V × Int)) (a0 : V) (a1 : (List S_api_Step)) (a2 : Bool) (a3c0 : S_api_Edit) : Option (V × Int) :=
 ((a1)[0]?).bind fun x1 =>
 bif ((((a1).length : Nat) : Int) == 1) then (
 (z5m a0 x1).bind fun x3 =>
 bif a2 then (
 bif (x3.2 == 40) then (
 zav a0 a3c0 x1 x3 true
 ) else (
 bif (x3.2 == 42) then (
 bif (a0).isList then (
 zav a0 a3c0 x1 x3 (x1.f_Index == ((((a0).asList).length : Nat) : Int))
 ) else (
 zav a0 a3c0 x1 x3 false
 )
 ) else (
 zav a0 a3c0 x1 x3 false
 )
 )
 ) else (
 zav a0 a3c0 x1 x3 false
 )
 ) else (
 (z5m a0 x1).bind fun x13 =>
 bif (x13.2 != 0) then (
 some (V.nil, x13.2)
 ) else (
 (zah a1 1 ((a1).length : Int)).bind fun x15 =>
 (r_q08 x13.1 x15 a2 a3c0).bind fun x16 =>
 bif (x16.2 != 0) then (
 some (V.nil, x16.2)
 ) else (
 (z82 a0 x1 x16.1).bind fun x18 =>
 some (x18, 0)
 )
 )
 )
theorem zuk (r_q08 : OF ρ → V → (List S_api_Step) → Bool → S_api_Edit → Option (V × Int)) (h_r_q08 : ∀ y0 y1 y2 y3, CM (fun G => r_q08 G y0 y1 y2 y3)) (a0 : V) (a1 : (List S_api_Step)) (a2 : Bool) (a3c0 : S_api_Edit) : CM (fun G : OF ρ => zng (r_q08 G) a0 a1 a2 a3c0) := by
 simp only [zng]
 repeat (first | exact z0h | exact h_r_q08 _ _ _ _ | apply q08_j2_cm | refine z14 ?_ ?_ | refine z15 ?_ (fun _ => ?_) | intro _ | assumption)
inductive C_q08 where
 | k_q08 (a0 : V) (a1 : (List S_api_Step)) (a2 : Bool) (a3c0 : S_api_Edit)
def C_q08.R : C_q08 → Type
 | .k_q08 _ _ _ _ => (V × Int)
noncomputable def C_q08.F (g : ∀ i : C_q08, Option i.R) : ∀ i : C_q08, Option i.R
 | .k_q08 a0 a1 a2 a3c0 => zng (fun a0 a1 a2 a3c0 => g (.k_q08 a0 a1 a2 a3c0)) a0 a1 a2 a3c0
noncomputable def zmn (a0 : V) (a1 : (List S_api_Step)) (a2 : Bool) (a3c0 : S_api_Edit) : Option (V × Int) := z3n C_q08.F (.k_q08 a0 a1 a2 a3c0)
abbrev Z5q := fun (g : ∀ i : C_q08, Option i.R) a0 a1 a2 a3c0 => g (.k_q08 a0 a1 a2 a3c0)
theorem Z5l (a0 a1 a2 a3c0 : _) : CM (ρ := C_q08.R) (fun g => g (C_q08.k_q08 a0 a1 a2 a3c0)) := z1j
theorem C_q08.cm (i : C_q08) : CM (fun g : (∀ i : C_q08, Option i.R) => C_q08.F g i) := by
 cases i with
 | k_q08 a0 a1 a2 a3c0 => exact zuk Z5q Z5l a0 a1 a2 a3c0
theorem Z4e (a0 : V) (a1 : (List S_api_Step)) (a2 : Bool) (a3c0 : S_api_Edit) : zmn a0 a1 a2 a3c0 = zng zmn a0 a1 a2 a3c0 := z1f C_q08.cm (.k_q08 a0 a1 a2 a3c0)
def C_q08.Q : ∀ i : C_q08, i.R → Prop
 | .k_q08 a0 a1 a2 a3c0 => fun (r : (V × Int)) => z0k Tryz.prog 33 [(ofV a0), (PV.sl none 83 3 (List.map z03 a1)), (BO a2), (PV.fn (.func 77) [] [(PV.pt 53 (z06 a3c0) 0)])] (PV.tup [(ofV r.1), (I64 r.2)])
theorem z4z (r_q08 : V → (List S_api_Step) → Bool → S_api_Edit → Option (V × Int)) (c_q08 : ∀ (a0 : V) (a1 : (List S_api_Step)) (a2 : Bool) (a3c0 : S_api_Edit) r, r_q08 a0 a1 a2 a3c0 = some r → z0k Tryz.prog 33 [(ofV a0), (PV.sl none 83 3 (List.map z03 a1)), (BO a2), (PV.fn (.func 77) [] [(PV.pt 53 (z06 a3c0) 0)])] (PV.tup [(ofV r.1), (I64 r.2)])) (a0 : V) (a1 : (List S_api_Step)) (a2 : Bool) (a3c0 : S_api_Edit) (r : (V × Int)) (h : zng r_q08 a0 a1 a2 a3c0 = some r) : z0k Tryz.prog 33 [(ofV a0), (PV.sl none 83 3 (List.map z03 a1)), (BO a2), (PV.fn (.func 77) [] [(PV.pt 53 (z06 a3c0) 0)])] (PV.tup [(ofV r.1), (I64 r.2)]) := by
 unfold zng at h
 refine z0e Tryz.func33 rfl Tryz.ntmps33 Tryz.results33 rfl (z0i ?_)
 change BW _ _ _ ⟨[(0, (ofV a0)), (1, (PV.sl none 83 3 (List.map z03 a1))), (2, (BO a2)), (3, (PV.fn (.func 77) [] [(PV.pt 53 (z06 a3c0) 0)]))], [], _⟩ _
 refine bR ?_
 refine sX ?_
 refine eX ?_
 refine bR ?_
 refine sX ?_
 obtain ⟨x1, hx1, h⟩ := obind h
 refine sS rfl rfl rfl (z1m (i := 0) Tryz.underlying30 z13 rfl rfl rfl hx1 rfl) ?_
 refine sX ?_
 refine sS rfl rfl rfl (z1t z13 rfl) ?_
 refine z1g rfl rfl (z18 z13 rfl rfl rfl rfl rfl rfl (lbE rfl) rfl) ?_
 refine z0d ?_
 refine cBx ?_
 refine z0b ?_
 refine bR ?_
 iterate 2 refine sX ?_
 refine eX ?_
 refine cX h rfl ?_ ?_
 intro hc2 h
 refine bR ?_
 iterate 2 refine sX ?_
 obtain ⟨x3, hx3, h⟩ := obind h
 refine sS rfl rfl rfl (z05 rfl zcy rfl (wkr (wkr .nil)) ⟨(ids_V a0), ⟨(z01 x1), trivial⟩⟩ (zbj a0 x1 x3 hx3) (z00 (ids_V x3.1) (z00 rfl z02))) ?_
 iterate 4 refine sX ?_
 refine eX ?_
 refine bR ?_
 refine sX ?_
 refine sS rfl rfl rfl (z1u rfl rfl) ?_
 iterate 4 refine sX ?_
 refine eX ?_
 refine z2b (ι := Int) (fun i => zgq a0 a3c0 x1 i = some r) (fun i => [(0, (ofV a0)), (3, (PV.fn (.func 77) [] [(PV.pt 53 (z06 a3c0) 0)])), (10, (PV.rf 0 0)), (12, (I64 i))]) (fun i => [.box 83 [(z0n x1.f_Name), (BO x1.f_At), (I64 x1.f_Index)]]) ?_ ?_ ?_
 intro i; exact ⟨lbE rfl, ⟨(z0c (ids_V _)), ⟨(z0c (z2l (z2k (z08 a3c0) rfl))), ⟨(il_rf rfl), ⟨(z0c rfl), trivial⟩⟩⟩⟩, ⟨⟨(z0c rfl), ⟨(z0c rfl), ⟨(z0c rfl), trivial⟩⟩⟩, trivial⟩⟩
 rintro s4 h; replace h : zgq a0 a3c0 x1 s4 = some r := h; unfold zgq at h
 change BW _ _ _ ⟨[(0, (ofV a0)), (3, (PV.fn (.func 77) [] [(PV.pt 53 (z06 a3c0) 0)])), (10, (PV.rf 0 0)), (12, (I64 s4))], [.box 83 [(z0n x1.f_Name), (BO x1.f_At), (I64 x1.f_Index)]], _⟩ _
 refine z0b ?_
 refine bR ?_
 refine sX ?_
 refine eX ?_
 refine cX h rfl ?_ ?_
 intro hc5 h
 refine bR ?_
 iterate 2 refine sX ?_
 refine eX ?_
 obtain rfl := eI h; exact z04 ⟨_, rfl, z0f (y := (PV.tup [(ofV V.nil), (I64 s4)])) (Wk.tup (.cons (Wk.eq mk_nil.symm) (wkr .nil))) (z00 (ids_V V.nil) (z00 rfl z02)) ⟨rfl, rfl⟩⟩
 intro hc5 h
 refine z09 ?_
 refine cBx ?_
 refine bR ?_
 iterate 3 refine sX ?_
 obtain ⟨x6, hx6, h⟩ := obind h
 refine sS rfl rfl rfl (z2j rfl rfl Z3h rfl (wkr (wkr (wkr .nil))) ⟨(ids_V a0), ⟨(z01 x1), ⟨(z08 a3c0), trivial⟩⟩⟩ (Z2b a0 x1 a3c0 x6 hx6) (ids_V x6)) ?_
 refine sX ?_
 refine eX ?_
 obtain rfl := eI h; exact z04 ⟨_, rfl, z0f (y := (PV.tup [(ofV x6), (I64 0)])) (Wk.refl _) (z00 (ids_V x6) (z00 rfl z02)) ⟨rfl, rfl⟩⟩
 refine z2b (ι := Bool) (fun i => zav a0 a3c0 x1 x3 i = some r) (fun i => [(0, (ofV a0)), (3, (PV.fn (.func 77) [] [(PV.pt 53 (z06 a3c0) 0)])), (10, (PV.rf 0 0)), (12, (I64 x3.2)), (53, (BO i))]) (fun i => [.box 83 [(z0n x1.f_Name), (BO x1.f_At), (I64 x1.f_Index)]]) ?_ ?_ ?_
 intro i; exact ⟨lbE rfl, ⟨(z0c (ids_V _)), ⟨(z0c (z2l (z2k (z08 a3c0) rfl))), ⟨(il_rf rfl), ⟨(z0c rfl), ⟨(z0c rfl), trivial⟩⟩⟩⟩⟩, ⟨⟨(z0c rfl), ⟨(z0c rfl), ⟨(z0c rfl), trivial⟩⟩⟩, trivial⟩⟩
 rintro s7 h; replace h : zav a0 a3c0 x1 x3 s7 = some r := h; unfold zav at h
 change BW _ _ _ ⟨[(0, (ofV a0)), (3, (PV.fn (.func 77) [] [(PV.pt 53 (z06 a3c0) 0)])), (10, (PV.rf 0 0)), (12, (I64 x3.2)), (53, (BO s7))], [.box 83 [(z0n x1.f_Name), (BO x1.f_At), (I64 x1.f_Index)]], _⟩ _
 refine cX h rfl ?_ ?_
 intro hc8 h
 refine z0g ?_
 refine sX (z0d ?_)
 exact ⟨rfl, 0, h, jN⟩
 intro hc8 h
 refine z09 ?_
 exact ⟨rfl, x3.2, h, jN⟩
 refine z0g ?_
 iterate 2 refine sX ?_
 refine z0j (t := 36) rfl ?_ ?_
 intro hb9; replace h := z0o hb9 h
 iterate 3 refine yX ?_
 refine z0j (t := 39) rfl ?_ ?_
 intro hb10; replace h := z0o hb10 h
 iterate 12 refine nX ?_
 refine yX ?_
 refine sX (z0d ?_)
 exact ⟨rfl, true, h, jN⟩
 intro hb10; replace h := z0p hb10 h
 iterate 3 refine yX ?_
 refine z0j (t := 42) rfl ?_ ?_
 intro hb11; replace h := z0o hb11 h
 iterate 3 refine yX ?_
 refine z0j (t := 45) rfl ?_ ?_
 intro hb12; replace h := z0o hb12 h
 iterate 7 refine yX ?_
 refine sX (z0d ?_)
 exact ⟨rfl, (x1.f_Index == ((((a0).asList).length : Nat) : Int)), h, jN⟩
 intro hb12; replace h := z0p hb12 h
 iterate 5 refine nX ?_
 iterate 2 refine yX ?_
 refine sX (z0d ?_)
 exact ⟨rfl, false, h, jN⟩
 intro hb11; replace h := z0p hb11 h
 refine nX ?_
 iterate 2 refine yX ?_
 iterate 5 refine nX ?_
 iterate 2 refine yX ?_
 refine sX (z0d ?_)
 exact ⟨rfl, false, h, jN⟩
 intro hb9; replace h := z0p hb9 h
 iterate 16 refine nX ?_
 refine sX (z0d ?_)
 exact ⟨rfl, false, h, jN⟩
 intro hc2 h
 refine z09 ?_
 refine cBx ?_
 refine bR ?_
 iterate 2 refine sX ?_
 obtain ⟨x13, hx13, h⟩ := obind h
 refine sS rfl rfl rfl (z05 rfl zcy rfl (wkr (wkr .nil)) ⟨(ids_V a0), ⟨(z01 x1), trivial⟩⟩ (zbj a0 x1 x13 hx13) (z00 (ids_V x13.1) (z00 rfl z02))) ?_
 iterate 4 refine sX ?_
 refine eX ?_
 refine z0b ?_
 refine bR ?_
 refine sX ?_
 refine eX ?_
 refine cX h rfl ?_ ?_
 intro hc14 h
 refine bR ?_
 iterate 2 refine sX ?_
 refine eX ?_
 obtain rfl := eI h; exact z04 ⟨_, rfl, z0f (y := (PV.tup [(ofV V.nil), (I64 x13.2)])) (Wk.tup (.cons (Wk.eq mk_nil.symm) (wkr .nil))) (z00 (ids_V V.nil) (z00 rfl z02)) ⟨rfl, rfl⟩⟩
 intro hc14 h
 refine z09 ?_
 refine cBx ?_
 refine bR ?_
 iterate 2 refine sX ?_
 obtain ⟨x15, hx15, h⟩ := obind h
 refine sS rfl rfl rfl (z49 (a := 1) (b := ((a1).length : Int)) Tryz.underlying30 z13 rfl rfl rfl rfl rfl rfl hx15) ?_
 iterate 2 refine sX ?_
 obtain ⟨x16, hx16, h⟩ := obind h
 refine sS rfl rfl rfl (z05 rfl zf9 rfl (wkr (wkr (wkr (wkr .nil)))) ⟨(ids_V x13.1), ⟨(z07 z01 x15), ⟨rfl, ⟨(z2l (z2k (z08 a3c0) rfl)), trivial⟩⟩⟩⟩ (c_q08 x13.1 x15 a2 a3c0 x16 hx16) (z00 (ids_V x16.1) (z00 rfl z02))) ?_
 iterate 4 refine sX ?_
 refine eX ?_
 refine z0b ?_
 refine bR ?_
 refine sX ?_
 refine eX ?_
 refine cX h rfl ?_ ?_
 intro hc17 h
 refine bR ?_
 iterate 2 refine sX ?_
 refine eX ?_
 obtain rfl := eI h; exact z04 ⟨_, rfl, z0f (y := (PV.tup [(ofV V.nil), (I64 x16.2)])) (Wk.tup (.cons (Wk.eq mk_nil.symm) (wkr .nil))) (z00 (ids_V V.nil) (z00 rfl z02)) ⟨rfl, rfl⟩⟩
 intro hc17 h
 refine z09 ?_
 refine cBx ?_
 refine bR ?_
 iterate 3 refine sX ?_
 obtain ⟨x18, hx18, h⟩ := obind h
 refine sS rfl rfl rfl (z05 rfl zj8 rfl (wkr (wkr (wkr .nil))) ⟨(ids_V a0), ⟨(z01 x1), ⟨(ids_V x16.1), trivial⟩⟩⟩ (zie a0 x1 x16.1 x18 hx18) (ids_V x18)) ?_
 refine sX ?_
 refine eX ?_
 obtain rfl := eI h; exact z04 ⟨_, rfl, z0f (y := (PV.tup [(ofV x18), (I64 0)])) (Wk.refl _) (z00 (ids_V x18) (z00 rfl z02)) ⟨rfl, rfl⟩⟩
theorem C_q08.sound : ∀ (i : C_q08) (r : i.R), z3n C_q08.F i = some r → C_q08.Q i r := by
 refine z4b (Φ := C_q08.F) (Q := C_q08.Q) ?_
 intro g hg i r h
 cases i with
 | k_q08 a0 a1 a2 a3c0 => exact z4z (fun a0 a1 a2 a3c0 => g (.k_q08 a0 a1 a2 a3c0)) (fun a0 a1 a2 a3c0 r hr => hg (.k_q08 a0 a1 a2 a3c0) r hr) a0 a1 a2 a3c0 r h
theorem Z2o (a0 : V) (a1 : (List S_api_Step)) (a2 : Bool) (a3c0 : S_api_Edit) (r : (V × Int)) (h : zmn a0 a1 a2 a3c0 = some r) : z0k Tryz.prog 33 [(ofV a0), (PV.sl none 83 3 (List.map z03 a1)), (BO a2), (PV.fn (.func 77) [] [(PV.pt 53 (z06 a3c0) 0)])] (PV.tup [(ofV r.1), (I64 r.2)]) := C_q08.sound (.k_q08 a0 a1 a2 a3c0) r h
noncomputable def zs6 (a0 : V) (a1 : S_api_Step) (a2 : S_api_Edit) : Option V :=
 (z82 a0 a1 a2.f_Value).bind fun x1 =>
 some x1
theorem Z29 (a0 : V) (a1 : S_api_Step) (a2 : S_api_Edit) (r : V) (h : zs6 a0 a1 a2 = some r) : z0k Tryz.prog 78 [(ofV a0), (z03 a1), (PV.pt 53 (z06 a2) 0)] (ofV r) := by
 unfold zs6 at h
 refine z0e Tryz.func78 rfl Tryz.ntmps78 Tryz.results78 rfl (z0i ?_)
 change BW _ _ _ ⟨[(0, (ofV a0)), (1, (z03 a1)), (2, (PV.pt 53 (z06 a2) 0))], [], _⟩ _
 refine bR ?_
 refine sX ?_
 refine eX ?_
 refine bR ?_
 iterate 4 refine sX ?_
 obtain ⟨x1, hx1, h⟩ := obind h
 refine sS rfl rfl rfl (z05 rfl zj8 rfl (wkr (wkr (wkr .nil))) ⟨(ids_V a0), ⟨(z01 a1), ⟨(ids_V a2.f_Value), trivial⟩⟩⟩ (zie a0 a1 a2.f_Value x1 hx1) (ids_V x1)) ?_
 refine eX ?_
 obtain rfl := eI h; exact z04 ⟨_, rfl, z0f (y := (ofV x1)) (Wk.refl _) (ids_V x1) ⟨rfl, rfl⟩⟩
noncomputable def zgn (a0 : V) (a3c0 : S_api_Edit) (x1 : S_api_Step) (s4 : Int) : Option (V × Int) :=
 bif (s4 != 0) then (
 some (V.nil, s4)
 ) else (
 (zs6 a0 x1 a3c0).bind fun x6 =>
 some (x6, 0)
 )
noncomputable def zau (a0 : V) (a3c0 : S_api_Edit) (x1 : S_api_Step) (x3 : (V × Int)) (s7 : Bool) : Option (V × Int) :=
 bif s7 then (
 zgn a0 a3c0 x1 0
 ) else (
 zgn a0 a3c0 x1 x3.2
 )
noncomputable def znf (r_q0a : V → (List S_api_Step) → Bool → S_api_Edit → Option (V × Int)) (a0 : V) (a1 : (List S_api_Step)) (a2 : Bool) (a3c0 : S_api_Edit) : Option (V × Int) :=
 ((a1)[0]?).bind fun x1 =>
 bif ((((a1).length : Nat) : Int) == 1) then (
 (z5m a0 x1).bind fun x3 =>
 bif a2 then (
 bif (x3.2 == 40) then (
 zau a0 a3c0 x1 x3 true
 ) else (
 bif (x3.2 == 42) then (
 bif (a0).isList then (
 zau a0 a3c0 x1 x3 (x1.f_Index == ((((a0).asList).length : Nat) : Int))
 ) else (
 zau a0 a3c0 x1 x3 false
 )
 ) else (
 zau a0 a3c0 x1 x3 false
 )
 )
 ) else (
 zau a0 a3c0 x1 x3 false
 )
 ) else (
 (z5m a0 x1).bind fun x13 =>
 bif (x13.2 != 0) then (
 some (V.nil, x13.2)
 ) else (
 (zah a1 1 ((a1).length : Int)).bind fun x15 =>
 (r_q0a x13.1 x15 a2 a3c0).bind fun x16 =>
 bif (x16.2 != 0) then (
 some (V.nil, x16.2)
 ) else (
 (z82 a0 x1 x16.1).bind fun x18 =>
 some (x18, 0)
 )
 )
 )
theorem zuj (r_q0a : OF ρ → V → (List S_api_Step) → Bool → S_api_Edit → Option (V × Int)) (h_r_q0a : ∀ y0 y1 y2 y3, CM (fun G => r_q0a G y0 y1 y2 y3)) (a0 : V) (a1 : (List S_api_Step)) (a2 : Bool) (a3c0 : S_api_Edit) : CM (fun G : OF ρ => znf (r_q0a G) a0 a1 a2 a3c0) := by
 simp only [znf]
 repeat (first | exact z0h | exact h_r_q0a _ _ _ _ | apply q0a_j2_cm | refine z14 ?_ ?_ | refine z15 ?_ (fun _ => ?_) | intro _ | assumption)
inductive C_q0a where
 | k_q0a (a0 : V) (a1 : (List S_api_Step)) (a2 : Bool) (a3c0 : S_api_Edit)
def C_q0a.R : C_q0a → Type
 | .k_q0a _ _ _ _ => (V × Int)
noncomputable def C_q0a.F (g : ∀ i : C_q0a, Option i.R) : ∀ i : C_q0a, Option i.R
 | .k_q0a a0 a1 a2 a3c0 => znf (fun a0 a1 a2 a3c0 => g (.k_q0a a0 a1 a2 a3c0)) a0 a1 a2 a3c0
noncomputable def zmm (a0 : V) (a1 : (List S_api_Step)) (a2 : Bool) (a3c0 : S_api_Edit) : Option (V × Int) := z3n C_q0a.F (.k_q0a a0 a1 a2 a3c0)
abbrev Z5p := fun (g : ∀ i : C_q0a, Option i.R) a0 a1 a2 a3c0 => g (.k_q0a a0 a1 a2 a3c0)
theorem Z5k (a0 a1 a2 a3c0 : _) : CM (ρ := C_q0a.R) (fun g => g (C_q0a.k_q0a a0 a1 a2 a3c0)) := z1j
theorem C_q0a.cm (i : C_q0a) : CM (fun g : (∀ i : C_q0a, Option i.R) => C_q0a.F g i) := by
 cases i with
 | k_q0a a0 a1 a2 a3c0 => exact zuj Z5p Z5k a0 a1 a2 a3c0
theorem Z4d (a0 : V) (a1 : (List S_api_Step)) (a2 : Bool) (a3c0 : S_api_Edit) : zmm a0 a1 a2 a3c0 = znf zmm a0 a1 a2 a3c0 := z1f C_q0a.cm (.k_q0a a0 a1 a2 a3c0)
def C_q0a.Q : ∀ i : C_q0a, i.R → Prop
 | .k_q0a a0 a1 a2 a3c0 => fun (r : (V × Int)) => z0k Tryz.prog 33 [(ofV a0), (PV.sl none 83 3 (List.map z03 a1)), (BO a2), (PV.fn (.func 78) [] [(PV.pt 53 (z06 a3c0) 0)])] (PV.tup [(ofV r.1), (I64 r.2)])
theorem z4y (r_q0a : V → (List S_api_Step) → Bool → S_api_Edit → Option (V × Int)) (c_q0a : ∀ (a0 : V) (a1 : (List S_api_Step)) (a2 : Bool) (a3c0 : S_api_Edit) r, r_q0a a0 a1 a2 a3c0 = some r → z0k Tryz.prog 33 [(ofV a0), (PV.sl none 83 3 (List.map z03 a1)), (BO a2), (PV.fn (.func 78) [] [(PV.pt 53 (z06 a3c0) 0)])] (PV.tup [(ofV r.1), (I64 r.2)])) (a0 : V) (a1 : (List S_api_Step)) (a2 : Bool) (a3c0 : S_api_Edit) (r : (V × Int)) (h : znf r_q0a a0 a1 a2 a3c0 = some r) : z0k Tryz.prog 33 [(ofV a0), (PV.sl none 83 3 (List.map z03 a1)), (BO a2), (PV.fn (.func 78) [] [(PV.pt 53 (z06 a3c0) 0)])] (PV.tup [(ofV r.1), (I64 r.2)]) := by
 unfold znf at h
 refine z0e Tryz.func33 rfl Tryz.ntmps33 Tryz.results33 rfl (z0i ?_)
 change BW _ _ _ ⟨[(0, (ofV a0)), (1, (PV.sl none 83 3 (List.map z03 a1))), (2, (BO a2)), (3, (PV.fn (.func 78) [] [(PV.pt 53 (z06 a3c0) 0)]))], [], _⟩ _
 refine bR ?_
 refine sX ?_
 refine eX ?_
 refine bR ?_
 refine sX ?_
 obtain ⟨x1, hx1, h⟩ := obind h
 refine sS rfl rfl rfl (z1m (i := 0) Tryz.underlying30 z13 rfl rfl rfl hx1 rfl) ?_
 refine sX ?_
 refine sS rfl rfl rfl (z1t z13 rfl) ?_
 refine z1g rfl rfl (z18 z13 rfl rfl rfl rfl rfl rfl (lbE rfl) rfl) ?_
 refine z0d ?_
 refine cBx ?_
 refine z0b ?_
 refine bR ?_
 iterate 2 refine sX ?_
 refine eX ?_
 refine cX h rfl ?_ ?_
 intro hc2 h
 refine bR ?_
 iterate 2 refine sX ?_
 obtain ⟨x3, hx3, h⟩ := obind h
 refine sS rfl rfl rfl (z05 rfl zcy rfl (wkr (wkr .nil)) ⟨(ids_V a0), ⟨(z01 x1), trivial⟩⟩ (zbj a0 x1 x3 hx3) (z00 (ids_V x3.1) (z00 rfl z02))) ?_
 iterate 4 refine sX ?_
 refine eX ?_
 refine bR ?_
 refine sX ?_
 refine sS rfl rfl rfl (z1u rfl rfl) ?_
 iterate 4 refine sX ?_
 refine eX ?_
 refine z2b (ι := Int) (fun i => zgn a0 a3c0 x1 i = some r) (fun i => [(0, (ofV a0)), (3, (PV.fn (.func 78) [] [(PV.pt 53 (z06 a3c0) 0)])), (10, (PV.rf 0 0)), (12, (I64 i))]) (fun i => [.box 83 [(z0n x1.f_Name), (BO x1.f_At), (I64 x1.f_Index)]]) ?_ ?_ ?_
 intro i; exact ⟨lbE rfl, ⟨(z0c (ids_V _)), ⟨(z0c (z2l (z2k (z08 a3c0) rfl))), ⟨(il_rf rfl), ⟨(z0c rfl), trivial⟩⟩⟩⟩, ⟨⟨(z0c rfl), ⟨(z0c rfl), ⟨(z0c rfl), trivial⟩⟩⟩, trivial⟩⟩
 rintro s4 h; replace h : zgn a0 a3c0 x1 s4 = some r := h; unfold zgn at h
 change BW _ _ _ ⟨[(0, (ofV a0)), (3, (PV.fn (.func 78) [] [(PV.pt 53 (z06 a3c0) 0)])), (10, (PV.rf 0 0)), (12, (I64 s4))], [.box 83 [(z0n x1.f_Name), (BO x1.f_At), (I64 x1.f_Index)]], _⟩ _
 refine z0b ?_
 refine bR ?_
 refine sX ?_
 refine eX ?_
 refine cX h rfl ?_ ?_
 intro hc5 h
 refine bR ?_
 iterate 2 refine sX ?_
 refine eX ?_
 obtain rfl := eI h; exact z04 ⟨_, rfl, z0f (y := (PV.tup [(ofV V.nil), (I64 s4)])) (Wk.tup (.cons (Wk.eq mk_nil.symm) (wkr .nil))) (z00 (ids_V V.nil) (z00 rfl z02)) ⟨rfl, rfl⟩⟩
 intro hc5 h
 refine z09 ?_
 refine cBx ?_
 refine bR ?_
 iterate 3 refine sX ?_
 obtain ⟨x6, hx6, h⟩ := obind h
 refine sS rfl rfl rfl (z2j rfl rfl Z3g rfl (wkr (wkr (wkr .nil))) ⟨(ids_V a0), ⟨(z01 x1), ⟨(z08 a3c0), trivial⟩⟩⟩ (Z29 a0 x1 a3c0 x6 hx6) (ids_V x6)) ?_
 refine sX ?_
 refine eX ?_
 obtain rfl := eI h; exact z04 ⟨_, rfl, z0f (y := (PV.tup [(ofV x6), (I64 0)])) (Wk.refl _) (z00 (ids_V x6) (z00 rfl z02)) ⟨rfl, rfl⟩⟩
 refine z2b (ι := Bool) (fun i => zau a0 a3c0 x1 x3 i = some r) (fun i => [(0, (ofV a0)), (3, (PV.fn (.func 78) [] [(PV.pt 53 (z06 a3c0) 0)])), (10, (PV.rf 0 0)), (12, (I64 x3.2)), (53, (BO i))]) (fun i => [.box 83 [(z0n x1.f_Name), (BO x1.f_At), (I64 x1.f_Index)]]) ?_ ?_ ?_
 intro i; exact ⟨lbE rfl, ⟨(z0c (ids_V _)), ⟨(z0c (z2l (z2k (z08 a3c0) rfl))), ⟨(il_rf rfl), ⟨(z0c rfl), ⟨(z0c rfl), trivial⟩⟩⟩⟩⟩, ⟨⟨(z0c rfl), ⟨(z0c rfl), ⟨(z0c rfl), trivial⟩⟩⟩, trivial⟩⟩
 rintro s7 h; replace h : zau a0 a3c0 x1 x3 s7 = some r := h; unfold zau at h
 change BW _ _ _ ⟨[(0, (ofV a0)), (3, (PV.fn (.func 78) [] [(PV.pt 53 (z06 a3c0) 0)])), (10, (PV.rf 0 0)), (12, (I64 x3.2)), (53, (BO s7))], [.box 83 [(z0n x1.f_Name), (BO x1.f_At), (I64 x1.f_Index)]], _⟩ _
 refine cX h rfl ?_ ?_
 intro hc8 h
 refine z0g ?_
 refine sX (z0d ?_)
 exact ⟨rfl, 0, h, jN⟩
 intro hc8 h
 refine z09 ?_
 exact ⟨rfl, x3.2, h, jN⟩
 refine z0g ?_
 iterate 2 refine sX ?_
 refine z0j (t := 36) rfl ?_ ?_
 intro hb9; replace h := z0o hb9 h
 iterate 3 refine yX ?_
 refine z0j (t := 39) rfl ?_ ?_
 intro hb10; replace h := z0o hb10 h
 iterate 12 refine nX ?_
 refine yX ?_
 refine sX (z0d ?_)
 exact ⟨rfl, true, h, jN⟩
 intro hb10; replace h := z0p hb10 h
 iterate 3 refine yX ?_
 refine z0j (t := 42) rfl ?_ ?_
 intro hb11; replace h := z0o hb11 h
 iterate 3 refine yX ?_
 refine z0j (t := 45) rfl ?_ ?_
 intro hb12; replace h := z0o hb12 h
 iterate 7 refine yX ?_
 refine sX (z0d ?_)
 exact ⟨rfl, (x1.f_Index == ((((a0).asList).length : Nat) : Int)), h, jN⟩
 intro hb12; replace h := z0p hb12 h
 iterate 5 refine nX ?_
 iterate 2 refine yX ?_
 refine sX (z0d ?_)
 exact ⟨rfl, false, h, jN⟩
 intro hb11; replace h := z0p hb11 h
 refine nX ?_
 iterate 2 refine yX ?_
 iterate 5 refine nX ?_
 iterate 2 refine yX ?_
 refine sX (z0d ?_)
 exact ⟨rfl, false, h, jN⟩
 intro hb9; replace h := z0p hb9 h
 iterate 16 refine nX ?_
 refine sX (z0d ?_)
 exact ⟨rfl, false, h, jN⟩
 intro hc2 h
 refine z09 ?_
 refine cBx ?_
 refine bR ?_
 iterate 2 refine sX ?_
 obtain ⟨x13, hx13, h⟩ := obind h
 refine sS rfl rfl rfl (z05 rfl zcy rfl (wkr (wkr .nil)) ⟨(ids_V a0), ⟨(z01 x1), trivial⟩⟩ (zbj a0 x1 x13 hx13) (z00 (ids_V x13.1) (z00 rfl z02))) ?_
 iterate 4 refine sX ?_
 refine eX ?_
 refine z0b ?_
 refine bR ?_
 refine sX ?_
 refine eX ?_
 refine cX h rfl ?_ ?_
 intro hc14 h
 refine bR ?_
 iterate 2 refine sX ?_
 refine eX ?_
 obtain rfl := eI h; exact z04 ⟨_, rfl, z0f (y := (PV.tup [(ofV V.nil), (I64 x13.2)])) (Wk.tup (.cons (Wk.eq mk_nil.symm) (wkr .nil))) (z00 (ids_V V.nil) (z00 rfl z02)) ⟨rfl, rfl⟩⟩
 intro hc14 h
 refine z09 ?_
 refine cBx ?_
 refine bR ?_
 iterate 2 refine sX ?_
 obtain ⟨x15, hx15, h⟩ := obind h
 refine sS rfl rfl rfl (z49 (a := 1) (b := ((a1).length : Int)) Tryz.underlying30 z13 rfl rfl rfl rfl rfl rfl hx15) ?_
 iterate 2 refine sX ?_
 obtain ⟨x16, hx16, h⟩ := obind h
 refine sS rfl rfl rfl (z05 rfl zf9 rfl (wkr (wkr (wkr (wkr .nil)))) ⟨(ids_V x13.1), ⟨(z07 z01 x15), ⟨rfl, ⟨(z2l (z2k (z08 a3c0) rfl)), trivial⟩⟩⟩⟩ (c_q0a x13.1 x15 a2 a3c0 x16 hx16) (z00 (ids_V x16.1) (z00 rfl z02))) ?_
 iterate 4 refine sX ?_
 refine eX ?_
 refine z0b ?_
 refine bR ?_
 refine sX ?_
 refine eX ?_
 refine cX h rfl ?_ ?_
 intro hc17 h
 refine bR ?_
 iterate 2 refine sX ?_
 refine eX ?_
 obtain rfl := eI h; exact z04 ⟨_, rfl, z0f (y := (PV.tup [(ofV V.nil), (I64 x16.2)])) (Wk.tup (.cons (Wk.eq mk_nil.symm) (wkr .nil))) (z00 (ids_V V.nil) (z00 rfl z02)) ⟨rfl, rfl⟩⟩
 intro hc17 h
 refine z09 ?_
 refine cBx ?_
 refine bR ?_
 iterate 3 refine sX ?_
 obtain ⟨x18, hx18, h⟩ := obind h
 refine sS rfl rfl rfl (z05 rfl zj8 rfl (wkr (wkr (wkr .nil))) ⟨(ids_V a0), ⟨(z01 x1), ⟨(ids_V x16.1), trivial⟩⟩⟩ (zie a0 x1 x16.1 x18 hx18) (ids_V x18)) ?_
 refine sX ?_
 refine eX ?_
 obtain rfl := eI h; exact z04 ⟨_, rfl, z0f (y := (PV.tup [(ofV x18), (I64 0)])) (Wk.refl _) (z00 (ids_V x18) (z00 rfl z02)) ⟨rfl, rfl⟩⟩
theorem C_q0a.sound : ∀ (i : C_q0a) (r : i.R), z3n C_q0a.F i = some r → C_q0a.Q i r := by
 refine z4b (Φ := C_q0a.F) (Q := C_q0a.Q) ?_
 intro g hg i r h
 cases i with
 | k_q0a a0 a1 a2 a3c0 => exact z4y (fun a0 a1 a2 a3c0 => g (.k_q0a a0 a1 a2 a3c0)) (fun a0 a1 a2 a3c0 r hr => hg (.k_q0a a0 a1 a2 a3c0) r hr) a0 a1 a2 a3c0 r h
theorem Z2m (a0 : V) (a1 : (List S_api_Step)) (a2 : Bool) (a3c0 : S_api_Edit) (r : (V × Int)) (h : zmm a0 a1 a2 a3c0 = some r) : z0k Tryz.prog 33 [(ofV a0), (PV.sl none 83 3 (List.map z03 a1)), (BO a2), (PV.fn (.func 78) [] [(PV.pt 53 (z06 a3c0) 0)])] (PV.tup [(ofV r.1), (I64 r.2)]) := C_q0a.sound (.k_q0a a0 a1 a2 a3c0) r h
end Go.Proofs.YthidgpcbnieleaaGreatDoor
