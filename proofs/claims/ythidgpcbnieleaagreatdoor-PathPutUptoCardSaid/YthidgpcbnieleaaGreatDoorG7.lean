/- Pure functions, and that calls answer as they say. -/
import Derived.Test.YthidgpcbnieleaaGreatDoorG6
namespace Go.Proofs.YthidgpcbnieleaaGreatDoor
open Go Aw
set_option linter.unusedVariables false
set_option linter.unusedSimpArgs false
set_option maxRecDepth 20000
set_option maxHeartbeats 2000000
variable {ι : Type} {ρ : ι → Type}
noncomputable def z4v (r_q1t : Term → Option V) (a0 : (List (Str × Term))) (g1 : (List (Str × V)) → Nat → Option (List (Str × V))) (s1 : (List (Str × V))) (s2 : Nat) : Option (List (Str × V)) :=
 bif (decide (((s2 : Nat) : Int) < (((a0).length : Nat) : Int))) then (
 ((a0)[s2]?).bind fun x5 =>
 ((a0)[s2]?).bind fun x6 =>
 (r_q1t (x6.2)).bind fun x7 =>
 (zal 32 s1 ([(x5.1, x7)] : (List (Str × V)))).bind fun x8 =>
 g1 x8 (s2 + 1)
 ) else (
 some s1
 )
theorem z9m (r_q1t : OF ρ → Term → Option V) (h_r_q1t : ∀ y0, CM (fun G => r_q1t G y0)) (g1 : OF ρ → (List (Str × V)) → Nat → Option (List (Str × V))) (h_g1 : ∀ y0 y1, CM (fun G => g1 G y0 y1)) (a0 : (List (Str × Term))) (s1 : (List (Str × V))) (s2 : Nat) : CM (fun G : OF ρ => z4v (r_q1t G) a0 (g1 G) s1 s2) := by
 simp only [z4v]
 repeat (first | exact z0e | exact h_r_q1t _ | exact h_g1 _ _ | refine z13 ?_ ?_ | refine z14 ?_ (fun _ => ?_))
noncomputable def zd1 (r_q1t : Term → Option V) (a0 : (List (Str × Term))) (s1 : (List (Str × V))) (s2 : Nat) : Option (List (Str × V)) :=
 z3r (ι := ((List (Str × V)) × Nat)) (ρ := fun _ => (List (Str × V))) (fun g i => z4v r_q1t a0 (fun s1 s2 => g (s1, s2)) i.1 i.2) (s1, s2)
theorem zfm (r_q1t : Term → Option V) (a0 : (List (Str × Term))) (s1 : (List (Str × V))) (s2 : Nat) : zd1 r_q1t a0 s1 s2 = z4v r_q1t a0 (zd1 r_q1t a0) s1 s2 :=
 z1f (ι := ((List (Str × V)) × Nat)) (ρ := fun _ => (List (Str × V))) (Φ := fun g i => z4v r_q1t a0 (fun s1 s2 => g (s1, s2)) i.1 i.2) (fun i => z9m (ι := ((List (Str × V)) × Nat)) (ρ := fun _ => (List (Str × V))) (fun _ => r_q1t) (fun _ => z0e) (fun g => (fun s1 s2 => g (s1, s2))) (fun _ _ => z1h) a0 i.1 i.2) (s1, s2)
theorem znf (r_q1t : OF ρ → Term → Option V) (h_r_q1t : ∀ y0, CM (fun G => r_q1t G y0)) (a0 : (List (Str × Term))) (s1 : (List (Str × V))) (s2 : Nat) : CM (fun G : OF ρ => zd1 (r_q1t G) a0 s1 s2) :=
 z7r (κ := ((List (Str × V)) × Nat)) (τ := fun _ => (List (Str × V))) (Φ := fun G g i => z4v (r_q1t G) a0 (fun s1 s2 => g (s1, s2)) i.1 i.2) (fun g i => z9m r_q1t h_r_q1t (fun _ => (fun s1 s2 => g (s1, s2))) (fun _ _ => z0e) a0 i.1 i.2) (fun G i => z9m (ι := ((List (Str × V)) × Nat)) (ρ := fun _ => (List (Str × V))) (fun _ => r_q1t G) (fun _ => z0e) (fun g => (fun s1 s2 => g (s1, s2))) (fun _ _ => z1h) a0 i.1 i.2) (s1, s2)
noncomputable def ziq (r_q1u : (List (Str × Term)) → Option (List (Str × V))) (r_q1t : Term → Option V) (a0 : (List (Str × Term))) : Option (List (Str × V)) :=
 zd1 r_q1t a0 ([] : (List (Str × V))) 0
theorem ztd (r_q1u : OF ρ → (List (Str × Term)) → Option (List (Str × V))) (h_r_q1u : ∀ y0, CM (fun G => r_q1u G y0)) (r_q1t : OF ρ → Term → Option V) (h_r_q1t : ∀ y0, CM (fun G => r_q1t G y0)) (a0 : (List (Str × Term))) : CM (fun G : OF ρ => ziq (r_q1u G) (r_q1t G) a0) := by
 simp only [ziq]
 repeat (first | exact z0e | exact h_r_q1u _ | exact h_r_q1t _ | apply znf | refine z13 ?_ ?_ | refine z14 ?_ (fun _ => ?_) | intro _ | assumption)
noncomputable def z4w (r_q1t : Term → Option V) (a0 : Term) (g1 : (List V) → Nat → Option V) (s10 : (List V)) (s11 : Nat) : Option V :=
 bif (decide (((s11 : Nat) : Int) < (((a0.list).length : Nat) : Int))) then (
 ((a0.list)[s11]?).bind fun x14 =>
 (r_q1t x14).bind fun x15 =>
 (zal 16 s10 ([x15] : (List V))).bind fun x16 =>
 g1 x16 (s11 + 1)
 ) else (
 some (V.list s10)
 )
theorem z9n (r_q1t : OF ρ → Term → Option V) (h_r_q1t : ∀ y0, CM (fun G => r_q1t G y0)) (g1 : OF ρ → (List V) → Nat → Option V) (h_g1 : ∀ y0 y1, CM (fun G => g1 G y0 y1)) (a0 : Term) (s10 : (List V)) (s11 : Nat) : CM (fun G : OF ρ => z4w (r_q1t G) a0 (g1 G) s10 s11) := by
 simp only [z4w]
 repeat (first | exact z0e | exact h_r_q1t _ | exact h_g1 _ _ | refine z13 ?_ ?_ | refine z14 ?_ (fun _ => ?_))
noncomputable def zbc (r_q1t : Term → Option V) (a0 : Term) (s10 : (List V)) (s11 : Nat) : Option V :=
 z3r (ι := ((List V) × Nat)) (ρ := fun _ => V) (fun g i => z4w r_q1t a0 (fun s10 s11 => g (s10, s11)) i.1 i.2) (s10, s11)
theorem zfn (r_q1t : Term → Option V) (a0 : Term) (s10 : (List V)) (s11 : Nat) : zbc r_q1t a0 s10 s11 = z4w r_q1t a0 (zbc r_q1t a0) s10 s11 :=
 z1f (ι := ((List V) × Nat)) (ρ := fun _ => V) (Φ := fun g i => z4w r_q1t a0 (fun s10 s11 => g (s10, s11)) i.1 i.2) (fun i => z9n (ι := ((List V) × Nat)) (ρ := fun _ => V) (fun _ => r_q1t) (fun _ => z0e) (fun g => (fun s10 s11 => g (s10, s11))) (fun _ _ => z1h) a0 i.1 i.2) (s10, s11)
theorem zng (r_q1t : OF ρ → Term → Option V) (h_r_q1t : ∀ y0, CM (fun G => r_q1t G y0)) (a0 : Term) (s10 : (List V)) (s11 : Nat) : CM (fun G : OF ρ => zbc (r_q1t G) a0 s10 s11) :=
 z7r (κ := ((List V) × Nat)) (τ := fun _ => V) (Φ := fun G g i => z4w (r_q1t G) a0 (fun s10 s11 => g (s10, s11)) i.1 i.2) (fun g i => z9n r_q1t h_r_q1t (fun _ => (fun s10 s11 => g (s10, s11))) (fun _ _ => z0e) a0 i.1 i.2) (fun G i => z9n (ι := ((List V) × Nat)) (ρ := fun _ => V) (fun _ => r_q1t G) (fun _ => z0e) (fun g => (fun s10 s11 => g (s10, s11))) (fun _ _ => z1h) a0 i.1 i.2) (s10, s11)
noncomputable def zir (r_q1u : (List (Str × Term)) → Option (List (Str × V))) (r_q1t : Term → Option V) (a0 : Term) : Option V :=
 bif (a0.kind == 1) then (
 some V.nil
 ) else (
 bif (a0.kind == 2) then (
 some (V.bool a0.bool)
 ) else (
 bif (a0.kind == 3) then (
 some (V.int a0.int)
 ) else (
 bif (a0.kind == 4) then (
 some (V.float a0.float)
 ) else (
 bif (a0.kind == 5) then (
 some (V.text a0.text)
 ) else (
 bif (a0.kind == 6) then (
 (zal 1 ([] : Str) a0.bytes).bind fun x7 =>
 some (V.bytes x7)
 ) else (
 bif (a0.kind == 7) then (
 some (V.ref a0.ref)
 ) else (
 bif (a0.kind == 8) then (
 zbc r_q1t a0 ([] : (List V)) 0
 ) else (
 bif (a0.kind == 9) then (
 (r_q1u a0.fields).bind fun x18 =>
 some (V.dict x18)
 ) else (
 bif (a0.kind == 10) then (
 (r_q1u a0.fields).bind fun x20 =>
 some (V.record a0.cls a0.ver x20)
 ) else (
 bif (a0.kind == 11) then (
 some V.nothing
 ) else (
 (zlk a0.int).bind fun x22 =>
 some x22
 )
 )
 )
 )
 )
 )
 )
 )
 )
 )
 )
theorem zte (r_q1u : OF ρ → (List (Str × Term)) → Option (List (Str × V))) (h_r_q1u : ∀ y0, CM (fun G => r_q1u G y0)) (r_q1t : OF ρ → Term → Option V) (h_r_q1t : ∀ y0, CM (fun G => r_q1t G y0)) (a0 : Term) : CM (fun G : OF ρ => zir (r_q1u G) (r_q1t G) a0) := by
 simp only [zir]
 repeat (first | exact z0e | exact h_r_q1u _ | exact h_r_q1t _ | apply zng | refine z13 ?_ ?_ | refine z14 ?_ (fun _ => ?_) | intro _ | assumption)
inductive C_q1u where
 | k_q1u (a0 : (List (Str × Term)))
 | k_q1t (a0 : Term)
def C_q1u.R : C_q1u → Type
 | .k_q1u _ => (List (Str × V))
 | .k_q1t _ => V
noncomputable def C_q1u.F (g : ∀ i : C_q1u, Option i.R) : ∀ i : C_q1u, Option i.R
 | .k_q1u a0 => ziq (fun a0 => g (.k_q1u a0)) (fun a0 => g (.k_q1t a0)) a0
 | .k_q1t a0 => zir (fun a0 => g (.k_q1u a0)) (fun a0 => g (.k_q1t a0)) a0
noncomputable def zr9 (a0 : (List (Str × Term))) : Option (List (Str × V)) := z3r C_q1u.F (.k_q1u a0)
noncomputable def z7n (a0 : Term) : Option V := z3r C_q1u.F (.k_q1t a0)
abbrev Z3q := fun (g : ∀ i : C_q1u, Option i.R) a0 => g (.k_q1u a0)
theorem Z3o (a0 : _) : CM (ρ := C_q1u.R) (fun g => g (C_q1u.k_q1u a0)) := z1h
abbrev Z3p := fun (g : ∀ i : C_q1u, Option i.R) a0 => g (.k_q1t a0)
theorem Z3n (a0 : _) : CM (ρ := C_q1u.R) (fun g => g (C_q1u.k_q1t a0)) := z1h
theorem C_q1u.cm (i : C_q1u) : CM (fun g : (∀ i : C_q1u, Option i.R) => C_q1u.F g i) := by
 cases i with
 | k_q1u a0 => exact ztd Z3q Z3o Z3p Z3n a0
 | k_q1t a0 => exact zte Z3q Z3o Z3p Z3n a0
theorem Z2u (a0 : (List (Str × Term))) : zr9 a0 = ziq zr9 z7n a0 := z1f C_q1u.cm (.k_q1u a0)
theorem Z2v (a0 : Term) : z7n a0 = zir zr9 z7n a0 := z1f C_q1u.cm (.k_q1t a0)
def C_q1u.Q : ∀ i : C_q1u, i.R → Prop
 | .k_q1u a0 => fun (r : (List (Str × V))) => z0l Tryz.prog 28 [(PV.sl none 113 12 (List.map z3e a0))] (PV.sl none 69 2 (List.map ofFld r))
 | .k_q1t a0 => fun (r : V) => z0l Tryz.prog 9 [(z2g a0)] (ofV r)
theorem zn1 (r_q1u : (List (Str × Term)) → Option (List (Str × V))) (c_q1u : ∀ (a0 : (List (Str × Term))) r, r_q1u a0 = some r → z0l Tryz.prog 28 [(PV.sl none 113 12 (List.map z3e a0))] (PV.sl none 69 2 (List.map ofFld r))) (r_q1t : Term → Option V) (c_q1t : ∀ (a0 : Term) r, r_q1t a0 = some r → z0l Tryz.prog 9 [(z2g a0)] (ofV r)) (a0 : (List (Str × Term))) (r : (List (Str × V))) (h : ziq r_q1u r_q1t a0 = some r) : z0l Tryz.prog 28 [(PV.sl none 113 12 (List.map z3e a0))] (PV.sl none 69 2 (List.map ofFld r)) := by
 unfold ziq at h
 refine z0c Tryz.func28 rfl Tryz.ntmps28 Tryz.results28 rfl (z0i ?_)
 change BW _ _ _ ⟨[(0, (PV.sl none 113 12 (List.map z3e a0)))], [], _⟩ _
 refine bR ?_
 refine eX ?_
 refine bR ?_
 refine sS rfl rfl rfl ((z1d (xs := []) Tryz.underlying71 z0w rfl rfl rfl rfl rfl rfl ⟨lbE rfl, lbE rfl⟩ rfl).cast (y := (PV.sl (some 0) 69 2 (List.map ofFld ([] : (List (Str × V)))))) rfl rfl) ?_
 refine eX ?_
 refine z09 ?_
 refine bR ?_
 refine eX ?_
 refine z0j ?_
 refine cBx ?_
 unfold zd1 at h
 refine z3n (σ := ((List (Str × V)) × Nat)) (fun i => [(0, (PV.sl none 113 12 (List.map z3e a0))), (3, (PV.sl (some 0) 69 2 (List.map ofFld i.1))), (4, (I64 (((i.2 : Nat) : Int))))]) (fun i => [.arr 69 (i.1).length]) (([] : (List (Str × V))), 0) h ?_ ?_ ?_
 intro i; exact ⟨lbE rfl, ⟨(z0a (z06 z5o _)), ⟨(z4r rfl (z17 z0q _)), ⟨(z0a rfl), trivial⟩⟩⟩, trivial⟩
 exact jN
 rintro g1_f ⟨s1, s2⟩ h; replace h : z4v r_q1t a0 (fun y0 y1 => g1_f (y0, y1)) s1 s2 = some r := h; unfold z4v at h
 change BW _ _ _ ⟨[(0, (PV.sl none 113 12 (List.map z3e a0))), (3, (PV.sl (some 0) 69 2 (List.map ofFld s1))), (4, (I64 (((s2 : Nat) : Int))))], [.arr 69 (s1).length], _⟩ _
 refine z09 ?_
 refine bR ?_
 iterate 3 refine sX ?_
 refine eX ?_
 refine z5r (t := 7) rfl fun hb4 => ?_
 try rw [List.length_map] at hb4
 refine cX h rfl ?_ ?_
 intro hc3 h
 have hc3_ := of_decide_eq_true hc3
 refine z08 ?_
 refine cBx ?_
 refine z09 ?_
 refine z0j ?_
 refine cBx ?_
 refine z1t 14 [13] [] mo (by kernel_rfl) ?_
 iterate 3 refine gX ?_
 obtain ⟨x5, hx5, h⟩ := obind h
 refine z1m rfl rfl rfl rfl (fun H hp => z1v (i := s2) Tryz.underlying27 zc7 rfl rfl rfl hx5 (z9z _)) ?_
 iterate 4 refine gX ?_
 obtain ⟨x6, hx6, h⟩ := obind h
 refine z1m rfl rfl rfl rfl (fun H hp => z1v (i := s2) Tryz.underlying27 zc7 rfl rfl rfl hx6 (z9z _)) ?_
 iterate 2 refine gX ?_
 obtain ⟨x7, hx7, h⟩ := obind h
 refine z1m rfl rfl rfl rfl (fun H hp => z05 rfl zzy rfl (wkr .nil) ⟨(z71 (x6.2)), trivial⟩ (c_q1t (x6.2) x7 hx7) (ids_V x7)) ?_
 refine z1m rfl rfl rfl rfl (fun H hp => z1k (cs := [(z0k x5.1), (ofV x7)]) zhq z0w rfl rfl (by simp only [List.all_cons, List.all_nil, z5c, z26, Bool.and_true, Bool.true_and]; try rfl) (by simp only [z3p, List.getElem?_cons_zero, List.getElem?_cons_succ, z11, z0v]; rfl)) ?_
 refine zhn rfl rfl rfl rfl ((z1d (xs := [(PV.agg [(z0k x5.1), (ofV x7)])]) Tryz.underlying71 z0w rfl rfl rfl (by simp only [List.all_cons, List.all_nil, z5c, z26, Bool.and_true, Bool.true_and]; try rfl) (by simp only [List.all_cons, List.all_nil, csz_V, z3a, z11, z0v]; try rfl) rfl ⟨lbE rfl, lbE rfl⟩ (by simp only [z9d, z3p, List.flatMap_cons, List.flatMap_nil, z11, z0v]; try rfl)).cast (y := (PV.sl (some 1) 69 2 (List.map ofFld ([(x5.1, x7)] : (List (Str × V)))))) rfl rfl) trivial ?_
 refine z1y ?_
 change AO _ _ _ _ _
 obtain ⟨x8, hx8, h⟩ := obind h
 refine sS rfl rfl rfl (z3q Tryz.underlying71 z0w rfl Tryz.underlying71 rfl rfl rfl rfl z74 z79 hx8 rfl) ?_
 refine eX ?_
 refine z0f ?_
 refine sX ?_
 refine sS rfl rfl rfl (z2v (k := s2) (c := 1) rfl rfl rfl (by omega)) ?_
 refine sX (z0b ?_)
 exact ⟨rfl, (x8, (s2 + 1)), h, jN⟩
 intro hc3 h
 refine z2b ?_
 refine cBx ?_
 refine bR ?_
 refine sX ?_
 refine eX ?_
 obtain rfl := eI h; exact z04 ⟨_, rfl, z0n (y := (PV.sl none 69 2 (List.map ofFld s1))) Wk.tok (z06 z0q s1) ⟨rfl, rfl⟩⟩
theorem zky (r_q1u : (List (Str × Term)) → Option (List (Str × V))) (c_q1u : ∀ (a0 : (List (Str × Term))) r, r_q1u a0 = some r → z0l Tryz.prog 28 [(PV.sl none 113 12 (List.map z3e a0))] (PV.sl none 69 2 (List.map ofFld r))) (r_q1t : Term → Option V) (c_q1t : ∀ (a0 : Term) r, r_q1t a0 = some r → z0l Tryz.prog 9 [(z2g a0)] (ofV r)) (a0 : Term) (r : V) (h : zir r_q1u r_q1t a0 = some r) : z0l Tryz.prog 9 [(z2g a0)] (ofV r) := by
 unfold zir at h
 refine z0c Tryz.func9 rfl Tryz.ntmps9 Tryz.results9 rfl (z0i ?_)
 change BW _ _ _ ⟨[(0, (z2g a0))], [], _⟩ _
 refine bR ?_
 refine sX ?_
 refine eX ?_
 refine z09 ?_
 refine bR ?_
 refine sX ?_
 refine eX ?_
 refine z0j ?_
 refine cBx ?_
 refine bR ?_
 refine sX ?_
 refine eX ?_
 refine cX h rfl ?_ ?_
 intro hc1 h
 refine bR ?_
 refine eX ?_
 obtain rfl := eI h; exact z04 ⟨_, rfl, z0n (y := (ofV V.nil)) (Wk.eq mk_nil.symm) (ids_V V.nil) ⟨rfl, rfl⟩⟩
 intro hc1 h
 refine bR ?_
 refine sX ?_
 refine eX ?_
 refine cX h rfl ?_ ?_
 intro hc2 h
 refine bR ?_
 iterate 2 refine sX ?_
 refine sS rfl rfl rfl ((z0z Tryz.underlying4 rfl rfl rfl).wk ((Wk.iface (Wk.refl _)).trans (Wk.eq (zer _).symm))) ?_
 refine eX ?_
 obtain rfl := eI h; exact z04 ⟨_, rfl, z0n (y := (ofV (V.bool a0.bool))) (Wk.refl _) (ids_V (V.bool a0.bool)) ⟨rfl, rfl⟩⟩
 intro hc2 h
 refine bR ?_
 refine sX ?_
 refine eX ?_
 refine cX h rfl ?_ ?_
 intro hc3 h
 refine bR ?_
 iterate 2 refine sX ?_
 refine sS rfl rfl rfl ((z0z Tryz.underlying2 rfl rfl rfl).wk ((Wk.iface (Wk.refl _)).trans (Wk.eq (zgv _).symm))) ?_
 refine eX ?_
 obtain rfl := eI h; exact z04 ⟨_, rfl, z0n (y := (ofV (V.int a0.int))) (Wk.refl _) (ids_V (V.int a0.int)) ⟨rfl, rfl⟩⟩
 intro hc3 h
 refine bR ?_
 refine sX ?_
 refine eX ?_
 refine cX h rfl ?_ ?_
 intro hc4 h
 refine bR ?_
 iterate 2 refine sX ?_
 refine sS rfl rfl rfl ((z0z Tryz.underlying22 rfl rfl rfl).wk ((Wk.iface (Wk.refl _)).trans (Wk.eq (zsd _).symm))) ?_
 refine eX ?_
 obtain rfl := eI h; exact z04 ⟨_, rfl, z0n (y := (ofV (V.float a0.float))) (Wk.refl _) (ids_V (V.float a0.float)) ⟨rfl, rfl⟩⟩
 intro hc4 h
 refine bR ?_
 refine sX ?_
 refine eX ?_
 refine cX h rfl ?_ ?_
 intro hc5 h
 refine bR ?_
 iterate 2 refine sX ?_
 refine sS rfl rfl rfl ((z0z Tryz.underlying9 rfl rfl rfl).wk ((Wk.iface (Wk.refl _)).trans (Wk.eq (zw8 _).symm))) ?_
 refine eX ?_
 obtain rfl := eI h; exact z04 ⟨_, rfl, z0n (y := (ofV (V.text a0.text))) (Wk.refl _) (ids_V (V.text a0.text)) ⟨rfl, rfl⟩⟩
 intro hc5 h
 refine bR ?_
 refine sX ?_
 refine eX ?_
 refine cX h rfl ?_ ?_
 intro hc6 h
 refine bR ?_
 refine sS rfl rfl rfl ((z1d (xs := []) Tryz.underlying23 inf_5 rfl rfl rfl rfl rfl rfl ⟨lbE rfl, lbE rfl⟩ rfl).cast (y := (PV.sl (some 1) 5 1 (List.map ofB ([] : Str)))) rfl rfl) ?_
 iterate 2 refine sX ?_
 obtain ⟨x7, hx7, h⟩ := obind h
 refine sS rfl rfl rfl (z3q Tryz.underlying23 inf_5 rfl Tryz.underlying23 rfl rfl rfl rfl (fun _ => rfl) (fun _ => rfl) hx7 rfl) ?_
 refine sS rfl rfl rfl ((z0z Tryz.underlying23 rfl rfl rfl).wk ((Wk.iface Wk.tok).trans (Wk.eq (zju _).symm))) ?_
 refine eX ?_
 obtain rfl := eI h; exact z04 ⟨_, rfl, z0n (y := (ofV (V.bytes x7))) (Wk.refl _) (ids_V (V.bytes x7)) ⟨rfl, rfl⟩⟩
 intro hc6 h
 refine bR ?_
 refine sX ?_
 refine eX ?_
 refine cX h rfl ?_ ?_
 intro hc8 h
 refine bR ?_
 iterate 2 refine sX ?_
 refine sS rfl rfl rfl ((z0z Tryz.underlying25 rfl rfl rfl).wk ((Wk.iface (Wk.refl _)).trans (Wk.eq (zz2 _).symm))) ?_
 refine eX ?_
 obtain rfl := eI h; exact z04 ⟨_, rfl, z0n (y := (ofV (V.ref a0.ref))) (Wk.refl _) (ids_V (V.ref a0.ref)) ⟨rfl, rfl⟩⟩
 intro hc8 h
 refine bR ?_
 refine sX ?_
 refine eX ?_
 refine cX h rfl ?_ ?_
 intro hc9 h
 refine bR ?_
 refine sS rfl rfl rfl ((z1d (xs := []) Tryz.underlying67 z23 rfl rfl rfl rfl rfl rfl ⟨lbE rfl, lbE rfl⟩ rfl).cast (y := (PV.sl (some 1) 20 1 (List.map ofV ([] : (List V))))) rfl rfl) ?_
 refine eX ?_
 refine z09 ?_
 refine bR ?_
 refine eX ?_
 refine z0j ?_
 refine cBx ?_
 unfold zbc at h
 refine z3n (σ := ((List V) × Nat)) (fun i => [(1, (PV.rf 0 0)), (3, (PV.sl (some 1) 20 1 (List.map ofV i.1))), (4, (I64 (((i.2 : Nat) : Int))))]) (fun i => [.box 29 [(I64 a0.kind), (BO a0.bool), (I64 a0.int), (PV.v (.float .f64 a0.float)), (z0k a0.text), (PV.sl none 5 1 (List.map ofB a0.bytes)), (PV.v (.int .u64 a0.ref)), (PV.sl none 29 11 (List.map z4o a0.list)), (PV.sl none 113 12 (List.map z3e a0.fields)), (z0k a0.cls), (I64 a0.ver)], .arr 20 (i.1).length]) (([] : (List V)), 0) h ?_ ?_ ?_
 intro i; exact ⟨lbE rfl, ⟨(il_rf rfl), ⟨(z4r rfl (z17 ids_V _)), ⟨(z0a rfl), trivial⟩⟩⟩, ⟨⟨(z0a rfl), ⟨(z0a rfl), ⟨(z0a rfl), ⟨(z0a rfl), ⟨(z0a rfl), ⟨(z0a (z06 (fun _ => rfl) _)), ⟨(z0a rfl), ⟨(z0a (z06 z7k _)), ⟨(z0a (z06 z5o _)), ⟨(z0a rfl), ⟨(z0a rfl), trivial⟩⟩⟩⟩⟩⟩⟩⟩⟩⟩⟩, trivial⟩⟩
 exact jN
 rintro g1_f ⟨s10, s11⟩ h; replace h : z4w r_q1t a0 (fun y0 y1 => g1_f (y0, y1)) s10 s11 = some r := h; unfold z4w at h
 change BW _ _ _ ⟨[(1, (PV.rf 0 0)), (3, (PV.sl (some 1) 20 1 (List.map ofV s10))), (4, (I64 (((s11 : Nat) : Int))))], [.box 29 [(I64 a0.kind), (BO a0.bool), (I64 a0.int), (PV.v (.float .f64 a0.float)), (z0k a0.text), (PV.sl none 5 1 (List.map ofB a0.bytes)), (PV.v (.int .u64 a0.ref)), (PV.sl none 29 11 (List.map z4o a0.list)), (PV.sl none 113 12 (List.map z3e a0.fields)), (z0k a0.cls), (I64 a0.ver)], .arr 20 (s10).length], _⟩ _
 refine z09 ?_
 refine bR ?_
 iterate 4 refine sX ?_
 refine eX ?_
 refine z5r (t := 47) rfl fun hb13 => ?_
 try rw [List.length_map] at hb13
 refine cX h rfl ?_ ?_
 intro hc12 h
 have hc12_ := of_decide_eq_true hc12
 refine z08 ?_
 refine cBx ?_
 refine z09 ?_
 refine z0j ?_
 refine cBx ?_
 refine z0f ?_
 iterate 4 refine sX ?_
 obtain ⟨x14, hx14, h⟩ := obind h
 refine sS rfl rfl rfl (z1v (i := s11) Tryz.underlying26 zh5 rfl rfl rfl hx14 (z91 _)) ?_
 refine sX ?_
 obtain ⟨x15, hx15, h⟩ := obind h
 refine sS rfl rfl rfl (z05 rfl zzy rfl (wkr .nil) ⟨(z71 x14), trivial⟩ (c_q1t x14 x15 hx15) (ids_V x15)) ?_
 refine sS rfl rfl rfl ((z1d (xs := [(ofV x15)]) Tryz.underlying67 z23 rfl rfl rfl (by simp only [List.all_cons, List.all_nil, z5c, z26, Bool.and_true, Bool.true_and]; try rfl) (by simp only [List.all_cons, List.all_nil, csz_V, z3a, z11, z0v]; try rfl) rfl ⟨lbE rfl, lbE rfl⟩ (by simp only [z9d, z3p, List.flatMap_cons, List.flatMap_nil, z11, z0v]; try rfl)).cast (y := (PV.sl (some 2) 20 1 (List.map ofV ([x15] : (List V))))) rfl rfl) ?_
 obtain ⟨x16, hx16, h⟩ := obind h
 refine sS rfl rfl rfl (z3q Tryz.underlying67 z23 rfl Tryz.underlying67 rfl rfl rfl rfl csz_V z86 hx16 rfl) ?_
 refine eX ?_
 refine z0f ?_
 refine sX ?_
 refine sS rfl rfl rfl (z2v (k := s11) (c := 1) rfl rfl rfl (by omega)) ?_
 refine sX (z0b ?_)
 exact ⟨rfl, (x16, (s11 + 1)), h, jN⟩
 intro hc12 h
 refine z2b ?_
 refine cBx ?_
 refine bR ?_
 refine sX ?_
 refine sS rfl rfl rfl ((z0z Tryz.underlying67 rfl rfl rfl).wk ((Wk.iface Wk.tok).trans (Wk.eq (z7y _).symm))) ?_
 refine eX ?_
 obtain rfl := eI h; exact z04 ⟨_, rfl, z0n (y := (ofV (V.list s10))) (Wk.refl _) (ids_V (V.list s10)) ⟨rfl, rfl⟩⟩
 intro hc9 h
 refine bR ?_
 refine sX ?_
 refine eX ?_
 refine cX h rfl ?_ ?_
 intro hc17 h
 refine bR ?_
 iterate 2 refine sX ?_
 obtain ⟨x18, hx18, h⟩ := obind h
 refine sS rfl rfl rfl (z05 rfl Z06 rfl (wkr .nil) ⟨(z06 z5o a0.fields), trivial⟩ (c_q1u a0.fields x18 hx18) (z06 z0q x18)) ?_
 refine sS rfl rfl rfl ((z0z Tryz.underlying71 rfl rfl rfl).wk ((Wk.iface (Wk.refl _)).trans (Wk.eq (z59 _).symm))) ?_
 refine eX ?_
 obtain rfl := eI h; exact z04 ⟨_, rfl, z0n (y := (ofV (V.dict x18))) (Wk.refl _) (ids_V (V.dict x18)) ⟨rfl, rfl⟩⟩
 intro hc17 h
 refine bR ?_
 refine sX ?_
 refine eX ?_
 refine cX h rfl ?_ ?_
 intro hc19 h
 refine z09 (z1t 7 [] [0] mo (by kernel_rfl) ?_)
 iterate 6 refine gX ?_
 obtain ⟨x20, hx20, h⟩ := obind h
 refine z1m rfl rfl rfl rfl (fun H hp => z05 rfl Z06 rfl (wkr .nil) ⟨(z06 z5o a0.fields), trivial⟩ (c_q1u a0.fields x20 hx20) (z06 z0q x20)) ?_
 refine z1y ?_
 change AO _ _ _ _ _
 refine sS rfl rfl rfl (z1k (cs := [(z0k a0.cls), (I64 a0.ver), (PV.sl none 69 2 (List.map ofFld x20))]) zl0 zh3 rfl rfl rfl rfl) ?_
 refine sX ?_
 refine sS rfl rfl rfl (z0z Tryz.underlying73 rfl rfl rfl) ?_
 refine eX ?_
 refine z87 1 2 (y := (ofV (V.record a0.cls a0.ver x20))) rfl rfl ((Wk.iface (Wk.pt (x := .agg [(z0k a0.cls), (I64 a0.ver), (PV.sl none 69 2 (List.map ofFld x20))]) (y := zgs (Rec.mk a0.cls a0.ver x20)) (wkr (wkr (wkr .nil))))).trans (Wk.eq (zgu (some (Rec.mk a0.cls a0.ver x20))).symm)) ?_
 obtain rfl := eI h; exact z04 ⟨_, rfl, z0n (y := (ofV (V.record a0.cls a0.ver x20))) (Wk.refl _) (ids_V (V.record a0.cls a0.ver x20)) ⟨rfl, rfl⟩⟩
 intro hc19 h
 refine bR ?_
 refine sX ?_
 refine eX ?_
 refine cX h rfl ?_ ?_
 intro hc21 h
 refine bR ?_
 refine eX ?_
 refine bR ?_
 refine sX ?_
 refine sS rfl rfl rfl ((z0z Tryz.underlying73 rfl rfl rfl).wk (Wk.eq (zgu none).symm)) ?_
 refine eX ?_
 obtain rfl := eI h; exact z04 ⟨_, rfl, z0n (y := (ofV V.nothing)) (Wk.refl _) (ids_V V.nothing) ⟨rfl, rfl⟩⟩
 intro hc21 h
 refine z08 ?_
 refine cBx ?_
 refine bR ?_
 iterate 2 refine sX ?_
 obtain ⟨x22, hx22, h⟩ := obind h
 refine sS rfl rfl rfl (z05 rfl Z2p rfl (wkr .nil) ⟨rfl, trivial⟩ (Z0s a0.int x22 hx22) (ids_V x22)) ?_
 refine eX ?_
 obtain rfl := eI h; exact z04 ⟨_, rfl, z0n (y := (ofV x22)) (Wk.refl _) (ids_V x22) ⟨rfl, rfl⟩⟩
theorem C_q1u.sound : ∀ (i : C_q1u) (r : i.R), z3r C_q1u.F i = some r → C_q1u.Q i r := by
 refine z6a (Φ := C_q1u.F) (Q := C_q1u.Q) ?_
 intro g hg i r h
 cases i with
 | k_q1u a0 => exact zn1 (fun a0 => g (.k_q1u a0)) (fun a0 r hr => hg (.k_q1u a0) r hr) (fun a0 => g (.k_q1t a0)) (fun a0 r hr => hg (.k_q1t a0) r hr) a0 r h
 | k_q1t a0 => exact zky (fun a0 => g (.k_q1u a0)) (fun a0 r hr => hg (.k_q1u a0) r hr) (fun a0 => g (.k_q1t a0)) (fun a0 r hr => hg (.k_q1t a0) r hr) a0 r h
theorem zv8 (a0 : Term) (r : V) (h : z7n a0 = some r) : z0l Tryz.prog 9 [(z2g a0)] (ofV r) := C_q1u.sound (.k_q1t a0) r h
noncomputable def z8n (g1 : Int → Option Bool) (a0 a1 : (List S_api_Step)) (s1 : Int) (s2 : Bool) : Option Bool :=
 bif s2 then (
 (z5s a0 s1).bind fun x4 =>
 (z5s a1 s1).bind fun x5 =>
 bif (!(x4.f_Name == x5.f_Name && (x4.f_At == x5.f_At && x4.f_Index == x5.f_Index))) then (
 some false
 ) else (
 g1 (IntKind.i64.wrap (s1 + 1))
 )
 ) else (
 some true
 )
theorem znm (g1 : OF ρ → Int → Option Bool) (h_g1 : ∀ y0, CM (fun G => g1 G y0)) (a0 a1 : (List S_api_Step)) (s1 : Int) (s2 : Bool) : CM (fun G : OF ρ => z8n (g1 G) a0 a1 s1 s2) := by
 simp only [z8n]
 repeat (first | exact z0e | exact h_g1 _ | refine z13 ?_ ?_ | refine z14 ?_ (fun _ => ?_))
noncomputable def z5y (a0 a1 : (List S_api_Step)) (g1 : Int → Option Bool) (s1 : Int) : Option Bool :=
 bif (decide (s1 < (((a0).length : Nat) : Int))) then (
 z8n g1 a0 a1 s1 (decide (s1 < (((a1).length : Nat) : Int)))
 ) else (
 z8n g1 a0 a1 s1 false
 )
theorem zle (g1 : OF ρ → Int → Option Bool) (h_g1 : ∀ y0, CM (fun G => g1 G y0)) (a0 a1 : (List S_api_Step)) (s1 : Int) : CM (fun G : OF ρ => z5y a0 a1 (g1 G) s1) := by
 simp only [z5y]
 repeat (first | exact z0e | exact h_g1 _ | apply znm | refine z13 ?_ ?_ | refine z14 ?_ (fun _ => ?_) | intro _ | assumption)
noncomputable def zg0 (a0 a1 : (List S_api_Step)) (s1 : Int) : Option Bool :=
 z3r (ι := Int) (ρ := fun _ => Bool) (fun g i => z5y a0 a1 (fun s1 => g s1) i) s1
theorem zfz (a0 a1 : (List S_api_Step)) (s1 : Int) : zg0 a0 a1 s1 = z5y a0 a1 (zg0 a0 a1) s1 :=
 z1f (ι := Int) (ρ := fun _ => Bool) (Φ := fun g i => z5y a0 a1 (fun s1 => g s1) i) (fun i => zle (ι := Int) (ρ := fun _ => Bool) (fun g => (fun s1 => g s1)) (fun _ => z1h) a0 a1 i) s1
noncomputable def zra (a0 a1 : (List S_api_Step)) : Option Bool :=
 zg0 a0 a1 0
theorem Z15 (a0 a1 : (List S_api_Step)) (r : Bool) (h : zra a0 a1 = some r) : z0l Tryz.prog 13 [(PV.sl none 83 3 (List.map z02 a0)), (PV.sl none 83 3 (List.map z02 a1))] (BO r) := by
 unfold zra at h
 refine z0c Tryz.func13 rfl Tryz.ntmps13 Tryz.results13 rfl (z0i ?_)
 change BW _ _ _ ⟨[(0, (PV.sl none 83 3 (List.map z02 a0))), (1, (PV.sl none 83 3 (List.map z02 a1)))], [], _⟩ _
 refine bR ?_
 refine eX ?_
 refine z09 ?_
 refine bR ?_
 refine eX ?_
 refine z0j ?_
 refine cBx ?_
 unfold zg0 at h
 refine z3n (σ := Int) (fun i => [(0, (PV.sl none 83 3 (List.map z02 a0))), (1, (PV.sl none 83 3 (List.map z02 a1))), (5, (I64 i))]) (fun i => []) 0 h ?_ ?_ ?_
 intro i; exact ⟨lbE rfl, ⟨(z0a (z06 z01 _)), ⟨(z0a (z06 z01 _)), ⟨(z0a rfl), trivial⟩⟩⟩, trivial⟩
 exact jN
 rintro g1_f s1 h; replace h : z5y a0 a1 (fun y0 => g1_f y0) s1 = some r := h; unfold z5y at h
 change BW _ _ _ ⟨[(0, (PV.sl none 83 3 (List.map z02 a0))), (1, (PV.sl none 83 3 (List.map z02 a1))), (5, (I64 s1))], [], _⟩ _
 refine z09 ?_
 refine z2h (ι := Bool) (fun i => z8n (fun y0 => g1_f y0) a0 a1 s1 i = some r) (fun i => [(0, (PV.sl none 83 3 (List.map z02 a0))), (1, (PV.sl none 83 3 (List.map z02 a1))), (5, (I64 s1)), (15, (BO i))]) (fun i => []) ?_ ?_ ?_
 intro i; exact ⟨lbE rfl, ⟨(z0a (z06 z01 _)), ⟨(z0a (z06 z01 _)), ⟨(z0a rfl), ⟨(z0a rfl), trivial⟩⟩⟩⟩, trivial⟩
 rintro s2 h; replace h : z8n (fun y0 => g1_f y0) a0 a1 s1 s2 = some r := h; unfold z8n at h
 change BW _ _ _ ⟨[(0, (PV.sl none 83 3 (List.map z02 a0))), (1, (PV.sl none 83 3 (List.map z02 a1))), (5, (I64 s1)), (15, (BO s2))], [], _⟩ _
 refine cX h rfl ?_ ?_
 intro hc3 h
 refine z08 ?_
 refine cBx ?_
 refine z09 ?_
 refine z0j ?_
 refine cBx ?_
 refine z09 (z1t 8 [] [] mo (by kernel_rfl) ?_)
 iterate 2 refine gX ?_
 obtain ⟨x4, hx4, h⟩ := obind h
 refine z1m rfl rfl rfl rfl (fun H hp => z1w Tryz.underlying30 z19 rfl rfl rfl hx4 rfl) ?_
 iterate 3 refine gX ?_
 obtain ⟨x5, hx5, h⟩ := obind h
 refine z1m rfl rfl rfl rfl (fun H hp => z1w Tryz.underlying30 z19 rfl rfl rfl hx5 rfl) ?_
 refine gX ?_
 refine z1y ?_
 change AO _ _ _ _ _
 refine sS rfl rfl rfl ((zor zv6 rfl rfl rfl true rfl).cast (y := (BO ((!(x4.f_Name == x5.f_Name && (x4.f_At == x5.f_At && x4.f_Index == x5.f_Index)))))) rfl rfl) (z0b ?_)
 refine cBx ?_
 refine cX h rfl ?_ ?_
 intro hc6 h
 refine bR ?_
 refine eX ?_
 obtain rfl := eI h; exact z04 eK
 intro hc6 h
 refine z08 ?_
 refine cBx ?_
 refine z0f ?_
 iterate 2 refine sX ?_
 refine sX (z0b ?_)
 exact ⟨rfl, (IntKind.i64.wrap (s1 + 1)), h, jN⟩
 intro hc3 h
 refine z2b ?_
 refine cBx ?_
 refine bR ?_
 refine eX ?_
 obtain rfl := eI h; exact z04 eK
 refine z0f ?_
 iterate 5 refine sX ?_
 refine z0p (t := 10) rfl ?_ ?_
 intro hb7; replace h := z0r hb7 h
 iterate 4 refine yX ?_
 refine sX (z0b ?_)
 exact ⟨rfl, (decide (s1 < (((a1).length : Nat) : Int))), h, jN⟩
 intro hb7; replace h := z0s hb7 h
 iterate 4 refine nX ?_
 refine sX (z0b ?_)
 exact ⟨rfl, false, h, jN⟩
noncomputable def zd6 (x17 x18 : (V × Int)) (s19 : Bool) : Option Bool :=
 bif s19 then (
 some (x17.2 == x18.2)
 ) else (
 (zco x17.1 x18.1).bind fun x21 =>
 some x21
 )
noncomputable def zab (a1 a2 : (List S_api_Step)) (x3 x4 x5 : V) (x6 : (V × Int)) (s13 : Bool) : Option Bool :=
 bif s13 then (
 some true
 ) else (
 (zbq x3 a2 x5).bind fun x15 =>
 bif (x15.2 != 0) then (
 some true
 ) else (
 (zbq x6.1 a2 x5).bind fun x17 =>
 (zbq x15.1 a1 x4).bind fun x18 =>
 bif (x17.2 != 0) then (
 zd6 x17 x18 true
 ) else (
 zd6 x17 x18 (x18.2 != 0)
 )
 )
 )
noncomputable def zd7 (a1 a2 : (List S_api_Step)) (x3 x4 x5 : V) (x6 : (V × Int)) (s10 : Bool) : Option Bool :=
 bif s10 then (
 some false
 ) else (
 (zcm x3 a2).bind fun x12 =>
 bif (x12.2 != 0) then (
 zab a1 a2 x3 x4 x5 x6 true
 ) else (
 (zra a1 a2).bind fun x24 =>
 bif x24 then (
 zab a1 a2 x3 x4 x5 x6 true
 ) else (
 zab a1 a2 x3 x4 x5 x6 (x6.2 != 0)
 )
 )
 )
noncomputable def zbh (a1 a2 : (List S_api_Step)) (x3 x4 x5 : V) (x6 : (V × Int)) : Option Bool :=
 (zcm x3 a1).bind fun x7 =>
 bif (x7.2 != 0) then (
 some (x7.1).isNil
 ) else (
 (zbq x3 a1 x7.1).bind fun x9 =>
 bif (x9.2 != 0) then (
 zd7 a1 a2 x3 x4 x5 x6 true
 ) else (
 (zco x9.1 x3).bind fun x27 =>
 zd7 a1 a2 x3 x4 x5 x6 (!x27)
 )
 )
noncomputable def zd5 (a1 a2 : (List S_api_Step)) (x3 x4 x5 : V) (x6 : (V × Int)) (s30 : Bool) : Option Bool :=
 bif s30 then (
 some false
 ) else (
 zbh a1 a2 x3 x4 x5 x6
 )
noncomputable def zrb (a0 : Term) (a1 a2 : (List S_api_Step)) (a3 a4 : Term) : Option Bool :=
 (zoi).bind fun x1 =>
 bif (!x1) then (
 some false
 ) else (
 (z7n a0).bind fun x3 =>
 (z7n a3).bind fun x4 =>
 (z7n a4).bind fun x5 =>
 (zbq x3 a1 x4).bind fun x6 =>
 bif (x6.2 == 0) then (
 (zcm x6.1 a1).bind fun x29 =>
 bif (x29.2 != 0) then (
 zd5 a1 a2 x3 x4 x5 x6 true
 ) else (
 (zco x29.1 x4).bind fun x33 =>
 zd5 a1 a2 x3 x4 x5 x6 (!x33)
 )
 ) else (
 zbh a1 a2 x3 x4 x5 x6
 )
 )
theorem Z17 (a0 : Term) (a1 a2 : (List S_api_Step)) (a3 a4 : Term) (r : Bool) (h : zrb a0 a1 a2 a3 a4 = some r) : z0l Tryz.prog 3 [(z2g a0), (PV.sl none 83 3 (List.map z02 a1)), (PV.sl none 83 3 (List.map z02 a2)), (z2g a3), (z2g a4)] (BO r) := by
 unfold zrb at h
 refine z0c Tryz.func3 rfl Tryz.ntmps3 Tryz.results3 rfl (z0i ?_)
 change BW _ _ _ ⟨[(0, (z2g a0)), (1, (PV.sl none 83 3 (List.map z02 a1))), (2, (PV.sl none 83 3 (List.map z02 a2))), (3, (z2g a3)), (4, (z2g a4))], [], _⟩ _
 refine bR ?_
 iterate 3 refine sX ?_
 refine eX ?_
 refine z09 ?_
 refine bR ?_
 obtain ⟨x1, hx1, h⟩ := obind h
 refine sS rfl rfl rfl (z05 rfl Z4e rfl .nil trivial (Z11  x1 hx1) rfl) ?_
 refine eX ?_
 refine cX h rfl ?_ ?_
 intro hc2 h
 refine bR ?_
 refine eX ?_
 obtain rfl := eI h; exact z04 eK
 intro hc2 h
 refine z08 ?_
 refine cBx ?_
 refine z09 (z1t 5 [] [0, 1, 2] mo (by kernel_rfl) ?_)
 refine gX ?_
 obtain ⟨x3, hx3, h⟩ := obind h
 refine z1m rfl rfl rfl rfl (fun H hp => z05 rfl zzy rfl (wkr .nil) ⟨(z71 a0), trivial⟩ (zv8 a0 x3 hx3) (ids_V x3)) ?_
 refine gX ?_
 obtain ⟨x4, hx4, h⟩ := obind h
 refine z1m rfl rfl rfl rfl (fun H hp => z05 rfl zzy rfl (wkr .nil) ⟨(z71 a3), trivial⟩ (zv8 a3 x4 hx4) (ids_V x4)) ?_
 refine gX ?_
 refine z1y ?_
 change AO _ _ _ _ _
 obtain ⟨x5, hx5, h⟩ := obind h
 refine sS rfl rfl rfl (z05 rfl zzy rfl (wkr .nil) ⟨(z71 a4), trivial⟩ (zv8 a4 x5 hx5) (ids_V x5)) ?_
 iterate 2 refine sX ?_
 refine eX ?_
 refine bR ?_
 iterate 3 refine sX ?_
 obtain ⟨x6, hx6, h⟩ := obind h
 refine sS rfl rfl rfl (z05 rfl zmh rfl (wkr (wkr (wkr .nil))) ⟨(ids_V x3), ⟨(z06 z01 a1), ⟨(ids_V x4), trivial⟩⟩⟩ (zl2 x3 a1 x4 x6 hx6) (z00 (ids_V x6.1) (z00 rfl z03))) ?_
 iterate 4 refine sX ?_
 refine eX ?_
 refine z2h (ι := Unit) (fun i => zbh a1 a2 x3 x4 x5 x6 = some r) (fun i => [(1, (PV.sl none 83 3 (List.map z02 a1))), (2, (PV.sl none 83 3 (List.map z02 a2))), (11, (ofV x3)), (12, (ofV x4)), (13, (ofV x5)), (14, (ofV x6.1)), (15, (I64 x6.2))]) (fun i => []) ?_ ?_ ?_
 intro i; exact ⟨lbE rfl, ⟨(z0a (z06 z01 _)), ⟨(z0a (z06 z01 _)), ⟨(z0a (ids_V _)), ⟨(z0a (ids_V _)), ⟨(z0a (ids_V _)), ⟨(z0a (ids_V _)), ⟨(z0a rfl), trivial⟩⟩⟩⟩⟩⟩⟩, trivial⟩
 rintro ⟨⟩ h; replace h : zbh a1 a2 x3 x4 x5 x6 = some r := h; unfold zbh at h
 change BW _ _ _ ⟨[(1, (PV.sl none 83 3 (List.map z02 a1))), (2, (PV.sl none 83 3 (List.map z02 a2))), (11, (ofV x3)), (12, (ofV x4)), (13, (ofV x5)), (14, (ofV x6.1)), (15, (I64 x6.2))], [], _⟩ _
 refine bR ?_
 iterate 2 refine sX ?_
 obtain ⟨x7, hx7, h⟩ := obind h
 refine sS rfl rfl rfl (z05 rfl zsx rfl (wkr (wkr .nil)) ⟨(ids_V x3), ⟨(z06 z01 a1), trivial⟩⟩ (zqr x3 a1 x7 hx7) (z00 (ids_V x7.1) (z00 rfl z03))) ?_
 iterate 4 refine sX ?_
 refine eX ?_
 refine z09 ?_
 refine bR ?_
 refine sX ?_
 refine eX ?_
 refine cX h rfl ?_ ?_
 intro hc8 h
 refine bR ?_
 refine sX ?_
 refine sS rfl rfl rfl (zdf Tryz.underlying20 rfl rfl) ?_
 refine eX ?_
 obtain rfl := eI h; exact z04 eK
 intro hc8 h
 refine z08 ?_
 refine cBx ?_
 refine bR ?_
 iterate 3 refine sX ?_
 obtain ⟨x9, hx9, h⟩ := obind h
 refine sS rfl rfl rfl (z05 rfl zmh rfl (wkr (wkr (wkr .nil))) ⟨(ids_V x3), ⟨(z06 z01 a1), ⟨(ids_V x7.1), trivial⟩⟩⟩ (zl2 x3 a1 x7.1 x9 hx9) (z00 (ids_V x9.1) (z00 rfl z03))) ?_
 iterate 4 refine sX ?_
 refine eX ?_
 refine z09 ?_
 refine z2h (ι := Bool) (fun i => zd7 a1 a2 x3 x4 x5 x6 i = some r) (fun i => [(1, (PV.sl none 83 3 (List.map z02 a1))), (2, (PV.sl none 83 3 (List.map z02 a2))), (11, (ofV x3)), (12, (ofV x4)), (13, (ofV x5)), (14, (ofV x6.1)), (15, (I64 x6.2)), (85, (BO i))]) (fun i => []) ?_ ?_ ?_
 intro i; exact ⟨lbE rfl, ⟨(z0a (z06 z01 _)), ⟨(z0a (z06 z01 _)), ⟨(z0a (ids_V _)), ⟨(z0a (ids_V _)), ⟨(z0a (ids_V _)), ⟨(z0a (ids_V _)), ⟨(z0a rfl), ⟨(z0a rfl), trivial⟩⟩⟩⟩⟩⟩⟩⟩, trivial⟩
 rintro s10 h; replace h : zd7 a1 a2 x3 x4 x5 x6 s10 = some r := h; unfold zd7 at h
 change BW _ _ _ ⟨[(1, (PV.sl none 83 3 (List.map z02 a1))), (2, (PV.sl none 83 3 (List.map z02 a2))), (11, (ofV x3)), (12, (ofV x4)), (13, (ofV x5)), (14, (ofV x6.1)), (15, (I64 x6.2)), (85, (BO s10))], [], _⟩ _
 refine cX h rfl ?_ ?_
 intro hc11 h
 refine bR ?_
 refine eX ?_
 obtain rfl := eI h; exact z04 eK
 intro hc11 h
 refine z08 ?_
 refine cBx ?_
 refine bR ?_
 iterate 2 refine sX ?_
 obtain ⟨x12, hx12, h⟩ := obind h
 refine sS rfl rfl rfl (z05 rfl zsx rfl (wkr (wkr .nil)) ⟨(ids_V x3), ⟨(z06 z01 a2), trivial⟩⟩ (zqr x3 a2 x12 hx12) (z00 (ids_V x12.1) (z00 rfl z03))) ?_
 iterate 4 refine sX ?_
 refine eX ?_
 refine z09 ?_
 refine z2h (ι := Bool) (fun i => zab a1 a2 x3 x4 x5 x6 i = some r) (fun i => [(1, (PV.sl none 83 3 (List.map z02 a1))), (2, (PV.sl none 83 3 (List.map z02 a2))), (11, (ofV x3)), (12, (ofV x4)), (13, (ofV x5)), (14, (ofV x6.1)), (102, (BO i))]) (fun i => []) ?_ ?_ ?_
 intro i; exact ⟨lbE rfl, ⟨(z0a (z06 z01 _)), ⟨(z0a (z06 z01 _)), ⟨(z0a (ids_V _)), ⟨(z0a (ids_V _)), ⟨(z0a (ids_V _)), ⟨(z0a (ids_V _)), ⟨(z0a rfl), trivial⟩⟩⟩⟩⟩⟩⟩, trivial⟩
 rintro s13 h; replace h : zab a1 a2 x3 x4 x5 x6 s13 = some r := h; unfold zab at h
 change BW _ _ _ ⟨[(1, (PV.sl none 83 3 (List.map z02 a1))), (2, (PV.sl none 83 3 (List.map z02 a2))), (11, (ofV x3)), (12, (ofV x4)), (13, (ofV x5)), (14, (ofV x6.1)), (102, (BO s13))], [], _⟩ _
 refine cX h rfl ?_ ?_
 intro hc14 h
 refine bR ?_
 refine eX ?_
 obtain rfl := eI h; exact z04 eK
 intro hc14 h
 refine z08 ?_
 refine cBx ?_
 refine bR ?_
 iterate 3 refine sX ?_
 obtain ⟨x15, hx15, h⟩ := obind h
 refine sS rfl rfl rfl (z05 rfl zmh rfl (wkr (wkr (wkr .nil))) ⟨(ids_V x3), ⟨(z06 z01 a2), ⟨(ids_V x5), trivial⟩⟩⟩ (zl2 x3 a2 x5 x15 hx15) (z00 (ids_V x15.1) (z00 rfl z03))) ?_
 iterate 4 refine sX ?_
 refine eX ?_
 refine z09 ?_
 refine bR ?_
 refine sX ?_
 refine eX ?_
 refine cX h rfl ?_ ?_
 intro hc16 h
 refine bR ?_
 refine eX ?_
 obtain rfl := eI h; exact z04 eK
 intro hc16 h
 refine z08 ?_
 refine cBx ?_
 refine bR ?_
 iterate 3 refine sX ?_
 obtain ⟨x17, hx17, h⟩ := obind h
 refine sS rfl rfl rfl (z05 rfl zmh rfl (wkr (wkr (wkr .nil))) ⟨(ids_V x6.1), ⟨(z06 z01 a2), ⟨(ids_V x5), trivial⟩⟩⟩ (zl2 x6.1 a2 x5 x17 hx17) (z00 (ids_V x17.1) (z00 rfl z03))) ?_
 iterate 4 refine sX ?_
 refine eX ?_
 refine bR ?_
 iterate 3 refine sX ?_
 obtain ⟨x18, hx18, h⟩ := obind h
 refine sS rfl rfl rfl (z05 rfl zmh rfl (wkr (wkr (wkr .nil))) ⟨(ids_V x15.1), ⟨(z06 z01 a1), ⟨(ids_V x4), trivial⟩⟩⟩ (zl2 x15.1 a1 x4 x18 hx18) (z00 (ids_V x18.1) (z00 rfl z03))) ?_
 iterate 4 refine sX ?_
 refine eX ?_
 refine z09 ?_
 refine z2h (ι := Bool) (fun i => zd6 x17 x18 i = some r) (fun i => [(26, (ofV x17.1)), (27, (I64 x17.2)), (28, (ofV x18.1)), (29, (I64 x18.2)), (131, (BO i))]) (fun i => []) ?_ ?_ ?_
 intro i; exact ⟨lbE rfl, ⟨(z0a (ids_V _)), ⟨(z0a rfl), ⟨(z0a (ids_V _)), ⟨(z0a rfl), ⟨(z0a rfl), trivial⟩⟩⟩⟩⟩, trivial⟩
 rintro s19 h; replace h : zd6 x17 x18 s19 = some r := h; unfold zd6 at h
 change BW _ _ _ ⟨[(26, (ofV x17.1)), (27, (I64 x17.2)), (28, (ofV x18.1)), (29, (I64 x18.2)), (131, (BO s19))], [], _⟩ _
 refine cX h rfl ?_ ?_
 intro hc20 h
 refine bR ?_
 iterate 3 refine sX ?_
 refine eX ?_
 obtain rfl := eI h; exact z04 eK
 intro hc20 h
 refine z08 ?_
 refine cBx ?_
 refine bR ?_
 iterate 2 refine sX ?_
 obtain ⟨x21, hx21, h⟩ := obind h
 refine sS rfl rfl rfl (z05 rfl zmg rfl (wkr (wkr .nil)) ⟨(ids_V x17.1), ⟨(ids_V x18.1), trivial⟩⟩ (zl3 x17.1 x18.1 x21 hx21) rfl) ?_
 refine eX ?_
 obtain rfl := eI h; exact z04 eK
 refine z0f ?_
 iterate 3 refine sX ?_
 refine z0p (t := 128) rfl ?_ ?_
 intro hb22; replace h := z0r hb22 h
 iterate 2 refine nX ?_
 refine sX (z0b ?_)
 exact ⟨rfl, true, h, jN⟩
 intro hb22; replace h := z0s hb22 h
 iterate 2 refine yX ?_
 refine sX (z0b ?_)
 exact ⟨rfl, (x18.2 != 0), h, jN⟩
 refine z0f ?_
 iterate 3 refine sX ?_
 refine z0p (t := 94) rfl ?_ ?_
 intro hb23; replace h := z0r hb23 h
 iterate 3 refine nX ?_
 iterate 2 refine sX ?_
 iterate 2 refine nX ?_
 refine sX (z0b ?_)
 exact ⟨rfl, true, h, jN⟩
 intro hb23; replace h := z0s hb23 h
 iterate 2 refine yX ?_
 obtain ⟨x24, hx24, h⟩ := obind h
 refine z1i rfl rfl rfl rfl rfl rfl (z05 rfl Z2t rfl (wkr (wkr .nil)) ⟨(z06 z01 a1), ⟨(z06 z01 a2), trivial⟩⟩ (Z15 a1 a2 x24 hx24) rfl) ?_
 iterate 2 refine sX ?_
 refine z0p (t := 99) rfl ?_ ?_
 intro hb25; replace h := z0r hb25 h
 iterate 2 refine nX ?_
 refine sX (z0b ?_)
 exact ⟨rfl, true, h, jN⟩
 intro hb25; replace h := z0s hb25 h
 iterate 2 refine yX ?_
 refine sX (z0b ?_)
 exact ⟨rfl, (x6.2 != 0), h, jN⟩
 refine z0f ?_
 iterate 3 refine sX ?_
 refine z0p (t := 80) rfl ?_ ?_
 intro hb26; replace h := z0r hb26 h
 iterate 4 refine nX ?_
 refine sX (z0b ?_)
 exact ⟨rfl, true, h, jN⟩
 intro hb26; replace h := z0s hb26 h
 iterate 2 refine yX ?_
 obtain ⟨x27, hx27, h⟩ := obind h
 refine z1i rfl rfl rfl rfl rfl rfl (z05 rfl zmg rfl (wkr (wkr .nil)) ⟨(ids_V x9.1), ⟨(ids_V x3), trivial⟩⟩ (zl3 x9.1 x3 x27 hx27) rfl) ?_
 refine yX ?_
 refine sX (z0b ?_)
 exact ⟨rfl, (!x27), h, jN⟩
 refine bR ?_
 refine sX ?_
 refine eX ?_
 refine cX h rfl ?_ ?_
 intro hc28 h
 refine bR ?_
 iterate 2 refine sX ?_
 obtain ⟨x29, hx29, h⟩ := obind h
 refine sS rfl rfl rfl (z05 rfl zsx rfl (wkr (wkr .nil)) ⟨(ids_V x6.1), ⟨(z06 z01 a1), trivial⟩⟩ (zqr x6.1 a1 x29 hx29) (z00 (ids_V x29.1) (z00 rfl z03))) ?_
 iterate 4 refine sX ?_
 refine eX ?_
 refine z2h (ι := Bool) (fun i => zd5 a1 a2 x3 x4 x5 x6 i = some r) (fun i => [(1, (PV.sl none 83 3 (List.map z02 a1))), (2, (PV.sl none 83 3 (List.map z02 a2))), (11, (ofV x3)), (12, (ofV x4)), (13, (ofV x5)), (14, (ofV x6.1)), (15, (I64 x6.2)), (60, (BO i))]) (fun i => []) ?_ ?_ ?_
 intro i; exact ⟨lbE rfl, ⟨(z0a (z06 z01 _)), ⟨(z0a (z06 z01 _)), ⟨(z0a (ids_V _)), ⟨(z0a (ids_V _)), ⟨(z0a (ids_V _)), ⟨(z0a (ids_V _)), ⟨(z0a rfl), ⟨(z0a rfl), trivial⟩⟩⟩⟩⟩⟩⟩⟩, trivial⟩
 rintro s30 h; replace h : zd5 a1 a2 x3 x4 x5 x6 s30 = some r := h; unfold zd5 at h
 change BW _ _ _ ⟨[(1, (PV.sl none 83 3 (List.map z02 a1))), (2, (PV.sl none 83 3 (List.map z02 a2))), (11, (ofV x3)), (12, (ofV x4)), (13, (ofV x5)), (14, (ofV x6.1)), (15, (I64 x6.2)), (60, (BO s30))], [], _⟩ _
 refine cX h rfl ?_ ?_
 intro hc31 h
 refine bR ?_
 refine eX ?_
 obtain rfl := eI h; exact z04 eK
 intro hc31 h
 refine z08 ?_
 exact ⟨rfl, (), h, jN⟩
 refine z0f ?_
 iterate 3 refine sX ?_
 refine z0p (t := 55) rfl ?_ ?_
 intro hb32; replace h := z0r hb32 h
 iterate 4 refine nX ?_
 refine sX (z0b ?_)
 exact ⟨rfl, true, h, jN⟩
 intro hb32; replace h := z0s hb32 h
 iterate 2 refine yX ?_
 obtain ⟨x33, hx33, h⟩ := obind h
 refine z1i rfl rfl rfl rfl rfl rfl (z05 rfl zmg rfl (wkr (wkr .nil)) ⟨(ids_V x29.1), ⟨(ids_V x4), trivial⟩⟩ (zl3 x29.1 x4 x33 hx33) rfl) ?_
 refine yX ?_
 refine sX (z0b ?_)
 exact ⟨rfl, (!x33), h, jN⟩
 intro hc28 h
 refine z08 ?_
 exact ⟨rfl, (), h, jN⟩
end Go.Proofs.YthidgpcbnieleaaGreatDoor
