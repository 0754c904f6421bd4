/- Pure functions, and that calls answer as they say. -/
import Derived.Test.YtmoijodjgkfhgaaGreatG2
namespace Go.Proofs.YtmoijodjgkfhgaaGreat
open Go Aw
set_option linter.unusedVariables false
set_option linter.unusedSimpArgs false
set_option maxRecDepth 20000
set_option maxHeartbeats 2000000
variable {ι : Type} {ρ : ι → Type}
noncomputable def z68 (r_q1a : V → Option V) (a0 : (List (Str × V))) (g1 : (List (Str × V)) → Nat → Option (List (Str × V))) (s2 : (List (Str × V))) (s3 : Nat) : Option (List (Str × V)) :=
 bif (decide (((s3 : Nat) : Int) < (((a0).length : Nat) : Int))) then (
 ((a0)[s3]?).bind fun x6 =>
 (r_q1a x6.2).bind fun x7 =>
 (zch 32 s2 ([(x6.1, x7)] : (List (Str × V)))).bind fun x8 =>
 g1 x8 (s3 + 1)
 ) else (
 some s2
 )
theorem zbj (r_q1a : OF ρ → V → Option V) (h_r_q1a : ∀ y0, CM (fun G => r_q1a G y0)) (g1 : OF ρ → (List (Str × V)) → Nat → Option (List (Str × V))) (h_g1 : ∀ y0 y1, CM (fun G => g1 G y0 y1)) (a0 s2 : (List (Str × V))) (s3 : Nat) : CM (fun G : OF ρ => z68 (r_q1a G) a0 (g1 G) s2 s3) := by
 simp only [z68]
 repeat (first | exact z0i | exact h_r_q1a _ | exact h_g1 _ _ | refine z18 ?_ ?_ | refine z19 ?_ (fun _ => ?_))
noncomputable def zfc (r_q1a : V → Option V) (a0 s2 : (List (Str × V))) (s3 : Nat) : Option (List (Str × V)) :=
 z3q (ι := ((List (Str × V)) × Nat)) (ρ := fun _ => (List (Str × V))) (fun g i => z68 r_q1a a0 (fun s2 s3 => g (s2, s3)) i.1 i.2) (s2, s3)
theorem zie (r_q1a : V → Option V) (a0 s2 : (List (Str × V))) (s3 : Nat) : zfc r_q1a a0 s2 s3 = z68 r_q1a a0 (zfc r_q1a a0) s2 s3 :=
 z1j (ι := ((List (Str × V)) × Nat)) (ρ := fun _ => (List (Str × V))) (Φ := fun g i => z68 r_q1a a0 (fun s2 s3 => g (s2, s3)) i.1 i.2) (fun i => zbj (ι := ((List (Str × V)) × Nat)) (ρ := fun _ => (List (Str × V))) (fun _ => r_q1a) (fun _ => z0i) (fun g => (fun s2 s3 => g (s2, s3))) (fun _ _ => z1l) a0 i.1 i.2) (s2, s3)
theorem zrn (r_q1a : OF ρ → V → Option V) (h_r_q1a : ∀ y0, CM (fun G => r_q1a G y0)) (a0 s2 : (List (Str × V))) (s3 : Nat) : CM (fun G : OF ρ => zfc (r_q1a G) a0 s2 s3) :=
 z5z (κ := ((List (Str × V)) × Nat)) (τ := fun _ => (List (Str × V))) (Φ := fun G g i => z68 (r_q1a G) a0 (fun s2 s3 => g (s2, s3)) i.1 i.2) (fun g i => zbj r_q1a h_r_q1a (fun _ => (fun s2 s3 => g (s2, s3))) (fun _ _ => z0i) a0 i.1 i.2) (fun G i => zbj (ι := ((List (Str × V)) × Nat)) (ρ := fun _ => (List (Str × V))) (fun _ => r_q1a G) (fun _ => z0i) (fun g => (fun s2 s3 => g (s2, s3))) (fun _ _ => z1l) a0 i.1 i.2) (s2, s3)
noncomputable def zm3 (r_q0p : (List (Str × V)) → Option (List (Str × V))) (r_q1a : V → Option V) (a0 : (List (Str × V))) : Option (List (Str × V)) :=
 (zkr ((a0).length) 32).bind fun x1 =>
 zfc r_q1a a0 ([] : (List (Str × V))) 0
theorem zyd (r_q0p : OF ρ → (List (Str × V)) → Option (List (Str × V))) (h_r_q0p : ∀ y0, CM (fun G => r_q0p G y0)) (r_q1a : OF ρ → V → Option V) (h_r_q1a : ∀ y0, CM (fun G => r_q1a G y0)) (a0 : (List (Str × V))) : CM (fun G : OF ρ => zm3 (r_q0p G) (r_q1a G) a0) := by
 simp only [zm3]
 repeat (first | exact z0i | exact h_r_q0p _ | exact h_r_q1a _ | apply zrn | refine z18 ?_ ?_ | refine z19 ?_ (fun _ => ?_) | intro _ | assumption)
noncomputable def z66 (r_q1a : V → Option V) (a0 : V) (g1 : (List V) → Nat → Option V) (s5 : (List V)) (s6 : Nat) : Option V :=
 bif (decide (((s6 : Nat) : Int) < ((((a0).asList).length : Nat) : Int))) then (
 (((a0).asList)[s6]?).bind fun x9 =>
 (r_q1a x9).bind fun x10 =>
 (zch 16 s5 ([x10] : (List V))).bind fun x11 =>
 g1 x11 (s6 + 1)
 ) else (
 some (V.list s5)
 )
theorem zbh (r_q1a : OF ρ → V → Option V) (h_r_q1a : ∀ y0, CM (fun G => r_q1a G y0)) (g1 : OF ρ → (List V) → Nat → Option V) (h_g1 : ∀ y0 y1, CM (fun G => g1 G y0 y1)) (a0 : V) (s5 : (List V)) (s6 : Nat) : CM (fun G : OF ρ => z66 (r_q1a G) a0 (g1 G) s5 s6) := by
 simp only [z66]
 repeat (first | exact z0i | exact h_r_q1a _ | exact h_g1 _ _ | refine z18 ?_ ?_ | refine z19 ?_ (fun _ => ?_))
noncomputable def zfa (r_q1a : V → Option V) (a0 : V) (s5 : (List V)) (s6 : Nat) : Option V :=
 z3q (ι := ((List V) × Nat)) (ρ := fun _ => V) (fun g i => z66 r_q1a a0 (fun s5 s6 => g (s5, s6)) i.1 i.2) (s5, s6)
theorem zia (r_q1a : V → Option V) (a0 : V) (s5 : (List V)) (s6 : Nat) : zfa r_q1a a0 s5 s6 = z66 r_q1a a0 (zfa r_q1a a0) s5 s6 :=
 z1j (ι := ((List V) × Nat)) (ρ := fun _ => V) (Φ := fun g i => z66 r_q1a a0 (fun s5 s6 => g (s5, s6)) i.1 i.2) (fun i => zbh (ι := ((List V) × Nat)) (ρ := fun _ => V) (fun _ => r_q1a) (fun _ => z0i) (fun g => (fun s5 s6 => g (s5, s6))) (fun _ _ => z1l) a0 i.1 i.2) (s5, s6)
theorem zrj (r_q1a : OF ρ → V → Option V) (h_r_q1a : ∀ y0, CM (fun G => r_q1a G y0)) (a0 : V) (s5 : (List V)) (s6 : Nat) : CM (fun G : OF ρ => zfa (r_q1a G) a0 s5 s6) :=
 z5z (κ := ((List V) × Nat)) (τ := fun _ => V) (Φ := fun G g i => z66 (r_q1a G) a0 (fun s5 s6 => g (s5, s6)) i.1 i.2) (fun g i => zbh r_q1a h_r_q1a (fun _ => (fun s5 s6 => g (s5, s6))) (fun _ _ => z0i) a0 i.1 i.2) (fun G i => zbh (ι := ((List V) × Nat)) (ρ := fun _ => V) (fun _ => r_q1a G) (fun _ => z0i) (fun g => (fun s5 s6 => g (s5, s6))) (fun _ _ => z1l) a0 i.1 i.2) (s5, s6)
noncomputable def zm1 (r_q0p : (List (Str × V)) → Option (List (Str × V))) (r_q1a : V → Option V) (a0 : V) : Option V :=
 bif (a0).isBytes then (
 (zch 1 ([] : Str) ((a0).asBytes)).bind fun x2 =>
 some (V.bytes x2)
 ) else (
 bif (a0).isList then (
 (zkr (((a0).asList).length) 16).bind fun x4 =>
 zfa r_q1a a0 ([] : (List V)) 0
 ) else (
 bif (a0).isDict then (
 (r_q0p ((a0).asDict)).bind fun x13 =>
 some (V.dict x13)
 ) else (
 bif (a0).isRec then (
 ((a0).asRec).bind fun x15 =>
 (r_q0p x15.fields).bind fun x16 =>
 some (V.record x15.cls x15.ver x16)
 ) else (
 some a0
 )
 )
 )
 )
theorem zyb (r_q0p : OF ρ → (List (Str × V)) → Option (List (Str × V))) (h_r_q0p : ∀ y0, CM (fun G => r_q0p G y0)) (r_q1a : OF ρ → V → Option V) (h_r_q1a : ∀ y0, CM (fun G => r_q1a G y0)) (a0 : V) : CM (fun G : OF ρ => zm1 (r_q0p G) (r_q1a G) a0) := by
 simp only [zm1]
 repeat (first | exact z0i | exact h_r_q0p _ | exact h_r_q1a _ | apply zrj | refine z18 ?_ ?_ | refine z19 ?_ (fun _ => ?_) | intro _ | assumption)
inductive C_q0p where
 | k_q0p (a0 : (List (Str × V)))
 | k_q1a (a0 : V)
def C_q0p.R : C_q0p → Type
 | .k_q0p _ => (List (Str × V))
 | .k_q1a _ => V
noncomputable def C_q0p.F (g : ∀ i : C_q0p, Option i.R) : ∀ i : C_q0p, Option i.R
 | .k_q0p a0 => zm3 (fun a0 => g (.k_q0p a0)) (fun a0 => g (.k_q1a a0)) a0
 | .k_q1a a0 => zm1 (fun a0 => g (.k_q0p a0)) (fun a0 => g (.k_q1a a0)) a0
noncomputable def zw6 (a0 : (List (Str × V))) : Option (List (Str × V)) := z3q C_q0p.F (.k_q0p a0)
noncomputable def ze2 (a0 : V) : Option V := z3q C_q0p.F (.k_q1a a0)
abbrev gg7 := fun (g : ∀ i : C_q0p, Option i.R) a0 => g (.k_q0p a0)
theorem hh7 (a0 : _) : CM (ρ := C_q0p.R) (fun g => g (C_q0p.k_q0p a0)) := z1l
abbrev gg8 := fun (g : ∀ i : C_q0p, Option i.R) a0 => g (.k_q1a a0)
theorem hh8 (a0 : _) : CM (ρ := C_q0p.R) (fun g => g (C_q0p.k_q1a a0)) := z1l
theorem C_q0p.cm (i : C_q0p) : CM (fun g : (∀ i : C_q0p, Option i.R) => C_q0p.F g i) := by
 cases i with
 | k_q0p a0 => exact zyd gg7 hh7 gg8 hh8 a0
 | k_q1a a0 => exact zyb gg7 hh7 gg8 hh8 a0
theorem Z8z (a0 : (List (Str × V))) : zw6 a0 = zm3 zw6 ze2 a0 := z1j C_q0p.cm (.k_q0p a0)
theorem Z8x (a0 : V) : ze2 a0 = zm1 zw6 ze2 a0 := z1j C_q0p.cm (.k_q1a a0)
def C_q0p.Q : ∀ i : C_q0p, i.R → Prop
 | .k_q0p a0 => fun (r : (List (Str × V))) => z0p Tryz.prog 106 [(PV.sl none 86 2 (List.map ofFld a0))] (PV.sl none 86 2 (List.map ofFld r))
 | .k_q1a a0 => fun (r : V) => z0p Tryz.prog 67 [(ofV a0)] (ofV r)
theorem za6 (r_q0p : (List (Str × V)) → Option (List (Str × V))) (c_q0p : ∀ (a0 : (List (Str × V))) r, r_q0p a0 = some r → z0p Tryz.prog 106 [(PV.sl none 86 2 (List.map ofFld a0))] (PV.sl none 86 2 (List.map ofFld r))) (r_q1a : V → Option V) (c_q1a : ∀ (a0 : V) r, r_q1a a0 = some r → z0p Tryz.prog 67 [(ofV a0)] (ofV r)) (a0 r : (List (Str × V))) (h : zm3 r_q0p r_q1a a0 = some r) : z0p Tryz.prog 106 [(PV.sl none 86 2 (List.map ofFld a0))] (PV.sl none 86 2 (List.map ofFld r)) := by
 unfold zm3 at h
 refine z0j Tryz.func106 rfl Tryz.ntmps106 Tryz.results106 rfl (z0n ?_)
 change BW _ _ _ ⟨[(0, (PV.sl none 86 2 (List.map ofFld a0)))], [], _⟩ _
 refine bR ?_
 refine eX ?_
 refine bR ?_
 iterate 2 refine sX ?_
 obtain ⟨x1, hx1, h⟩ := obind h
 refine sS rfl rfl rfl ((zt2 (f := ofFld) (c := ((a0).length)) Tryz.underlying68 z13 rfl rfl rfl rfl hx1 (p := (PV.agg [(ofStr []), (PV.v .nilIface)])) rfl).cast (y := (PV.sl (some 0) 86 2 (List.map ofFld ([] : (List (Str × V)))))) rfl rfl) ?_
 refine eX ?_
 refine z0f ?_
 refine bR ?_
 iterate 2 refine sX ?_
 refine eX ?_
 refine z0o ?_
 refine cBx ?_
 unfold zfc at h
 refine z3p (σ := ((List (Str × V)) × Nat)) (fun i => [(3, (PV.sl (some 0) 86 2 (List.map ofFld i.1))), (9, (PV.sl none 86 2 (List.map ofFld a0))), (10, (I64 ((((a0).length : Nat) : Int)))), (11, (I64 (((i.2 : Nat) : Int))))]) (fun i => [.arr 86 (i.1).length]) (([] : (List (Str × V))), 0) h ?_ ?_ ?_
 intro i; exact ⟨lbE rfl, ⟨(z2x rfl (z0s z0m _)), ⟨(z07 (z05 z0m _)), ⟨(z07 rfl), ⟨(z07 rfl), trivial⟩⟩⟩⟩, trivial⟩
 exact jN
 rintro g1_f ⟨s2, s3⟩ h; replace h : z68 r_q1a a0 (fun y0 y1 => g1_f (y0, y1)) s2 s3 = some r := h; unfold z68 at h
 change BW _ _ _ ⟨[(3, (PV.sl (some 0) 86 2 (List.map ofFld s2))), (9, (PV.sl none 86 2 (List.map ofFld a0))), (10, (I64 ((((a0).length : Nat) : Int)))), (11, (I64 (((s3 : Nat) : Int))))], [.arr 86 (s2).length], _⟩ _
 refine bR ?_
 refine eX ?_
 refine z0f ?_
 refine z4a (t := 9) rfl fun hb5 => ?_
 try rw [List.length_map] at hb5
 refine cX h rfl ?_ ?_
 intro hc4 h
 have hc4_ := of_decide_eq_true hc4
 refine z0g ?_
 refine cBx ?_
 refine z0f ?_
 refine z0o ?_
 refine cBx ?_
 refine bR ?_
 obtain ⟨x6, hx6, h⟩ := obind h
 refine sS rfl rfl rfl (z1p (i := s3) Tryz.underlying68 z13 rfl rfl rfl hx6 rfl) ?_
 refine sX ?_
 refine sS rfl rfl rfl ((z1h z13 rfl).cast (H'' := [.arr 86 (s2).length, .box 86 [(ofStr []), (ofV V.nil)]]) rfl (by simp only [mk_nil]; rfl)) ?_
 refine z14 rfl rfl (z0y z13 rfl rfl rfl rfl rfl rfl (lbE rfl) (by show List.all [(ofStr x6.1), (ofV x6.2)] z45 = true; simp only [List.all_cons, List.all_nil, z3w, z1q, Bool.and_true, Bool.true_and]; try rfl)) ?_
 refine z0h ?_
 refine cBx ?_
 refine z1w 8 [7] [1] mo (by kernel_rfl) ?_
 iterate 5 refine gX ?_
 obtain ⟨x7, hx7, h⟩ := obind h
 refine z1r rfl rfl rfl rfl (fun H hp => z08 rfl Z2d rfl (wkr .nil) ⟨(ids_V x6.2), trivial⟩ (c_q1a x6.2 x7 hx7) (ids_V x7)) ?_
 refine z1r rfl rfl rfl rfl (fun H hp => z12 (cs := [(ofStr x6.1), (ofV x7)]) z9g z13 rfl rfl (by simp only [List.all_cons, List.all_nil, z2l, z16, Bool.and_true, Bool.true_and]; try rfl) (by simp only [z2c, List.getElem?_cons_zero, List.getElem?_cons_succ, z0u, z0k]; rfl)) ?_
 refine zci rfl rfl rfl rfl ((z1a (xs := [(PV.agg [(ofStr x6.1), (ofV x7)])]) Tryz.underlying68 z13 rfl rfl rfl (by simp only [List.all_cons, List.all_nil, z2l, z16, Bool.and_true, Bool.true_and]; try rfl) (by simp only [List.all_cons, List.all_nil, csz_V, z2p, z0u, z0k]; try rfl) rfl ⟨lbE rfl, lbE rfl⟩ (by simp only [z8y, z2c, List.flatMap_cons, List.flatMap_nil, z0u, z0k]; try rfl)).cast (y := (PV.sl (some 2) 86 2 (List.map ofFld ([(x6.1, x7)] : (List (Str × V)))))) rfl rfl) ⟨rfl, trivial⟩ ?_
 refine z20 ?_
 change AO _ _ _ _ _
 obtain ⟨x8, hx8, h⟩ := obind h
 refine sS rfl rfl rfl (z34 Tryz.underlying68 z13 rfl Tryz.underlying68 rfl rfl rfl rfl z7w z75 hx8 rfl) ?_
 refine eX ?_
 refine z0l ?_
 refine sS rfl rfl rfl (z2o (k := s3) (c := 1) rfl rfl rfl (by omega)) ?_
 refine sX (z0h ?_)
 exact ⟨rfl, (x8, (s3 + 1)), h, jN⟩
 intro hc4 h
 refine z2b ?_
 refine cBx ?_
 refine bR ?_
 refine sX ?_
 refine eX ?_
 obtain rfl := eI h; exact z06 ⟨_, rfl, z0r (y := (PV.sl none 86 2 (List.map ofFld s2))) Wk.tok (z05 z0m s2) ⟨rfl, rfl⟩⟩
theorem zev (r_q0p : (List (Str × V)) → Option (List (Str × V))) (c_q0p : ∀ (a0 : (List (Str × V))) r, r_q0p a0 = some r → z0p Tryz.prog 106 [(PV.sl none 86 2 (List.map ofFld a0))] (PV.sl none 86 2 (List.map ofFld r))) (r_q1a : V → Option V) (c_q1a : ∀ (a0 : V) r, r_q1a a0 = some r → z0p Tryz.prog 67 [(ofV a0)] (ofV r)) (a0 r : V) (h : zm1 r_q0p r_q1a a0 = some r) : z0p Tryz.prog 67 [(ofV a0)] (ofV r) := by
 unfold zm1 at h
 refine z0j Tryz.func67 rfl Tryz.ntmps67 Tryz.results67 rfl (z0n ?_)
 change BW _ _ _ ⟨[(0, (ofV a0))], [], _⟩ _
 refine bR ?_
 refine eX ?_
 refine z0f ?_
 refine bR ?_
 refine eX ?_
 refine z0o ?_
 refine cBx ?_
 refine bR ?_
 refine sS rfl rfl rfl (z7n rfl rfl) ?_
 refine sX ?_
 refine eX ?_
 refine cX h rfl ?_ ?_
 intro hc1 h
 refine bR ?_
 refine eX ?_
 refine bR ?_
 refine sS rfl rfl rfl ((z1a (xs := []) Tryz.underlying23 inf_5 rfl rfl rfl rfl rfl rfl ⟨lbE rfl, lbE rfl⟩ rfl).cast (y := (PV.sl (some 0) 5 1 (List.map ofB ([] : Str)))) rfl rfl) ?_
 refine sX ?_
 obtain ⟨x2, hx2, h⟩ := obind h
 refine sS rfl rfl rfl (z34 Tryz.underlying23 inf_5 rfl Tryz.underlying23 rfl rfl rfl rfl (fun _ => rfl) (fun _ => rfl) hx2 rfl) ?_
 refine sS rfl rfl rfl ((z15 Tryz.underlying23 rfl rfl rfl).wk ((Wk.iface Wk.tok).trans (Wk.eq (znf _).symm))) ?_
 refine eX ?_
 obtain rfl := eI h; exact z06 ⟨_, rfl, z0r (y := (ofV (V.bytes x2))) (Wk.refl _) (ids_V (V.bytes x2)) ⟨rfl, rfl⟩⟩
 intro hc1 h
 refine bR ?_
 refine sS rfl rfl rfl (z1x rfl rfl) ?_
 refine sX ?_
 refine eX ?_
 refine cX h rfl ?_ ?_
 intro hc3 h
 refine bR ?_
 refine eX ?_
 refine bR ?_
 iterate 2 refine sX ?_
 obtain ⟨x4, hx4, h⟩ := obind h
 refine sS rfl rfl rfl ((zt2 (f := ofV) (c := (((a0).asList).length)) Tryz.underlying66 z1v rfl rfl rfl rfl hx4 (p := (PV.v .nilIface)) rfl).cast (y := (PV.sl (some 0) 20 1 (List.map ofV ([] : (List V))))) rfl rfl) ?_
 refine eX ?_
 refine z0f ?_
 refine bR ?_
 iterate 2 refine sX ?_
 refine eX ?_
 refine z0o ?_
 refine cBx ?_
 unfold zfa at h
 refine z3p (σ := ((List V) × Nat)) (fun i => [(5, (PV.sl (some 0) 20 1 (List.map ofV i.1))), (24, (PV.sl none 20 1 (List.map ofV (a0).asList))), (25, (I64 (((((a0).asList).length : Nat) : Int)))), (26, (I64 (((i.2 : Nat) : Int))))]) (fun i => [.arr 20 (i.1).length]) (([] : (List V)), 0) h ?_ ?_ ?_
 intro i; exact ⟨lbE rfl, ⟨(z2x rfl (z0s ids_V _)), ⟨(z07 (z05 ids_V _)), ⟨(z07 rfl), ⟨(z07 rfl), trivial⟩⟩⟩⟩, trivial⟩
 exact jN
 rintro g1_f ⟨s5, s6⟩ h; replace h : z66 r_q1a a0 (fun y0 y1 => g1_f (y0, y1)) s5 s6 = some r := h; unfold z66 at h
 change BW _ _ _ ⟨[(5, (PV.sl (some 0) 20 1 (List.map ofV s5))), (24, (PV.sl none 20 1 (List.map ofV (a0).asList))), (25, (I64 (((((a0).asList).length : Nat) : Int)))), (26, (I64 (((s6 : Nat) : Int))))], [.arr 20 (s5).length], _⟩ _
 refine bR ?_
 refine eX ?_
 refine z0f ?_
 refine z4a (t := 24) rfl fun hb8 => ?_
 try rw [List.length_map] at hb8
 refine cX h rfl ?_ ?_
 intro hc7 h
 have hc7_ := of_decide_eq_true hc7
 refine z0g ?_
 refine cBx ?_
 refine z0f ?_
 refine z0o ?_
 refine cBx ?_
 refine bR ?_
 obtain ⟨x9, hx9, h⟩ := obind h
 refine sS rfl rfl rfl (z1p (i := s6) Tryz.underlying66 z1v rfl rfl rfl hx9 rfl) ?_
 refine sS rfl rfl rfl (z4e (y := (ofV x9)) Tryz.underlying20 rfl rfl rfl (by rw [z0u]; rfl)) ?_
 refine eX ?_
 refine z0l ?_
 iterate 2 refine sX ?_
 obtain ⟨x10, hx10, h⟩ := obind h
 refine sS rfl rfl rfl (z08 rfl Z2d rfl (wkr .nil) ⟨(ids_V x9), trivial⟩ (c_q1a x9 x10 hx10) (ids_V x10)) ?_
 refine sS rfl rfl rfl ((z1a (xs := [(ofV x10)]) Tryz.underlying66 z1v rfl rfl rfl (by simp only [List.all_cons, List.all_nil, z2l, z16, Bool.and_true, Bool.true_and]; try rfl) (by simp only [List.all_cons, List.all_nil, csz_V, z2p, z0u, z0k]; try rfl) rfl ⟨lbE rfl, lbE rfl⟩ (by simp only [z8y, z2c, List.flatMap_cons, List.flatMap_nil, z0u, z0k]; try rfl)).cast (y := (PV.sl (some 1) 20 1 (List.map ofV ([x10] : (List V))))) rfl rfl) ?_
 obtain ⟨x11, hx11, h⟩ := obind h
 refine sS rfl rfl rfl (z34 Tryz.underlying66 z1v rfl Tryz.underlying66 rfl rfl rfl rfl csz_V z7x hx11 rfl) ?_
 refine eX ?_
 refine z0l ?_
 refine sS rfl rfl rfl (z2o (k := s6) (c := 1) rfl rfl rfl (by omega)) ?_
 refine sX (z0h ?_)
 exact ⟨rfl, (x11, (s6 + 1)), h, jN⟩
 intro hc7 h
 refine z2b ?_
 refine cBx ?_
 refine bR ?_
 refine sX ?_
 refine sS rfl rfl rfl ((z15 Tryz.underlying66 rfl rfl rfl).wk ((Wk.iface Wk.tok).trans (Wk.eq (zby _).symm))) ?_
 refine eX ?_
 obtain rfl := eI h; exact z06 ⟨_, rfl, z0r (y := (ofV (V.list s5))) (Wk.refl _) (ids_V (V.list s5)) ⟨rfl, rfl⟩⟩
 intro hc3 h
 refine bR ?_
 refine sS rfl rfl rfl (z2v rfl rfl) ?_
 refine sX ?_
 refine eX ?_
 refine cX h rfl ?_ ?_
 intro hc12 h
 refine bR ?_
 refine eX ?_
 refine bR ?_
 refine sX ?_
 obtain ⟨x13, hx13, h⟩ := obind h
 refine sS rfl rfl rfl (z08 rfl zzw rfl (wkr .nil) ⟨(z05 z0m ((a0).asDict)), trivial⟩ (c_q0p ((a0).asDict) x13 hx13) (z05 z0m x13)) ?_
 refine sS rfl rfl rfl ((z15 Tryz.underlying68 rfl rfl rfl).wk ((Wk.iface (Wk.refl _)).trans (Wk.eq (z4t _).symm))) ?_
 refine eX ?_
 obtain rfl := eI h; exact z06 ⟨_, rfl, z0r (y := (ofV (V.dict x13))) (Wk.refl _) (ids_V (V.dict x13)) ⟨rfl, rfl⟩⟩
 intro hc12 h
 refine bR ?_
 refine sS rfl rfl rfl (z3g rfl rfl) ?_
 refine sX ?_
 refine eX ?_
 refine cX h rfl ?_ ?_
 intro hc14 h
 refine bR ?_
 refine eX ?_
 refine z0f (z1w 13 [] [] mo (by kernel_rfl) ?_)
 refine gX ?_
 obtain ⟨x15, hx15, h⟩ := obind h
 refine z1r rfl rfl rfl rfl (fun H hp => z1o rfl rfl hx15) ?_
 iterate 3 refine gX ?_
 refine z1r rfl rfl rfl rfl (fun H hp => z1o rfl rfl hx15) ?_
 iterate 3 refine gX ?_
 refine z1r rfl rfl rfl rfl (fun H hp => z1o rfl rfl hx15) ?_
 iterate 2 refine gX ?_
 obtain ⟨x16, hx16, h⟩ := obind h
 refine z1r rfl rfl rfl rfl (fun H hp => z08 rfl zzw rfl (wkr .nil) ⟨(z05 z0m x15.fields), trivial⟩ (c_q0p x15.fields x16 hx16) (z05 z0m x16)) ?_
 refine z20 ?_
 change AO _ _ _ _ _
 refine sS rfl rfl rfl (z12 (cs := [(ofStr x15.cls), (I64 x15.ver), (PV.sl none 86 2 (List.map ofFld x16))]) zkl zfu rfl rfl rfl rfl) ?_
 refine sX ?_
 refine sS rfl rfl rfl (z15 Tryz.underlying70 rfl rfl rfl) ?_
 refine eX ?_
 refine z4v 0 2 (y := (ofV (V.record x15.cls x15.ver x16))) rfl rfl ((Wk.iface (Wk.pt (x := .agg [(ofStr x15.cls), (I64 x15.ver), (PV.sl none 86 2 (List.map ofFld x16))]) (y := zgy (Rec.mk x15.cls x15.ver x16)) (wkr (wkr (wkr .nil))))).trans (Wk.eq (zfp (some (Rec.mk x15.cls x15.ver x16))).symm)) ?_
 obtain rfl := eI h; exact z06 ⟨_, rfl, z0r (y := (ofV (V.record x15.cls x15.ver x16))) (Wk.refl _) (ids_V (V.record x15.cls x15.ver x16)) ⟨rfl, rfl⟩⟩
 intro hc14 h
 refine z0g ?_
 refine cBx ?_
 refine bR ?_
 refine sX ?_
 refine eX ?_
 obtain rfl := eI h; exact z06 ⟨_, rfl, z0r (y := (ofV a0)) (Wk.refl _) (ids_V a0) ⟨rfl, rfl⟩⟩
theorem C_q0p.sound : ∀ (i : C_q0p) (r : i.R), z3q C_q0p.F i = some r → C_q0p.Q i r := by
 refine z50 (Φ := C_q0p.F) (Q := C_q0p.Q) ?_
 intro g hg i r h
 cases i with
 | k_q0p a0 => exact za6 (fun a0 => g (.k_q0p a0)) (fun a0 r hr => hg (.k_q0p a0) r hr) (fun a0 => g (.k_q1a a0)) (fun a0 r hr => hg (.k_q1a a0) r hr) a0 r h
 | k_q1a a0 => exact zev (fun a0 => g (.k_q0p a0)) (fun a0 r hr => hg (.k_q0p a0) r hr) (fun a0 => g (.k_q1a a0)) (fun a0 r hr => hg (.k_q1a a0) r hr) a0 r h
theorem Z78 (a0 r : V) (h : ze2 a0 = some r) : z0p Tryz.prog 67 [(ofV a0)] (ofV r) := C_q0p.sound (.k_q1a a0) r h
noncomputable def ze1 (a0 : V) : Option (V × Int) :=
 (zj1 a0).bind fun x1 =>
 bif (x1.2 != 0) then (
 some (V.nil, x1.2)
 ) else (
 (ze2 a0).bind fun x3 =>
 some (x3, 0)
 )
theorem Z0k (a0 : V) (r : (V × Int)) (h : ze1 a0 = some r) : z0p Tryz.prog 38 [(ofV a0)] (PV.tup [(ofV r.1), (I64 r.2)]) := by
 unfold ze1 at h
 refine z0j Tryz.func38 rfl Tryz.ntmps38 Tryz.results38 rfl (z0n ?_)
 change BW _ _ _ ⟨[(0, (ofV a0))], [], _⟩ _
 refine bR ?_
 refine sX ?_
 refine eX ?_
 refine z0f ?_
 refine bR ?_
 refine sX ?_
 obtain ⟨x1, hx1, h⟩ := obind h
 refine sS rfl rfl rfl (z08 rfl zxm rfl (wkr .nil) ⟨(ids_V a0), trivial⟩ (zvi a0 x1 hx1) (z00 rfl (z00 rfl z04))) ?_
 iterate 4 refine sX ?_
 refine eX ?_
 refine bR ?_
 refine sX ?_
 refine eX ?_
 refine cX h rfl ?_ ?_
 intro hc2 h
 refine bR ?_
 iterate 2 refine sX ?_
 refine eX ?_
 obtain rfl := eI h; exact z06 ⟨_, rfl, z0r (y := (PV.tup [(ofV V.nil), (I64 x1.2)])) (Wk.tup (.cons (Wk.eq mk_nil.symm) (wkr .nil))) (z00 (ids_V V.nil) (z00 rfl z04)) ⟨rfl, rfl⟩⟩
 intro hc2 h
 refine z0g ?_
 refine cBx ?_
 refine bR ?_
 refine sX ?_
 obtain ⟨x3, hx3, h⟩ := obind h
 refine sS rfl rfl rfl (z08 rfl Z2d rfl (wkr .nil) ⟨(ids_V a0), trivial⟩ (Z78 a0 x3 hx3) (ids_V x3)) ?_
 refine sX ?_
 refine eX ?_
 obtain rfl := eI h; exact z06 ⟨_, rfl, z0r (y := (PV.tup [(ofV x3), (I64 0)])) (Wk.refl _) (z00 (ids_V x3) (z00 rfl z04)) ⟨rfl, rfl⟩⟩
noncomputable def zj2 (a0 : V) : Option V :=
 (ze1 a0).bind fun x1 =>
 some x1.1
theorem zvj (a0 r : V) (h : zj2 a0 = some r) : z0p Tryz.prog 50 [(ofV a0)] (ofV r) := by
 unfold zj2 at h
 refine z0j Tryz.func50 rfl Tryz.ntmps50 Tryz.results50 rfl (z0n ?_)
 change BW _ _ _ ⟨[(0, (ofV a0))], [], _⟩ _
 refine bR ?_
 refine eX ?_
 refine bR ?_
 refine sX ?_
 obtain ⟨x1, hx1, h⟩ := obind h
 refine sS rfl rfl rfl (z08 rfl Z2f rfl (wkr .nil) ⟨(ids_V a0), trivial⟩ (Z0k a0 x1 hx1) (z00 (ids_V x1.1) (z00 rfl z04))) ?_
 iterate 4 refine sX ?_
 refine eX ?_
 refine bR ?_
 refine sX ?_
 refine eX ?_
 obtain rfl := eI h; exact z06 ⟨_, rfl, z0r (y := (ofV x1.1)) (Wk.refl _) (ids_V x1.1) ⟨rfl, rfl⟩⟩
noncomputable def zwa (a0 : (List S_api_Step)) (a1 a2 a3 : S_merge_side) : Option S_api_Conflict :=
 (zpf a0).bind fun x1 =>
 (zj2 a1.f_v).bind fun x2 =>
 (zj2 a2.f_v).bind fun x3 =>
 (zj2 a3.f_v).bind fun x4 =>
 some (S_api_Conflict.mk x1 x2 x3 x4 a1.f_has a2.f_has a3.f_has)
theorem Z7n (a0 : (List S_api_Step)) (a1 a2 a3 : S_merge_side) (r : S_api_Conflict) (h : zwa a0 a1 a2 a3 = some r) : z0p Tryz.prog 116 [(PV.pt 47 (PV.sl none 82 3 (List.map z01 a0)) 0), (PV.pt 125 (z09 a1) 0), (PV.pt 125 (z09 a2) 0), (PV.pt 125 (z09 a3) 0)] (z03 r) := by
 unfold zwa at h
 refine z0j Tryz.func116 rfl Tryz.ntmps116 Tryz.results116 rfl (z0n ?_)
 change BW _ _ _ ⟨[(0, (PV.pt 47 (PV.sl none 82 3 (List.map z01 a0)) 0)), (1, (PV.pt 125 (z09 a1) 0)), (2, (PV.pt 125 (z09 a2) 0)), (3, (PV.pt 125 (z09 a3) 0))], [], _⟩ _
 refine bR ?_
 refine sS rfl rfl rfl ((z1h zcf rfl).cast (H'' := [.box 88 [(PV.v (.slice none 0 0)), (ofV V.nil), (ofV V.nil), (ofV V.nil), (BO false), (BO false), (BO false)]]) rfl (by simp only [mk_nil]; rfl)) (z0h ?_)
 refine cBx ?_
 refine z0f (z1w 17 [] [] mo (by kernel_rfl) ?_)
 refine gX ?_
 obtain ⟨x1, hx1, h⟩ := obind h
 refine z1r rfl rfl rfl rfl (fun H hp => z08 rfl Z5k rfl (wkr .nil) ⟨(z05 z02 a0), trivial⟩ (Z4a a0 x1 hx1) (z05 z02 x1)) ?_
 iterate 2 refine gX ?_
 obtain ⟨x2, hx2, h⟩ := obind h
 refine z1r rfl rfl rfl rfl (fun H hp => z08 rfl zxk rfl (wkr .nil) ⟨(ids_V a1.f_v), trivial⟩ (zvj a1.f_v x2 hx2) (ids_V x2)) ?_
 iterate 2 refine gX ?_
 obtain ⟨x3, hx3, h⟩ := obind h
 refine z1r rfl rfl rfl rfl (fun H hp => z08 rfl zxk rfl (wkr .nil) ⟨(ids_V a2.f_v), trivial⟩ (zvj a2.f_v x3 hx3) (ids_V x3)) ?_
 iterate 2 refine gX ?_
 obtain ⟨x4, hx4, h⟩ := obind h
 refine z1r rfl rfl rfl rfl (fun H hp => z08 rfl zxk rfl (wkr .nil) ⟨(ids_V a3.f_v), trivial⟩ (zvj a3.f_v x4 hx4) (ids_V x4)) ?_
 iterate 6 refine gX ?_
 refine z20 ?_
 change AO _ _ _ _ _
 refine sS rfl rfl rfl (z12 (cs := [(PV.sl none 82 3 (List.map z01 x1)), (ofV x2), (ofV x3), (ofV x4), (BO a1.f_has), (BO a2.f_has), (BO a3.f_has)]) Z3o zcf rfl rfl (by simp only [List.all_cons, List.all_nil, z2l, z16, Bool.and_true, Bool.true_and]; try rfl) (by simp only [z2c, List.getElem?_cons_zero, List.getElem?_cons_succ, z0u, z0k]; rfl)) ?_
 refine z14 rfl rfl (z0y zcf rfl rfl rfl rfl rfl rfl (lbE rfl) (by show List.all [(PV.sl none 82 3 (List.map z01 x1)), (ofV x2), (ofV x3), (ofV x4), (BO a1.f_has), (BO a2.f_has), (BO a3.f_has)] z45 = true; simp only [List.all_cons, List.all_nil, z3w, z1q, Bool.and_true, Bool.true_and]; try rfl)) ?_
 refine z0h ?_
 refine cBx ?_
 obtain rfl := eI h; exact z06 ⟨_, rfl, z0r (y := (z03 (S_api_Conflict.mk x1 x2 x3 x4 a1.f_has a2.f_has a3.f_has))) (Wk.refl _) (z0a (S_api_Conflict.mk x1 x2 x3 x4 a1.f_has a2.f_has a3.f_has)) ⟨rfl, rfl⟩⟩
noncomputable def zw9 (a0 : S_merge_merger) (a1 : (List S_api_Step)) (a2 a3 a4 : S_merge_side) : Option (S_merge_side × S_merge_merger) :=
 (zwa a1 a2 a3 a4).bind fun x1 =>
 (zch 80 a0.f_conflicts ([x1] : (List S_api_Conflict))).bind fun x2 =>
 some (a3, (S_merge_merger.mk a0.f_settle x2))
theorem Z7m (a0 : S_merge_merger) (a1 : (List S_api_Step)) (a2 a3 a4 : S_merge_side) (r : (S_merge_side × S_merge_merger)) (h : zw9 a0 a1 a2 a3 a4 = some r) : z2t Tryz.prog 89 [(PV.rf 0 0), (PV.sl none 82 3 (List.map z01 a1)), (z09 a2), (z09 a3), (z09 a4)] [.box 121 [(PV.v .nilFunc), (PV.sl (some 1) 88 7 (List.map z03 a0.f_conflicts))], .arr 88 (a0.f_conflicts).length] (z09 r.1) [.box 121 [(PV.v .nilFunc), (PV.sl (some 1) 88 7 (List.map z03 (r.2).f_conflicts))], .arr 88 ((r.2).f_conflicts).length] := by
 unfold zw9 at h
 refine z0j Tryz.func89 rfl Tryz.ntmps89 Tryz.results89 rfl (z0n ?_)
 change BW _ _ _ ⟨[(0, (PV.rf 0 0)), (1, (PV.sl none 82 3 (List.map z01 a1))), (2, (z09 a2)), (3, (z09 a3)), (4, (z09 a4))], [.box 121 [(PV.v .nilFunc), (PV.sl (some 1) 88 7 (List.map z03 a0.f_conflicts))], .arr 88 (a0.f_conflicts).length], _⟩ _
 refine bR ?_
 iterate 5 refine sX ?_
 refine sS rfl rfl rfl ((z1h z1m rfl).cast (H'' := [.box 121 [(PV.v .nilFunc), (PV.sl (some 1) 88 7 (List.map z03 a0.f_conflicts))], .arr 88 (a0.f_conflicts).length, .box 119 [(PV.rf 0 0)], .box 47 [(PV.sl none 82 3 (List.map z01 a1))], .box 125 [(ofV a2.f_v), (BO a2.f_has)], .box 125 [(ofV a3.f_v), (BO a3.f_has)], .box 125 [(ofV a4.f_v), (BO a4.f_has)], .box 125 [(ofV V.nil), (BO false)]]) rfl (by simp only [mk_nil]; rfl)) (z0h ?_)
 refine cBx ?_
 refine z0f ?_
 refine z4v 3 6 (y := (PV.pt 47 (PV.sl none 82 3 (List.map z01 a1)) 0)) rfl rfl (Wk.pt (x := .agg [(PV.sl none 82 3 (List.map z01 a1))]) (y := (PV.sl none 82 3 (List.map z01 a1))) (wkr .nil)) ?_
 refine z4v 4 7 (y := (PV.pt 125 (z09 a2) 0)) rfl rfl (Wk.pt (x := .agg [(ofV a2.f_v), (BO a2.f_has)]) (y := (z09 a2)) (wkr (wkr .nil))) ?_
 refine z4v 5 8 (y := (PV.pt 125 (z09 a3) 0)) rfl rfl (Wk.pt (x := .agg [(ofV a3.f_v), (BO a3.f_has)]) (y := (z09 a3)) (wkr (wkr .nil))) ?_
 refine z4v 6 9 (y := (PV.pt 125 (z09 a4) 0)) rfl rfl (Wk.pt (x := .agg [(ofV a4.f_v), (BO a4.f_has)]) (y := (z09 a4)) (wkr (wkr .nil))) ?_
 refine z0l ?_
 refine sS rfl rfl rfl (ze8 rfl rfl rfl) ?_
 refine sS rfl rfl rfl (z1h ztv rfl) ?_
 refine z14 rfl rfl (z0y ztv rfl rfl rfl rfl rfl rfl (lbE rfl) rfl) ?_
 refine z0h ?_
 refine cBx ?_
 refine z0f (z1w 9 [7, 8] [0, 2, 8] mo (by kernel_rfl) ?_)
 iterate 2 refine gX ?_
 refine z1r rfl rfl rfl rfl (fun H hp => z3t rfl rfl) ?_
 iterate 3 refine gX ?_
 obtain ⟨x1, hx1, h⟩ := obind h
 refine z1r rfl rfl rfl rfl (fun H hp => z2q rfl rfl Z5v rfl (wkr (wkr (wkr (wkr .nil)))) ⟨(z8r (z05 z02 a1)), ⟨(z0d a2), ⟨(z0d a3), ⟨(z0d a4), trivial⟩⟩⟩⟩ (Z7n a1 a2 a3 a4 x1 hx1) (z0a x1)) ?_
 refine zci rfl rfl rfl rfl ((z1a (xs := [(z03 x1)]) Tryz.underlying59 zcf rfl rfl rfl (by simp only [List.all_cons, List.all_nil, z2l, z16, Bool.and_true, Bool.true_and]; try rfl) (by simp only [List.all_cons, List.all_nil, csz_V, z2p, z0u, z0k]; try rfl) rfl ⟨lbE rfl, lbE rfl⟩ (by simp only [z8y, z2c, List.flatMap_cons, List.flatMap_nil, z0u, z0k]; try rfl)).cast (y := (PV.sl (some 9) 88 7 (List.map z03 ([x1] : (List S_api_Conflict))))) rfl rfl) ⟨rfl, ⟨rfl, ⟨rfl, trivial⟩⟩⟩ ?_
 obtain ⟨x2, hx2, h⟩ := obind h
 refine zci rfl rfl rfl rfl (z34 Tryz.underlying59 zcf rfl Tryz.underlying59 rfl rfl rfl rfl zb3 z9k hx2 rfl) ⟨rfl, ⟨rfl, ⟨rfl, trivial⟩⟩⟩ ?_
 refine z20 ?_
 change AO _ _ _ _ _
 refine sS rfl rfl rfl (z3t rfl rfl) ?_
 refine sX ?_
 refine z14 rfl rfl (z0y zjo rfl rfl rfl rfl rfl rfl (lbE rfl) rfl) ?_
 refine z0h ?_
 refine cBx ?_
 refine z0f ?_
 refine bR ?_
 refine sX ?_
 refine sS rfl rfl rfl (z3t rfl rfl) ?_
 iterate 2 refine sX ?_
 refine sS rfl rfl rfl (zx0 Tryz.underlying95 ⟨_, _, _, rfl⟩ rfl rfl rfl (.inl ⟨rfl, rfl⟩)) (z0h ?_)
 refine cBx ?_
 refine zd3 rfl ?_
 refine bR ?_
 refine sX ?_
 refine z14 rfl rfl (z0y z1m rfl rfl rfl rfl rfl rfl (lbE rfl) (by show List.all [(ofV a3.f_v), (BO a3.f_has)] z45 = true; simp only [List.all_cons, List.all_nil, z3w, z1q, Bool.and_true, Bool.true_and]; try rfl)) ?_
 refine z0h ?_
 refine cBx ?_
 obtain rfl := eI h; exact z06 ⟨_, rfl, endR (y := (z09 a3)) 2 (Wk.refl _) rfl rfl (.same (z0d a3)) (.cons (.box (.cons (.same rfl) (.cons (.row rfl (z0s z0a (((S_merge_merger.mk a0.f_settle x2)).f_conflicts))) .nil))) (.cons .arr .nil)) ⟨rfl, rfl⟩⟩
noncomputable def zp8 (a0 : V) : Option ((List (Str × V)) × Str × Int × Bool) :=
 bif (a0).isDict then (
 some ((a0).asDict, ([] : Str), 0, true)
 ) else (
 bif (a0).isRec then (
 ((a0).asRec).bind fun x3 =>
 some (x3.fields, x3.cls, x3.ver, true)
 ) else (
 some ([], ([] : Str), 0, false)
 )
 )
theorem Z0o (a0 : V) (r : ((List (Str × V)) × Str × Int × Bool)) (h : zp8 a0 = some r) : z0p Tryz.prog 112 [(ofV a0)] (PV.tup [(PV.sl none 86 2 (List.map ofFld r.1)), (ofStr r.2.1), (I64 r.2.2.1), (BO r.2.2.2)]) := by
 unfold zp8 at h
 refine z0j Tryz.func112 rfl Tryz.ntmps112 Tryz.results112 rfl (z0n ?_)
 change BW _ _ _ ⟨[(0, (ofV a0))], [], _⟩ _
 refine bR ?_
 iterate 3 refine sX ?_
 refine eX ?_
 refine z0f ?_
 refine bR ?_
 refine eX ?_
 refine z0o ?_
 refine cBx ?_
 refine bR ?_
 refine sS rfl rfl rfl (z2v rfl rfl) ?_
 refine sX ?_
 refine eX ?_
 refine cX h rfl ?_ ?_
 intro hc1 h
 refine bR ?_
 refine eX ?_
 refine bR ?_
 iterate 4 refine sX ?_
 refine eX ?_
 obtain rfl := eI h; exact z06 ⟨_, rfl, z0r (y := (PV.tup [(PV.sl none 86 2 (List.map ofFld (a0).asDict)), (ofStr ([] : Str)), (I64 0), (BO true)])) (Wk.refl _) (z00 (z05 z0m ((a0).asDict)) (z00 rfl (z00 rfl (z00 rfl z04)))) ⟨rfl, rfl⟩⟩
 intro hc1 h
 refine bR ?_
 refine sS rfl rfl rfl (z3g rfl rfl) ?_
 refine sX ?_
 refine eX ?_
 refine cX h rfl ?_ ?_
 intro hc2 h
 refine bR ?_
 refine eX ?_
 refine z0f (z1w 14 [] [] mo (by kernel_rfl) ?_)
 refine gX ?_
 obtain ⟨x3, hx3, h⟩ := obind h
 refine z1r rfl rfl rfl rfl (fun H hp => z1o rfl rfl hx3) ?_
 iterate 3 refine gX ?_
 refine z1r rfl rfl rfl rfl (fun H hp => z1o rfl rfl hx3) ?_
 iterate 3 refine gX ?_
 refine z1r rfl rfl rfl rfl (fun H hp => z1o rfl rfl hx3) ?_
 iterate 4 refine gX ?_
 refine z20 ?_
 change AO _ _ _ _ _
 refine sX ?_
 refine eX ?_
 obtain rfl := eI h; exact z06 ⟨_, rfl, z0r (y := (PV.tup [(PV.sl none 86 2 (List.map ofFld x3.fields)), (ofStr x3.cls), (I64 x3.ver), (BO true)])) (Wk.refl _) (z00 (z05 z0m x3.fields) (z00 rfl (z00 rfl (z00 rfl z04)))) ⟨rfl, rfl⟩⟩
 intro hc2 h
 refine z0g ?_
 refine cBx ?_
 refine bR ?_
 iterate 3 refine sX ?_
 refine eX ?_
 obtain rfl := eI h; exact z06 ⟨_, rfl, z0r (y := (PV.tup [(PV.sl none 86 2 (List.map ofFld [])), (ofStr ([] : Str)), (I64 0), (BO false)])) (Wk.tup (.cons Wk.nil (wkr (wkr (wkr .nil))))) (z00 (z05 z0m ([])) (z00 rfl (z00 rfl (z00 rfl z04)))) ⟨rfl, rfl⟩⟩
noncomputable def zj5 (a0 : (List S_api_Step)) : Option (List S_api_Step) :=
 some a0
theorem zvk (a0 r : (List S_api_Step)) (h : zj5 a0 = some r) : z2t Tryz.prog 57 [(PV.sl none 82 3 (List.map z01 a0))] [] (PV.sl (some 0) 82 3 (List.map z01 r)) [.arr 82 (r).length] := by
 unfold zj5 at h
 refine z0j Tryz.func57 rfl Tryz.ntmps57 Tryz.results57 rfl (z0n ?_)
 change BW _ _ _ ⟨[(0, (PV.sl none 82 3 (List.map z01 a0)))], [], _⟩ _
 refine bR ?_
 refine eX ?_
 refine bR ?_
 iterate 5 refine sX ?_
 refine sS rfl rfl rfl (zt8 Tryz.underlying47 z1u rfl rfl rfl rfl) ?_
 refine eX ?_
 obtain rfl := eI h; exact z06 ⟨_, rfl, Z5a (y := (PV.sl (some 0) 82 3 (List.map z01 a0))) 0 rfl (Wk.refl _) (zpx (z0s z02 _)) (z6o (z0s z02 _) rfl) ⟨rfl, rfl⟩⟩
noncomputable def zw2 (a0 : (Str × V)) (a1 : Str) : Option Bool :=
 some (a0.1 == a1)
theorem Z7d (a0 : (Str × V)) (a1 : Str) (r : Bool) (h : zw2 a0 a1 = some r) : z0p Tryz.prog 133 [(ofFld a0), (PV.pt 9 (ofStr a1) 0)] (BO r) := by
 unfold zw2 at h
 refine z0j Tryz.func133 rfl Tryz.ntmps133 Tryz.results133 rfl (z0n ?_)
 change BW _ _ _ ⟨[(0, (ofFld a0)), (1, (PV.pt 9 (ofStr a1) 0))], [], _⟩ _
 refine bR ?_
 refine sX ?_
 refine eX ?_
 refine bR ?_
 iterate 3 refine sX ?_
 refine sS rfl rfl rfl ((z2r (a := a0.1) (b := a1) rfl rfl rfl rfl).cast (y := (BO ((a0.1 == a1)))) rfl rfl) ?_
 refine eX ?_
 obtain rfl := eI h; exact z06 eK
noncomputable def z7h (a0 : (List (Str × V))) (a1c0 : Str) (g1 : Nat → Option Int) (s1 : Nat) : Option Int :=
 bif (decide (((s1 : Nat) : Int) < (((a0).length : Nat) : Int))) then (
 ((a0)[s1]?).bind fun x4 =>
 (zw2 x4 a1c0).bind fun x5 =>
 bif x5 then (
 some ((s1 : Nat) : Int)
 ) else (
 g1 (s1 + 1)
 )
 ) else (
 some (-1)
 )
theorem zoz (g1 : OF ρ → Nat → Option Int) (h_g1 : ∀ y0, CM (fun G => g1 G y0)) (a0 : (List (Str × V))) (a1c0 : Str) (s1 : Nat) : CM (fun G : OF ρ => z7h a0 a1c0 (g1 G) s1) := by
 simp only [z7h]
 repeat (first | exact z0i | exact h_g1 _ | refine z18 ?_ ?_ | refine z19 ?_ (fun _ => ?_))
noncomputable def zis (a0 : (List (Str × V))) (a1c0 : Str) (s1 : Nat) : Option Int :=
 z3q (ι := Nat) (ρ := fun _ => Int) (fun g i => z7h a0 a1c0 (fun s1 => g s1) i) s1
theorem zir (a0 : (List (Str × V))) (a1c0 : Str) (s1 : Nat) : zis a0 a1c0 s1 = z7h a0 a1c0 (zis a0 a1c0) s1 :=
 z1j (ι := Nat) (ρ := fun _ => Int) (Φ := fun g i => z7h a0 a1c0 (fun s1 => g s1) i) (fun i => zoz (ι := Nat) (ρ := fun _ => Int) (fun g => (fun s1 => g s1)) (fun _ => z1l) a0 a1c0 i) s1
noncomputable def zwc (a0 : (List (Str × V))) (a1c0 : Str) : Option Int :=
 zis a0 a1c0 0
theorem Z7u (a0 : (List (Str × V))) (a1c0 : Str) (r : Int) (h : zwc a0 a1c0 = some r) : z0p Tryz.prog 132 [(PV.sl none 86 2 (List.map ofFld a0)), (PV.fn (.func 133) [] [(PV.pt 9 (ofStr a1c0) 0)])] (I64 r) := by
 unfold zwc at h
 refine z0j Tryz.func132 rfl Tryz.ntmps132 Tryz.results132 rfl (z0n ?_)
 change BW _ _ _ ⟨[(0, (PV.sl none 86 2 (List.map ofFld a0))), (1, (PV.fn (.func 133) [] [(PV.pt 9 (ofStr a1c0) 0)]))], [], _⟩ _
 refine bR ?_
 refine eX ?_
 refine z0f ?_
 refine bR ?_
 iterate 2 refine sX ?_
 refine eX ?_
 refine z0o ?_
 refine cBx ?_
 unfold zis at h
 refine z3p (σ := Nat) (fun i => [(0, (PV.sl none 86 2 (List.map ofFld a0))), (1, (PV.fn (.func 133) [] [(PV.pt 9 (ofStr a1c0) 0)])), (7, (I64 ((((a0).length : Nat) : Int)))), (8, (I64 (((i : Nat) : Int))))]) (fun i => []) 0 h ?_ ?_ ?_
 intro i; exact ⟨lbE rfl, ⟨(z07 (z05 z0m _)), ⟨(z07 (z3a (z39 rfl rfl))), ⟨(z07 rfl), ⟨(z07 rfl), trivial⟩⟩⟩⟩, trivial⟩
 exact jN
 rintro g1_f s1 h; replace h : z7h a0 a1c0 (fun y0 => g1_f y0) s1 = some r := h; unfold z7h at h
 change BW _ _ _ ⟨[(0, (PV.sl none 86 2 (List.map ofFld a0))), (1, (PV.fn (.func 133) [] [(PV.pt 9 (ofStr a1c0) 0)])), (7, (I64 ((((a0).length : Nat) : Int)))), (8, (I64 (((s1 : Nat) : Int))))], [], _⟩ _
 refine bR ?_
 refine eX ?_
 refine z0f ?_
 refine z4a (t := 0) rfl fun hb3 => ?_
 try rw [List.length_map] at hb3
 refine cX h rfl ?_ ?_
 intro hc2 h
 have hc2_ := of_decide_eq_true hc2
 refine z0g ?_
 refine cBx ?_
 refine z0f ?_
 refine z0o ?_
 refine cBx ?_
 refine bR ?_
 refine sX ?_
 refine eX ?_
 refine bR ?_
 iterate 3 refine sX ?_
 obtain ⟨x4, hx4, h⟩ := obind h
 refine sS rfl rfl rfl (z1p (i := s1) Tryz.underlying68 z13 rfl rfl rfl hx4 rfl) ?_
 refine sX ?_
 obtain ⟨x5, hx5, h⟩ := obind h
 refine sS rfl rfl rfl (z2q rfl rfl Z5q rfl (wkr (wkr .nil)) ⟨(z0m x4), ⟨rfl, trivial⟩⟩ (Z7d x4 a1c0 x5 hx5) rfl) (z0h ?_)
 refine cBx ?_
 refine cX h rfl ?_ ?_
 intro hc6 h
 refine bR ?_
 refine sX ?_
 refine eX ?_
 obtain rfl := eI h; exact z06 eK
 intro hc6 h
 refine z0g ?_
 refine cBx ?_
 refine z0l ?_
 refine sS rfl rfl rfl (z2o (k := s1) (c := 1) rfl rfl rfl (by omega)) ?_
 refine sX (z0h ?_)
 exact ⟨rfl, (s1 + 1), h, jN⟩
 intro hc2 h
 refine z2b ?_
 refine cBx ?_
 refine bR ?_
 refine eX ?_
 obtain rfl := eI h; exact z06 eK
noncomputable def zl0 (a0 : (List (Str × V))) (a1 : Str) : Option S_merge_side :=
 (zwc a0 a1).bind fun x1 =>
 bif (decide (x1 < 0)) then (
 some (S_merge_side.mk V.nil false)
 ) else (
 (z82 a0 x1).bind fun x3 =>
 some (S_merge_side.mk x3.2 true)
 )
theorem Z0l (a0 : (List (Str × V))) (a1 : Str) (r : S_merge_side) (h : zl0 a0 a1 = some r) : z0p Tryz.prog 115 [(PV.sl none 86 2 (List.map ofFld a0)), (ofStr a1)] (z09 r) := by
 unfold zl0 at h
 refine z0j Tryz.func115 rfl Tryz.ntmps115 Tryz.results115 rfl (z0n ?_)
 change BW _ _ _ ⟨[(0, (PV.sl none 86 2 (List.map ofFld a0))), (1, (ofStr a1))], [], _⟩ _
 refine bR ?_
 refine sX ?_
 refine sS rfl rfl rfl ((z1h z1m rfl).cast (H'' := [.box 9 [(ofStr a1)], .box 125 [(ofV V.nil), (BO false)]]) rfl (by simp only [mk_nil]; rfl)) (z0h ?_)
 refine cBx ?_
 refine z0f ?_
 refine z4v 0 3 (y := (PV.pt 9 (ofStr a1) 0)) rfl rfl (Wk.pt (x := .agg [(ofStr a1)]) (y := (ofStr a1)) (wkr .nil)) ?_
 refine z0l ?_
 refine sX ?_
 refine sS rfl rfl rfl (ze8 rfl rfl rfl) ?_
 obtain ⟨x1, hx1, h⟩ := obind h
 refine sS rfl rfl rfl (z08 rfl Z5r rfl (wkr (wkr .nil)) ⟨(z05 z0m a0), ⟨(z3a (z39 rfl rfl)), trivial⟩⟩ (Z7u a0 a1 x1 hx1) rfl) ?_
 refine eX ?_
 refine z0f ?_
 refine bR ?_
 refine sX ?_
 refine eX ?_
 refine cX h rfl ?_ ?_
 intro hc2 h
 refine bR ?_
 refine sS rfl rfl rfl (z12 (cs := [(PV.v .nilIface), (BO false)]) z5r z1m rfl rfl rfl rfl) ?_
 refine z14 rfl rfl (z0y z1m rfl rfl rfl rfl rfl rfl (lbE rfl) (by show List.all [(PV.v .nilIface), (BO false)] z45 = true; simp only [List.all_cons, List.all_nil, z3w, z1q, Bool.and_true, Bool.true_and]; try rfl)) ?_
 refine z0h ?_
 refine cBx ?_
 obtain rfl := eI h; exact z06 ⟨_, rfl, z0r (y := (z09 (S_merge_side.mk V.nil false))) (Wk.agg (.cons (Wk.eq mk_nil.symm) (wkr .nil))) (z0d (S_merge_side.mk V.nil false)) ⟨rfl, rfl⟩⟩
 intro hc2 h
 refine z0g ?_
 refine cBx ?_
 refine bR ?_
 iterate 2 refine sX ?_
 obtain ⟨x3, hx3, h⟩ := obind h
 refine sS rfl rfl rfl (z26 Tryz.underlying68 z13 rfl rfl rfl hx3 rfl) ?_
 iterate 2 refine sX ?_
 refine sS rfl rfl rfl (z12 (cs := [(ofV x3.2), (BO true)]) z5r z1m rfl rfl (by simp only [List.all_cons, List.all_nil, z2l, z16, Bool.and_true, Bool.true_and]; try rfl) (by simp only [z2c, List.getElem?_cons_zero, List.getElem?_cons_succ, z0u, z0k]; rfl)) ?_
 refine z14 rfl rfl (z0y z1m rfl rfl rfl rfl rfl rfl (lbE rfl) (by show List.all [(ofV x3.2), (BO true)] z45 = true; simp only [List.all_cons, List.all_nil, z3w, z1q, Bool.and_true, Bool.true_and]; try rfl)) ?_
 refine z0h ?_
 refine cBx ?_
 obtain rfl := eI h; exact z06 ⟨_, rfl, z0r (y := (z09 (S_merge_side.mk x3.2 true))) (Wk.refl _) (z0d (S_merge_side.mk x3.2 true)) ⟨rfl, rfl⟩⟩
end Go.Proofs.YtmoijodjgkfhgaaGreat
