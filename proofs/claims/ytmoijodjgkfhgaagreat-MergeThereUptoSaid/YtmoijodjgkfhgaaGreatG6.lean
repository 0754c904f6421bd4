/- Pure functions, and that calls answer as they say. -/
import Derived.Test.YtmoijodjgkfhgaaGreatG5
namespace Go.Proofs.YtmoijodjgkfhgaaGreat
open Go Aw
set_option linter.unusedVariables false
set_option linter.unusedSimpArgs false
set_option maxRecDepth 20000
set_option maxHeartbeats 2000000
variable {ι : Type} {ρ : ι → Type}
noncomputable def zdr : Option ((List (Str × V)) × (List (Str × V)) × Bool) :=
 some ([], [], false)
noncomputable def zae (a0 a1 : V) (s3 : Bool) : Option ((List (Str × V)) × (List (Str × V)) × Bool) :=
 bif s3 then (
 ((a0).asRec).bind fun x5 =>
 ((a1).asRec).bind fun x6 =>
 some (x5.fields, x6.fields, true)
 ) else (
 zdr
 )
noncomputable def zj0 (a0 a1 : V) : Option ((List (Str × V)) × (List (Str × V)) × Bool) :=
 bif (a0).isDict then (
 some ((a0).asDict, (a1).asDict, (a1).isDict)
 ) else (
 bif (a0).isRec then (
 bif (a1).isRec then (
 ((a0).asRec).bind fun x8 =>
 ((a1).asRec).bind fun x9 =>
 bif (x8.cls == x9.cls) then (
 zae a0 a1 (x8.ver == x9.ver)
 ) else (
 zae a0 a1 false
 )
 ) else (
 zae a0 a1 false
 )
 ) else (
 zdr
 )
 )
theorem Z71 (a0 a1 : V) (r : ((List (Str × V)) × (List (Str × V)) × Bool)) (h : zj0 a0 a1 = some r) : z0p Tryz.prog 58 [(ofV a0), (ofV a1)] (PV.tup [(PV.sl none 86 2 (List.map ofFld r.1)), (PV.sl none 86 2 (List.map ofFld r.2.1)), (BO r.2.2)]) := by
 unfold zj0 at h
 refine z0j Tryz.func58 rfl Tryz.ntmps58 Tryz.results58 rfl (z0n ?_)
 change BW _ _ _ ⟨[(0, (ofV a0)), (1, (ofV a1))], [], _⟩ _
 refine bR ?_
 iterate 2 refine sX ?_
 refine eX ?_
 refine jX (ι := Unit) (fun i => zdr = some r) (fun i => []) (fun i => []) ?_ ?_
 rintro ⟨⟩ h; replace h : zdr = some r := h; unfold zdr at h
 change BW _ _ _ ⟨[], [], _⟩ _
 refine bR ?_
 iterate 2 refine sX ?_
 refine eX ?_
 obtain rfl := eI h; exact z06 ⟨_, rfl, z0r (y := (PV.tup [(PV.sl none 86 2 (List.map ofFld [])), (PV.sl none 86 2 (List.map ofFld [])), (BO false)])) (Wk.tup (.cons Wk.nil (.cons Wk.nil (wkr .nil)))) (z00 (z05 z0m ([])) (z00 (z05 z0m ([])) (z00 rfl z04))) ⟨rfl, rfl⟩⟩
 refine bR ?_
 refine eX ?_
 refine z0o ?_
 refine cBx ?_
 refine bR ?_
 refine sS rfl rfl rfl (z2v rfl rfl) ?_
 refine sX ?_
 refine eX ?_
 refine cX h rfl ?_ ?_
 intro hc1 h
 refine bR ?_
 refine eX ?_
 refine bR ?_
 refine sX ?_
 refine sS rfl rfl rfl (z2v rfl rfl) ?_
 iterate 4 refine sX ?_
 refine eX ?_
 refine bR ?_
 iterate 5 refine sX ?_
 refine eX ?_
 obtain rfl := eI h; exact z06 ⟨_, rfl, z0r (y := (PV.tup [(PV.sl none 86 2 (List.map ofFld (a0).asDict)), (PV.sl none 86 2 (List.map ofFld (a1).asDict)), (BO ((a1).isDict))])) (Wk.refl _) (z00 (z05 z0m ((a0).asDict)) (z00 (z05 z0m ((a1).asDict)) (z00 rfl z04))) ⟨rfl, rfl⟩⟩
 intro hc1 h
 refine bR ?_
 refine sS rfl rfl rfl (z3g rfl rfl) ?_
 refine sX ?_
 refine eX ?_
 refine cX h rfl ?_ ?_
 intro hc2 h
 refine bR ?_
 refine eX ?_
 refine bR ?_
 refine sX ?_
 refine sS rfl rfl rfl (z3g rfl rfl) ?_
 iterate 4 refine sX ?_
 refine eX ?_
 refine z2e (ι := Bool) (fun i => zae a0 a1 i = some r) (fun i => [(10, (ofRecP (a0).asRec)), (11, (ofRecP (a1).asRec)), (55, (BO i))]) (fun i => []) ?_ ?_ ?_
 intro i; exact ⟨lbE rfl, ⟨(z07 (zh3 _)), ⟨(z07 (zh3 _)), ⟨(z07 rfl), trivial⟩⟩⟩, trivial⟩
 rintro s3 h; replace h : zae a0 a1 s3 = some r := h; unfold zae at h
 change BW _ _ _ ⟨[(10, (ofRecP (a0).asRec)), (11, (ofRecP (a1).asRec)), (55, (BO s3))], [], _⟩ _
 refine cX h rfl ?_ ?_
 intro hc4 h
 refine z0f (z1w 9 [] [] mo (by kernel_rfl) ?_)
 refine gX ?_
 obtain ⟨x5, hx5, h⟩ := obind h
 refine z1r rfl rfl rfl rfl (fun H hp => z1o rfl rfl hx5) ?_
 iterate 3 refine gX ?_
 obtain ⟨x6, hx6, h⟩ := obind h
 refine z1r rfl rfl rfl rfl (fun H hp => z1o rfl rfl hx6) ?_
 iterate 3 refine gX ?_
 refine z20 ?_
 change AO _ _ _ _ _
 refine sX ?_
 refine eX ?_
 obtain rfl := eI h; exact z06 ⟨_, rfl, z0r (y := (PV.tup [(PV.sl none 86 2 (List.map ofFld x5.fields)), (PV.sl none 86 2 (List.map ofFld x6.fields)), (BO true)])) (Wk.refl _) (z00 (z05 z0m x5.fields) (z00 (z05 z0m x6.fields) (z00 rfl z04))) ⟨rfl, rfl⟩⟩
 intro hc4 h
 refine z0g ?_
 exact ⟨rfl, (), h, jN⟩
 refine z1w 21 [] [] mo (by kernel_rfl) ?_
 iterate 2 refine gX ?_
 refine z7y 34 rfl ?_ ?_
 intro hb7; replace h := z10 hb7 h
 refine wX ?_
 obtain ⟨x8, hx8, h⟩ := obind h
 refine z84 rfl rfl rfl rfl rfl rfl rfl (fun H hp => z1o rfl rfl hx8) ?_
 iterate 3 refine wX ?_
 obtain ⟨x9, hx9, h⟩ := obind h
 refine z84 rfl rfl rfl rfl rfl rfl rfl (fun H hp => z1o rfl rfl hx9) ?_
 iterate 2 refine wX ?_
 refine z84 rfl rfl rfl rfl rfl rfl rfl (fun H hp => (z2r (a := x8.cls) (b := x9.cls) rfl rfl rfl rfl).cast (y := (BO ((x8.cls == x9.cls)))) rfl rfl) ?_
 iterate 2 refine gX ?_
 refine z7y 45 rfl ?_ ?_
 intro hb10; replace h := z10 hb10 h
 refine wX ?_
 refine z84 rfl rfl rfl rfl rfl rfl rfl (fun H hp => z1o rfl rfl hx8) ?_
 iterate 3 refine wX ?_
 refine z84 rfl rfl rfl rfl rfl rfl rfl (fun H hp => z1o rfl rfl hx9) ?_
 iterate 2 refine wX ?_
 refine z20 ?_
 change AO _ _ _ _ _
 refine yX ?_
 refine sX (z0h ?_)
 exact ⟨rfl, (x8.ver == x9.ver), h, jN⟩
 intro hb10; replace h := z11 hb10 h
 iterate 8 refine mX ?_
 refine z20 ?_
 change AO _ _ _ _ _
 refine nX ?_
 refine sX (z0h ?_)
 exact ⟨rfl, false, h, jN⟩
 intro hb7; replace h := z11 hb7 h
 iterate 9 refine mX ?_
 iterate 2 refine gX ?_
 iterate 8 refine mX ?_
 refine z20 ?_
 change AO _ _ _ _ _
 refine nX ?_
 refine sX (z0h ?_)
 exact ⟨rfl, false, h, jN⟩
 intro hc2 h
 refine z0g ?_
 exact ⟨rfl, (), h, jN⟩
noncomputable def z6d (a0 : (List S_api_Step)) (a2 : V) (g3 : Int → (List S_api_Edit) → Option (List S_api_Edit)) (s17 : Int) (s18 : (List S_api_Edit)) : Option (List S_api_Edit) :=
 bif (decide (s17 < ((((a2).asList).length : Nat) : Int))) then (
 (zew (S_api_Step.mk [] true s17) a0).bind fun x20 =>
 (z82 ((a2).asList) s17).bind fun x21 =>
 (zcm 2 x20 x21 s18).bind fun x22 =>
 g3 (IntKind.i64.wrap (s17 + 1)) x22
 ) else (
 some s18
 )
theorem zow (g3 : OF ρ → Int → (List S_api_Edit) → Option (List S_api_Edit)) (h_g3 : ∀ y0 y1, CM (fun G => g3 G y0 y1)) (a0 : (List S_api_Step)) (a2 : V) (s17 : Int) (s18 : (List S_api_Edit)) : CM (fun G : OF ρ => z6d a0 a2 (g3 G) s17 s18) := by
 simp only [z6d]
 repeat (first | exact z0i | exact h_g3 _ _ | refine z18 ?_ ?_ | refine z19 ?_ (fun _ => ?_))
noncomputable def zfi (a0 : (List S_api_Step)) (a2 : V) (s17 : Int) (s18 : (List S_api_Edit)) : Option (List S_api_Edit) :=
 z3q (ι := (Int × (List S_api_Edit))) (ρ := fun _ => (List S_api_Edit)) (fun g i => z6d a0 a2 (fun s17 s18 => g (s17, s18)) i.1 i.2) (s17, s18)
theorem zdx (a0 : (List S_api_Step)) (a2 : V) (s17 : Int) (s18 : (List S_api_Edit)) : zfi a0 a2 s17 s18 = z6d a0 a2 (zfi a0 a2) s17 s18 :=
 z1j (ι := (Int × (List S_api_Edit))) (ρ := fun _ => (List S_api_Edit)) (Φ := fun g i => z6d a0 a2 (fun s17 s18 => g (s17, s18)) i.1 i.2) (fun i => zow (ι := (Int × (List S_api_Edit))) (ρ := fun _ => (List S_api_Edit)) (fun g => (fun s17 s18 => g (s17, s18))) (fun _ _ => z1l) a0 a2 i.1 i.2) (s17, s18)
noncomputable def z6e (a0 : (List S_api_Step)) (a1 a2 : V) (g2 : Int → (List S_api_Edit) → Option (List S_api_Edit)) (s12 : Int) (s13 : (List S_api_Edit)) : Option (List S_api_Edit) :=
 bif (decide (s12 ≥ ((((a2).asList).length : Nat) : Int))) then (
 (zew (S_api_Step.mk [] true s12) a0).bind fun x15 =>
 (zcm 3 x15 V.nil s13).bind fun x16 =>
 g2 (IntKind.i64.wrap (s12 - 1)) x16
 ) else (
 zfi a0 a2 ((((a1).asList).length : Nat) : Int) s13
 )
theorem zox (g2 : OF ρ → Int → (List S_api_Edit) → Option (List S_api_Edit)) (h_g2 : ∀ y0 y1, CM (fun G => g2 G y0 y1)) (a0 : (List S_api_Step)) (a1 a2 : V) (s12 : Int) (s13 : (List S_api_Edit)) : CM (fun G : OF ρ => z6e a0 a1 a2 (g2 G) s12 s13) := by
 simp only [z6e]
 repeat (first | exact z0i | exact h_g2 _ _ | apply q0d_l3_cm | refine z18 ?_ ?_ | refine z19 ?_ (fun _ => ?_) | intro _ | assumption)
noncomputable def zfj (a0 : (List S_api_Step)) (a1 a2 : V) (s12 : Int) (s13 : (List S_api_Edit)) : Option (List S_api_Edit) :=
 z3q (ι := (Int × (List S_api_Edit))) (ρ := fun _ => (List S_api_Edit)) (fun g i => z6e a0 a1 a2 (fun s12 s13 => g (s12, s13)) i.1 i.2) (s12, s13)
theorem zdy (a0 : (List S_api_Step)) (a1 a2 : V) (s12 : Int) (s13 : (List S_api_Edit)) : zfj a0 a1 a2 s12 s13 = z6e a0 a1 a2 (zfj a0 a1 a2) s12 s13 :=
 z1j (ι := (Int × (List S_api_Edit))) (ρ := fun _ => (List S_api_Edit)) (Φ := fun g i => z6e a0 a1 a2 (fun s12 s13 => g (s12, s13)) i.1 i.2) (fun i => zox (ι := (Int × (List S_api_Edit))) (ρ := fun _ => (List S_api_Edit)) (fun g => (fun s12 s13 => g (s12, s13))) (fun _ _ => z1l) a0 a1 a2 i.1 i.2) (s12, s13)
noncomputable def z6f (r_q0d : (List S_api_Step) → V → V → (List S_api_Edit) → Option (List S_api_Edit)) (a0 : (List S_api_Step)) (a1 a2 : V) (g1 : Int → (List S_api_Edit) → Option (List S_api_Edit)) (s5 : Int) (s6 : (List S_api_Edit)) : Option (List S_api_Edit) :=
 bif (decide (s5 < (if ((((a2).asList).length : Nat) : Int) < ((((a1).asList).length : Nat) : Int) then ((((a2).asList).length : Nat) : Int) else ((((a1).asList).length : Nat) : Int)))) then (
 (zew (S_api_Step.mk [] true s5) a0).bind fun x8 =>
 (z82 ((a1).asList) s5).bind fun x9 =>
 (z82 ((a2).asList) s5).bind fun x10 =>
 (r_q0d x8 x9 x10 s6).bind fun x11 =>
 g1 (IntKind.i64.wrap (s5 + 1)) x11
 ) else (
 zfj a0 a1 a2 (IntKind.i64.wrap (((((a1).asList).length : Nat) : Int) - 1)) s6
 )
theorem zbq (r_q0d : OF ρ → (List S_api_Step) → V → V → (List S_api_Edit) → Option (List S_api_Edit)) (h_r_q0d : ∀ y0 y1 y2 y3, CM (fun G => r_q0d G y0 y1 y2 y3)) (g1 : OF ρ → Int → (List S_api_Edit) → Option (List S_api_Edit)) (h_g1 : ∀ y0 y1, CM (fun G => g1 G y0 y1)) (a0 : (List S_api_Step)) (a1 a2 : V) (s5 : Int) (s6 : (List S_api_Edit)) : CM (fun G : OF ρ => z6f (r_q0d G) a0 a1 a2 (g1 G) s5 s6) := by
 simp only [z6f]
 repeat (first | exact z0i | exact h_r_q0d _ _ _ _ | exact h_g1 _ _ | apply q0d_l2_cm | refine z18 ?_ ?_ | refine z19 ?_ (fun _ => ?_) | intro _ | assumption)
noncomputable def zdz (r_q0d : (List S_api_Step) → V → V → (List S_api_Edit) → Option (List S_api_Edit)) (a0 : (List S_api_Step)) (a1 a2 : V) (s5 : Int) (s6 : (List S_api_Edit)) : Option (List S_api_Edit) :=
 z3q (ι := (Int × (List S_api_Edit))) (ρ := fun _ => (List S_api_Edit)) (fun g i => z6f r_q0d a0 a1 a2 (fun s5 s6 => g (s5, s6)) i.1 i.2) (s5, s6)
theorem zil (r_q0d : (List S_api_Step) → V → V → (List S_api_Edit) → Option (List S_api_Edit)) (a0 : (List S_api_Step)) (a1 a2 : V) (s5 : Int) (s6 : (List S_api_Edit)) : zdz r_q0d a0 a1 a2 s5 s6 = z6f r_q0d a0 a1 a2 (zdz r_q0d a0 a1 a2) s5 s6 :=
 z1j (ι := (Int × (List S_api_Edit))) (ρ := fun _ => (List S_api_Edit)) (Φ := fun g i => z6f r_q0d a0 a1 a2 (fun s5 s6 => g (s5, s6)) i.1 i.2) (fun i => zbq (ι := (Int × (List S_api_Edit))) (ρ := fun _ => (List S_api_Edit)) (fun _ => r_q0d) (fun _ _ _ _ => z0i) (fun g => (fun s5 s6 => g (s5, s6))) (fun _ _ => z1l) a0 a1 a2 i.1 i.2) (s5, s6)
theorem zs0 (r_q0d : OF ρ → (List S_api_Step) → V → V → (List S_api_Edit) → Option (List S_api_Edit)) (h_r_q0d : ∀ y0 y1 y2 y3, CM (fun G => r_q0d G y0 y1 y2 y3)) (a0 : (List S_api_Step)) (a1 a2 : V) (s5 : Int) (s6 : (List S_api_Edit)) : CM (fun G : OF ρ => zdz (r_q0d G) a0 a1 a2 s5 s6) :=
 z5z (κ := (Int × (List S_api_Edit))) (τ := fun _ => (List S_api_Edit)) (Φ := fun G g i => z6f (r_q0d G) a0 a1 a2 (fun s5 s6 => g (s5, s6)) i.1 i.2) (fun g i => zbq r_q0d h_r_q0d (fun _ => (fun s5 s6 => g (s5, s6))) (fun _ _ => z0i) a0 a1 a2 i.1 i.2) (fun G i => zbq (ι := (Int × (List S_api_Edit))) (ρ := fun _ => (List S_api_Edit)) (fun _ => r_q0d G) (fun _ _ _ _ => z0i) (fun g => (fun s5 s6 => g (s5, s6))) (fun _ _ => z1l) a0 a1 a2 i.1 i.2) (s5, s6)
noncomputable def z8f (r_q0d : (List S_api_Step) → V → V → (List S_api_Edit) → Option (List S_api_Edit)) (g1 : Int → Int → (List S_api_Edit) → Option (List S_api_Edit)) (a0 : (List S_api_Step)) (x23 : ((List (Str × V)) × (List (Str × V)) × Bool)) (s26 s27 : Int) (s28 : (List S_api_Edit)) (s36 : Bool) : Option (List S_api_Edit) :=
 bif s36 then (
 (z82 x23.2.1 s27).bind fun x38 =>
 (zew (S_api_Step.mk x38.1 false 0) a0).bind fun x39 =>
 (z82 x23.2.1 s27).bind fun x40 =>
 (zcm 2 x39 x40.2 s28).bind fun x41 =>
 g1 s26 (IntKind.i64.wrap (s27 + 1)) x41
 ) else (
 (z82 x23.2.1 s27).bind fun x42 =>
 (zew (S_api_Step.mk x42.1 false 0) a0).bind fun x43 =>
 (z82 x23.1 s26).bind fun x44 =>
 (z82 x23.2.1 s27).bind fun x45 =>
 (r_q0d x43 x44.2 x45.2 s28).bind fun x46 =>
 g1 (IntKind.i64.wrap (s26 + 1)) (IntKind.i64.wrap (s27 + 1)) x46
 )
theorem zs1 (r_q0d : OF ρ → (List S_api_Step) → V → V → (List S_api_Edit) → Option (List S_api_Edit)) (h_r_q0d : ∀ y0 y1 y2 y3, CM (fun G => r_q0d G y0 y1 y2 y3)) (g1 : OF ρ → Int → Int → (List S_api_Edit) → Option (List S_api_Edit)) (h_g1 : ∀ y0 y1 y2, CM (fun G => g1 G y0 y1 y2)) (a0 : (List S_api_Step)) (x23 : ((List (Str × V)) × (List (Str × V)) × Bool)) (s26 s27 : Int) (s28 : (List S_api_Edit)) (s36 : Bool) : CM (fun G : OF ρ => z8f (r_q0d G) (g1 G) a0 x23 s26 s27 s28 s36) := by
 simp only [z8f]
 repeat (first | exact z0i | exact h_r_q0d _ _ _ _ | exact h_g1 _ _ _ | refine z18 ?_ ?_ | refine z19 ?_ (fun _ => ?_))
noncomputable def z6s (r_q0d : (List S_api_Step) → V → V → (List S_api_Edit) → Option (List S_api_Edit)) (g1 : Int → Int → (List S_api_Edit) → Option (List S_api_Edit)) (a0 : (List S_api_Step)) (x23 : ((List (Str × V)) × (List (Str × V)) × Bool)) (s26 s27 : Int) (s28 : (List S_api_Edit)) (s31 : Bool) : Option (List S_api_Edit) :=
 bif s31 then (
 (z82 x23.1 s26).bind fun x33 =>
 (zew (S_api_Step.mk x33.1 false 0) a0).bind fun x34 =>
 (zcm 3 x34 V.nil s28).bind fun x35 =>
 g1 (IntKind.i64.wrap (s26 + 1)) s27 x35
 ) else (
 bif (s26 == (((x23.1).length : Nat) : Int)) then (
 z8f r_q0d g1 a0 x23 s26 s27 s28 true
 ) else (
 (z82 x23.2.1 s27).bind fun x48 =>
 (z82 x23.1 s26).bind fun x49 =>
 z8f r_q0d g1 a0 x23 s26 s27 s28 (Op.bytesLess x48.1 x49.1)
 )
 )
theorem zs2 (r_q0d : OF ρ → (List S_api_Step) → V → V → (List S_api_Edit) → Option (List S_api_Edit)) (h_r_q0d : ∀ y0 y1 y2 y3, CM (fun G => r_q0d G y0 y1 y2 y3)) (g1 : OF ρ → Int → Int → (List S_api_Edit) → Option (List S_api_Edit)) (h_g1 : ∀ y0 y1 y2, CM (fun G => g1 G y0 y1 y2)) (a0 : (List S_api_Step)) (x23 : ((List (Str × V)) × (List (Str × V)) × Bool)) (s26 s27 : Int) (s28 : (List S_api_Edit)) (s31 : Bool) : CM (fun G : OF ρ => z6s (r_q0d G) (g1 G) a0 x23 s26 s27 s28 s31) := by
 simp only [z6s]
 repeat (first | exact z0i | exact h_r_q0d _ _ _ _ | exact h_g1 _ _ _ | apply zs1 | refine z18 ?_ ?_ | refine z19 ?_ (fun _ => ?_) | intro _ | assumption)
noncomputable def z8g (r_q0d : (List S_api_Step) → V → V → (List S_api_Edit) → Option (List S_api_Edit)) (g1 : Int → Int → (List S_api_Edit) → Option (List S_api_Edit)) (a0 : (List S_api_Step)) (x23 : ((List (Str × V)) × (List (Str × V)) × Bool)) (s26 s27 : Int) (s28 : (List S_api_Edit)) (s29 : Bool) : Option (List S_api_Edit) :=
 bif s29 then (
 bif (s27 == (((x23.2.1).length : Nat) : Int)) then (
 z6s r_q0d g1 a0 x23 s26 s27 s28 true
 ) else (
 bif (decide (s26 < (((x23.1).length : Nat) : Int))) then (
 (z82 x23.1 s26).bind fun x52 =>
 (z82 x23.2.1 s27).bind fun x53 =>
 z6s r_q0d g1 a0 x23 s26 s27 s28 (Op.bytesLess x52.1 x53.1)
 ) else (
 z6s r_q0d g1 a0 x23 s26 s27 s28 false
 )
 )
 ) else (
 some s28
 )
theorem zs3 (r_q0d : OF ρ → (List S_api_Step) → V → V → (List S_api_Edit) → Option (List S_api_Edit)) (h_r_q0d : ∀ y0 y1 y2 y3, CM (fun G => r_q0d G y0 y1 y2 y3)) (g1 : OF ρ → Int → Int → (List S_api_Edit) → Option (List S_api_Edit)) (h_g1 : ∀ y0 y1 y2, CM (fun G => g1 G y0 y1 y2)) (a0 : (List S_api_Step)) (x23 : ((List (Str × V)) × (List (Str × V)) × Bool)) (s26 s27 : Int) (s28 : (List S_api_Edit)) (s29 : Bool) : CM (fun G : OF ρ => z8g (r_q0d G) (g1 G) a0 x23 s26 s27 s28 s29) := by
 simp only [z8g]
 repeat (first | exact z0i | exact h_r_q0d _ _ _ _ | exact h_g1 _ _ _ | apply zs2 | refine z18 ?_ ?_ | refine z19 ?_ (fun _ => ?_) | intro _ | assumption)
noncomputable def z4c (r_q0d : (List S_api_Step) → V → V → (List S_api_Edit) → Option (List S_api_Edit)) (a0 : (List S_api_Step)) (x23 : ((List (Str × V)) × (List (Str × V)) × Bool)) (g1 : Int → Int → (List S_api_Edit) → Option (List S_api_Edit)) (s26 s27 : Int) (s28 : (List S_api_Edit)) : Option (List S_api_Edit) :=
 bif (decide (s26 < (((x23.1).length : Nat) : Int))) then (
 z8g r_q0d g1 a0 x23 s26 s27 s28 true
 ) else (
 z8g r_q0d g1 a0 x23 s26 s27 s28 (decide (s27 < (((x23.2.1).length : Nat) : Int)))
 )
theorem zbp (r_q0d : OF ρ → (List S_api_Step) → V → V → (List S_api_Edit) → Option (List S_api_Edit)) (h_r_q0d : ∀ y0 y1 y2 y3, CM (fun G => r_q0d G y0 y1 y2 y3)) (g1 : OF ρ → Int → Int → (List S_api_Edit) → Option (List S_api_Edit)) (h_g1 : ∀ y0 y1 y2, CM (fun G => g1 G y0 y1 y2)) (a0 : (List S_api_Step)) (x23 : ((List (Str × V)) × (List (Str × V)) × Bool)) (s26 s27 : Int) (s28 : (List S_api_Edit)) : CM (fun G : OF ρ => z4c (r_q0d G) a0 x23 (g1 G) s26 s27 s28) := by
 simp only [z4c]
 repeat (first | exact z0i | exact h_r_q0d _ _ _ _ | exact h_g1 _ _ _ | apply zs3 | refine z18 ?_ ?_ | refine z19 ?_ (fun _ => ?_) | intro _ | assumption)
noncomputable def z3l (r_q0d : (List S_api_Step) → V → V → (List S_api_Edit) → Option (List S_api_Edit)) (a0 : (List S_api_Step)) (x23 : ((List (Str × V)) × (List (Str × V)) × Bool)) (s26 s27 : Int) (s28 : (List S_api_Edit)) : Option (List S_api_Edit) :=
 z3q (ι := (Int × Int × (List S_api_Edit))) (ρ := fun _ => (List S_api_Edit)) (fun g i => z4c r_q0d a0 x23 (fun s26 s27 s28 => g (s26, s27, s28)) i.1 i.2.1 i.2.2) (s26, s27, s28)
theorem zik (r_q0d : (List S_api_Step) → V → V → (List S_api_Edit) → Option (List S_api_Edit)) (a0 : (List S_api_Step)) (x23 : ((List (Str × V)) × (List (Str × V)) × Bool)) (s26 s27 : Int) (s28 : (List S_api_Edit)) : z3l r_q0d a0 x23 s26 s27 s28 = z4c r_q0d a0 x23 (z3l r_q0d a0 x23) s26 s27 s28 :=
 z1j (ι := (Int × Int × (List S_api_Edit))) (ρ := fun _ => (List S_api_Edit)) (Φ := fun g i => z4c r_q0d a0 x23 (fun s26 s27 s28 => g (s26, s27, s28)) i.1 i.2.1 i.2.2) (fun i => zbp (ι := (Int × Int × (List S_api_Edit))) (ρ := fun _ => (List S_api_Edit)) (fun _ => r_q0d) (fun _ _ _ _ => z0i) (fun g => (fun s26 s27 s28 => g (s26, s27, s28))) (fun _ _ _ => z1l) a0 x23 i.1 i.2.1 i.2.2) (s26, s27, s28)
theorem zrz (r_q0d : OF ρ → (List S_api_Step) → V → V → (List S_api_Edit) → Option (List S_api_Edit)) (h_r_q0d : ∀ y0 y1 y2 y3, CM (fun G => r_q0d G y0 y1 y2 y3)) (a0 : (List S_api_Step)) (x23 : ((List (Str × V)) × (List (Str × V)) × Bool)) (s26 s27 : Int) (s28 : (List S_api_Edit)) : CM (fun G : OF ρ => z3l (r_q0d G) a0 x23 s26 s27 s28) :=
 z5z (κ := (Int × Int × (List S_api_Edit))) (τ := fun _ => (List S_api_Edit)) (Φ := fun G g i => z4c (r_q0d G) a0 x23 (fun s26 s27 s28 => g (s26, s27, s28)) i.1 i.2.1 i.2.2) (fun g i => zbp r_q0d h_r_q0d (fun _ => (fun s26 s27 s28 => g (s26, s27, s28))) (fun _ _ _ => z0i) a0 x23 i.1 i.2.1 i.2.2) (fun G i => zbp (ι := (Int × Int × (List S_api_Edit))) (ρ := fun _ => (List S_api_Edit)) (fun _ => r_q0d G) (fun _ _ _ _ => z0i) (fun g => (fun s26 s27 s28 => g (s26, s27, s28))) (fun _ _ _ => z1l) a0 x23 i.1 i.2.1 i.2.2) (s26, s27, s28)
noncomputable def z5s (r_q0d : (List S_api_Step) → V → V → (List S_api_Edit) → Option (List S_api_Edit)) (a0 : (List S_api_Step)) (a1 a2 : V) (a3c0 : (List S_api_Edit)) (s3 : Bool) : Option (List S_api_Edit) :=
 bif s3 then (
 zdz r_q0d a0 a1 a2 0 a3c0
 ) else (
 (zj0 a1 a2).bind fun x23 =>
 bif (!x23.2.2) then (
 (zcm 1 a0 a2 a3c0).bind fun x25 =>
 some x25
 ) else (
 z3l r_q0d a0 x23 0 0 a3c0
 )
 )
theorem zs4 (r_q0d : OF ρ → (List S_api_Step) → V → V → (List S_api_Edit) → Option (List S_api_Edit)) (h_r_q0d : ∀ y0 y1 y2 y3, CM (fun G => r_q0d G y0 y1 y2 y3)) (a0 : (List S_api_Step)) (a1 a2 : V) (a3c0 : (List S_api_Edit)) (s3 : Bool) : CM (fun G : OF ρ => z5s (r_q0d G) a0 a1 a2 a3c0 s3) := by
 simp only [z5s]
 repeat (first | exact z0i | exact h_r_q0d _ _ _ _ | apply zs0 | apply zrz | refine z18 ?_ ?_ | refine z19 ?_ (fun _ => ?_) | intro _ | assumption)
noncomputable def zm5 (r_q0d : (List S_api_Step) → V → V → (List S_api_Edit) → Option (List S_api_Edit)) (a0 : (List S_api_Step)) (a1 a2 : V) (a3c0 : (List S_api_Edit)) : Option (List S_api_Edit) :=
 (zgr a1 a2).bind fun x1 =>
 bif x1 then (
 some a3c0
 ) else (
 bif (a1).isList then (
 z5s r_q0d a0 a1 a2 a3c0 ((a2).isList)
 ) else (
 z5s r_q0d a0 a1 a2 a3c0 false
 )
 )
theorem zyi (r_q0d : OF ρ → (List S_api_Step) → V → V → (List S_api_Edit) → Option (List S_api_Edit)) (h_r_q0d : ∀ y0 y1 y2 y3, CM (fun G => r_q0d G y0 y1 y2 y3)) (a0 : (List S_api_Step)) (a1 a2 : V) (a3c0 : (List S_api_Edit)) : CM (fun G : OF ρ => zm5 (r_q0d G) a0 a1 a2 a3c0) := by
 simp only [zm5]
 repeat (first | exact z0i | exact h_r_q0d _ _ _ _ | apply zs4 | refine z18 ?_ ?_ | refine z19 ?_ (fun _ => ?_) | intro _ | assumption)
inductive C_q0d where
 | k_q0d (a0 : (List S_api_Step)) (a1 : V) (a2 : V) (a3c0 : (List S_api_Edit))
def C_q0d.R : C_q0d → Type
 | .k_q0d _ _ _ _ => (List S_api_Edit)
noncomputable def C_q0d.F (g : ∀ i : C_q0d, Option i.R) : ∀ i : C_q0d, Option i.R
 | .k_q0d a0 a1 a2 a3c0 => zm5 (fun a0 a1 a2 a3c0 => g (.k_q0d a0 a1 a2 a3c0)) a0 a1 a2 a3c0
noncomputable def zl5 (a0 : (List S_api_Step)) (a1 a2 : V) (a3c0 : (List S_api_Edit)) : Option (List S_api_Edit) := z3q C_q0d.F (.k_q0d a0 a1 a2 a3c0)
abbrev Zaj := fun (g : ∀ i : C_q0d, Option i.R) a0 a1 a2 a3c0 => g (.k_q0d a0 a1 a2 a3c0)
theorem Zae (a0 a1 a2 a3c0 : _) : CM (ρ := C_q0d.R) (fun g => g (C_q0d.k_q0d a0 a1 a2 a3c0)) := z1l
theorem C_q0d.cm (i : C_q0d) : CM (fun g : (∀ i : C_q0d, Option i.R) => C_q0d.F g i) := by
 cases i with
 | k_q0d a0 a1 a2 a3c0 => exact zyi Zaj Zae a0 a1 a2 a3c0
theorem Z65 (a0 : (List S_api_Step)) (a1 a2 : V) (a3c0 : (List S_api_Edit)) : zl5 a0 a1 a2 a3c0 = zm5 zl5 a0 a1 a2 a3c0 := z1j C_q0d.cm (.k_q0d a0 a1 a2 a3c0)
def C_q0d.Q : ∀ i : C_q0d, i.R → Prop
 | .k_q0d a0 a1 a2 a3c0 => fun (r : (List S_api_Edit)) => z2t Tryz.prog 32 [(PV.sl none 82 3 (List.map z01 a0)), (ofV a1), (ofV a2), (PV.fn (.func 33) [] [(PV.rf 0 0)])] [.box 41 [(PV.sl (some 1) 49 3 (List.map z0b a3c0))], .arr 49 (a3c0).length] (PV.tup []) [.box 41 [(PV.sl (some 1) 49 3 (List.map z0b r))], .arr 49 (r).length]
theorem z62 (r_q0d : (List S_api_Step) → V → V → (List S_api_Edit) → Option (List S_api_Edit)) (c_q0d : ∀ (a0 : (List S_api_Step)) (a1 : V) (a2 : V) (a3c0 : (List S_api_Edit)) r, r_q0d a0 a1 a2 a3c0 = some r → z2t Tryz.prog 32 [(PV.sl none 82 3 (List.map z01 a0)), (ofV a1), (ofV a2), (PV.fn (.func 33) [] [(PV.rf 0 0)])] [.box 41 [(PV.sl (some 1) 49 3 (List.map z0b a3c0))], .arr 49 (a3c0).length] (PV.tup []) [.box 41 [(PV.sl (some 1) 49 3 (List.map z0b r))], .arr 49 (r).length]) (a0 : (List S_api_Step)) (a1 a2 : V) (a3c0 r : (List S_api_Edit)) (h : zm5 r_q0d a0 a1 a2 a3c0 = some r) : z2t Tryz.prog 32 [(PV.sl none 82 3 (List.map z01 a0)), (ofV a1), (ofV a2), (PV.fn (.func 33) [] [(PV.rf 0 0)])] [.box 41 [(PV.sl (some 1) 49 3 (List.map z0b a3c0))], .arr 49 (a3c0).length] (PV.tup []) [.box 41 [(PV.sl (some 1) 49 3 (List.map z0b r))], .arr 49 (r).length] := by
 unfold zm5 at h
 refine z0j Tryz.func32 rfl Tryz.ntmps32 Tryz.results32 rfl (z0n ?_)
 change BW _ _ _ ⟨[(0, (PV.sl none 82 3 (List.map z01 a0))), (1, (ofV a1)), (2, (ofV a2)), (3, (PV.fn (.func 33) [] [(PV.rf 0 0)]))], [.box 41 [(PV.sl (some 1) 49 3 (List.map z0b a3c0))], .arr 49 (a3c0).length], _⟩ _
 refine bR ?_
 refine eX ?_
 refine z0f ?_
 refine z0f ?_
 refine z4v 2 4 (y := (PV.pt 47 (PV.sl none 82 3 (List.map z01 a0)) 0)) rfl rfl (Wk.pt (x := .agg [(PV.sl none 82 3 (List.map z01 a0))]) (y := (PV.sl none 82 3 (List.map z01 a0))) (wkr .nil)) ?_
 refine z0l ?_
 iterate 2 refine sX ?_
 obtain ⟨x1, hx1, h⟩ := obind h
 refine sS rfl rfl rfl (z08 rfl zxn rfl (wkr (wkr .nil)) ⟨(ids_V a1), ⟨(ids_V a2), trivial⟩⟩ (zvg a1 a2 x1 hx1) rfl) (z0h ?_)
 refine cBx ?_
 refine cX h rfl ?_ ?_
 intro hc2 h
 obtain rfl := eI h; exact z06 ⟨_, rfl, endR (y := (PV.tup [])) 2 (Wk.refl _) rfl rfl (.tup .nil) (.cons (.box (.cons (.row rfl (z0s z0e a3c0)) .nil)) (.cons .arr .nil)) ⟨rfl, rfl⟩⟩
 intro hc2 h
 refine z0g ?_
 refine cBx ?_
 refine bR ?_
 refine sS rfl rfl rfl (ze8 rfl rfl rfl) ?_
 refine eX ?_
 refine bR ?_
 refine sX ?_
 refine sS rfl rfl rfl (z1x rfl rfl) ?_
 iterate 4 refine sX ?_
 refine eX ?_
 refine bR ?_
 refine sX ?_
 refine sS rfl rfl rfl (z1x rfl rfl) ?_
 iterate 4 refine sX ?_
 refine eX ?_
 refine z0f ?_
 refine z2e (ι := Bool) (fun i => z5s r_q0d a0 a1 a2 a3c0 i = some r) (fun i => [(1, (ofV a1)), (2, (ofV a2)), (3, (PV.fn (.func 33) [] [(PV.rf 0 0)])), (4, (PV.pt 47 (PV.sl none 82 3 (List.map z01 a0)) 0)), (8, (PV.fn (.func 56) [] [(PV.pt 47 (PV.sl none 82 3 (List.map z01 a0)) 0)])), (9, (PV.sl none 20 1 (List.map ofV (a1).asList))), (11, (PV.sl none 20 1 (List.map ofV (a2).asList))), (38, (BO i))]) (fun i => [.box 41 [(PV.sl (some 1) 49 3 (List.map z0b a3c0))], .arr 49 (a3c0).length]) ?_ ?_ ?_
 intro i; exact ⟨lbE rfl, ⟨(z07 (ids_V _)), ⟨(z07 (ids_V _)), ⟨(il_fn (z5w (il_rf rfl) z8q)), ⟨(z07 (z8r (z05 z02 _))), ⟨(z07 (z3a (z39 (z05 (e := 82) (sz := 3) z02 a0) rfl))), ⟨(z07 (z05 ids_V _)), ⟨(z07 (z05 ids_V _)), ⟨(z07 rfl), trivial⟩⟩⟩⟩⟩⟩⟩⟩, ⟨⟨(z2x rfl (z0s z0e _)), trivial⟩, trivial⟩⟩
 rintro s3 h; replace h : z5s r_q0d a0 a1 a2 a3c0 s3 = some r := h; unfold z5s at h
 change BW _ _ _ ⟨[(1, (ofV a1)), (2, (ofV a2)), (3, (PV.fn (.func 33) [] [(PV.rf 0 0)])), (4, (PV.pt 47 (PV.sl none 82 3 (List.map z01 a0)) 0)), (8, (PV.fn (.func 56) [] [(PV.pt 47 (PV.sl none 82 3 (List.map z01 a0)) 0)])), (9, (PV.sl none 20 1 (List.map ofV (a1).asList))), (11, (PV.sl none 20 1 (List.map ofV (a2).asList))), (38, (BO s3))], [.box 41 [(PV.sl (some 1) 49 3 (List.map z0b a3c0))], .arr 49 (a3c0).length], _⟩ _
 refine cX h rfl ?_ ?_
 intro hc4 h
 refine z0f ?_
 refine bR ?_
 iterate 4 refine sX ?_
 refine sS rfl rfl rfl (zwl (args := []) rfl rfl rfl) ?_
 refine eX ?_
 refine z0o ?_
 refine cBx ?_
 unfold zdz at h
 refine z3p (σ := (Int × (List S_api_Edit))) (fun i => [(3, (PV.fn (.func 33) [] [(PV.rf 0 0)])), (8, (PV.fn (.func 56) [] [(PV.pt 47 (PV.sl none 82 3 (List.map z01 a0)) 0)])), (9, (PV.sl none 20 1 (List.map ofV (a1).asList))), (11, (PV.sl none 20 1 (List.map ofV (a2).asList))), (43, (I64 ((if ((((a2).asList).length : Nat) : Int) < ((((a1).asList).length : Nat) : Int) then ((((a2).asList).length : Nat) : Int) else ((((a1).asList).length : Nat) : Int))))), (44, (I64 i.1))]) (fun i => [.box 41 [(PV.sl (some 1) 49 3 (List.map z0b i.2))], .arr 49 (i.2).length]) (0, a3c0) h ?_ ?_ ?_
 intro i; exact ⟨lbE rfl, ⟨(il_fn (z5w (il_rf rfl) z8q)), ⟨(z07 (z3a (z39 (z05 (e := 82) (sz := 3) z02 a0) rfl))), ⟨(z07 (z05 ids_V _)), ⟨(z07 (z05 ids_V _)), ⟨(z07 rfl), ⟨(z07 rfl), trivial⟩⟩⟩⟩⟩⟩, ⟨⟨(z2x rfl (z0s z0e _)), trivial⟩, trivial⟩⟩
 exact jN
 rintro g1_f ⟨s5, s6⟩ h; replace h : z6f r_q0d a0 a1 a2 (fun y0 y1 => g1_f (y0, y1)) s5 s6 = some r := h; unfold z6f at h
 change BW _ _ _ ⟨[(3, (PV.fn (.func 33) [] [(PV.rf 0 0)])), (8, (PV.fn (.func 56) [] [(PV.pt 47 (PV.sl none 82 3 (List.map z01 a0)) 0)])), (9, (PV.sl none 20 1 (List.map ofV (a1).asList))), (11, (PV.sl none 20 1 (List.map ofV (a2).asList))), (43, (I64 ((if ((((a2).asList).length : Nat) : Int) < ((((a1).asList).length : Nat) : Int) then ((((a2).asList).length : Nat) : Int) else ((((a1).asList).length : Nat) : Int))))), (44, (I64 s5))], [.box 41 [(PV.sl (some 1) 49 3 (List.map z0b s6))], .arr 49 (s6).length], _⟩ _
 refine bR ?_
 refine eX ?_
 refine z0f ?_
 refine cX h rfl ?_ ?_
 intro hc7 h
 refine z0g ?_
 refine cBx ?_
 refine z0f ?_
 refine z0o ?_
 refine cBx ?_
 refine bR ?_
 refine sX ?_
 refine eX ?_
 refine z1w 13 [] [] mo (by kernel_rfl) ?_
 iterate 2 refine gX ?_
 refine z1r rfl rfl rfl rfl (fun H hp => z12 (cs := [(ofStr []), (BO true), (I64 s5)]) zgh z1u rfl rfl rfl rfl) ?_
 obtain ⟨x8, hx8, h⟩ := obind h
 refine z1r rfl rfl rfl rfl (fun H hp => z2q rfl rfl zq1 rfl (wkr (wkr .nil)) ⟨(z02 (S_api_Step.mk [] true s5)), ⟨(z8r (z05 z02 a0)), trivial⟩⟩ (zok (S_api_Step.mk [] true s5) a0 x8 hx8) (z05 z02 x8)) ?_
 iterate 2 refine gX ?_
 obtain ⟨x9, hx9, h⟩ := obind h
 refine z1r rfl rfl rfl rfl (fun H hp => z26 Tryz.underlying66 z1v rfl rfl rfl hx9 rfl) ?_
 refine z1r rfl rfl rfl rfl (fun H hp => z4e (y := (ofV x9)) Tryz.underlying20 rfl rfl rfl (by rw [z0u]; rfl)) ?_
 iterate 2 refine gX ?_
 obtain ⟨x10, hx10, h⟩ := obind h
 refine z1r rfl rfl rfl rfl (fun H hp => z26 Tryz.underlying66 z1v rfl rfl rfl hx10 rfl) ?_
 refine z1r rfl rfl rfl rfl (fun H hp => z4e (y := (ofV x10)) Tryz.underlying20 rfl rfl rfl (by rw [z0u]; rfl)) ?_
 refine gX ?_
 refine z20 ?_
 change AO _ _ _ _ _
 obtain ⟨x11, hx11, h⟩ := obind h
 refine sS rfl rfl rfl (Op1.cast (y := (PV.tup [])) (H'' := [.box 41 [(PV.sl (some 1) 49 3 (List.map z0b x11))], .arr 49 (x11).length]) (z2i [0, 1] (.func rfl) Z2g rfl (wkr (wkr (wkr (wkr .nil)))) rfl (.cons rfl (.box (.cons (.row rfl (z0s z0e s6)) .nil)) (.cons rfl .arr .nil)) (.cons (.same (z05 z02 x8)) (.cons (.same (ids_V x9)) (.cons (.same (ids_V x10)) (.cons (.fn (.cons (.rf rfl) .nil)) .nil)))) (c_q0d x8 x9 x10 s6 x11 hx11) (.same z04) (.cons (.box (.cons (.row rfl (z0s z0e x11)) .nil)) (.cons .arr .nil)) rfl) rfl rfl) (z0h ?_)
 refine cBx ?_
 refine z0l ?_
 refine sX ?_
 refine sX (z0h ?_)
 exact ⟨rfl, ((IntKind.i64.wrap (s5 + 1)), x11), h, jN⟩
 intro hc7 h
 refine z2b ?_
 refine cBx ?_
 refine z0f ?_
 refine bR ?_
 iterate 2 refine sX ?_
 refine sS rfl rfl rfl (z97 rfl rfl rfl) ?_
 refine eX ?_
 refine z0o ?_
 refine cBx ?_
 unfold zfj at h
 refine z3p (σ := (Int × (List S_api_Edit))) (fun i => [(3, (PV.fn (.func 33) [] [(PV.rf 0 0)])), (8, (PV.fn (.func 56) [] [(PV.pt 47 (PV.sl none 82 3 (List.map z01 a0)) 0)])), (9, (PV.sl none 20 1 (List.map ofV (a1).asList))), (11, (PV.sl none 20 1 (List.map ofV (a2).asList))), (14, (I64 i.1))]) (fun i => [.box 41 [(PV.sl (some 1) 49 3 (List.map z0b i.2))], .arr 49 (i.2).length]) ((IntKind.i64.wrap (((((a1).asList).length : Nat) : Int) - 1)), s6) h ?_ ?_ ?_
 intro i; exact ⟨lbE rfl, ⟨(il_fn (z5w (il_rf rfl) z8q)), ⟨(z07 (z3a (z39 (z05 (e := 82) (sz := 3) z02 a0) rfl))), ⟨(z07 (z05 ids_V _)), ⟨(z07 (z05 ids_V _)), ⟨(z07 rfl), trivial⟩⟩⟩⟩⟩, ⟨⟨(z2x rfl (z0s z0e _)), trivial⟩, trivial⟩⟩
 exact jN
 rintro g2_f ⟨s12, s13⟩ h; replace h : z6e a0 a1 a2 (fun y0 y1 => g2_f (y0, y1)) s12 s13 = some r := h; unfold z6e at h
 change BW _ _ _ ⟨[(3, (PV.fn (.func 33) [] [(PV.rf 0 0)])), (8, (PV.fn (.func 56) [] [(PV.pt 47 (PV.sl none 82 3 (List.map z01 a0)) 0)])), (9, (PV.sl none 20 1 (List.map ofV (a1).asList))), (11, (PV.sl none 20 1 (List.map ofV (a2).asList))), (14, (I64 s12))], [.box 41 [(PV.sl (some 1) 49 3 (List.map z0b s13))], .arr 49 (s13).length], _⟩ _
 refine z0f ?_
 refine bR ?_
 iterate 3 refine sX ?_
 refine eX ?_
 refine cX h rfl ?_ ?_
 intro hc14 h
 refine z0g ?_
 refine cBx ?_
 refine z0f ?_
 refine z0o ?_
 refine cBx ?_
 refine z0l ?_
 iterate 3 refine sX ?_
 refine sS rfl rfl rfl (z12 (cs := [(ofStr []), (BO true), (I64 s12)]) zgh z1u rfl rfl rfl rfl) ?_
 obtain ⟨x15, hx15, h⟩ := obind h
 refine sS rfl rfl rfl (z2q rfl rfl zq1 rfl (wkr (wkr .nil)) ⟨(z02 (S_api_Step.mk [] true s12)), ⟨(z8r (z05 z02 a0)), trivial⟩⟩ (zok (S_api_Step.mk [] true s12) a0 x15 hx15) (z05 z02 x15)) ?_
 obtain ⟨x16, hx16, h⟩ := obind h
 refine sS rfl rfl rfl (Op1.cast (y := (PV.tup [])) (H'' := [.box 41 [(PV.sl (some 1) 49 3 (List.map z0b x16))], .arr 49 (x16).length]) (z2i [0, 1] (.held rfl rfl) zua rfl (wkr (wkr (.cons (Wk.eq mk_nil.symm) (wkr .nil)))) rfl (.cons rfl (.box (.cons (.row rfl (z0s z0e s13)) .nil)) (.cons rfl .arr .nil)) (.cons (.same rfl) (.cons (.same (z05 z02 x15)) (.cons (.same (ids_V V.nil)) (.cons (.rf rfl) .nil)))) (zr4 3 x15 V.nil s13 x16 hx16) (.same z04) (.cons (.box (.cons (.row rfl (z0s z0e x16)) .nil)) (.cons .arr .nil)) rfl) rfl rfl) (z0h ?_)
 refine cBx ?_
 refine z0l ?_
 refine sX ?_
 refine sS rfl rfl rfl (z97 rfl rfl rfl) ?_
 refine sX (z0h ?_)
 exact ⟨rfl, ((IntKind.i64.wrap (s12 - 1)), x16), h, jN⟩
 intro hc14 h
 refine z2b ?_
 refine cBx ?_
 refine z0f ?_
 refine bR ?_
 iterate 2 refine sX ?_
 refine eX ?_
 refine z0o ?_
 refine cBx ?_
 unfold zfi at h
 refine z3p (σ := (Int × (List S_api_Edit))) (fun i => [(3, (PV.fn (.func 33) [] [(PV.rf 0 0)])), (8, (PV.fn (.func 56) [] [(PV.pt 47 (PV.sl none 82 3 (List.map z01 a0)) 0)])), (11, (PV.sl none 20 1 (List.map ofV (a2).asList))), (15, (I64 i.1))]) (fun i => [.box 41 [(PV.sl (some 1) 49 3 (List.map z0b i.2))], .arr 49 (i.2).length]) (((((a1).asList).length : Nat) : Int), s13) h ?_ ?_ ?_
 intro i; exact ⟨lbE rfl, ⟨(il_fn (z5w (il_rf rfl) z8q)), ⟨(z07 (z3a (z39 (z05 (e := 82) (sz := 3) z02 a0) rfl))), ⟨(z07 (z05 ids_V _)), ⟨(z07 rfl), trivial⟩⟩⟩⟩, ⟨⟨(z2x rfl (z0s z0e _)), trivial⟩, trivial⟩⟩
 exact jN
 rintro g3_f ⟨s17, s18⟩ h; replace h : z6d a0 a2 (fun y0 y1 => g3_f (y0, y1)) s17 s18 = some r := h; unfold z6d at h
 change BW _ _ _ ⟨[(3, (PV.fn (.func 33) [] [(PV.rf 0 0)])), (8, (PV.fn (.func 56) [] [(PV.pt 47 (PV.sl none 82 3 (List.map z01 a0)) 0)])), (11, (PV.sl none 20 1 (List.map ofV (a2).asList))), (15, (I64 s17))], [.box 41 [(PV.sl (some 1) 49 3 (List.map z0b s18))], .arr 49 (s18).length], _⟩ _
 refine z0f ?_
 refine bR ?_
 iterate 3 refine sX ?_
 refine eX ?_
 refine cX h rfl ?_ ?_
 intro hc19 h
 refine z0g ?_
 refine cBx ?_
 refine z0f ?_
 refine z0o ?_
 refine cBx ?_
 refine z1w 9 [] [] mo (by kernel_rfl) ?_
 iterate 3 refine gX ?_
 refine z1r rfl rfl rfl rfl (fun H hp => z12 (cs := [(ofStr []), (BO true), (I64 s17)]) zgh z1u rfl rfl rfl rfl) ?_
 obtain ⟨x20, hx20, h⟩ := obind h
 refine z1r rfl rfl rfl rfl (fun H hp => z2q rfl rfl zq1 rfl (wkr (wkr .nil)) ⟨(z02 (S_api_Step.mk [] true s17)), ⟨(z8r (z05 z02 a0)), trivial⟩⟩ (zok (S_api_Step.mk [] true s17) a0 x20 hx20) (z05 z02 x20)) ?_
 iterate 2 refine gX ?_
 obtain ⟨x21, hx21, h⟩ := obind h
 refine z1r rfl rfl rfl rfl (fun H hp => z26 Tryz.underlying66 z1v rfl rfl rfl hx21 rfl) ?_
 refine z1r rfl rfl rfl rfl (fun H hp => z4e (y := (ofV x21)) Tryz.underlying20 rfl rfl rfl (by rw [z0u]; rfl)) ?_
 refine z20 ?_
 change AO _ _ _ _ _
 obtain ⟨x22, hx22, h⟩ := obind h
 refine sS rfl rfl rfl (Op1.cast (y := (PV.tup [])) (H'' := [.box 41 [(PV.sl (some 1) 49 3 (List.map z0b x22))], .arr 49 (x22).length]) (z2i [0, 1] (.held rfl rfl) zua rfl (wkr (wkr (wkr (wkr .nil)))) rfl (.cons rfl (.box (.cons (.row rfl (z0s z0e s18)) .nil)) (.cons rfl .arr .nil)) (.cons (.same rfl) (.cons (.same (z05 z02 x20)) (.cons (.same (ids_V x21)) (.cons (.rf rfl) .nil)))) (zr4 2 x20 x21 s18 x22 hx22) (.same z04) (.cons (.box (.cons (.row rfl (z0s z0e x22)) .nil)) (.cons .arr .nil)) rfl) rfl rfl) (z0h ?_)
 refine cBx ?_
 refine z0l ?_
 iterate 2 refine sX ?_
 refine sX (z0h ?_)
 exact ⟨rfl, ((IntKind.i64.wrap (s17 + 1)), x22), h, jN⟩
 intro hc19 h
 refine z2b ?_
 refine cBx ?_
 obtain rfl := eI h; exact z06 ⟨_, rfl, endR (y := (PV.tup [])) 2 (Wk.refl _) rfl rfl (.tup .nil) (.cons (.box (.cons (.row rfl (z0s z0e s18)) .nil)) (.cons .arr .nil)) ⟨rfl, rfl⟩⟩
 intro hc4 h
 refine z0g ?_
 refine cBx ?_
 refine bR ?_
 iterate 2 refine sX ?_
 obtain ⟨x23, hx23, h⟩ := obind h
 refine sS rfl rfl rfl (z08 rfl Z8l rfl (wkr (wkr .nil)) ⟨(ids_V a1), ⟨(ids_V a2), trivial⟩⟩ (Z71 a1 a2 x23 hx23) (z00 (z05 z0m x23.1) (z00 (z05 z0m x23.2.1) (z00 rfl z04)))) ?_
 iterate 6 refine sX ?_
 refine eX ?_
 refine z0f ?_
 refine bR ?_
 refine sX ?_
 refine eX ?_
 refine cX h rfl ?_ ?_
 intro hc24 h
 refine bR ?_
 iterate 3 refine sX ?_
 obtain ⟨x25, hx25, h⟩ := obind h
 refine sS rfl rfl rfl (Op1.cast (y := (PV.tup [])) (H'' := [.box 41 [(PV.sl (some 1) 49 3 (List.map z0b x25))], .arr 49 (x25).length]) (z2i [0, 1] (.held rfl rfl) zua rfl (wkr (wkr (wkr (wkr .nil)))) rfl (.cons rfl (.box (.cons (.row rfl (z0s z0e a3c0)) .nil)) (.cons rfl .arr .nil)) (.cons (.same rfl) (.cons (.same (z05 z02 a0)) (.cons (.same (ids_V a2)) (.cons (.rf rfl) .nil)))) (zr4 1 a0 a2 a3c0 x25 hx25) (.same z04) (.cons (.box (.cons (.row rfl (z0s z0e x25)) .nil)) (.cons .arr .nil)) rfl) rfl rfl) (z0h ?_)
 refine cBx ?_
 obtain rfl := eI h; exact z06 ⟨_, rfl, endR (y := (PV.tup [])) 2 (Wk.refl _) rfl rfl (.tup .nil) (.cons (.box (.cons (.row rfl (z0s z0e x25)) .nil)) (.cons .arr .nil)) ⟨rfl, rfl⟩⟩
 intro hc24 h
 refine z0g ?_
 refine cBx ?_
 refine bR ?_
 refine sX ?_
 refine eX ?_
 refine z0o ?_
 refine cBx ?_
 unfold z3l at h
 refine z3p (σ := (Int × Int × (List S_api_Edit))) (fun i => [(3, (PV.fn (.func 33) [] [(PV.rf 0 0)])), (8, (PV.fn (.func 56) [] [(PV.pt 47 (PV.sl none 82 3 (List.map z01 a0)) 0)])), (16, (PV.sl none 86 2 (List.map ofFld x23.1))), (17, (PV.sl none 86 2 (List.map ofFld x23.2.1))), (19, (I64 i.1)), (20, (I64 i.2.1))]) (fun i => [.box 41 [(PV.sl (some 1) 49 3 (List.map z0b i.2.2))], .arr 49 (i.2.2).length]) (0, 0, a3c0) h ?_ ?_ ?_
 intro i; exact ⟨lbE rfl, ⟨(il_fn (z5w (il_rf rfl) z8q)), ⟨(z07 (z3a (z39 (z05 (e := 82) (sz := 3) z02 a0) rfl))), ⟨(z07 (z05 z0m _)), ⟨(z07 (z05 z0m _)), ⟨(z07 rfl), ⟨(z07 rfl), trivial⟩⟩⟩⟩⟩⟩, ⟨⟨(z2x rfl (z0s z0e _)), trivial⟩, trivial⟩⟩
 exact jN
 rintro g1_f ⟨s26, s27, s28⟩ h; replace h : z4c r_q0d a0 x23 (fun y0 y1 y2 => g1_f (y0, y1, y2)) s26 s27 s28 = some r := h; unfold z4c at h
 change BW _ _ _ ⟨[(3, (PV.fn (.func 33) [] [(PV.rf 0 0)])), (8, (PV.fn (.func 56) [] [(PV.pt 47 (PV.sl none 82 3 (List.map z01 a0)) 0)])), (16, (PV.sl none 86 2 (List.map ofFld x23.1))), (17, (PV.sl none 86 2 (List.map ofFld x23.2.1))), (19, (I64 s26)), (20, (I64 s27))], [.box 41 [(PV.sl (some 1) 49 3 (List.map z0b s28))], .arr 49 (s28).length], _⟩ _
 refine z0f ?_
 refine z2e (ι := Bool) (fun i => z8g r_q0d (fun y0 y1 y2 => g1_f (y0, y1, y2)) a0 x23 s26 s27 s28 i = some r) (fun i => [(3, (PV.fn (.func 33) [] [(PV.rf 0 0)])), (8, (PV.fn (.func 56) [] [(PV.pt 47 (PV.sl none 82 3 (List.map z01 a0)) 0)])), (16, (PV.sl none 86 2 (List.map ofFld x23.1))), (17, (PV.sl none 86 2 (List.map ofFld x23.2.1))), (19, (I64 s26)), (20, (I64 s27)), (117, (BO i))]) (fun i => [.box 41 [(PV.sl (some 1) 49 3 (List.map z0b s28))], .arr 49 (s28).length]) ?_ ?_ ?_
 intro i; exact ⟨lbE rfl, ⟨(il_fn (z5w (il_rf rfl) z8q)), ⟨(z07 (z3a (z39 (z05 (e := 82) (sz := 3) z02 a0) rfl))), ⟨(z07 (z05 z0m _)), ⟨(z07 (z05 z0m _)), ⟨(z07 rfl), ⟨(z07 rfl), ⟨(z07 rfl), trivial⟩⟩⟩⟩⟩⟩⟩, ⟨⟨(z2x rfl (z0s z0e _)), trivial⟩, trivial⟩⟩
 rintro s29 h; replace h : z8g r_q0d (fun y0 y1 y2 => g1_f (y0, y1, y2)) a0 x23 s26 s27 s28 s29 = some r := h; unfold z8g at h
 change BW _ _ _ ⟨[(3, (PV.fn (.func 33) [] [(PV.rf 0 0)])), (8, (PV.fn (.func 56) [] [(PV.pt 47 (PV.sl none 82 3 (List.map z01 a0)) 0)])), (16, (PV.sl none 86 2 (List.map ofFld x23.1))), (17, (PV.sl none 86 2 (List.map ofFld x23.2.1))), (19, (I64 s26)), (20, (I64 s27)), (117, (BO s29))], [.box 41 [(PV.sl (some 1) 49 3 (List.map z0b s28))], .arr 49 (s28).length], _⟩ _
 refine cX h rfl ?_ ?_
 intro hc30 h
 refine z0g ?_
 refine cBx ?_
 refine z0o ?_
 refine cBx ?_
 refine z0o ?_
 refine cBx ?_
 refine z2e (ι := Bool) (fun i => z6s r_q0d (fun y0 y1 y2 => g1_f (y0, y1, y2)) a0 x23 s26 s27 s28 i = some r) (fun i => [(3, (PV.fn (.func 33) [] [(PV.rf 0 0)])), (8, (PV.fn (.func 56) [] [(PV.pt 47 (PV.sl none 82 3 (List.map z01 a0)) 0)])), (16, (PV.sl none 86 2 (List.map ofFld x23.1))), (17, (PV.sl none 86 2 (List.map ofFld x23.2.1))), (19, (I64 s26)), (20, (I64 s27)), (142, (BO i))]) (fun i => [.box 41 [(PV.sl (some 1) 49 3 (List.map z0b s28))], .arr 49 (s28).length]) ?_ ?_ ?_
 intro i; exact ⟨lbE rfl, ⟨(il_fn (z5w (il_rf rfl) z8q)), ⟨(z07 (z3a (z39 (z05 (e := 82) (sz := 3) z02 a0) rfl))), ⟨(z07 (z05 z0m _)), ⟨(z07 (z05 z0m _)), ⟨(z07 rfl), ⟨(z07 rfl), ⟨(z07 rfl), trivial⟩⟩⟩⟩⟩⟩⟩, ⟨⟨(z2x rfl (z0s z0e _)), trivial⟩, trivial⟩⟩
 rintro s31 h; replace h : z6s r_q0d (fun y0 y1 y2 => g1_f (y0, y1, y2)) a0 x23 s26 s27 s28 s31 = some r := h; unfold z6s at h
 change BW _ _ _ ⟨[(3, (PV.fn (.func 33) [] [(PV.rf 0 0)])), (8, (PV.fn (.func 56) [] [(PV.pt 47 (PV.sl none 82 3 (List.map z01 a0)) 0)])), (16, (PV.sl none 86 2 (List.map ofFld x23.1))), (17, (PV.sl none 86 2 (List.map ofFld x23.2.1))), (19, (I64 s26)), (20, (I64 s27)), (142, (BO s31))], [.box 41 [(PV.sl (some 1) 49 3 (List.map z0b s28))], .arr 49 (s28).length], _⟩ _
 refine cX h rfl ?_ ?_
 intro hc32 h
 refine bR ?_
 iterate 4 refine sX ?_
 obtain ⟨x33, hx33, h⟩ := obind h
 refine sS rfl rfl rfl (z26 Tryz.underlying68 z13 rfl rfl rfl hx33 rfl) ?_
 iterate 2 refine sX ?_
 refine sS rfl rfl rfl (z12 (cs := [(ofStr x33.1), (BO false), (I64 0)]) zgh z1u rfl rfl rfl rfl) ?_
 obtain ⟨x34, hx34, h⟩ := obind h
 refine sS rfl rfl rfl (z2q rfl rfl zq1 rfl (wkr (wkr .nil)) ⟨(z02 (S_api_Step.mk x33.1 false 0)), ⟨(z8r (z05 z02 a0)), trivial⟩⟩ (zok (S_api_Step.mk x33.1 false 0) a0 x34 hx34) (z05 z02 x34)) ?_
 obtain ⟨x35, hx35, h⟩ := obind h
 refine sS rfl rfl rfl (Op1.cast (y := (PV.tup [])) (H'' := [.box 41 [(PV.sl (some 1) 49 3 (List.map z0b x35))], .arr 49 (x35).length]) (z2i [0, 1] (.held rfl rfl) zua rfl (wkr (wkr (.cons (Wk.eq mk_nil.symm) (wkr .nil)))) rfl (.cons rfl (.box (.cons (.row rfl (z0s z0e s28)) .nil)) (.cons rfl .arr .nil)) (.cons (.same rfl) (.cons (.same (z05 z02 x34)) (.cons (.same (ids_V V.nil)) (.cons (.rf rfl) .nil)))) (zr4 3 x34 V.nil s28 x35 hx35) (.same z04) (.cons (.box (.cons (.row rfl (z0s z0e x35)) .nil)) (.cons .arr .nil)) rfl) rfl rfl) (z0h ?_)
 refine cBx ?_
 refine z0l ?_
 iterate 2 refine sX ?_
 refine sX (z0h ?_)
 exact ⟨rfl, ((IntKind.i64.wrap (s26 + 1)), s27, x35), h, jN⟩
 intro hc32 h
 refine z2e (ι := Bool) (fun i => z8f r_q0d (fun y0 y1 y2 => g1_f (y0, y1, y2)) a0 x23 s26 s27 s28 i = some r) (fun i => [(3, (PV.fn (.func 33) [] [(PV.rf 0 0)])), (8, (PV.fn (.func 56) [] [(PV.pt 47 (PV.sl none 82 3 (List.map z01 a0)) 0)])), (16, (PV.sl none 86 2 (List.map ofFld x23.1))), (17, (PV.sl none 86 2 (List.map ofFld x23.2.1))), (19, (I64 s26)), (20, (I64 s27)), (178, (BO i))]) (fun i => [.box 41 [(PV.sl (some 1) 49 3 (List.map z0b s28))], .arr 49 (s28).length]) ?_ ?_ ?_
 intro i; exact ⟨lbE rfl, ⟨(il_fn (z5w (il_rf rfl) z8q)), ⟨(z07 (z3a (z39 (z05 (e := 82) (sz := 3) z02 a0) rfl))), ⟨(z07 (z05 z0m _)), ⟨(z07 (z05 z0m _)), ⟨(z07 rfl), ⟨(z07 rfl), ⟨(z07 rfl), trivial⟩⟩⟩⟩⟩⟩⟩, ⟨⟨(z2x rfl (z0s z0e _)), trivial⟩, trivial⟩⟩
 rintro s36 h; replace h : z8f r_q0d (fun y0 y1 y2 => g1_f (y0, y1, y2)) a0 x23 s26 s27 s28 s36 = some r := h; unfold z8f at h
 change BW _ _ _ ⟨[(3, (PV.fn (.func 33) [] [(PV.rf 0 0)])), (8, (PV.fn (.func 56) [] [(PV.pt 47 (PV.sl none 82 3 (List.map z01 a0)) 0)])), (16, (PV.sl none 86 2 (List.map ofFld x23.1))), (17, (PV.sl none 86 2 (List.map ofFld x23.2.1))), (19, (I64 s26)), (20, (I64 s27)), (178, (BO s36))], [.box 41 [(PV.sl (some 1) 49 3 (List.map z0b s28))], .arr 49 (s28).length], _⟩ _
 refine cX h rfl ?_ ?_
 intro hc37 h
 refine z0f (z1w 14 [] [] mo (by kernel_rfl) ?_)
 iterate 4 refine gX ?_
 obtain ⟨x38, hx38, h⟩ := obind h
 refine z1r rfl rfl rfl rfl (fun H hp => z26 Tryz.underlying68 z13 rfl rfl rfl hx38 rfl) ?_
 iterate 2 refine gX ?_
 refine z1r rfl rfl rfl rfl (fun H hp => z12 (cs := [(ofStr x38.1), (BO false), (I64 0)]) zgh z1u rfl rfl rfl rfl) ?_
 obtain ⟨x39, hx39, h⟩ := obind h
 refine z1r rfl rfl rfl rfl (fun H hp => z2q rfl rfl zq1 rfl (wkr (wkr .nil)) ⟨(z02 (S_api_Step.mk x38.1 false 0)), ⟨(z8r (z05 z02 a0)), trivial⟩⟩ (zok (S_api_Step.mk x38.1 false 0) a0 x39 hx39) (z05 z02 x39)) ?_
 iterate 2 refine gX ?_
 obtain ⟨x40, hx40, h⟩ := obind h
 refine z1r rfl rfl rfl rfl (fun H hp => z26 Tryz.underlying68 z13 rfl rfl rfl hx40 rfl) ?_
 iterate 2 refine gX ?_
 refine z20 ?_
 change AO _ _ _ _ _
 obtain ⟨x41, hx41, h⟩ := obind h
 refine sS rfl rfl rfl (Op1.cast (y := (PV.tup [])) (H'' := [.box 41 [(PV.sl (some 1) 49 3 (List.map z0b x41))], .arr 49 (x41).length]) (z2i [0, 1] (.held rfl rfl) zua rfl (wkr (wkr (wkr (wkr .nil)))) rfl (.cons rfl (.box (.cons (.row rfl (z0s z0e s28)) .nil)) (.cons rfl .arr .nil)) (.cons (.same rfl) (.cons (.same (z05 z02 x39)) (.cons (.same (ids_V x40.2)) (.cons (.rf rfl) .nil)))) (zr4 2 x39 x40.2 s28 x41 hx41) (.same z04) (.cons (.box (.cons (.row rfl (z0s z0e x41)) .nil)) (.cons .arr .nil)) rfl) rfl rfl) (z0h ?_)
 refine cBx ?_
 refine z0l ?_
 iterate 2 refine sX ?_
 refine sX (z0h ?_)
 exact ⟨rfl, (s26, (IntKind.i64.wrap (s27 + 1)), x41), h, jN⟩
 intro hc37 h
 refine z0f (z1w 19 [] [] mo (by kernel_rfl) ?_)
 iterate 3 refine gX ?_
 obtain ⟨x42, hx42, h⟩ := obind h
 refine z1r rfl rfl rfl rfl (fun H hp => z26 Tryz.underlying68 z13 rfl rfl rfl hx42 rfl) ?_
 iterate 2 refine gX ?_
 refine z1r rfl rfl rfl rfl (fun H hp => z12 (cs := [(ofStr x42.1), (BO false), (I64 0)]) zgh z1u rfl rfl rfl rfl) ?_
 obtain ⟨x43, hx43, h⟩ := obind h
 refine z1r rfl rfl rfl rfl (fun H hp => z2q rfl rfl zq1 rfl (wkr (wkr .nil)) ⟨(z02 (S_api_Step.mk x42.1 false 0)), ⟨(z8r (z05 z02 a0)), trivial⟩⟩ (zok (S_api_Step.mk x42.1 false 0) a0 x43 hx43) (z05 z02 x43)) ?_
 iterate 2 refine gX ?_
 obtain ⟨x44, hx44, h⟩ := obind h
 refine z1r rfl rfl rfl rfl (fun H hp => z26 Tryz.underlying68 z13 rfl rfl rfl hx44 rfl) ?_
 iterate 4 refine gX ?_
 obtain ⟨x45, hx45, h⟩ := obind h
 refine z1r rfl rfl rfl rfl (fun H hp => z26 Tryz.underlying68 z13 rfl rfl rfl hx45 rfl) ?_
 iterate 3 refine gX ?_
 refine z20 ?_
 change AO _ _ _ _ _
 obtain ⟨x46, hx46, h⟩ := obind h
 refine sS rfl rfl rfl (Op1.cast (y := (PV.tup [])) (H'' := [.box 41 [(PV.sl (some 1) 49 3 (List.map z0b x46))], .arr 49 (x46).length]) (z2i [0, 1] (.func rfl) Z2g rfl (wkr (wkr (wkr (wkr .nil)))) rfl (.cons rfl (.box (.cons (.row rfl (z0s z0e s28)) .nil)) (.cons rfl .arr .nil)) (.cons (.same (z05 z02 x43)) (.cons (.same (ids_V x44.2)) (.cons (.same (ids_V x45.2)) (.cons (.fn (.cons (.rf rfl) .nil)) .nil)))) (c_q0d x43 x44.2 x45.2 s28 x46 hx46) (.same z04) (.cons (.box (.cons (.row rfl (z0s z0e x46)) .nil)) (.cons .arr .nil)) rfl) rfl rfl) (z0h ?_)
 refine cBx ?_
 refine bR ?_
 iterate 2 refine sX ?_
 refine eX ?_
 refine z0l ?_
 iterate 2 refine sX ?_
 refine sX (z0h ?_)
 exact ⟨rfl, ((IntKind.i64.wrap (s26 + 1)), (IntKind.i64.wrap (s27 + 1)), x46), h, jN⟩
 refine z1w 15 [] [] mo (by kernel_rfl) ?_
 iterate 5 refine gX ?_
 refine z7y 183 rfl ?_ ?_
 intro hb47; replace h := z10 hb47 h
 iterate 10 refine mX ?_
 refine z20 ?_
 change AO _ _ _ _ _
 refine nX ?_
 refine sX ?_
 refine sX (z0h ?_)
 exact ⟨rfl, true, h, jN⟩
 intro hb47; replace h := z11 hb47 h
 iterate 2 refine wX ?_
 obtain ⟨x48, hx48, h⟩ := obind h
 refine z84 rfl rfl rfl rfl rfl rfl rfl (fun H hp => z26 Tryz.underlying68 z13 rfl rfl rfl hx48 rfl) ?_
 iterate 4 refine wX ?_
 obtain ⟨x49, hx49, h⟩ := obind h
 refine z84 rfl rfl rfl rfl rfl rfl rfl (fun H hp => z26 Tryz.underlying68 z13 rfl rfl rfl hx49 rfl) ?_
 iterate 2 refine wX ?_
 refine z20 ?_
 change AO _ _ _ _ _
 refine z23 rfl rfl rfl rfl rfl rfl ((z2r (a := x48.1) (b := x49.1) rfl rfl rfl rfl).cast (y := (BO ((Op.bytesLess x48.1 x49.1)))) rfl rfl) ?_
 refine sX ?_
 refine sX (z0h ?_)
 exact ⟨rfl, (Op.bytesLess x48.1 x49.1), h, jN⟩
 refine z1w 20 [] [] mo (by kernel_rfl) ?_
 iterate 5 refine gX ?_
 refine z7y 147 rfl ?_ ?_
 intro hb50; replace h := z10 hb50 h
 iterate 15 refine mX ?_
 refine z20 ?_
 change AO _ _ _ _ _
 iterate 2 refine nX ?_
 refine sX ?_
 refine sX (z0h ?_)
 exact ⟨rfl, true, h, jN⟩
 intro hb50; replace h := z11 hb50 h
 iterate 5 refine wX ?_
 refine z7y 152 rfl ?_ ?_
 intro hb51; replace h := z10 hb51 h
 iterate 2 refine wX ?_
 obtain ⟨x52, hx52, h⟩ := obind h
 refine z84 rfl rfl rfl rfl rfl rfl rfl (fun H hp => z26 Tryz.underlying68 z13 rfl rfl rfl hx52 rfl) ?_
 iterate 4 refine wX ?_
 obtain ⟨x53, hx53, h⟩ := obind h
 refine z84 rfl rfl rfl rfl rfl rfl rfl (fun H hp => z26 Tryz.underlying68 z13 rfl rfl rfl hx53 rfl) ?_
 iterate 2 refine wX ?_
 refine z20 ?_
 change AO _ _ _ _ _
 refine z23 rfl rfl rfl rfl rfl rfl ((z2r (a := x52.1) (b := x53.1) rfl rfl rfl rfl).cast (y := (BO ((Op.bytesLess x52.1 x53.1)))) rfl rfl) ?_
 refine yX ?_
 refine sX ?_
 refine sX (z0h ?_)
 exact ⟨rfl, (Op.bytesLess x52.1 x53.1), h, jN⟩
 intro hb51; replace h := z11 hb51 h
 iterate 10 refine mX ?_
 refine z20 ?_
 change AO _ _ _ _ _
 refine nX ?_
 refine yX ?_
 refine sX ?_
 refine sX (z0h ?_)
 exact ⟨rfl, false, h, jN⟩
 intro hc30 h
 refine z2b ?_
 change ∃ xs, _ = some xs ∧ EndOk _ _ _ _
 obtain rfl := Option.some.inj h
 exact ⟨_, rfl, endR (y := (PV.tup [])) 2 (Wk.refl _) rfl rfl (.tup .nil) (.cons (.box (.cons (.row rfl (z0s z0e s28)) .nil)) (.cons .arr .nil)) ⟨rfl, rfl⟩⟩
 refine z0l ?_
 iterate 5 refine sX ?_
 refine z0t (t := 112) rfl ?_ ?_
 intro hb54; replace h := z10 hb54 h
 iterate 4 refine nX ?_
 refine sX (z0h ?_)
 exact ⟨rfl, true, h, jN⟩
 intro hb54; replace h := z11 hb54 h
 iterate 4 refine yX ?_
 refine sX (z0h ?_)
 exact ⟨rfl, (decide (s27 < (((x23.2.1).length : Nat) : Int))), h, jN⟩
 refine z0l ?_
 iterate 2 refine sX ?_
 refine z0t (t := 36) rfl ?_ ?_
 intro hb55; replace h := z10 hb55 h
 refine yX ?_
 refine sX (z0h ?_)
 exact ⟨rfl, (a2).isList, h, jN⟩
 intro hb55; replace h := z11 hb55 h
 refine nX ?_
 refine sX (z0h ?_)
 exact ⟨rfl, false, h, jN⟩
theorem C_q0d.sound : ∀ (i : C_q0d) (r : i.R), z3q C_q0d.F i = some r → C_q0d.Q i r := by
 refine z50 (Φ := C_q0d.F) (Q := C_q0d.Q) ?_
 intro g hg i r h
 cases i with
 | k_q0d a0 a1 a2 a3c0 => exact z62 (fun a0 a1 a2 a3c0 => g (.k_q0d a0 a1 a2 a3c0)) (fun a0 a1 a2 a3c0 r hr => hg (.k_q0d a0 a1 a2 a3c0) r hr) a0 a1 a2 a3c0 r h
theorem Z7o (a0 : (List S_api_Step)) (a1 a2 : V) (a3c0 r : (List S_api_Edit)) (h : zl5 a0 a1 a2 a3c0 = some r) : z2t Tryz.prog 32 [(PV.sl none 82 3 (List.map z01 a0)), (ofV a1), (ofV a2), (PV.fn (.func 33) [] [(PV.rf 0 0)])] [.box 41 [(PV.sl (some 1) 49 3 (List.map z0b a3c0))], .arr 49 (a3c0).length] (PV.tup []) [.box 41 [(PV.sl (some 1) 49 3 (List.map z0b r))], .arr 49 (r).length] := C_q0d.sound (.k_q0d a0 a1 a2 a3c0) r h
noncomputable def zse (a0 a1 : V) : Option ((List S_api_Edit) × Int) :=
 (zgs a0).bind fun x1 =>
 bif (x1.2 != 0) then (
 some ([], x1.2)
 ) else (
 (zgs a1).bind fun x3 =>
 bif (x3.2 != 0) then (
 some ([], x3.2)
 ) else (
 (zl5 ([]) a0 a1 ([] : (List S_api_Edit))).bind fun x5 =>
 some (x5, 0)
 )
 )
theorem Z6x (a0 a1 : V) (r : ((List S_api_Edit) × Int)) (h : zse a0 a1 = some r) : z0p Tryz.prog 16 [(ofV a0), (ofV a1)] (PV.tup [(PV.sl none 49 3 (List.map z0b r.1)), (I64 r.2)]) := by
 unfold zse at h
 refine z0j Tryz.func16 rfl Tryz.ntmps16 Tryz.results16 rfl (z0n ?_)
 change BW _ _ _ ⟨[(0, (ofV a0)), (1, (ofV a1))], [], _⟩ _
 refine bR ?_
 refine sX ?_
 refine eX ?_
 refine z0f ?_
 refine bR ?_
 refine sX ?_
 obtain ⟨x1, hx1, h⟩ := obind h
 refine sS rfl rfl rfl (z08 rfl zub rfl (wkr .nil) ⟨(ids_V a0), trivial⟩ (zr5 a0 x1 hx1) (z00 rfl (z00 rfl z04))) ?_
 iterate 4 refine sX ?_
 refine eX ?_
 refine bR ?_
 refine sX ?_
 refine eX ?_
 refine cX h rfl ?_ ?_
 intro hc2 h
 refine bR ?_
 iterate 2 refine sX ?_
 refine eX ?_
 obtain rfl := eI h; exact z06 ⟨_, rfl, z0r (y := (PV.tup [(PV.sl none 49 3 (List.map z0b [])), (I64 x1.2)])) (Wk.tup (.cons Wk.nil (wkr .nil))) (z00 (z05 z0e ([])) (z00 rfl z04)) ⟨rfl, rfl⟩⟩
 intro hc2 h
 refine z0g ?_
 refine cBx ?_
 refine z0f ?_
 refine bR ?_
 refine sX ?_
 obtain ⟨x3, hx3, h⟩ := obind h
 refine sS rfl rfl rfl (z08 rfl zub rfl (wkr .nil) ⟨(ids_V a1), trivial⟩ (zr5 a1 x3 hx3) (z00 rfl (z00 rfl z04))) ?_
 iterate 4 refine sX ?_
 refine eX ?_
 refine bR ?_
 refine sX ?_
 refine eX ?_
 refine cX h rfl ?_ ?_
 intro hc4 h
 refine bR ?_
 iterate 2 refine sX ?_
 refine eX ?_
 obtain rfl := eI h; exact z06 ⟨_, rfl, z0r (y := (PV.tup [(PV.sl none 49 3 (List.map z0b [])), (I64 x3.2)])) (Wk.tup (.cons Wk.nil (wkr .nil))) (z00 (z05 z0e ([])) (z00 rfl z04)) ⟨rfl, rfl⟩⟩
 intro hc4 h
 refine z0g ?_
 refine cBx ?_
 refine bR ?_
 refine sS rfl rfl rfl (z1h zzj rfl) (z0h ?_)
 refine cBx ?_
 refine z0f ?_
 refine zk7 (s := ⟨_, _, _⟩) 0 0 49 (sz := 3) rfl rfl rfl ?_
 refine z0l ?_
 iterate 2 refine sX ?_
 refine sS rfl rfl rfl (ze8 rfl rfl rfl) ?_
 obtain ⟨x5, hx5, h⟩ := obind h
 refine sS rfl rfl rfl (Op1.cast (y := (PV.tup [])) (H'' := [.box 41 [(PV.sl (some 1) 49 3 (List.map z0b x5))], .arr 49 (x5).length]) (z2i [0, 1] (.func rfl) Z2g rfl (.cons Wk.nil (wkr (wkr (wkr .nil)))) rfl (.cons rfl (.box (.cons (.row rfl (z0s z0e ([] : (List S_api_Edit)))) .nil)) (.cons rfl .arr .nil)) (.cons (.same (z05 z02 ([]))) (.cons (.same (ids_V a0)) (.cons (.same (ids_V a1)) (.cons (.fn (.cons (.rf rfl) .nil)) .nil)))) (Z7o ([]) a0 a1 ([] : (List S_api_Edit)) x5 hx5) (.same z04) (.cons (.box (.cons (.row rfl (z0s z0e x5)) .nil)) (.cons .arr .nil)) rfl) rfl rfl) (z0h ?_)
 refine cBx ?_
 refine bR ?_
 iterate 2 refine sX ?_
 refine eX ?_
 obtain rfl := eI h; exact z06 ⟨_, rfl, z0r (y := (PV.tup [(PV.sl none 49 3 (List.map z0b x5)), (I64 0)])) (Wk.tup (.cons Wk.tok (wkr .nil))) (z00 (z05 z0e x5) (z00 rfl z04)) ⟨rfl, rfl⟩⟩
noncomputable def zl3 (a0 a1 a2 : V) : Option ((List S_api_Edit) × Int) :=
 (zgt a0 a1 a2).bind fun x1 =>
 bif (x1.2.2 != 0) then (
 some ([], x1.2.2)
 ) else (
 (zse a2 x1.1).bind fun x3 =>
 some (x3.1, x3.2)
 )
theorem Z79 (a0 a1 a2 : V) (r : ((List S_api_Edit) × Int)) (h : zl3 a0 a1 a2 = some r) : z0p Tryz.prog 9 [(ofV a0), (ofV a1), (ofV a2)] (PV.tup [(PV.sl none 49 3 (List.map z0b r.1)), (I64 r.2)]) := by
 unfold zl3 at h
 refine z0j Tryz.func9 rfl Tryz.ntmps9 Tryz.results9 rfl (z0n ?_)
 change BW _ _ _ ⟨[(0, (ofV a0)), (1, (ofV a1)), (2, (ofV a2))], [], _⟩ _
 refine bR ?_
 refine sX ?_
 refine eX ?_
 refine bR ?_
 iterate 3 refine sX ?_
 obtain ⟨x1, hx1, h⟩ := obind h
 refine sS rfl rfl rfl (z08 rfl Z5l rfl (wkr (wkr (wkr (wkr .nil)))) ⟨(ids_V a0), ⟨(ids_V a1), ⟨(ids_V a2), ⟨rfl, trivial⟩⟩⟩⟩ (Z46 a0 a1 a2 x1 hx1) (z00 (ids_V x1.1) (z00 (z05 z0a x1.2.1) (z00 rfl z04)))) ?_
 iterate 6 refine sX ?_
 refine eX ?_
 refine z0f ?_
 refine bR ?_
 refine sX ?_
 refine eX ?_
 refine cX h rfl ?_ ?_
 intro hc2 h
 refine bR ?_
 iterate 2 refine sX ?_
 refine eX ?_
 obtain rfl := eI h; exact z06 ⟨_, rfl, z0r (y := (PV.tup [(PV.sl none 49 3 (List.map z0b [])), (I64 x1.2.2)])) (Wk.tup (.cons Wk.nil (wkr .nil))) (z00 (z05 z0e ([])) (z00 rfl z04)) ⟨rfl, rfl⟩⟩
 intro hc2 h
 refine z0g ?_
 refine cBx ?_
 refine bR ?_
 iterate 2 refine sX ?_
 obtain ⟨x3, hx3, h⟩ := obind h
 refine sS rfl rfl rfl (z08 rfl Z8r rfl (wkr (wkr .nil)) ⟨(ids_V a2), ⟨(ids_V x1.1), trivial⟩⟩ (Z6x a2 x1.1 x3 hx3) (z00 (z05 z0e x3.1) (z00 rfl z04))) ?_
 iterate 3 refine sX ?_
 refine eX ?_
 obtain rfl := eI h; exact z06 ⟨_, rfl, z0r (y := (PV.tup [(PV.sl none 49 3 (List.map z0b x3.1)), (I64 x3.2)])) (Wk.refl _) (z00 (z05 z0e x3.1) (z00 rfl z04)) ⟨rfl, rfl⟩⟩
noncomputable def Z1a (a0 : Str) (a1 : UInt8) : Option Int :=
 some (ixB a0 a1)
theorem Z7t (a0 : Str) (a1 : UInt8) (r : Int) (h : Z1a a0 a1 = some r) : z0p Tryz.prog 155 [(ofStr a0), (ofB a1)] (I64 r) := by
 unfold Z1a at h
 refine z0j Tryz.func155 rfl Tryz.ntmps155 Tryz.results155 rfl (z0n ?_)
 change BW _ _ _ ⟨[(0, (ofStr a0)), (1, (ofB a1))], [], _⟩ _
 refine bR ?_
 refine eX ?_
 refine bR ?_
 iterate 2 refine sX ?_
 refine sS rfl rfl rfl (Z1g (s := a0) (c := a1) rfl rfl rfl) ?_
 refine eX ?_
 obtain rfl := eI h; exact z06 eK
noncomputable def zsp (a0 : Str) (a1 : UInt8) : Option Int :=
 (Z1a a0 a1).bind fun x1 =>
 some x1
theorem Z48 (a0 : Str) (a1 : UInt8) (r : Int) (h : zsp a0 a1 = some r) : z0p Tryz.prog 135 [(ofStr a0), (ofB a1)] (I64 r) := by
 unfold zsp at h
 refine z0j Tryz.func135 rfl Tryz.ntmps135 Tryz.results135 rfl (z0n ?_)
 change BW _ _ _ ⟨[(0, (ofStr a0)), (1, (ofB a1))], [], _⟩ _
 refine bR ?_
 refine eX ?_
 refine bR ?_
 iterate 2 refine sX ?_
 obtain ⟨x1, hx1, h⟩ := obind h
 refine sS rfl rfl rfl (z08 rfl Z5o rfl (wkr (wkr .nil)) ⟨rfl, ⟨rfl, trivial⟩⟩ (Z7t a0 a1 x1 hx1) rfl) ?_
 refine eX ?_
 obtain rfl := eI h; exact z06 eK
noncomputable def zad (g1 : Int → Option Str) (a0 : Str) (a1 s1 : Int) (s2 : Bool) : Option Str :=
 bif s2 then (
 g1 (IntKind.i64.wrap (s1 + 1))
 ) else (
 (zhi a0 a1 s1).bind fun x4 =>
 some x4
 )
theorem zrh (g1 : OF ρ → Int → Option Str) (h_g1 : ∀ y0, CM (fun G => g1 G y0)) (a0 : Str) (a1 s1 : Int) (s2 : Bool) : CM (fun G : OF ρ => zad (g1 G) a0 a1 s1 s2) := by
 simp only [zad]
 repeat (first | exact z0i | exact h_g1 _ | refine z18 ?_ ?_ | refine z19 ?_ (fun _ => ?_))
noncomputable def z7b (a0 : Str) (a1 : Int) (a2 : Str) (g1 : Int → Option Str) (s1 : Int) : Option Str :=
 bif (decide (s1 < (((a0).length : Nat) : Int))) then (
 (z82 a0 s1).bind fun x6 =>
 (zsp a2 x6).bind fun x7 =>
 zad g1 a0 a1 s1 (decide (x7 ≥ 0))
 ) else (
 zad g1 a0 a1 s1 false
 )
theorem zoq (g1 : OF ρ → Int → Option Str) (h_g1 : ∀ y0, CM (fun G => g1 G y0)) (a0 : Str) (a1 : Int) (a2 : Str) (s1 : Int) : CM (fun G : OF ρ => z7b a0 a1 a2 (g1 G) s1) := by
 simp only [z7b]
 repeat (first | exact z0i | exact h_g1 _ | apply zrh | refine z18 ?_ ?_ | refine z19 ?_ (fun _ => ?_) | intro _ | assumption)
noncomputable def zi0 (a0 : Str) (a1 : Int) (a2 : Str) (s1 : Int) : Option Str :=
 z3q (ι := Int) (ρ := fun _ => Str) (fun g i => z7b a0 a1 a2 (fun s1 => g s1) i) s1
theorem zhz (a0 : Str) (a1 : Int) (a2 : Str) (s1 : Int) : zi0 a0 a1 a2 s1 = z7b a0 a1 a2 (zi0 a0 a1 a2) s1 :=
 z1j (ι := Int) (ρ := fun _ => Str) (Φ := fun g i => z7b a0 a1 a2 (fun s1 => g s1) i) (fun i => zoq (ι := Int) (ρ := fun _ => Str) (fun g => (fun s1 => g s1)) (fun _ => z1l) a0 a1 a2 i) s1
noncomputable def zsf (a0 : Str) (a1 : Int) (a2 : Str) : Option Str :=
 zi0 a0 a1 a2 a1
theorem Z6y (a0 : Str) (a1 : Int) (a2 r : Str) (h : zsf a0 a1 a2 = some r) : z0p Tryz.prog 136 [(ofStr a0), (I64 a1), (ofStr a2)] (ofStr r) := by
 unfold zsf at h
 refine z0j Tryz.func136 rfl Tryz.ntmps136 Tryz.results136 rfl (z0n ?_)
 change BW _ _ _ ⟨[(0, (ofStr a0)), (1, (I64 a1)), (2, (ofStr a2))], [], _⟩ _
 refine bR ?_
 refine eX ?_
 refine bR ?_
 refine sX ?_
 refine eX ?_
 refine z0f ?_
 refine z0o ?_
 refine cBx ?_
 unfold zi0 at h
 refine lX (σ := Int) (fun i => [(0, (ofStr a0)), (1, (I64 a1)), (2, (ofStr a2)), (7, (I64 i))]) (fun i => []) a1 h ?_ ?_
 exact jN
 rintro g1_f s1 h; replace h : z7b a0 a1 a2 (fun y0 => g1_f y0) s1 = some r := h; unfold z7b at h
 change BW _ _ _ ⟨[(0, (ofStr a0)), (1, (I64 a1)), (2, (ofStr a2)), (7, (I64 s1))], [], _⟩ _
 refine z0f ?_
 refine jX (ι := Bool) (fun i => zad (fun y0 => g1_f y0) a0 a1 s1 i = some r) (fun i => [(0, (ofStr a0)), (1, (I64 a1)), (2, (ofStr a2)), (7, (I64 s1)), (20, (BO i))]) (fun i => []) ?_ ?_
 rintro s2 h; replace h : zad (fun y0 => g1_f y0) a0 a1 s1 s2 = some r := h; unfold zad at h
 change BW _ _ _ ⟨[(0, (ofStr a0)), (1, (I64 a1)), (2, (ofStr a2)), (7, (I64 s1)), (20, (BO s2))], [], _⟩ _
 refine cX h rfl ?_ ?_
 intro hc3 h
 refine z0g ?_
 refine cBx ?_
 refine z0o ?_
 refine cBx ?_
 refine z0l ?_
 iterate 2 refine sX ?_
 refine sX (z0h ?_)
 exact ⟨rfl, (IntKind.i64.wrap (s1 + 1)), h, jN⟩
 intro hc3 h
 refine z2b ?_
 refine cBx ?_
 refine bR ?_
 iterate 3 refine sX ?_
 obtain ⟨x4, hx4, h⟩ := obind h
 refine sS rfl rfl rfl (zwx (s := a0) (l := a1) (h := s1) Tryz.underlying9 rfl rfl rfl rfl rfl rfl hx4) ?_
 refine eX ?_
 obtain rfl := eI h; exact z06 eK
 refine z0l ?_
 iterate 2 refine sX ?_
 refine sS rfl rfl rfl (zcv (s := a0) Tryz.underlying9 rfl rfl) ?_
 iterate 2 refine sX ?_
 refine z0t (t := 13) rfl ?_ ?_
 intro hb5; replace h := z10 hb5 h
 iterate 3 refine yX ?_
 obtain ⟨x6, hx6, h⟩ := obind h
 refine z23 rfl rfl rfl rfl rfl rfl (zn8 (s := a0) Tryz.underlying9 rfl rfl rfl hx6) ?_
 obtain ⟨x7, hx7, h⟩ := obind h
 refine z23 rfl rfl rfl rfl rfl rfl (z08 rfl zzq rfl (wkr (wkr .nil)) ⟨rfl, ⟨rfl, trivial⟩⟩ (Z48 a2 x6 x7 hx7) rfl) ?_
 refine yX ?_
 refine sX (z0h ?_)
 exact ⟨rfl, (decide (x7 ≥ 0)), h, jN⟩
 intro hb5; replace h := z11 hb5 h
 iterate 6 refine nX ?_
 refine sX (z0h ?_)
 exact ⟨rfl, false, h, jN⟩
end Go.Proofs.YtmoijodjgkfhgaaGreat
