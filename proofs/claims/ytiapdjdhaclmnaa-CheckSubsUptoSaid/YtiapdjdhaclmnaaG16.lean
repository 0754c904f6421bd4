/- Pure functions, and that calls answer as they say. -/
import Derived.Test.YtiapdjdhaclmnaaG15
namespace Go.Proofs.Ytiapdjdhaclmnaa
open Go Aw
set_option linter.unusedVariables false
set_option maxRecDepth 20000
set_option maxHeartbeats 2000000
variable {ι : Type} {ρ : ι → Type}
noncomputable def z5y (r_q27 : Typ → Option Bool) (a0 : Typ) (g1 : Nat → Option Bool) (s4 : Nat) : Option Bool :=
 bif (decide (((s4 : Nat) : Int) < (((a0.parts).length : Nat) : Int))) then (
 ((a0.parts)[s4]?).bind fun x7 =>
 (r_q27 x7).bind fun x8 =>
 bif (!x8) then (
 some false
 ) else (
 g1 (s4 + 1)
 )
 ) else (
 some true
 )
theorem zc3 (r_q27 : OF ρ → Typ → Option Bool) (h_r_q27 : ∀ y0, CM (fun G => r_q27 G y0)) (g1 : OF ρ → Nat → Option Bool) (h_g1 : ∀ y0, CM (fun G => g1 G y0)) (a0 : Typ) (s4 : Nat) : CM (fun G : OF ρ => z5y (r_q27 G) a0 (g1 G) s4) := by
 simp only [z5y]
 repeat (first | exact z01 | exact h_r_q27 _ | exact h_g1 _ | refine z0h ?_ ?_ | refine z0i ?_ (fun _ => ?_))
noncomputable def zh5 (r_q27 : Typ → Option Bool) (a0 : Typ) (s4 : Nat) : Option Bool :=
 z22 (ι := Nat) (ρ := fun _ => Bool) (fun g i => z5y r_q27 a0 (fun s4 => g s4) i) s4
theorem zke (r_q27 : Typ → Option Bool) (a0 : Typ) (s4 : Nat) : zh5 r_q27 a0 s4 = z5y r_q27 a0 (zh5 r_q27 a0) s4 :=
 z0t (ι := Nat) (ρ := fun _ => Bool) (Φ := fun g i => z5y r_q27 a0 (fun s4 => g s4) i) (fun i => zc3 (ι := Nat) (ρ := fun _ => Bool) (fun _ => r_q27) (fun _ => z01) (fun g => (fun s4 => g s4)) (fun _ => z0s) a0 i) s4
theorem ztq (r_q27 : OF ρ → Typ → Option Bool) (h_r_q27 : ∀ y0, CM (fun G => r_q27 G y0)) (a0 : Typ) (s4 : Nat) : CM (fun G : OF ρ => zh5 (r_q27 G) a0 s4) :=
 z28 (κ := Nat) (τ := fun _ => Bool) (Φ := fun G g i => z5y (r_q27 G) a0 (fun s4 => g s4) i) (fun g i => zc3 r_q27 h_r_q27 (fun _ => (fun s4 => g s4)) (fun _ => z01) a0 i) (fun G i => zc3 (ι := Nat) (ρ := fun _ => Bool) (fun _ => r_q27 G) (fun _ => z01) (fun g => (fun s4 => g s4)) (fun _ => z0s) a0 i) s4
noncomputable def z5k (r_q27 : Typ → Option Bool) (a0 : Typ) (s2 : Bool) : Option Bool :=
 bif s2 then (
 some false
 ) else (
 zh5 r_q27 a0 0
 )
theorem ztr (r_q27 : OF ρ → Typ → Option Bool) (h_r_q27 : ∀ y0, CM (fun G => r_q27 G y0)) (a0 : Typ) (s2 : Bool) : CM (fun G : OF ρ => z5k (r_q27 G) a0 s2) := by
 simp only [z5k]
 repeat (first | exact z01 | exact h_r_q27 _ | apply ztq | refine z0h ?_ ?_ | refine z0i ?_ (fun _ => ?_) | intro _ | assumption)
noncomputable def zo7 (r_q27 : Typ → Option Bool) (a0 : Typ) : Option Bool :=
 (z9w a0).bind fun x1 =>
 bif (a0.of != x1.of) then (
 z5k r_q27 a0 true
 ) else (
 bif (!(a0.cls == x1.cls)) then (
 z5k r_q27 a0 true
 ) else (
 bif (!(a0.opn == x1.opn)) then (
 z5k r_q27 a0 true
 ) else (
 bif ((((a0.parts).length : Nat) : Int) != (((x1.parts).length : Nat) : Int)) then (
 z5k r_q27 a0 true
 ) else (
 bif ((((a0.names).length : Nat) : Int) != (((x1.names).length : Nat) : Int)) then (
 z5k r_q27 a0 true
 ) else (
 bif ((((a0.lacks).length : Nat) : Int) != (((x1.lacks).length : Nat) : Int)) then (
 z5k r_q27 a0 true
 ) else (
 bif (a0.kind != 4) then (
 z5k r_q27 a0 ((a0.only).kind != 0)
 ) else (
 z5k r_q27 a0 false
 )
 )
 )
 )
 )
 )
 )
theorem Z19 (r_q27 : OF ρ → Typ → Option Bool) (h_r_q27 : ∀ y0, CM (fun G => r_q27 G y0)) (a0 : Typ) : CM (fun G : OF ρ => zo7 (r_q27 G) a0) := by
 simp only [zo7]
 repeat (first | exact z01 | exact h_r_q27 _ | apply ztr | refine z0h ?_ ?_ | refine z0i ?_ (fun _ => ?_) | intro _ | assumption)
inductive C_q27 where
 | k_q27 (a0 : Typ)
def C_q27.R : C_q27 → Type
 | .k_q27 _ => Bool
noncomputable def C_q27.F (g : ∀ i : C_q27, Option i.R) : ∀ i : C_q27, Option i.R
 | .k_q27 a0 => zo7 (fun a0 => g (.k_q27 a0)) a0
noncomputable def zj7 (a0 : Typ) : Option Bool := z22 C_q27.F (.k_q27 a0)
abbrev Zfn := fun (g : ∀ i : C_q27, Option i.R) a0 => g (.k_q27 a0)
theorem Zfg (a0 : _) : CM (ρ := C_q27.R) (fun g => g (C_q27.k_q27 a0)) := z0s
theorem C_q27.cm (i : C_q27) : CM (fun g : (∀ i : C_q27, Option i.R) => C_q27.F g i) := by
 cases i with
 | k_q27 a0 => exact Z19 Zfn Zfg a0
theorem Zcx (a0 : Typ) : zj7 a0 = zo7 zj7 a0 := z0t C_q27.cm (.k_q27 a0)
def C_q27.Q : ∀ i : C_q27, i.R → Prop
 | .k_q27 a0 => fun (r : Bool) => z08 Try.prog 23 [(z02 a0)] (BO r)
theorem zk1 (r_q27 : Typ → Option Bool) (c_q27 : ∀ (a0 : Typ) r, r_q27 a0 = some r → z08 Try.prog 23 [(z02 a0)] (BO r)) (a0 : Typ) (r : Bool) (h : zo7 r_q27 a0 = some r) : z08 Try.prog 23 [(z02 a0)] (BO r) := by
 unfold zo7 at h
 refine z0g Try.func23 rfl Try.ntmps23 Try.results23 rfl (z0q ?_)
 change BW _ _ _ ⟨[(0, (z02 a0))], [], _⟩ _
 refine bR ?_
 refine sX ?_
 refine eX ?_
 refine bR ?_
 refine sX ?_
 obtain ⟨x1, hx1, h⟩ := obind h
 refine sS rfl rfl rfl (z04 rfl zsg rfl (wkr .nil) ⟨(z0b a0), trivial⟩ (zt4 a0 x1 hx1) (z0b x1)) ?_
 refine sS rfl rfl rfl (z16 z0u rfl) ?_
 refine z0m rfl rfl (z0d z0u rfl rfl rfl rfl rfl rfl (lbE rfl) rfl) ?_
 refine z06 ?_
 refine cBx ?_
 refine z09 ?_
 refine jX (ι := Bool) (fun i => z5k r_q27 a0 i = some r) (fun i => [(1, (PV.rf 0 0)), (63, (BO i))]) (fun i => [.box 34 (z0x a0)]) ?_ ?_
 rintro s2 h; replace h : z5k r_q27 a0 s2 = some r := h; unfold z5k at h
 change BW _ _ _ ⟨[(1, (PV.rf 0 0)), (63, (BO s2))], [.box 34 (z0x a0)], _⟩ _
 refine cX h rfl ?_ ?_
 intro hc3 h
 refine bR ?_
 refine eX ?_
 obtain rfl := eI h; exact z05 eK
 intro hc3 h
 refine z07 ?_
 refine cBx ?_
 refine z09 ?_
 refine bR ?_
 refine eX ?_
 refine z0e ?_
 refine cBx ?_
 unfold zh5 at h
 refine lX (σ := Nat) (fun i => [(1, (PV.rf 0 0)), (4, (I64 (((i : Nat) : Int))))]) (fun i => [.box 34 (z0x a0)]) 0 h ?_ ?_
 exact jN
 rintro g1_f s4 h; replace h : z5y r_q27 a0 (fun y0 => g1_f y0) s4 = some r := h; unfold z5y at h
 change BW _ _ _ ⟨[(1, (PV.rf 0 0)), (4, (I64 (((s4 : Nat) : Int))))], [.box 34 (z0x a0)], _⟩ _
 refine z09 ?_
 refine bR ?_
 iterate 4 refine sX ?_
 refine eX ?_
 refine z2f (t := 66) rfl fun hb6 => ?_
 try rw [List.length_map] at hb6
 refine cX h rfl ?_ ?_
 intro hc5 h
 have hc5_ := of_decide_eq_true hc5
 refine z07 ?_
 refine cBx ?_
 refine z09 ?_
 refine z0e ?_
 refine cBx ?_
 refine bR ?_
 iterate 3 refine sX ?_
 obtain ⟨x7, hx7, h⟩ := obind h
 refine sS rfl rfl rfl (z0w (i := s4) Try.underlying30 z0u rfl rfl rfl hx7 (z1c _)) ?_
 refine sX ?_
 obtain ⟨x8, hx8, h⟩ := obind h
 refine sS rfl rfl rfl (z04 rfl Z9k rfl (wkr .nil) ⟨(z0b x7), trivial⟩ (c_q27 x7 x8 hx8) rfl) ?_
 refine eX ?_
 refine cX h rfl ?_ ?_
 intro hc9 h
 refine bR ?_
 refine eX ?_
 obtain rfl := eI h; exact z05 eK
 intro hc9 h
 refine z07 ?_
 refine cBx ?_
 refine z0a ?_
 refine sX ?_
 refine sS rfl rfl rfl (z1b (k := s4) (c := 1) rfl rfl rfl (by omega)) ?_
 refine sX (z06 ?_)
 exact ⟨rfl, (s4 + 1), h, jN⟩
 intro hc5 h
 refine z1a ?_
 refine cBx ?_
 refine bR ?_
 refine eX ?_
 obtain rfl := eI h; exact z05 eK
 refine zsi ?_
 iterate 6 refine sX ?_
 refine z0n (t := 12) rfl ?_ ?_
 intro hb10; replace h := z0j hb10 h
 iterate 5 refine nX ?_
 iterate 2 refine sX ?_
 iterate 5 refine nX ?_
 iterate 2 refine sX ?_
 iterate 7 refine nX ?_
 iterate 2 refine sX ?_
 iterate 7 refine nX ?_
 iterate 2 refine sX ?_
 iterate 7 refine nX ?_
 iterate 2 refine sX ?_
 iterate 9 refine nX ?_
 refine sX (z06 ?_)
 exact ⟨rfl, true, h, jN⟩
 intro hb10; replace h := z0k hb10 h
 iterate 4 refine yX ?_
 refine z1g rfl rfl rfl rfl rfl rfl ((z21 (a := a0.cls) (b := x1.cls) rfl rfl rfl rfl).cast (y := (BO ((!(a0.cls == x1.cls))))) rfl rfl) ?_
 iterate 2 refine sX ?_
 refine z0n (t := 19) rfl ?_ ?_
 intro hb11; replace h := z0j hb11 h
 iterate 5 refine nX ?_
 iterate 2 refine sX ?_
 iterate 7 refine nX ?_
 iterate 2 refine sX ?_
 iterate 7 refine nX ?_
 iterate 2 refine sX ?_
 iterate 7 refine nX ?_
 iterate 2 refine sX ?_
 iterate 9 refine nX ?_
 refine sX (z06 ?_)
 exact ⟨rfl, true, h, jN⟩
 intro hb11; replace h := z0k hb11 h
 iterate 4 refine yX ?_
 refine z1g rfl rfl rfl rfl rfl rfl (zje Try.underlying4 rfl rfl rfl) ?_
 iterate 2 refine sX ?_
 refine z0n (t := 26) rfl ?_ ?_
 intro hb12; replace h := z0j hb12 h
 iterate 7 refine nX ?_
 iterate 2 refine sX ?_
 iterate 7 refine nX ?_
 iterate 2 refine sX ?_
 iterate 7 refine nX ?_
 iterate 2 refine sX ?_
 iterate 9 refine nX ?_
 refine sX (z06 ?_)
 exact ⟨rfl, true, h, jN⟩
 intro hb12; replace h := z0k hb12 h
 iterate 7 refine yX ?_
 iterate 2 refine sX ?_
 refine z0n (t := 35) rfl ?_ ?_
 intro hb13; replace h := z0j hb13 h
 iterate 7 refine nX ?_
 iterate 2 refine sX ?_
 iterate 7 refine nX ?_
 iterate 2 refine sX ?_
 iterate 9 refine nX ?_
 refine sX (z06 ?_)
 exact ⟨rfl, true, h, jN⟩
 intro hb13; replace h := z0k hb13 h
 iterate 7 refine yX ?_
 iterate 2 refine sX ?_
 refine z0n (t := 44) rfl ?_ ?_
 intro hb14; replace h := z0j hb14 h
 iterate 7 refine nX ?_
 iterate 2 refine sX ?_
 iterate 9 refine nX ?_
 refine sX (z06 ?_)
 exact ⟨rfl, true, h, jN⟩
 intro hb14; replace h := z0k hb14 h
 iterate 7 refine yX ?_
 iterate 2 refine sX ?_
 refine z0n (t := 53) rfl ?_ ?_
 intro hb15; replace h := z0j hb15 h
 iterate 9 refine nX ?_
 refine sX (z06 ?_)
 exact ⟨rfl, true, h, jN⟩
 intro hb15; replace h := z0k hb15 h
 iterate 4 refine yX ?_
 refine z0n (t := 57) rfl ?_ ?_
 intro hb16; replace h := z0j hb16 h
 iterate 5 refine yX ?_
 refine sX (z06 ?_)
 exact ⟨rfl, ((a0.only).kind != 0), h, jN⟩
 intro hb16; replace h := z0k hb16 h
 iterate 4 refine nX ?_
 refine yX ?_
 refine sX (z06 ?_)
 exact ⟨rfl, false, h, jN⟩
theorem C_q27.sound : ∀ (i : C_q27) (r : i.R), z22 C_q27.F i = some r → C_q27.Q i r := by
 refine z2r (Φ := C_q27.F) (Q := C_q27.Q) ?_
 intro g hg i r h
 cases i with
 | k_q27 a0 => exact zk1 (fun a0 => g (.k_q27 a0)) (fun a0 r hr => hg (.k_q27 a0) r hr) a0 r h
theorem Zap (a0 : Typ) (r : Bool) (h : zj7 a0 = some r) : z08 Try.prog 23 [(z02 a0)] (BO r) := C_q27.sound (.k_q27 a0) r h
noncomputable def zf0 (a0 a1 : Typ) (x3 x4 x5 : (Typ × Int)) (s10 : Bool) : Option Bool :=
 bif s10 then (
 some false
 ) else (
 (z9w a0).bind fun x12 =>
 (z9w a1).bind fun x13 =>
 (zj0 (x3.1)).bind fun x14 =>
 (zls (Typ.mk 2 0 (Term.mk 0 false 0 0 [] [] 0 [] [] [] 0) [] [] [] false []) (Typ.mk 1 0 (Term.mk 0 false 0 0 [] [] 0 [] [] [] 0) [] [] [] false [])).bind fun x15 =>
 (z7t (x4.1) (x5.1)).bind fun x16 =>
 bif x16 then (
 (z7t a0 x12).bind fun x18 =>
 bif x18 then (
 (z7t a1 x13).bind fun x20 =>
 bif x20 then (
 bif x15.1 then (
 some (x15.2 == 0)
 ) else (
 some false
 )
 ) else (
 some false
 )
 ) else (
 some false
 )
 ) else (
 some false
 )
 )
noncomputable def zf1 (a0 a1 : Typ) (x3 x4 x5 : (Typ × Int)) (s6 : Bool) : Option Bool :=
 bif s6 then (
 some false
 ) else (
 bif (x5.2 != 0) then (
 bif ((x3.1).kind == 0) then (
 some ((IntKind.i64.wrap (((((x3.1).parts).length : Nat) : Int) + ((((x3.1).names).length : Nat) : Int))) == 0)
 ) else (
 some false
 )
 ) else (
 (z7t (x3.1) (x5.1)).bind fun x23 =>
 bif (!x23) then (
 zf0 a0 a1 x3 x4 x5 true
 ) else (
 (z7t (x4.1) (x5.1)).bind fun x25 =>
 bif (!x25) then (
 zf0 a0 a1 x3 x4 x5 true
 ) else (
 (zj7 (x3.1)).bind fun x27 =>
 zf0 a0 a1 x3 x4 x5 (!x27)
 )
 )
 )
 )
noncomputable def zz8 (a0 a1 : Typ) : Option Bool :=
 (zls a0 a1).bind fun x1 =>
 (zvr a0 a1).bind fun x2 =>
 (zrt a0 a1).bind fun x3 =>
 (zrt a0 a1).bind fun x4 =>
 (zw2 a0 a1).bind fun x5 =>
 bif (!(x1.1 == x2.1)) then (
 zf1 a0 a1 x3 x4 x5 true
 ) else (
 bif (x1.2 != x2.2) then (
 zf1 a0 a1 x3 x4 x5 true
 ) else (
 zf1 a0 a1 x3 x4 x5 (x3.2 != x5.2)
 )
 )
theorem Zb6 (a0 a1 : Typ) (r : Bool) (h : zz8 a0 a1 = some r) : z08 Try.prog 7 [(z02 a0), (z02 a1)] (BO r) := by
 unfold zz8 at h
 refine z0g Try.func7 rfl Try.ntmps7 Try.results7 rfl (z0q ?_)
 change BW _ _ _ ⟨[(0, (z02 a0)), (1, (z02 a1))], [], _⟩ _
 refine bR ?_
 iterate 2 refine sX ?_
 refine eX ?_
 refine bR ?_
 iterate 2 refine sX ?_
 obtain ⟨x1, hx1, h⟩ := obind h
 refine sS rfl rfl rfl (z04 rfl Z9m rfl (wkr (wkr .nil)) ⟨(z0b a0), ⟨(z0b a1), trivial⟩⟩ (Z74 a0 a1 x1 hx1) (z03 rfl (z03 rfl z0o))) ?_
 iterate 4 refine sX ?_
 refine eX ?_
 refine bR ?_
 iterate 2 refine sX ?_
 obtain ⟨x2, hx2, h⟩ := obind h
 refine sS rfl rfl rfl (z04 rfl Zcr rfl (wkr (wkr .nil)) ⟨(z0b a0), ⟨(z0b a1), trivial⟩⟩ (Zam a0 a1 x2 hx2) (z03 rfl (z03 rfl z0o))) ?_
 iterate 4 refine sX ?_
 refine eX ?_
 refine bR ?_
 iterate 2 refine sX ?_
 obtain ⟨x3, hx3, h⟩ := obind h
 refine sS rfl rfl rfl (zlx rfl Z9l rfl (.cons (.old (.wk (Wk.refl _) (z0b a0))) (.cons (.old (.wk (Wk.refl _) (z0b a1))) .nil)) (Z7h a0 a1 x3 hx3) (Pl.tup (.cons (zvj x3.1) (.cons Pl.v .nil)))) ?_
 refine sX ?_
 refine sS rfl rfl rfl (zdx rfl rfl rfl) ?_
 refine sS rfl rfl rfl ((zdx rfl rfl rfl).wk (Wk.hidSc Sc.v)) ?_
 refine sS rfl rfl rfl (z16 z0u rfl) ?_
 refine zsk 35 rfl (Wk.openedH (k := 2) (cs := (cc4 (x3.1))) (.cons (Wk.hidSc Sc.v) (.cons (Wk.hidSc Sc.v) (.cons (Wk.hidSc Sc.v) (.cons (Wk.hidSc Sc.v) (.cons (Wk.hidSc Sc.v) (.cons (Wk.hidSc Sc.v) (.cons (Wk.hidSc Sc.v) (wkr (.cons (Wk.hidSc Sc.v) (wkr (wkr (.cons (Wk.hidSc Sc.v) (.cons (Wk.hidSc Sc.v) (wkr (wkr (wkr (.cons (Wk.hidSc Sc.v) (.cons (Wk.hidSc Sc.v) .nil))))))))))))))))))) ?_
 refine z0m rfl rfl (z0d z0u rfl rfl rfl rfl rfl rfl (lbE rfl) rfl) ?_
 refine eX ?_
 refine bR ?_
 iterate 2 refine sX ?_
 obtain ⟨x4, hx4, h⟩ := obind h
 refine sS rfl rfl rfl (zlx rfl Z9l rfl (.cons (.old (.wk (Wk.refl _) (z0b a0))) (.cons (.old (.wk (Wk.refl _) (z0b a1))) .nil)) (Z7h a0 a1 x4 hx4) (Pl.tup (.cons (zvj x4.1) (.cons Pl.v .nil)))) ?_
 refine sX ?_
 refine sS rfl rfl rfl (zdx rfl rfl rfl) ?_
 refine sS rfl rfl rfl ((zdx rfl rfl rfl).wk (Wk.hidSc Sc.v)) ?_
 refine sS rfl rfl rfl (z16 z0u rfl) ?_
 refine zsk 41 rfl (Wk.openedH (k := 4) (cs := (cc4 (x4.1))) (.cons (Wk.hidSc Sc.v) (.cons (Wk.hidSc Sc.v) (.cons (Wk.hidSc Sc.v) (.cons (Wk.hidSc Sc.v) (.cons (Wk.hidSc Sc.v) (.cons (Wk.hidSc Sc.v) (.cons (Wk.hidSc Sc.v) (wkr (.cons (Wk.hidSc Sc.v) (wkr (wkr (.cons (Wk.hidSc Sc.v) (.cons (Wk.hidSc Sc.v) (wkr (wkr (wkr (.cons (Wk.hidSc Sc.v) (.cons (Wk.hidSc Sc.v) .nil))))))))))))))))))) ?_
 refine z0m rfl rfl (z0d z0u rfl rfl rfl rfl rfl rfl (lbE rfl) rfl) ?_
 refine eX ?_
 refine bR ?_
 iterate 2 refine sX ?_
 obtain ⟨x5, hx5, h⟩ := obind h
 refine sS rfl rfl rfl (z04 rfl Zcq rfl (wkr (wkr .nil)) ⟨(z0b a0), ⟨(z0b a1), trivial⟩⟩ (Zb1 a0 a1 x5 hx5) (z03 (z0b x5.1) (z03 rfl z0o))) ?_
 iterate 3 refine sX ?_
 refine sS rfl rfl rfl (z16 z0u rfl) ?_
 refine z0m rfl rfl (z0d z0u rfl rfl rfl rfl rfl rfl (lbE rfl) rfl) ?_
 refine eX ?_
 refine z09 ?_
 refine z37 (ι := Bool) (fun i => zf1 a0 a1 x3 x4 x5 i = some r) (fun i => [(2, (PV.rf 0 0)), (3, (PV.rf 1 0)), (9, (PV.rf 3 0)), (11, (PV.rf 5 0)), (13, (PV.rf 6 0)), (14, (I64 x5.2)), (61, (BO i))]) (fun i => [.box 34 (z0x a0), .box 34 (z0x a1), .reg, .box 34 (cc1 (x3.1)), .reg, .box 34 (cc2 (x4.1)), .box 34 (z0x (x5.1))]) ?_ ?_ ?_
 intro i; exact ⟨lbE rfl, ⟨(il_rf rfl), ⟨(il_rf rfl), ⟨(il_rf rfl), ⟨(il_rf rfl), ⟨(il_rf rfl), ⟨(z00 rfl), ⟨(z00 rfl), trivial⟩⟩⟩⟩⟩⟩⟩, ⟨wfC34, ⟨wfC34, ⟨⟨(z00 rfl), ⟨(z00 rfl), ⟨(z00 rfl), ⟨(z00 rfl), ⟨(z00 rfl), ⟨(z00 rfl), ⟨(z00 rfl), ⟨(z3e rfl (z0c (fun _ => rfl) _)), ⟨(z00 rfl), ⟨(z3e rfl (z0c z1p _)), ⟨(z3e rfl (z0c z19 _)), ⟨(z00 rfl), ⟨(z00 rfl), ⟨(z3e rfl (z0c z1m _)), ⟨(z3e rfl (z0c (fun _ => rfl) _)), ⟨(z3e rfl (z0c (fun _ => rfl) _)), ⟨(z00 rfl), ⟨(z00 rfl), trivial⟩⟩⟩⟩⟩⟩⟩⟩⟩⟩⟩⟩⟩⟩⟩⟩⟩⟩, ⟨⟨(z00 rfl), ⟨(z00 rfl), ⟨(z00 rfl), ⟨(z00 rfl), ⟨(z00 rfl), ⟨(z00 rfl), ⟨(z00 rfl), ⟨(z3e rfl (z0c (fun _ => rfl) _)), ⟨(z00 rfl), ⟨(z3e rfl (z0c z1p _)), ⟨(z3e rfl (z0c z19 _)), ⟨(z00 rfl), ⟨(z00 rfl), ⟨(z3e rfl (z0c z1m _)), ⟨(z3e rfl (z0c (fun _ => rfl) _)), ⟨(z3e rfl (z0c (fun _ => rfl) _)), ⟨(z00 rfl), ⟨(z00 rfl), trivial⟩⟩⟩⟩⟩⟩⟩⟩⟩⟩⟩⟩⟩⟩⟩⟩⟩⟩, ⟨wfC34, trivial⟩⟩⟩⟩⟩⟩
 rintro s6 h; replace h : zf1 a0 a1 x3 x4 x5 s6 = some r := h; unfold zf1 at h
 change BW _ _ _ ⟨[(2, (PV.rf 0 0)), (3, (PV.rf 1 0)), (9, (PV.rf 3 0)), (11, (PV.rf 5 0)), (13, (PV.rf 6 0)), (14, (I64 x5.2)), (61, (BO s6))], [.box 34 (z0x a0), .box 34 (z0x a1), .reg, .box 34 (cc1 (x3.1)), .reg, .box 34 (cc2 (x4.1)), .box 34 (z0x (x5.1))], _⟩ _
 refine cX h rfl ?_ ?_
 intro hc7 h
 refine bR ?_
 refine eX ?_
 obtain rfl := eI h; exact z05 eK
 intro hc7 h
 refine z07 ?_
 refine cBx ?_
 refine z09 ?_
 refine bR ?_
 refine sX ?_
 refine eX ?_
 refine cX h rfl ?_ ?_
 intro hc8 h
 refine bR ?_
 iterate 4 refine sX ?_
 refine z0n (t := 67) rfl ?_ ?_
 intro hb9; replace h := z0j hb9 h
 iterate 2 refine yX ?_
 refine z1g rfl rfl rfl rfl rfl rfl (zpq [2] ⟨rfl, trivial⟩ (z4i Try.underlying30 rfl rfl) Sc.v) ?_
 iterate 2 refine yX ?_
 refine z1g rfl rfl rfl rfl rfl rfl (zpq [2] ⟨rfl, trivial⟩ (z4i Try.underlying31 rfl rfl) Sc.v) ?_
 iterate 2 refine yX ?_
 refine sX ?_
 refine eX ?_
 obtain rfl := eI h; exact z05 eK
 intro hb9; replace h := z0k hb9 h
 iterate 8 refine nX ?_
 refine sX ?_
 refine eX ?_
 obtain rfl := eI h; exact z05 eK
 intro hc8 h
 refine z07 ?_
 refine cBx ?_
 refine z09 ?_
 refine z37 (ι := Bool) (fun i => zf0 a0 a1 x3 x4 x5 i = some r) (fun i => [(2, (PV.rf 0 0)), (3, (PV.rf 1 0)), (9, (PV.rf 3 0)), (11, (PV.rf 5 0)), (13, (PV.rf 6 0)), (91, (BO i))]) (fun i => [.box 34 (z0x a0), .box 34 (z0x a1), .reg, .box 34 (cc1 (x3.1)), .reg, .box 34 (cc2 (x4.1)), .box 34 (z0x (x5.1))]) ?_ ?_ ?_
 intro i; exact ⟨lbE rfl, ⟨(il_rf rfl), ⟨(il_rf rfl), ⟨(il_rf rfl), ⟨(il_rf rfl), ⟨(il_rf rfl), ⟨(z00 rfl), trivial⟩⟩⟩⟩⟩⟩, ⟨wfC34, ⟨wfC34, ⟨⟨(z00 rfl), ⟨(z00 rfl), ⟨(z00 rfl), ⟨(z00 rfl), ⟨(z00 rfl), ⟨(z00 rfl), ⟨(z00 rfl), ⟨(z3e rfl (z0c (fun _ => rfl) _)), ⟨(z00 rfl), ⟨(z3e rfl (z0c z1p _)), ⟨(z3e rfl (z0c z19 _)), ⟨(z00 rfl), ⟨(z00 rfl), ⟨(z3e rfl (z0c z1m _)), ⟨(z3e rfl (z0c (fun _ => rfl) _)), ⟨(z3e rfl (z0c (fun _ => rfl) _)), ⟨(z00 rfl), ⟨(z00 rfl), trivial⟩⟩⟩⟩⟩⟩⟩⟩⟩⟩⟩⟩⟩⟩⟩⟩⟩⟩, ⟨⟨(z00 rfl), ⟨(z00 rfl), ⟨(z00 rfl), ⟨(z00 rfl), ⟨(z00 rfl), ⟨(z00 rfl), ⟨(z00 rfl), ⟨(z3e rfl (z0c (fun _ => rfl) _)), ⟨(z00 rfl), ⟨(z3e rfl (z0c z1p _)), ⟨(z3e rfl (z0c z19 _)), ⟨(z00 rfl), ⟨(z00 rfl), ⟨(z3e rfl (z0c z1m _)), ⟨(z3e rfl (z0c (fun _ => rfl) _)), ⟨(z3e rfl (z0c (fun _ => rfl) _)), ⟨(z00 rfl), ⟨(z00 rfl), trivial⟩⟩⟩⟩⟩⟩⟩⟩⟩⟩⟩⟩⟩⟩⟩⟩⟩⟩, ⟨wfC34, trivial⟩⟩⟩⟩⟩⟩
 rintro s10 h; replace h : zf0 a0 a1 x3 x4 x5 s10 = some r := h; unfold zf0 at h
 change BW _ _ _ ⟨[(2, (PV.rf 0 0)), (3, (PV.rf 1 0)), (9, (PV.rf 3 0)), (11, (PV.rf 5 0)), (13, (PV.rf 6 0)), (91, (BO s10))], [.box 34 (z0x a0), .box 34 (z0x a1), .reg, .box 34 (cc1 (x3.1)), .reg, .box 34 (cc2 (x4.1)), .box 34 (z0x (x5.1))], _⟩ _
 refine cX h rfl ?_ ?_
 intro hc11 h
 refine bR ?_
 refine eX ?_
 obtain rfl := eI h; exact z05 eK
 intro hc11 h
 refine z07 ?_
 refine cBx ?_
 refine z09 ?_
 refine zqp 34 ?_
 refine zqp 34 ?_
 refine Z12 [(4, 7, .box 34 z5d), (5, 8, .box 34 z5d)] [6, 7] [0, 1] mo (by kernel_rfl) rfl ?_
 refine Z2b rfl rfl rfl rfl rfl (fun H hp => (z4u z0u Try.underlying34 rfl rfl rfl (hp.at rfl rfl) rfl rfl)) ?_
 obtain ⟨x12, hx12, h⟩ := obind h
 refine Z2b rfl rfl rfl rfl rfl (fun H hp => z04 rfl zsg rfl (wkr .nil) ⟨(z0b a0), trivial⟩ (zt4 a0 x12 hx12) (z0b x12)) ?_
 refine Z2b rfl rfl rfl rfl rfl (fun H hp => (z4u z0u Try.underlying34 rfl rfl rfl (hp.at rfl rfl) rfl rfl)) ?_
 obtain ⟨x13, hx13, h⟩ := obind h
 refine Z2b rfl rfl rfl rfl rfl (fun H hp => z04 rfl zsg rfl (wkr .nil) ⟨(z0b a1), trivial⟩ (zt4 a1 x13 hx13) (z0b x13)) ?_
 refine zyk (i := 7) rfl rfl rfl rfl rfl z0u rfl rfl ?_
 refine zyk (i := 8) rfl rfl rfl rfl rfl z0u rfl rfl ?_
 refine zyj rfl rfl rfl rfl (z0d z0u rfl rfl rfl rfl rfl rfl (lbE rfl) rfl) ⟨rfl, ⟨rfl, trivial⟩⟩ ?_
 refine zyj rfl rfl rfl rfl (z0d z0u rfl rfl rfl rfl rfl rfl (lbE rfl) rfl) ⟨rfl, ⟨rfl, trivial⟩⟩ ?_
 refine Zae ?_
 refine cBx ?_
 refine bR ?_
 refine sS rfl rfl rfl (Op1.wk (x := (PV.agg (cc1 (x3.1)))) ((z4u z0u Try.underlying34 rfl rfl rfl rfl rfl rfl)) (Wk.closedH (k := 2) (ys := (cc4 (x3.1))) (.cons (Wk.scHid Sc.v) (.cons (Wk.scHid Sc.v) (.cons (Wk.scHid Sc.v) (.cons (Wk.scHid Sc.v) (.cons (Wk.scHid Sc.v) (.cons (Wk.scHid Sc.v) (.cons (Wk.scHid Sc.v) (wkr (.cons (Wk.scHid Sc.v) (wkr (wkr (.cons (Wk.scHid Sc.v) (.cons (Wk.scHid Sc.v) (wkr (wkr (wkr (.cons (Wk.scHid Sc.v) (.cons (Wk.scHid Sc.v) .nil)))))))))))))))))))) ?_
 obtain ⟨x14, hx14, h⟩ := obind h
 refine sS rfl rfl rfl (zwl 2 rfl Z9j rfl rfl (.cons .hid .nil) (zr3 (x3.1) hx14) (Sc.tup z8e)) (z06 ?_)
 refine cBx ?_
 refine bR ?_
 refine sS rfl rfl rfl (z1x (cs := [(I64 2), (I64 0), (I64 0), (BO false), (I64 0), (PV.v (.float .f64 0)), (ofStr []), (PV.v (.slice none 0 0)), (PV.v (.int .u64 0)), (PV.v (.slice none 0 0)), (PV.v (.slice none 0 0)), (ofStr []), (I64 0), (PV.v (.slice none 0 0)), (PV.v (.slice none 0 0)), (PV.v (.slice none 0 0)), (BO false), (ofStr [])]) z5e z0u rfl rfl rfl rfl) ?_
 refine sS rfl rfl rfl (z1x (cs := [(I64 1), (I64 0), (I64 0), (BO false), (I64 0), (PV.v (.float .f64 0)), (ofStr []), (PV.v (.slice none 0 0)), (PV.v (.int .u64 0)), (PV.v (.slice none 0 0)), (PV.v (.slice none 0 0)), (ofStr []), (I64 0), (PV.v (.slice none 0 0)), (PV.v (.slice none 0 0)), (PV.v (.slice none 0 0)), (BO false), (ofStr [])]) z5e z0u rfl rfl rfl rfl) ?_
 obtain ⟨x15, hx15, h⟩ := obind h
 refine sS rfl rfl rfl (z04 rfl Z9m rfl (.cons (Wk.agg (wkr (wkr (wkr (wkr (wkr (wkr (wkr (wkn (wkr (wkn (wkn (wkr (wkr (wkn (wkn (wkn (wkr (wkr .nil))))))))))))))))))) (.cons (Wk.agg (wkr (wkr (wkr (wkr (wkr (wkr (wkr (wkn (wkr (wkn (wkn (wkr (wkr (wkn (wkn (wkn (wkr (wkr .nil))))))))))))))))))) .nil)) ⟨(z0b (Typ.mk 2 0 (Term.mk 0 false 0 0 [] [] 0 [] [] [] 0) [] [] [] false [])), ⟨(z0b (Typ.mk 1 0 (Term.mk 0 false 0 0 [] [] 0 [] [] [] 0) [] [] [] false [])), trivial⟩⟩ (Z74 (Typ.mk 2 0 (Term.mk 0 false 0 0 [] [] 0 [] [] [] 0) [] [] [] false []) (Typ.mk 1 0 (Term.mk 0 false 0 0 [] [] 0 [] [] [] 0) [] [] [] false []) x15 hx15) (z03 rfl (z03 rfl z0o))) ?_
 iterate 4 refine sX ?_
 refine eX ?_
 refine bR ?_
 refine sS rfl rfl rfl (Op1.wk (x := (PV.agg (cc2 (x4.1)))) ((z4u z0u Try.underlying34 rfl rfl rfl rfl rfl rfl)) (Wk.closedH (k := 4) (ys := (cc4 (x4.1))) (.cons (Wk.scHid Sc.v) (.cons (Wk.scHid Sc.v) (.cons (Wk.scHid Sc.v) (.cons (Wk.scHid Sc.v) (.cons (Wk.scHid Sc.v) (.cons (Wk.scHid Sc.v) (.cons (Wk.scHid Sc.v) (wkr (.cons (Wk.scHid Sc.v) (wkr (wkr (.cons (Wk.scHid Sc.v) (.cons (Wk.scHid Sc.v) (wkr (wkr (wkr (.cons (Wk.scHid Sc.v) (.cons (Wk.scHid Sc.v) .nil)))))))))))))))))))) ?_
 refine sX ?_
 obtain ⟨x16, hx16, h⟩ := obind h
 refine sS rfl rfl rfl (zb1 rfl zsh rfl (.cons (.hid rfl) (.cons (.wk (Wk.refl _) (z0b (x5.1))) .nil)) (zt1 (x4.1) (x5.1) x16 hx16) Sc.v) ?_
 refine sX ?_
 refine z0n (t := 107) rfl ?_ ?_
 intro hb17; replace h := z0j hb17 h
 iterate 2 refine yX ?_
 obtain ⟨x18, hx18, h⟩ := obind h
 refine z1g rfl rfl rfl rfl rfl rfl (z04 rfl zsh rfl (wkr (wkr .nil)) ⟨(z0b a0), ⟨(z0b x12), trivial⟩⟩ (zt1 a0 x12 x18 hx18) rfl) ?_
 iterate 2 refine sX ?_
 refine z0n (t := 112) rfl ?_ ?_
 intro hb19; replace h := z0j hb19 h
 iterate 2 refine yX ?_
 obtain ⟨x20, hx20, h⟩ := obind h
 refine z1g rfl rfl rfl rfl rfl rfl (z04 rfl zsh rfl (wkr (wkr .nil)) ⟨(z0b a1), ⟨(z0b x13), trivial⟩⟩ (zt1 a1 x13 x20 hx20) rfl) ?_
 iterate 2 refine sX ?_
 refine z0n (t := 117) rfl ?_ ?_
 intro hb21; replace h := z0j hb21 h
 refine yX ?_
 iterate 2 refine sX ?_
 refine z0n (t := 120) rfl ?_ ?_
 intro hb22; replace h := z0j hb22 h
 iterate 2 refine yX ?_
 refine sX ?_
 refine eX ?_
 obtain rfl := eI h; exact z05 eK
 intro hb22; replace h := z0k hb22 h
 iterate 2 refine nX ?_
 refine sX ?_
 refine eX ?_
 obtain rfl := eI h; exact z05 eK
 intro hb21; replace h := z0k hb21 h
 refine nX ?_
 iterate 2 refine sX ?_
 iterate 2 refine nX ?_
 refine sX ?_
 refine eX ?_
 obtain rfl := eI h; exact z05 eK
 intro hb19; replace h := z0k hb19 h
 iterate 3 refine nX ?_
 iterate 2 refine sX ?_
 refine nX ?_
 iterate 2 refine sX ?_
 iterate 2 refine nX ?_
 refine sX ?_
 refine eX ?_
 obtain rfl := eI h; exact z05 eK
 intro hb17; replace h := z0k hb17 h
 iterate 3 refine nX ?_
 iterate 2 refine sX ?_
 iterate 3 refine nX ?_
 iterate 2 refine sX ?_
 refine nX ?_
 iterate 2 refine sX ?_
 iterate 2 refine nX ?_
 refine sX ?_
 refine eX ?_
 obtain rfl := eI h; exact z05 eK
 refine z0a ?_
 refine sS rfl rfl rfl (Op1.wk (x := (PV.agg (cc1 (x3.1)))) ((z4u z0u Try.underlying34 rfl rfl rfl rfl rfl rfl)) (Wk.closedH (k := 2) (ys := (cc4 (x3.1))) (.cons (Wk.scHid Sc.v) (.cons (Wk.scHid Sc.v) (.cons (Wk.scHid Sc.v) (.cons (Wk.scHid Sc.v) (.cons (Wk.scHid Sc.v) (.cons (Wk.scHid Sc.v) (.cons (Wk.scHid Sc.v) (wkr (.cons (Wk.scHid Sc.v) (wkr (wkr (.cons (Wk.scHid Sc.v) (.cons (Wk.scHid Sc.v) (wkr (wkr (wkr (.cons (Wk.scHid Sc.v) (.cons (Wk.scHid Sc.v) .nil)))))))))))))))))))) ?_
 refine sX ?_
 obtain ⟨x23, hx23, h⟩ := obind h
 refine sS rfl rfl rfl (zb1 rfl zsh rfl (.cons (.hid rfl) (.cons (.wk (Wk.refl _) (z0b (x5.1))) .nil)) (zt1 (x3.1) (x5.1) x23 hx23) Sc.v) ?_
 iterate 2 refine sX ?_
 refine z0n (t := 81) rfl ?_ ?_
 intro hb24; replace h := z0j hb24 h
 iterate 4 refine nX ?_
 iterate 2 refine sX ?_
 iterate 3 refine nX ?_
 refine sX (z06 ?_)
 exact ⟨rfl, true, h, jN⟩
 intro hb24; replace h := z0k hb24 h
 refine z1g rfl rfl rfl rfl rfl rfl (Op1.wk (x := (PV.agg (cc2 (x4.1)))) ((z4u z0u Try.underlying34 rfl rfl rfl rfl rfl rfl)) (Wk.closedH (k := 4) (ys := (cc4 (x4.1))) (.cons (Wk.scHid Sc.v) (.cons (Wk.scHid Sc.v) (.cons (Wk.scHid Sc.v) (.cons (Wk.scHid Sc.v) (.cons (Wk.scHid Sc.v) (.cons (Wk.scHid Sc.v) (.cons (Wk.scHid Sc.v) (wkr (.cons (Wk.scHid Sc.v) (wkr (wkr (.cons (Wk.scHid Sc.v) (.cons (Wk.scHid Sc.v) (wkr (wkr (wkr (.cons (Wk.scHid Sc.v) (.cons (Wk.scHid Sc.v) .nil)))))))))))))))))))) ?_
 refine yX ?_
 obtain ⟨x25, hx25, h⟩ := obind h
 refine z1g rfl rfl rfl rfl rfl rfl (zb1 rfl zsh rfl (.cons (.hid rfl) (.cons (.wk (Wk.refl _) (z0b (x5.1))) .nil)) (zt1 (x4.1) (x5.1) x25 hx25) Sc.v) ?_
 refine yX ?_
 iterate 2 refine sX ?_
 refine z0n (t := 87) rfl ?_ ?_
 intro hb26; replace h := z0j hb26 h
 iterate 3 refine nX ?_
 refine sX (z06 ?_)
 exact ⟨rfl, true, h, jN⟩
 intro hb26; replace h := z0k hb26 h
 refine z1g rfl rfl rfl rfl rfl rfl (Op1.wk (x := (PV.agg (cc1 (x3.1)))) ((z4u z0u Try.underlying34 rfl rfl rfl rfl rfl rfl)) (Wk.closedH (k := 2) (ys := (cc4 (x3.1))) (.cons (Wk.scHid Sc.v) (.cons (Wk.scHid Sc.v) (.cons (Wk.scHid Sc.v) (.cons (Wk.scHid Sc.v) (.cons (Wk.scHid Sc.v) (.cons (Wk.scHid Sc.v) (.cons (Wk.scHid Sc.v) (wkr (.cons (Wk.scHid Sc.v) (wkr (wkr (.cons (Wk.scHid Sc.v) (.cons (Wk.scHid Sc.v) (wkr (wkr (wkr (.cons (Wk.scHid Sc.v) (.cons (Wk.scHid Sc.v) .nil)))))))))))))))))))) ?_
 obtain ⟨x27, hx27, h⟩ := obind h
 refine z1g rfl rfl rfl rfl rfl rfl (zb1 rfl Z9k rfl (.cons (.hid rfl) .nil) (Zap (x3.1) x27 hx27) Sc.v) ?_
 refine yX ?_
 refine sX (z06 ?_)
 exact ⟨rfl, (!x27), h, jN⟩
 refine z0a ?_
 iterate 2 refine sX ?_
 refine sS rfl rfl rfl (zje Try.underlying4 rfl rfl rfl) ?_
 refine sX ?_
 refine z0n (t := 52) rfl ?_ ?_
 intro hb28; replace h := z0j hb28 h
 iterate 3 refine nX ?_
 iterate 2 refine sX ?_
 iterate 3 refine nX ?_
 refine sX (z06 ?_)
 exact ⟨rfl, true, h, jN⟩
 intro hb28; replace h := z0k hb28 h
 iterate 3 refine yX ?_
 iterate 2 refine sX ?_
 refine z0n (t := 57) rfl ?_ ?_
 intro hb29; replace h := z0j hb29 h
 iterate 3 refine nX ?_
 refine sX (z06 ?_)
 exact ⟨rfl, true, h, jN⟩
 intro hb29; replace h := z0k hb29 h
 iterate 3 refine yX ?_
 refine sX (z06 ?_)
 exact ⟨rfl, (x3.2 != x5.2), h, jN⟩
end Go.Proofs.Ytiapdjdhaclmnaa
