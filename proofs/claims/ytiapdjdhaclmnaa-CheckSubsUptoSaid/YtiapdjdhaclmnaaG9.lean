/- Pure functions, and that calls answer as they say. -/
import Derived.Test.YtiapdjdhaclmnaaG8
namespace Go.Proofs.Ytiapdjdhaclmnaa
open Go Aw
set_option linter.unusedVariables false
set_option maxRecDepth 20000
set_option maxHeartbeats 2000000
variable {ι : Type} {ρ : ι → Type}
noncomputable def z9m (g1 : Nat → Option Bool) (s1 : Nat) (s8 : Bool) : Option Bool :=
 bif s8 then (
 some false
 ) else (
 g1 (s1 + 1)
 )
theorem zug (g1 : OF ρ → Nat → Option Bool) (h_g1 : ∀ y0, CM (fun G => g1 G y0)) (s1 : Nat) (s8 : Bool) : CM (fun G : OF ρ => z9m (g1 G) s1 s8) := by
 simp only [z9m]
 repeat (first | exact z01 | exact h_g1 _ | refine z0h ?_ ?_ | refine z0i ?_ (fun _ => ?_))
noncomputable def zaj (r_q2d : Typ → Typ → Option Bool) (g1 : Nat → Option Bool) (a0 a1 : Typ) (s1 : Nat) (x5 : Int) (s6 : Bool) : Option Bool :=
 bif s6 then (
 some false
 ) else (
 bif (decide (x5 ≥ 0)) then (
 (z5g a0.parts x5).bind fun x11 =>
 ((a1.parts)[s1]?).bind fun x12 =>
 (r_q2d x11 x12).bind fun x13 =>
 bif (!x13) then (
 z9m g1 s1 true
 ) else (
 (z5g a0.lacks x5).bind fun x15 =>
 bif x15 then (
 ((a1.lacks)[s1]?).bind fun x17 =>
 z9m g1 s1 (!x17)
 ) else (
 z9m g1 s1 false
 )
 )
 ) else (
 z9m g1 s1 false
 )
 )
theorem zuh (r_q2d : OF ρ → Typ → Typ → Option Bool) (h_r_q2d : ∀ y0 y1, CM (fun G => r_q2d G y0 y1)) (g1 : OF ρ → Nat → Option Bool) (h_g1 : ∀ y0, CM (fun G => g1 G y0)) (a0 a1 : Typ) (s1 : Nat) (x5 : Int) (s6 : Bool) : CM (fun G : OF ρ => zaj (r_q2d G) (g1 G) a0 a1 s1 x5 s6) := by
 simp only [zaj]
 repeat (first | exact z01 | exact h_r_q2d _ _ | exact h_g1 _ | apply zug | refine z0h ?_ ?_ | refine z0i ?_ (fun _ => ?_) | intro _ | assumption)
noncomputable def z7l (a0 a1 : Typ) (g2 : Nat → Option Bool) (s22 : Nat) : Option Bool :=
 bif (decide (((s22 : Nat) : Int) < (((a0.names).length : Nat) : Int))) then (
 ((a0.names)[s22]?).bind fun x25 =>
 (zvx a1.names x25).bind fun x26 =>
 bif (decide (x26 < 0)) then (
 some false
 ) else (
 g2 (s22 + 1)
 )
 ) else (
 some (!a0.opn)
 )
theorem zrc (g2 : OF ρ → Nat → Option Bool) (h_g2 : ∀ y0, CM (fun G => g2 G y0)) (a0 a1 : Typ) (s22 : Nat) : CM (fun G : OF ρ => z7l a0 a1 (g2 G) s22) := by
 simp only [z7l]
 repeat (first | exact z01 | exact h_g2 _ | refine z0h ?_ ?_ | refine z0i ?_ (fun _ => ?_))
noncomputable def zhh (a0 a1 : Typ) (s22 : Nat) : Option Bool :=
 z22 (ι := Nat) (ρ := fun _ => Bool) (fun g i => z7l a0 a1 (fun s22 => g s22) i) s22
theorem zkx (a0 a1 : Typ) (s22 : Nat) : zhh a0 a1 s22 = z7l a0 a1 (zhh a0 a1) s22 :=
 z0t (ι := Nat) (ρ := fun _ => Bool) (Φ := fun g i => z7l a0 a1 (fun s22 => g s22) i) (fun i => zrc (ι := Nat) (ρ := fun _ => Bool) (fun g => (fun s22 => g s22)) (fun _ => z0s) a0 a1 i) s22
noncomputable def z69 (r_q2d : Typ → Typ → Option Bool) (a0 a1 : Typ) (g1 : Nat → Option Bool) (s1 : Nat) : Option Bool :=
 bif (decide (((s1 : Nat) : Int) < (((a1.names).length : Nat) : Int))) then (
 ((a1.names)[s1]?).bind fun x4 =>
 (zvx a0.names x4).bind fun x5 =>
 bif (decide (x5 < 0)) then (
 ((a1.lacks)[s1]?).bind fun x19 =>
 bif (!x19) then (
 zaj r_q2d g1 a0 a1 s1 x5 true
 ) else (
 zaj r_q2d g1 a0 a1 s1 x5 a0.opn
 )
 ) else (
 zaj r_q2d g1 a0 a1 s1 x5 false
 )
 ) else (
 bif a1.opn then (
 some true
 ) else (
 zhh a0 a1 0
 )
 )
theorem zcd (r_q2d : OF ρ → Typ → Typ → Option Bool) (h_r_q2d : ∀ y0 y1, CM (fun G => r_q2d G y0 y1)) (g1 : OF ρ → Nat → Option Bool) (h_g1 : ∀ y0, CM (fun G => g1 G y0)) (a0 a1 : Typ) (s1 : Nat) : CM (fun G : OF ρ => z69 (r_q2d G) a0 a1 (g1 G) s1) := by
 simp only [z69]
 repeat (first | exact z01 | exact h_r_q2d _ _ | exact h_g1 _ | apply zuh | apply q18_l2_cm | refine z0h ?_ ?_ | refine z0i ?_ (fun _ => ?_) | intro _ | assumption)
noncomputable def zhi (r_q2d : Typ → Typ → Option Bool) (a0 a1 : Typ) (s1 : Nat) : Option Bool :=
 z22 (ι := Nat) (ρ := fun _ => Bool) (fun g i => z69 r_q2d a0 a1 (fun s1 => g s1) i) s1
theorem zky (r_q2d : Typ → Typ → Option Bool) (a0 a1 : Typ) (s1 : Nat) : zhi r_q2d a0 a1 s1 = z69 r_q2d a0 a1 (zhi r_q2d a0 a1) s1 :=
 z0t (ι := Nat) (ρ := fun _ => Bool) (Φ := fun g i => z69 r_q2d a0 a1 (fun s1 => g s1) i) (fun i => zcd (ι := Nat) (ρ := fun _ => Bool) (fun _ => r_q2d) (fun _ _ => z01) (fun g => (fun s1 => g s1)) (fun _ => z0s) a0 a1 i) s1
theorem zuf (r_q2d : OF ρ → Typ → Typ → Option Bool) (h_r_q2d : ∀ y0 y1, CM (fun G => r_q2d G y0 y1)) (a0 a1 : Typ) (s1 : Nat) : CM (fun G : OF ρ => zhi (r_q2d G) a0 a1 s1) :=
 z28 (κ := Nat) (τ := fun _ => Bool) (Φ := fun G g i => z69 (r_q2d G) a0 a1 (fun s1 => g s1) i) (fun g i => zcd r_q2d h_r_q2d (fun _ => (fun s1 => g s1)) (fun _ => z01) a0 a1 i) (fun G i => zcd (ι := Nat) (ρ := fun _ => Bool) (fun _ => r_q2d G) (fun _ _ => z01) (fun g => (fun s1 => g s1)) (fun _ => z0s) a0 a1 i) s1
noncomputable def zol (r_q18 r_q2d : Typ → Typ → Option Bool) (a0 a1 : Typ) : Option Bool :=
 zhi r_q2d a0 a1 0
theorem Z1n (r_q18 : OF ρ → Typ → Typ → Option Bool) (h_r_q18 : ∀ y0 y1, CM (fun G => r_q18 G y0 y1)) (r_q2d : OF ρ → Typ → Typ → Option Bool) (h_r_q2d : ∀ y0 y1, CM (fun G => r_q2d G y0 y1)) (a0 a1 : Typ) : CM (fun G : OF ρ => zol (r_q18 G) (r_q2d G) a0 a1) := by
 simp only [zol]
 repeat (first | exact z01 | exact h_r_q18 _ _ | exact h_r_q2d _ _ | apply zuf | refine z0h ?_ ?_ | refine z0i ?_ (fun _ => ?_) | intro _ | assumption)
noncomputable def z5u (r_q2d : Typ → Typ → Option Bool) (a0 a1 : Typ) (g1 : Nat → Option Bool) (s4 : Nat) : Option Bool :=
 bif (decide (((s4 : Nat) : Int) < (((a0.parts).length : Nat) : Int))) then (
 ((a0.parts)[s4]?).bind fun x7 =>
 (r_q2d x7 a1).bind fun x8 =>
 bif (!x8) then (
 some false
 ) else (
 g1 (s4 + 1)
 )
 ) else (
 some true
 )
theorem zbz (r_q2d : OF ρ → Typ → Typ → Option Bool) (h_r_q2d : ∀ y0 y1, CM (fun G => r_q2d G y0 y1)) (g1 : OF ρ → Nat → Option Bool) (h_g1 : ∀ y0, CM (fun G => g1 G y0)) (a0 a1 : Typ) (s4 : Nat) : CM (fun G : OF ρ => z5u (r_q2d G) a0 a1 (g1 G) s4) := by
 simp only [z5u]
 repeat (first | exact z01 | exact h_r_q2d _ _ | exact h_g1 _ | refine z0h ?_ ?_ | refine z0i ?_ (fun _ => ?_))
noncomputable def zh2 (r_q2d : Typ → Typ → Option Bool) (a0 a1 : Typ) (s4 : Nat) : Option Bool :=
 z22 (ι := Nat) (ρ := fun _ => Bool) (fun g i => z5u r_q2d a0 a1 (fun s4 => g s4) i) s4
theorem zk9 (r_q2d : Typ → Typ → Option Bool) (a0 a1 : Typ) (s4 : Nat) : zh2 r_q2d a0 a1 s4 = z5u r_q2d a0 a1 (zh2 r_q2d a0 a1) s4 :=
 z0t (ι := Nat) (ρ := fun _ => Bool) (Φ := fun g i => z5u r_q2d a0 a1 (fun s4 => g s4) i) (fun i => zbz (ι := Nat) (ρ := fun _ => Bool) (fun _ => r_q2d) (fun _ _ => z01) (fun g => (fun s4 => g s4)) (fun _ => z0s) a0 a1 i) s4
theorem zth (r_q2d : OF ρ → Typ → Typ → Option Bool) (h_r_q2d : ∀ y0 y1, CM (fun G => r_q2d G y0 y1)) (a0 a1 : Typ) (s4 : Nat) : CM (fun G : OF ρ => zh2 (r_q2d G) a0 a1 s4) :=
 z28 (κ := Nat) (τ := fun _ => Bool) (Φ := fun G g i => z5u (r_q2d G) a0 a1 (fun s4 => g s4) i) (fun g i => zbz r_q2d h_r_q2d (fun _ => (fun s4 => g s4)) (fun _ => z01) a0 a1 i) (fun G i => zbz (ι := Nat) (ρ := fun _ => Bool) (fun _ => r_q2d G) (fun _ _ => z01) (fun g => (fun s4 => g s4)) (fun _ => z0s) a0 a1 i) s4
noncomputable def z5t (r_q2d : Typ → Typ → Option Bool) (a0 a1 : Typ) (g1 : Nat → Option Bool) (s11 : Nat) : Option Bool :=
 bif (decide (((s11 : Nat) : Int) < (((a1.parts).length : Nat) : Int))) then (
 ((a1.parts)[s11]?).bind fun x14 =>
 (r_q2d a0 x14).bind fun x15 =>
 bif x15 then (
 some true
 ) else (
 g1 (s11 + 1)
 )
 ) else (
 some false
 )
theorem zby (r_q2d : OF ρ → Typ → Typ → Option Bool) (h_r_q2d : ∀ y0 y1, CM (fun G => r_q2d G y0 y1)) (g1 : OF ρ → Nat → Option Bool) (h_g1 : ∀ y0, CM (fun G => g1 G y0)) (a0 a1 : Typ) (s11 : Nat) : CM (fun G : OF ρ => z5t (r_q2d G) a0 a1 (g1 G) s11) := by
 simp only [z5t]
 repeat (first | exact z01 | exact h_r_q2d _ _ | exact h_g1 _ | refine z0h ?_ ?_ | refine z0i ?_ (fun _ => ?_))
noncomputable def zh1 (r_q2d : Typ → Typ → Option Bool) (a0 a1 : Typ) (s11 : Nat) : Option Bool :=
 z22 (ι := Nat) (ρ := fun _ => Bool) (fun g i => z5t r_q2d a0 a1 (fun s11 => g s11) i) s11
theorem zk8 (r_q2d : Typ → Typ → Option Bool) (a0 a1 : Typ) (s11 : Nat) : zh1 r_q2d a0 a1 s11 = z5t r_q2d a0 a1 (zh1 r_q2d a0 a1) s11 :=
 z0t (ι := Nat) (ρ := fun _ => Bool) (Φ := fun g i => z5t r_q2d a0 a1 (fun s11 => g s11) i) (fun i => zby (ι := Nat) (ρ := fun _ => Bool) (fun _ => r_q2d) (fun _ _ => z01) (fun g => (fun s11 => g s11)) (fun _ => z0s) a0 a1 i) s11
theorem ztg (r_q2d : OF ρ → Typ → Typ → Option Bool) (h_r_q2d : ∀ y0 y1, CM (fun G => r_q2d G y0 y1)) (a0 a1 : Typ) (s11 : Nat) : CM (fun G : OF ρ => zh1 (r_q2d G) a0 a1 s11) :=
 z28 (κ := Nat) (τ := fun _ => Bool) (Φ := fun G g i => z5t (r_q2d G) a0 a1 (fun s11 => g s11) i) (fun g i => zby r_q2d h_r_q2d (fun _ => (fun s11 => g s11)) (fun _ => z01) a0 a1 i) (fun G i => zby (ι := Nat) (ρ := fun _ => Bool) (fun _ => r_q2d G) (fun _ _ => z01) (fun g => (fun s11 => g s11)) (fun _ => z0s) a0 a1 i) s11
noncomputable def zd8 (r_q18 r_q2d : Typ → Typ → Option Bool) (a0 a1 : Typ) (s1 : Bool) : Option Bool :=
 bif s1 then (
 some true
 ) else (
 bif (a0.kind == 7) then (
 zh2 r_q2d a0 a1 0
 ) else (
 bif (a1.kind == 7) then (
 zh1 r_q2d a0 a1 0
 ) else (
 bif (a1.kind == 2) then (
 some false
 ) else (
 bif (a0.kind == 4) then (
 (zfc (a0.only) a1 0).bind fun x19 =>
 some x19.1
 ) else (
 bif (a0.kind == 3) then (
 bif (a1.kind == 3) then (
 some (a0.of == a1.of)
 ) else (
 some false
 )
 ) else (
 bif (a0.kind == 5) then (
 bif (a1.kind == 3) then (
 bif (a1.of == 8) then (
 some true
 ) else (
 bif (a1.kind == 5) then (
 ((a0.parts)[0]?).bind fun x26 =>
 ((a1.parts)[0]?).bind fun x27 =>
 (r_q2d x26 x27).bind fun x28 =>
 some x28
 ) else (
 some false
 )
 )
 ) else (
 bif (a1.kind == 5) then (
 ((a0.parts)[0]?).bind fun x30 =>
 ((a1.parts)[0]?).bind fun x31 =>
 (r_q2d x30 x31).bind fun x32 =>
 some x32
 ) else (
 some false
 )
 )
 ) else (
 bif (a0.kind == 6) then (
 bif (a1.kind == 3) then (
 bif (a1.of == 9) then (
 some true
 ) else (
 bif (a1.kind == 6) then (
 (r_q18 a0 a1).bind fun x37 =>
 some x37
 ) else (
 some false
 )
 )
 ) else (
 bif (a1.kind == 6) then (
 (r_q18 a0 a1).bind fun x39 =>
 some x39
 ) else (
 some false
 )
 )
 ) else (
 bif (a0.kind == 8) then (
 bif (a1.kind == 3) then (
 bif (a1.of == 10) then (
 some true
 ) else (
 bif (a1.kind == 8) then (
 some (a0.cls == a1.cls)
 ) else (
 some false
 )
 )
 ) else (
 bif (a1.kind == 8) then (
 some (a0.cls == a1.cls)
 ) else (
 some false
 )
 )
 ) else (
 some false
 )
 )
 )
 )
 )
 )
 )
 )
 )
theorem zti (r_q18 : OF ρ → Typ → Typ → Option Bool) (h_r_q18 : ∀ y0 y1, CM (fun G => r_q18 G y0 y1)) (r_q2d : OF ρ → Typ → Typ → Option Bool) (h_r_q2d : ∀ y0 y1, CM (fun G => r_q2d G y0 y1)) (a0 a1 : Typ) (s1 : Bool) : CM (fun G : OF ρ => zd8 (r_q18 G) (r_q2d G) a0 a1 s1) := by
 simp only [zd8]
 repeat (first | exact z01 | exact h_r_q18 _ _ | exact h_r_q2d _ _ | apply zth | apply ztg | refine z0h ?_ ?_ | refine z0i ?_ (fun _ => ?_) | intro _ | assumption)
noncomputable def zo4 (r_q18 r_q2d : Typ → Typ → Option Bool) (a0 a1 : Typ) : Option Bool :=
 bif (a1.kind == 1) then (
 zd8 r_q18 r_q2d a0 a1 true
 ) else (
 zd8 r_q18 r_q2d a0 a1 (a0.kind == 2)
 )
theorem Z15 (r_q18 : OF ρ → Typ → Typ → Option Bool) (h_r_q18 : ∀ y0 y1, CM (fun G => r_q18 G y0 y1)) (r_q2d : OF ρ → Typ → Typ → Option Bool) (h_r_q2d : ∀ y0 y1, CM (fun G => r_q2d G y0 y1)) (a0 a1 : Typ) : CM (fun G : OF ρ => zo4 (r_q18 G) (r_q2d G) a0 a1) := by
 simp only [zo4]
 repeat (first | exact z01 | exact h_r_q18 _ _ | exact h_r_q2d _ _ | apply zti | refine z0h ?_ ?_ | refine z0i ?_ (fun _ => ?_) | intro _ | assumption)
inductive C_q18 where
 | k_q18 (a0 : Typ) (a1 : Typ)
 | k_q2d (a0 : Typ) (a1 : Typ)
def C_q18.R : C_q18 → Type
 | .k_q18 _ _ => Bool
 | .k_q2d _ _ => Bool
noncomputable def C_q18.F (g : ∀ i : C_q18, Option i.R) : ∀ i : C_q18, Option i.R
 | .k_q18 a0 a1 => zol (fun a0 a1 => g (.k_q18 a0 a1)) (fun a0 a1 => g (.k_q2d a0 a1)) a0 a1
 | .k_q2d a0 a1 => zo4 (fun a0 a1 => g (.k_q18 a0 a1)) (fun a0 a1 => g (.k_q2d a0 a1)) a0 a1
noncomputable def zz4 (a0 a1 : Typ) : Option Bool := z22 C_q18.F (.k_q18 a0 a1)
noncomputable def z74 (a0 a1 : Typ) : Option Bool := z22 C_q18.F (.k_q2d a0 a1)
abbrev Zf0 := fun (g : ∀ i : C_q18, Option i.R) a0 a1 => g (.k_q18 a0 a1)
theorem Zeq (a0 a1 : _) : CM (ρ := C_q18.R) (fun g => g (C_q18.k_q18 a0 a1)) := z0s
abbrev Zez := fun (g : ∀ i : C_q18, Option i.R) a0 a1 => g (.k_q2d a0 a1)
theorem Zep (a0 a1 : _) : CM (ρ := C_q18.R) (fun g => g (C_q18.k_q2d a0 a1)) := z0s
theorem C_q18.cm (i : C_q18) : CM (fun g : (∀ i : C_q18, Option i.R) => C_q18.F g i) := by
 cases i with
 | k_q18 a0 a1 => exact Z1n Zf0 Zeq Zez Zep a0 a1
 | k_q2d a0 a1 => exact Z15 Zf0 Zeq Zez Zep a0 a1
theorem Zda (a0 a1 : Typ) : zz4 a0 a1 = zol zz4 z74 a0 a1 := z0t C_q18.cm (.k_q18 a0 a1)
theorem Zcu (a0 a1 : Typ) : z74 a0 a1 = zo4 zz4 z74 a0 a1 := z0t C_q18.cm (.k_q2d a0 a1)
def C_q18.Q : ∀ i : C_q18, i.R → Prop
 | .k_q18 a0 a1 => fun (r : Bool) => z08 Try.prog 71 [(z02 a0), (z02 a1)] (BO r)
 | .k_q2d a0 a1 => fun (r : Bool) => z08 Try.prog 42 [(z02 a0), (z02 a1)] (BO r)
theorem zis (r_q18 : Typ → Typ → Option Bool) (c_q18 : ∀ (a0 : Typ) (a1 : Typ) r, r_q18 a0 a1 = some r → z08 Try.prog 71 [(z02 a0), (z02 a1)] (BO r)) (r_q2d : Typ → Typ → Option Bool) (c_q2d : ∀ (a0 : Typ) (a1 : Typ) r, r_q2d a0 a1 = some r → z08 Try.prog 42 [(z02 a0), (z02 a1)] (BO r)) (a0 a1 : Typ) (r : Bool) (h : zol r_q18 r_q2d a0 a1 = some r) : z08 Try.prog 71 [(z02 a0), (z02 a1)] (BO r) := by
 unfold zol at h
 refine z0g Try.func71 rfl Try.ntmps71 Try.results71 rfl (z0q ?_)
 change BW _ _ _ ⟨[(0, (z02 a0)), (1, (z02 a1))], [], _⟩ _
 refine bR ?_
 iterate 2 refine sX ?_
 refine eX ?_
 refine z09 ?_
 refine bR ?_
 refine eX ?_
 refine z0e ?_
 refine cBx ?_
 unfold zhi at h
 refine lX (σ := Nat) (fun i => [(2, (PV.rf 0 0)), (3, (PV.rf 1 0)), (5, (I64 (((i : Nat) : Int))))]) (fun i => [.box 34 (z0x a0), .box 34 (z0x a1)]) 0 h ?_ ?_
 exact jN
 rintro g1_f s1 h; replace h : z69 r_q2d a0 a1 (fun y0 => g1_f y0) s1 = some r := h; unfold z69 at h
 change BW _ _ _ ⟨[(2, (PV.rf 0 0)), (3, (PV.rf 1 0)), (5, (I64 (((s1 : Nat) : Int))))], [.box 34 (z0x a0), .box 34 (z0x a1)], _⟩ _
 refine z09 ?_
 refine bR ?_
 iterate 4 refine sX ?_
 refine eX ?_
 refine z2f (t := 10) rfl fun hb3 => ?_
 try rw [List.length_map] at hb3
 refine cX h rfl ?_ ?_
 intro hc2 h
 have hc2_ := of_decide_eq_true hc2
 refine z07 ?_
 refine cBx ?_
 refine z09 ?_
 refine z0e ?_
 refine cBx ?_
 refine z09 (z13 7 [] [0, 1] mo (by kernel_rfl) ?_)
 iterate 5 refine gX ?_
 obtain ⟨x4, hx4, h⟩ := obind h
 refine z1h rfl rfl rfl rfl (fun H hp => z0w (i := s1) Try.underlying31 inf_9 rfl rfl rfl hx4 rfl) ?_
 refine gX ?_
 refine z11 ?_
 change AO _ _ _ _ _
 obtain ⟨x5, hx5, h⟩ := obind h
 refine sS rfl rfl rfl (z04 rfl Z3v rfl (wkr (wkr .nil)) ⟨(z0c (fun _ => rfl) a0.names), ⟨rfl, trivial⟩⟩ (Z78 a0.names x4 x5 hx5) rfl) ?_
 refine eX ?_
 refine z09 ?_
 refine jX (ι := Bool) (fun i => zaj r_q2d (fun y0 => g1_f y0) a0 a1 s1 x5 i = some r) (fun i => [(2, (PV.rf 0 0)), (3, (PV.rf 1 0)), (5, (I64 (((s1 : Nat) : Int)))), (6, (I64 x5)), (36, (BO i))]) (fun i => [.box 34 (z0x a0), .box 34 (z0x a1)]) ?_ ?_
 rintro s6 h; replace h : zaj r_q2d (fun y0 => g1_f y0) a0 a1 s1 x5 s6 = some r := h; unfold zaj at h
 change BW _ _ _ ⟨[(2, (PV.rf 0 0)), (3, (PV.rf 1 0)), (5, (I64 (((s1 : Nat) : Int)))), (6, (I64 x5)), (36, (BO s6))], [.box 34 (z0x a0), .box 34 (z0x a1)], _⟩ _
 refine cX h rfl ?_ ?_
 intro hc7 h
 refine bR ?_
 refine eX ?_
 obtain rfl := eI h; exact z05 eK
 intro hc7 h
 refine z07 ?_
 refine cBx ?_
 refine jX (ι := Bool) (fun i => z9m (fun y0 => g1_f y0) s1 i = some r) (fun i => [(2, (PV.rf 0 0)), (3, (PV.rf 1 0)), (5, (I64 (((s1 : Nat) : Int)))), (67, (BO i))]) (fun i => [.box 34 (z0x a0), .box 34 (z0x a1)]) ?_ ?_
 rintro s8 h; replace h : z9m (fun y0 => g1_f y0) s1 s8 = some r := h; unfold z9m at h
 change BW _ _ _ ⟨[(2, (PV.rf 0 0)), (3, (PV.rf 1 0)), (5, (I64 (((s1 : Nat) : Int)))), (67, (BO s8))], [.box 34 (z0x a0), .box 34 (z0x a1)], _⟩ _
 refine cX h rfl ?_ ?_
 intro hc9 h
 refine bR ?_
 refine eX ?_
 obtain rfl := eI h; exact z05 eK
 intro hc9 h
 refine z07 ?_
 refine cBx ?_
 refine z0a ?_
 refine sX ?_
 refine sS rfl rfl rfl (z1b (k := s1) (c := 1) rfl rfl rfl (by omega)) ?_
 refine sX (z06 ?_)
 exact ⟨rfl, (s1 + 1), h, jN⟩
 refine z13 25 [] [0, 1] mo (by kernel_rfl) ?_
 iterate 3 refine gX ?_
 refine z1s 39 rfl ?_ ?_
 intro hb10; replace h := z0j hb10 h
 iterate 3 refine wX ?_
 obtain ⟨x11, hx11, h⟩ := obind h
 refine z2l rfl rfl rfl rfl rfl rfl rfl (fun H hp => z1o Try.underlying30 z0u rfl rfl rfl hx11 (z1c _)) ?_
 iterate 4 refine wX ?_
 obtain ⟨x12, hx12, h⟩ := obind h
 refine z2l rfl rfl rfl rfl rfl rfl rfl (fun H hp => z0w (i := s1) Try.underlying30 z0u rfl rfl rfl hx12 (z1c _)) ?_
 refine wX ?_
 obtain ⟨x13, hx13, h⟩ := obind h
 refine z2l rfl rfl rfl rfl rfl rfl rfl (fun H hp => z04 rfl zmg rfl (wkr (wkr .nil)) ⟨(z0b x11), ⟨(z0b x12), trivial⟩⟩ (c_q2d x11 x12 x13 hx13) rfl) ?_
 iterate 2 refine wX ?_
 refine z1s 52 rfl ?_ ?_
 intro hb14; replace h := z0j hb14 h
 iterate 9 refine mX ?_
 refine z11 ?_
 change AO _ _ _ _ _
 iterate 4 refine nX ?_
 refine yX ?_
 refine sX (z06 ?_)
 exact ⟨rfl, true, h, jN⟩
 intro hb14; replace h := z0k hb14 h
 iterate 3 refine wX ?_
 obtain ⟨x15, hx15, h⟩ := obind h
 refine z2l rfl rfl rfl rfl rfl rfl rfl (fun H hp => z1o Try.underlying32 inf_4 rfl rfl rfl hx15 rfl) ?_
 iterate 2 refine wX ?_
 refine z1s 58 rfl ?_ ?_
 intro hb16; replace h := z0j hb16 h
 iterate 3 refine wX ?_
 refine z11 ?_
 change AO _ _ _ _ _
 obtain ⟨x17, hx17, h⟩ := obind h
 refine z1g rfl rfl rfl rfl rfl rfl (z0w (i := s1) Try.underlying32 inf_4 rfl rfl rfl hx17 rfl) ?_
 iterate 4 refine yX ?_
 refine sX (z06 ?_)
 exact ⟨rfl, (!x17), h, jN⟩
 intro hb16; replace h := z0k hb16 h
 iterate 3 refine mX ?_
 refine z11 ?_
 change AO _ _ _ _ _
 iterate 3 refine nX ?_
 iterate 2 refine yX ?_
 refine sX (z06 ?_)
 exact ⟨rfl, false, h, jN⟩
 intro hb10; replace h := z0k hb10 h
 iterate 22 refine mX ?_
 refine z11 ?_
 change AO _ _ _ _ _
 iterate 5 refine nX ?_
 refine sX (z06 ?_)
 exact ⟨rfl, false, h, jN⟩
 refine z0a ?_
 iterate 3 refine sX ?_
 refine z0n (t := 25) rfl ?_ ?_
 intro hb18; replace h := z0j hb18 h
 iterate 3 refine yX ?_
 obtain ⟨x19, hx19, h⟩ := obind h
 refine z1g rfl rfl rfl rfl rfl rfl (z0w (i := s1) Try.underlying32 inf_4 rfl rfl rfl hx19 rfl) ?_
 iterate 3 refine yX ?_
 refine z0n (t := 32) rfl ?_ ?_
 intro hb20; replace h := z0j hb20 h
 iterate 2 refine nX ?_
 refine yX ?_
 refine sX (z06 ?_)
 exact ⟨rfl, true, h, jN⟩
 intro hb20; replace h := z0k hb20 h
 iterate 3 refine yX ?_
 refine sX (z06 ?_)
 exact ⟨rfl, a0.opn, h, jN⟩
 intro hb18; replace h := z0k hb18 h
 iterate 10 refine nX ?_
 refine sX (z06 ?_)
 exact ⟨rfl, false, h, jN⟩
 intro hc2 h
 refine z1a ?_
 refine cBx ?_
 refine z09 ?_
 refine bR ?_
 refine sX ?_
 refine eX ?_
 refine cX h rfl ?_ ?_
 intro hc21 h
 refine bR ?_
 refine eX ?_
 obtain rfl := eI h; exact z05 eK
 intro hc21 h
 refine z07 ?_
 refine cBx ?_
 refine z09 ?_
 refine bR ?_
 refine eX ?_
 refine z0e ?_
 refine cBx ?_
 unfold zhh at h
 refine lX (σ := Nat) (fun i => [(2, (PV.rf 0 0)), (3, (PV.rf 1 0)), (7, (I64 (((i : Nat) : Int))))]) (fun i => [.box 34 (z0x a0), .box 34 (z0x a1)]) 0 h ?_ ?_
 exact jN
 rintro g2_f s22 h; replace h : z7l a0 a1 (fun y0 => g2_f y0) s22 = some r := h; unfold z7l at h
 change BW _ _ _ ⟨[(2, (PV.rf 0 0)), (3, (PV.rf 1 0)), (7, (I64 (((s22 : Nat) : Int))))], [.box 34 (z0x a0), .box 34 (z0x a1)], _⟩ _
 refine z09 ?_
 refine bR ?_
 iterate 4 refine sX ?_
 refine eX ?_
 refine z2f (t := 72) rfl fun hb24 => ?_
 try rw [List.length_map] at hb24
 refine cX h rfl ?_ ?_
 intro hc23 h
 have hc23_ := of_decide_eq_true hc23
 refine z07 ?_
 refine cBx ?_
 refine z09 ?_
 refine z0e ?_
 refine cBx ?_
 refine z09 (z13 7 [] [0, 1] mo (by kernel_rfl) ?_)
 iterate 5 refine gX ?_
 obtain ⟨x25, hx25, h⟩ := obind h
 refine z1h rfl rfl rfl rfl (fun H hp => z0w (i := s22) Try.underlying31 inf_9 rfl rfl rfl hx25 rfl) ?_
 refine gX ?_
 refine z11 ?_
 change AO _ _ _ _ _
 obtain ⟨x26, hx26, h⟩ := obind h
 refine sS rfl rfl rfl (z04 rfl Z3v rfl (wkr (wkr .nil)) ⟨(z0c (fun _ => rfl) a1.names), ⟨rfl, trivial⟩⟩ (Z78 a1.names x25 x26 hx26) rfl) ?_
 refine eX ?_
 refine cX h rfl ?_ ?_
 intro hc27 h
 refine bR ?_
 refine eX ?_
 obtain rfl := eI h; exact z05 eK
 intro hc27 h
 refine z07 ?_
 refine cBx ?_
 refine z0a ?_
 refine sX ?_
 refine sS rfl rfl rfl (z1b (k := s22) (c := 1) rfl rfl rfl (by omega)) ?_
 refine sX (z06 ?_)
 exact ⟨rfl, (s22 + 1), h, jN⟩
 intro hc23 h
 refine z1a ?_
 refine cBx ?_
 refine bR ?_
 iterate 3 refine sX ?_
 refine eX ?_
 obtain rfl := eI h; exact z05 eK
theorem zmv (r_q18 : Typ → Typ → Option Bool) (c_q18 : ∀ (a0 : Typ) (a1 : Typ) r, r_q18 a0 a1 = some r → z08 Try.prog 71 [(z02 a0), (z02 a1)] (BO r)) (r_q2d : Typ → Typ → Option Bool) (c_q2d : ∀ (a0 : Typ) (a1 : Typ) r, r_q2d a0 a1 = some r → z08 Try.prog 42 [(z02 a0), (z02 a1)] (BO r)) (a0 a1 : Typ) (r : Bool) (h : zo4 r_q18 r_q2d a0 a1 = some r) : z08 Try.prog 42 [(z02 a0), (z02 a1)] (BO r) := by
 unfold zo4 at h
 refine z0g Try.func42 rfl Try.ntmps42 Try.results42 rfl (z0q ?_)
 change BW _ _ _ ⟨[(0, (z02 a0)), (1, (z02 a1))], [], _⟩ _
 refine bR ?_
 iterate 2 refine sX ?_
 refine eX ?_
 refine z09 ?_
 refine jX (ι := Bool) (fun i => zd8 r_q18 r_q2d a0 a1 i = some r) (fun i => [(2, (PV.rf 0 0)), (3, (PV.rf 1 0)), (16, (BO i))]) (fun i => [.box 34 (z0x a0), .box 34 (z0x a1)]) ?_ ?_
 rintro s1 h; replace h : zd8 r_q18 r_q2d a0 a1 s1 = some r := h; unfold zd8 at h
 change BW _ _ _ ⟨[(2, (PV.rf 0 0)), (3, (PV.rf 1 0)), (16, (BO s1))], [.box 34 (z0x a0), .box 34 (z0x a1)], _⟩ _
 refine cX h rfl ?_ ?_
 intro hc2 h
 refine bR ?_
 refine eX ?_
 obtain rfl := eI h; exact z05 eK
 intro hc2 h
 refine z07 ?_
 refine cBx ?_
 refine z09 ?_
 refine bR ?_
 iterate 2 refine sX ?_
 refine eX ?_
 refine cX h rfl ?_ ?_
 intro hc3 h
 refine z09 ?_
 refine bR ?_
 refine eX ?_
 refine z0e ?_
 refine cBx ?_
 unfold zh2 at h
 refine lX (σ := Nat) (fun i => [(2, (PV.rf 0 0)), (3, (PV.rf 1 0)), (5, (I64 (((i : Nat) : Int))))]) (fun i => [.box 34 (z0x a0), .box 34 (z0x a1)]) 0 h ?_ ?_
 exact jN
 rintro g1_f s4 h; replace h : z5u r_q2d a0 a1 (fun y0 => g1_f y0) s4 = some r := h; unfold z5u at h
 change BW _ _ _ ⟨[(2, (PV.rf 0 0)), (3, (PV.rf 1 0)), (5, (I64 (((s4 : Nat) : Int))))], [.box 34 (z0x a0), .box 34 (z0x a1)], _⟩ _
 refine z09 ?_
 refine bR ?_
 iterate 4 refine sX ?_
 refine eX ?_
 refine z2f (t := 22) rfl fun hb6 => ?_
 try rw [List.length_map] at hb6
 refine cX h rfl ?_ ?_
 intro hc5 h
 have hc5_ := of_decide_eq_true hc5
 refine z07 ?_
 refine cBx ?_
 refine z09 ?_
 refine z0e ?_
 refine cBx ?_
 refine z09 (z13 6 [] [0, 1] mo (by kernel_rfl) ?_)
 iterate 3 refine gX ?_
 obtain ⟨x7, hx7, h⟩ := obind h
 refine z1h rfl rfl rfl rfl (fun H hp => z0w (i := s4) Try.underlying30 z0u rfl rfl rfl hx7 (z1c _)) ?_
 iterate 2 refine gX ?_
 refine z11 ?_
 change AO _ _ _ _ _
 obtain ⟨x8, hx8, h⟩ := obind h
 refine sS rfl rfl rfl (z04 rfl zmg rfl (wkr (wkr .nil)) ⟨(z0b x7), ⟨(z0b a1), trivial⟩⟩ (c_q2d x7 a1 x8 hx8) rfl) ?_
 refine eX ?_
 refine cX h rfl ?_ ?_
 intro hc9 h
 refine bR ?_
 refine eX ?_
 obtain rfl := eI h; exact z05 eK
 intro hc9 h
 refine z07 ?_
 refine cBx ?_
 refine z0a ?_
 refine sX ?_
 refine sS rfl rfl rfl (z1b (k := s4) (c := 1) rfl rfl rfl (by omega)) ?_
 refine sX (z06 ?_)
 exact ⟨rfl, (s4 + 1), h, jN⟩
 intro hc5 h
 refine z1a ?_
 refine cBx ?_
 refine bR ?_
 refine eX ?_
 obtain rfl := eI h; exact z05 eK
 intro hc3 h
 refine z07 ?_
 refine cBx ?_
 refine z09 ?_
 refine bR ?_
 iterate 2 refine sX ?_
 refine eX ?_
 refine cX h rfl ?_ ?_
 intro hc10 h
 refine z09 ?_
 refine bR ?_
 refine eX ?_
 refine z0e ?_
 refine cBx ?_
 unfold zh1 at h
 refine lX (σ := Nat) (fun i => [(2, (PV.rf 0 0)), (3, (PV.rf 1 0)), (6, (I64 (((i : Nat) : Int))))]) (fun i => [.box 34 (z0x a0), .box 34 (z0x a1)]) 0 h ?_ ?_
 exact jN
 rintro g1_f s11 h; replace h : z5t r_q2d a0 a1 (fun y0 => g1_f y0) s11 = some r := h; unfold z5t at h
 change BW _ _ _ ⟨[(2, (PV.rf 0 0)), (3, (PV.rf 1 0)), (6, (I64 (((s11 : Nat) : Int))))], [.box 34 (z0x a0), .box 34 (z0x a1)], _⟩ _
 refine z09 ?_
 refine bR ?_
 iterate 4 refine sX ?_
 refine eX ?_
 refine z2f (t := 40) rfl fun hb13 => ?_
 try rw [List.length_map] at hb13
 refine cX h rfl ?_ ?_
 intro hc12 h
 have hc12_ := of_decide_eq_true hc12
 refine z07 ?_
 refine cBx ?_
 refine z09 ?_
 refine z0e ?_
 refine cBx ?_
 refine z09 (z13 6 [] [0, 1] mo (by kernel_rfl) ?_)
 iterate 4 refine gX ?_
 obtain ⟨x14, hx14, h⟩ := obind h
 refine z1h rfl rfl rfl rfl (fun H hp => z0w (i := s11) Try.underlying30 z0u rfl rfl rfl hx14 (z1c _)) ?_
 refine gX ?_
 refine z11 ?_
 change AO _ _ _ _ _
 obtain ⟨x15, hx15, h⟩ := obind h
 refine sS rfl rfl rfl (z04 rfl zmg rfl (wkr (wkr .nil)) ⟨(z0b a0), ⟨(z0b x14), trivial⟩⟩ (c_q2d a0 x14 x15 hx15) rfl) (z06 ?_)
 refine cBx ?_
 refine cX h rfl ?_ ?_
 intro hc16 h
 refine bR ?_
 refine eX ?_
 obtain rfl := eI h; exact z05 eK
 intro hc16 h
 refine z07 ?_
 refine cBx ?_
 refine z0a ?_
 refine sX ?_
 refine sS rfl rfl rfl (z1b (k := s11) (c := 1) rfl rfl rfl (by omega)) ?_
 refine sX (z06 ?_)
 exact ⟨rfl, (s11 + 1), h, jN⟩
 intro hc12 h
 refine z1a ?_
 refine cBx ?_
 refine bR ?_
 refine eX ?_
 obtain rfl := eI h; exact z05 eK
 intro hc10 h
 refine z07 ?_
 refine cBx ?_
 refine z09 ?_
 refine bR ?_
 iterate 2 refine sX ?_
 refine eX ?_
 refine cX h rfl ?_ ?_
 intro hc17 h
 refine bR ?_
 refine eX ?_
 obtain rfl := eI h; exact z05 eK
 intro hc17 h
 refine z07 ?_
 refine cBx ?_
 refine z09 ?_
 refine bR ?_
 refine sX ?_
 refine eX ?_
 refine z0e ?_
 refine cBx ?_
 refine bR ?_
 refine sX ?_
 refine eX ?_
 refine cX h rfl ?_ ?_
 intro hc18 h
 refine bR ?_
 iterate 3 refine sX ?_
 obtain ⟨x19, hx19, h⟩ := obind h
 refine sS rfl rfl rfl (z04 rfl Z0t rfl (wkr (wkr (wkr .nil))) ⟨(z10 (a0.only)), ⟨(z0b a1), ⟨rfl, trivial⟩⟩⟩ (Zal (a0.only) a1 0 x19 hx19) (z03 rfl (z03 rfl z0o))) ?_
 iterate 4 refine sX ?_
 refine eX ?_
 refine bR ?_
 refine sX ?_
 refine eX ?_
 obtain rfl := eI h; exact z05 eK
 intro hc18 h
 refine bR ?_
 refine sX ?_
 refine eX ?_
 refine cX h rfl ?_ ?_
 intro hc20 h
 refine bR ?_
 iterate 4 refine sX ?_
 refine z0n (t := 72) rfl ?_ ?_
 intro hb21; replace h := z0j hb21 h
 iterate 5 refine yX ?_
 refine sX ?_
 refine eX ?_
 obtain rfl := eI h; exact z05 eK
 intro hb21; replace h := z0k hb21 h
 iterate 5 refine nX ?_
 refine sX ?_
 refine eX ?_
 obtain rfl := eI h; exact z05 eK
 intro hc20 h
 refine bR ?_
 refine sX ?_
 refine eX ?_
 refine cX h rfl ?_ ?_
 intro hc22 h
 refine z09 (z13 21 [] [0, 1] mo (by kernel_rfl) ?_)
 iterate 4 refine gX ?_
 refine z1s 84 rfl ?_ ?_
 intro hb23; replace h := z0j hb23 h
 iterate 3 refine wX ?_
 iterate 2 refine gX ?_
 refine z1s 89 rfl ?_ ?_
 intro hb24; replace h := z0j hb24 h
 iterate 12 refine mX ?_
 refine z11 ?_
 change AO _ _ _ _ _
 iterate 2 refine nX ?_
 refine sX ?_
 refine eX ?_
 obtain rfl := eI h; exact z05 eK
 intro hb24; replace h := z0k hb24 h
 iterate 4 refine wX ?_
 refine z1s 93 rfl ?_ ?_
 intro hb25; replace h := z0j hb25 h
 iterate 2 refine wX ?_
 obtain ⟨x26, hx26, h⟩ := obind h
 refine z2l rfl rfl rfl rfl rfl rfl rfl (fun H hp => z0w (i := 0) Try.underlying30 z0u rfl rfl rfl hx26 (z1c _)) ?_
 iterate 3 refine wX ?_
 obtain ⟨x27, hx27, h⟩ := obind h
 refine z2l rfl rfl rfl rfl rfl rfl rfl (fun H hp => z0w (i := 0) Try.underlying30 z0u rfl rfl rfl hx27 (z1c _)) ?_
 refine wX ?_
 refine z11 ?_
 change AO _ _ _ _ _
 obtain ⟨x28, hx28, h⟩ := obind h
 refine z1g rfl rfl rfl rfl rfl rfl (z04 rfl zmg rfl (wkr (wkr .nil)) ⟨(z0b x26), ⟨(z0b x27), trivial⟩⟩ (c_q2d x26 x27 x28 hx28) rfl) ?_
 refine yX ?_
 refine sX ?_
 refine eX ?_
 obtain rfl := eI h; exact z05 eK
 intro hb25; replace h := z0k hb25 h
 iterate 8 refine mX ?_
 refine z11 ?_
 change AO _ _ _ _ _
 refine nX ?_
 refine yX ?_
 refine sX ?_
 refine eX ?_
 obtain rfl := eI h; exact z05 eK
 intro hb23; replace h := z0k hb23 h
 iterate 3 refine mX ?_
 iterate 2 refine gX ?_
 iterate 4 refine wX ?_
 refine z1s 93 rfl ?_ ?_
 intro hb29; replace h := z0j hb29 h
 iterate 2 refine wX ?_
 obtain ⟨x30, hx30, h⟩ := obind h
 refine z2l rfl rfl rfl rfl rfl rfl rfl (fun H hp => z0w (i := 0) Try.underlying30 z0u rfl rfl rfl hx30 (z1c _)) ?_
 iterate 3 refine wX ?_
 obtain ⟨x31, hx31, h⟩ := obind h
 refine z2l rfl rfl rfl rfl rfl rfl rfl (fun H hp => z0w (i := 0) Try.underlying30 z0u rfl rfl rfl hx31 (z1c _)) ?_
 refine wX ?_
 refine z11 ?_
 change AO _ _ _ _ _
 obtain ⟨x32, hx32, h⟩ := obind h
 refine z1g rfl rfl rfl rfl rfl rfl (z04 rfl zmg rfl (wkr (wkr .nil)) ⟨(z0b x30), ⟨(z0b x31), trivial⟩⟩ (c_q2d x30 x31 x32 hx32) rfl) ?_
 refine yX ?_
 refine sX ?_
 refine eX ?_
 obtain rfl := eI h; exact z05 eK
 intro hb29; replace h := z0k hb29 h
 iterate 8 refine mX ?_
 refine z11 ?_
 change AO _ _ _ _ _
 refine nX ?_
 refine yX ?_
 refine sX ?_
 refine eX ?_
 obtain rfl := eI h; exact z05 eK
 intro hc22 h
 refine bR ?_
 refine sX ?_
 refine eX ?_
 refine cX h rfl ?_ ?_
 intro hc33 h
 refine bR ?_
 iterate 4 refine sX ?_
 refine z0n (t := 110) rfl ?_ ?_
 intro hb34; replace h := z0j hb34 h
 iterate 3 refine yX ?_
 iterate 2 refine sX ?_
 refine z0n (t := 115) rfl ?_ ?_
 intro hb35; replace h := z0j hb35 h
 iterate 8 refine nX ?_
 refine sX ?_
 refine eX ?_
 obtain rfl := eI h; exact z05 eK
 intro hb35; replace h := z0k hb35 h
 iterate 4 refine yX ?_
 refine z0n (t := 119) rfl ?_ ?_
 intro hb36; replace h := z0j hb36 h
 iterate 2 refine yX ?_
 obtain ⟨x37, hx37, h⟩ := obind h
 refine z1g rfl rfl rfl rfl rfl rfl (z04 rfl Z99 rfl (wkr (wkr .nil)) ⟨(z0b a0), ⟨(z0b a1), trivial⟩⟩ (c_q18 a0 a1 x37 hx37) rfl) ?_
 refine yX ?_
 refine sX ?_
 refine eX ?_
 obtain rfl := eI h; exact z05 eK
 intro hb36; replace h := z0k hb36 h
 iterate 3 refine nX ?_
 refine yX ?_
 refine sX ?_
 refine eX ?_
 obtain rfl := eI h; exact z05 eK
 intro hb34; replace h := z0k hb34 h
 iterate 3 refine nX ?_
 iterate 2 refine sX ?_
 iterate 4 refine yX ?_
 refine z0n (t := 119) rfl ?_ ?_
 intro hb38; replace h := z0j hb38 h
 iterate 2 refine yX ?_
 obtain ⟨x39, hx39, h⟩ := obind h
 refine z1g rfl rfl rfl rfl rfl rfl (z04 rfl Z99 rfl (wkr (wkr .nil)) ⟨(z0b a0), ⟨(z0b a1), trivial⟩⟩ (c_q18 a0 a1 x39 hx39) rfl) ?_
 refine yX ?_
 refine sX ?_
 refine eX ?_
 obtain rfl := eI h; exact z05 eK
 intro hb38; replace h := z0k hb38 h
 iterate 3 refine nX ?_
 refine yX ?_
 refine sX ?_
 refine eX ?_
 obtain rfl := eI h; exact z05 eK
 intro hc33 h
 refine bR ?_
 refine sX ?_
 refine eX ?_
 refine cX h rfl ?_ ?_
 intro hc40 h
 refine bR ?_
 iterate 4 refine sX ?_
 refine z0n (t := 130) rfl ?_ ?_
 intro hb41; replace h := z0j hb41 h
 iterate 3 refine yX ?_
 iterate 2 refine sX ?_
 refine z0n (t := 135) rfl ?_ ?_
 intro hb42; replace h := z0j hb42 h
 iterate 10 refine nX ?_
 refine sX ?_
 refine eX ?_
 obtain rfl := eI h; exact z05 eK
 intro hb42; replace h := z0k hb42 h
 iterate 4 refine yX ?_
 refine z0n (t := 139) rfl ?_ ?_
 intro hb43; replace h := z0j hb43 h
 iterate 4 refine yX ?_
 refine z1g rfl rfl rfl rfl rfl rfl ((z21 (a := a0.cls) (b := a1.cls) rfl rfl rfl rfl).cast (y := (BO ((a0.cls == a1.cls)))) rfl rfl) ?_
 refine yX ?_
 refine sX ?_
 refine eX ?_
 obtain rfl := eI h; exact z05 eK
 intro hb43; replace h := z0k hb43 h
 iterate 5 refine nX ?_
 refine yX ?_
 refine sX ?_
 refine eX ?_
 obtain rfl := eI h; exact z05 eK
 intro hb41; replace h := z0k hb41 h
 iterate 3 refine nX ?_
 iterate 2 refine sX ?_
 iterate 4 refine yX ?_
 refine z0n (t := 139) rfl ?_ ?_
 intro hb44; replace h := z0j hb44 h
 iterate 4 refine yX ?_
 refine z1g rfl rfl rfl rfl rfl rfl ((z21 (a := a0.cls) (b := a1.cls) rfl rfl rfl rfl).cast (y := (BO ((a0.cls == a1.cls)))) rfl rfl) ?_
 refine yX ?_
 refine sX ?_
 refine eX ?_
 obtain rfl := eI h; exact z05 eK
 intro hb44; replace h := z0k hb44 h
 iterate 5 refine nX ?_
 refine yX ?_
 refine sX ?_
 refine eX ?_
 obtain rfl := eI h; exact z05 eK
 intro hc40 h
 refine z07 ?_
 refine cBx ?_
 refine bR ?_
 refine eX ?_
 obtain rfl := eI h; exact z05 eK
 refine z0a ?_
 iterate 4 refine sX ?_
 refine z0n (t := 12) rfl ?_ ?_
 intro hb45; replace h := z0j hb45 h
 iterate 3 refine nX ?_
 refine sX (z06 ?_)
 exact ⟨rfl, true, h, jN⟩
 intro hb45; replace h := z0k hb45 h
 iterate 3 refine yX ?_
 refine sX (z06 ?_)
 exact ⟨rfl, (a0.kind == 2), h, jN⟩
theorem C_q18.sound : ∀ (i : C_q18) (r : i.R), z22 C_q18.F i = some r → C_q18.Q i r := by
 refine z2r (Φ := C_q18.F) (Q := C_q18.Q) ?_
 intro g hg i r h
 cases i with
 | k_q18 a0 a1 => exact zis (fun a0 a1 => g (.k_q18 a0 a1)) (fun a0 a1 r hr => hg (.k_q18 a0 a1) r hr) (fun a0 a1 => g (.k_q2d a0 a1)) (fun a0 a1 r hr => hg (.k_q2d a0 a1) r hr) a0 a1 r h
 | k_q2d a0 a1 => exact zmv (fun a0 a1 => g (.k_q18 a0 a1)) (fun a0 a1 r hr => hg (.k_q18 a0 a1) r hr) (fun a0 a1 => g (.k_q2d a0 a1)) (fun a0 a1 r hr => hg (.k_q2d a0 a1) r hr) a0 a1 r h
theorem Z4g (a0 a1 : Typ) (r : Bool) (h : z74 a0 a1 = some r) : z08 Try.prog 42 [(z02 a0), (z02 a1)] (BO r) := C_q18.sound (.k_q2d a0 a1) r h
end Go.Proofs.Ytiapdjdhaclmnaa
