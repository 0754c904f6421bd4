/- Pure functions, and that calls answer as they say. -/
import Derived.Test.YtiapdjdhaclmnaaG10
namespace Go.Proofs.Ytiapdjdhaclmnaa
open Go Aw
set_option linter.unusedVariables false
set_option maxRecDepth 20000
set_option maxHeartbeats 2000000
variable {ι : Type} {ρ : ι → Type}
noncomputable def z6i (r_q0l : S_ref07_room → Typ → Int → Option (S_ref07_room × Bool)) (a1 : Typ) (a2 : Int) (s3 : Nat) (g1 : Int → Int → Option (S_ref07_room × Bool)) (s4 s5 : Int) : Option (S_ref07_room × Bool) :=
 bif (decide (s4 < ((s3 : Nat) : Int))) then (
 (z5g a1.parts s4).bind fun x7 =>
 (r_q0l (S_ref07_room.mk s5) x7 (IntKind.i64.wrap (a2 + 1))).bind fun x8 =>
 bif (!x8.2) then (
 some ((x8.1), false)
 ) else (
 g1 (IntKind.i64.wrap (s4 + 1)) ((x8.1).f_left)
 )
 ) else (
 some ((S_ref07_room.mk s5), true)
 )
theorem zco (r_q0l : OF ρ → S_ref07_room → Typ → Int → Option (S_ref07_room × Bool)) (h_r_q0l : ∀ y0 y1 y2, CM (fun G => r_q0l G y0 y1 y2)) (g1 : OF ρ → Int → Int → Option (S_ref07_room × Bool)) (h_g1 : ∀ y0 y1, CM (fun G => g1 G y0 y1)) (a1 : Typ) (a2 : Int) (s3 : Nat) (s4 s5 : Int) : CM (fun G : OF ρ => z6i (r_q0l G) a1 a2 s3 (g1 G) s4 s5) := by
 simp only [z6i]
 repeat (first | exact z01 | exact h_r_q0l _ _ _ | exact h_g1 _ _ | refine z0h ?_ ?_ | refine z0i ?_ (fun _ => ?_))
noncomputable def zhr (r_q0l : S_ref07_room → Typ → Int → Option (S_ref07_room × Bool)) (a1 : Typ) (a2 : Int) (s3 : Nat) (s4 s5 : Int) : Option (S_ref07_room × Bool) :=
 z22 (ι := (Int × Int)) (ρ := fun _ => (S_ref07_room × Bool)) (fun g i => z6i r_q0l a1 a2 s3 (fun s4 s5 => g (s4, s5)) i.1 i.2) (s4, s5)
theorem zf2 (r_q0l : S_ref07_room → Typ → Int → Option (S_ref07_room × Bool)) (a1 : Typ) (a2 : Int) (s3 : Nat) (s4 s5 : Int) : zhr r_q0l a1 a2 s3 s4 s5 = z6i r_q0l a1 a2 s3 (zhr r_q0l a1 a2 s3) s4 s5 :=
 z0t (ι := (Int × Int)) (ρ := fun _ => (S_ref07_room × Bool)) (Φ := fun g i => z6i r_q0l a1 a2 s3 (fun s4 s5 => g (s4, s5)) i.1 i.2) (fun i => zco (ι := (Int × Int)) (ρ := fun _ => (S_ref07_room × Bool)) (fun _ => r_q0l) (fun _ _ _ => z01) (fun g => (fun s4 s5 => g (s4, s5))) (fun _ _ => z0s) a1 a2 s3 i.1 i.2) (s4, s5)
theorem zv4 (r_q0l : OF ρ → S_ref07_room → Typ → Int → Option (S_ref07_room × Bool)) (h_r_q0l : ∀ y0 y1 y2, CM (fun G => r_q0l G y0 y1 y2)) (a1 : Typ) (a2 : Int) (s3 : Nat) (s4 s5 : Int) : CM (fun G : OF ρ => zhr (r_q0l G) a1 a2 s3 s4 s5) :=
 z28 (κ := (Int × Int)) (τ := fun _ => (S_ref07_room × Bool)) (Φ := fun G g i => z6i (r_q0l G) a1 a2 s3 (fun s4 s5 => g (s4, s5)) i.1 i.2) (fun g i => zco r_q0l h_r_q0l (fun _ => (fun s4 s5 => g (s4, s5))) (fun _ _ => z01) a1 a2 s3 i.1 i.2) (fun G i => zco (ι := (Int × Int)) (ρ := fun _ => (S_ref07_room × Bool)) (fun _ => r_q0l G) (fun _ _ _ => z01) (fun g => (fun s4 s5 => g (s4, s5))) (fun _ _ => z0s) a1 a2 s3 i.1 i.2) (s4, s5)
noncomputable def z5n (r_q0l : S_ref07_room → Typ → Int → Option (S_ref07_room × Bool)) (a0 : S_ref07_room) (a1 : Typ) (a2 : Int) (s3 : Nat) : Option (S_ref07_room × Bool) :=
 zhr r_q0l a1 a2 s3 0 (IntKind.i64.wrap (a0.f_left - 1))
theorem zlb (r_q0l : OF ρ → S_ref07_room → Typ → Int → Option (S_ref07_room × Bool)) (h_r_q0l : ∀ y0 y1 y2, CM (fun G => r_q0l G y0 y1 y2)) (a0 : S_ref07_room) (a1 : Typ) (a2 : Int) (s3 : Nat) : CM (fun G : OF ρ => z5n (r_q0l G) a0 a1 a2 s3) := by
 simp only [z5n]
 repeat (first | exact z01 | exact h_r_q0l _ _ _ | apply zv4 | refine z0h ?_ ?_ | refine z0i ?_ (fun _ => ?_) | intro _ | assumption)
noncomputable def zas (g1 : Int → Option (S_ref07_room × Bool)) (a0 : S_ref07_room) (s25 : Int) (s27 : Bool) : Option (S_ref07_room × Bool) :=
 bif s27 then (
 some ((S_ref07_room.mk (IntKind.i64.wrap (a0.f_left - 1))), false)
 ) else (
 g1 (IntKind.i64.wrap (s25 + 1))
 )
theorem zv5 (g1 : OF ρ → Int → Option (S_ref07_room × Bool)) (h_g1 : ∀ y0, CM (fun G => g1 G y0)) (a0 : S_ref07_room) (s25 : Int) (s27 : Bool) : CM (fun G : OF ρ => zas (g1 G) a0 s25 s27) := by
 simp only [zas]
 repeat (first | exact z01 | exact h_g1 _ | refine z0h ?_ ?_ | refine z0i ?_ (fun _ => ?_))
noncomputable def z6h (r_q0l : S_ref07_room → Typ → Int → Option (S_ref07_room × Bool)) (a0 : S_ref07_room) (a1 : Typ) (a2 : Int) (g1 : Int → Option (S_ref07_room × Bool)) (s25 : Int) : Option (S_ref07_room × Bool) :=
 bif (decide (s25 < (((a1.parts).length : Nat) : Int))) then (
 (z5g a1.names s25).bind fun x29 =>
 (zlt x29).bind fun x30 =>
 bif (!x30) then (
 zas g1 a0 s25 true
 ) else (
 bif (decide (s25 > 0)) then (
 (z5g a1.names s25).bind fun x33 =>
 (z5g a1.names (IntKind.i64.wrap (s25 - 1))).bind fun x34 =>
 zas g1 a0 s25 (Op.bytesLess x33 x34 || x33 == x34)
 ) else (
 zas g1 a0 s25 false
 )
 )
 ) else (
 z5n r_q0l a0 a1 a2 ((a1.parts).length)
 )
theorem zcn (r_q0l : OF ρ → S_ref07_room → Typ → Int → Option (S_ref07_room × Bool)) (h_r_q0l : ∀ y0 y1 y2, CM (fun G => r_q0l G y0 y1 y2)) (g1 : OF ρ → Int → Option (S_ref07_room × Bool)) (h_g1 : ∀ y0, CM (fun G => g1 G y0)) (a0 : S_ref07_room) (a1 : Typ) (a2 s25 : Int) : CM (fun G : OF ρ => z6h (r_q0l G) a0 a1 a2 (g1 G) s25) := by
 simp only [z6h]
 repeat (first | exact z01 | exact h_r_q0l _ _ _ | exact h_g1 _ | apply zlb | apply zv5 | refine z0h ?_ ?_ | refine z0i ?_ (fun _ => ?_) | intro _ | assumption)
noncomputable def zhq (r_q0l : S_ref07_room → Typ → Int → Option (S_ref07_room × Bool)) (a0 : S_ref07_room) (a1 : Typ) (a2 s25 : Int) : Option (S_ref07_room × Bool) :=
 z22 (ι := Int) (ρ := fun _ => (S_ref07_room × Bool)) (fun g i => z6h r_q0l a0 a1 a2 (fun s25 => g s25) i) s25
theorem zla (r_q0l : S_ref07_room → Typ → Int → Option (S_ref07_room × Bool)) (a0 : S_ref07_room) (a1 : Typ) (a2 s25 : Int) : zhq r_q0l a0 a1 a2 s25 = z6h r_q0l a0 a1 a2 (zhq r_q0l a0 a1 a2) s25 :=
 z0t (ι := Int) (ρ := fun _ => (S_ref07_room × Bool)) (Φ := fun g i => z6h r_q0l a0 a1 a2 (fun s25 => g s25) i) (fun i => zcn (ι := Int) (ρ := fun _ => (S_ref07_room × Bool)) (fun _ => r_q0l) (fun _ _ _ => z01) (fun g => (fun s25 => g s25)) (fun _ => z0s) a0 a1 a2 i) s25
theorem zv3 (r_q0l : OF ρ → S_ref07_room → Typ → Int → Option (S_ref07_room × Bool)) (h_r_q0l : ∀ y0 y1 y2, CM (fun G => r_q0l G y0 y1 y2)) (a0 : S_ref07_room) (a1 : Typ) (a2 s25 : Int) : CM (fun G : OF ρ => zhq (r_q0l G) a0 a1 a2 s25) :=
 z28 (κ := Int) (τ := fun _ => (S_ref07_room × Bool)) (Φ := fun G g i => z6h (r_q0l G) a0 a1 a2 (fun s25 => g s25) i) (fun g i => zcn r_q0l h_r_q0l (fun _ => (fun s25 => g s25)) (fun _ => z01) a0 a1 a2 i) (fun G i => zcn (ι := Int) (ρ := fun _ => (S_ref07_room × Bool)) (fun _ => r_q0l G) (fun _ _ _ => z01) (fun g => (fun s25 => g s25)) (fun _ => z0s) a0 a1 a2 i) s25
noncomputable def z72 (r_q0l : S_ref07_room → Typ → Int → Option (S_ref07_room × Bool)) (a0 : S_ref07_room) (a1 : Typ) (a2 : Int) (s23 : Bool) : Option (S_ref07_room × Bool) :=
 bif s23 then (
 some ((S_ref07_room.mk (IntKind.i64.wrap (a0.f_left - 1))), false)
 ) else (
 zhq r_q0l a0 a1 a2 0
 )
theorem zv6 (r_q0l : OF ρ → S_ref07_room → Typ → Int → Option (S_ref07_room × Bool)) (h_r_q0l : ∀ y0 y1 y2, CM (fun G => r_q0l G y0 y1 y2)) (a0 : S_ref07_room) (a1 : Typ) (a2 : Int) (s23 : Bool) : CM (fun G : OF ρ => z72 (r_q0l G) a0 a1 a2 s23) := by
 simp only [z72]
 repeat (first | exact z01 | exact h_r_q0l _ _ _ | apply zv3 | refine z0h ?_ ?_ | refine z0i ?_ (fun _ => ?_) | intro _ | assumption)
noncomputable def zdk (r_q0l : S_ref07_room → Typ → Int → Option (S_ref07_room × Bool)) (a0 : S_ref07_room) (a1 : Typ) (a2 : Int) (s10 : Bool) : Option (S_ref07_room × Bool) :=
 bif s10 then (
 z5n r_q0l a0 a1 a2 0
 ) else (
 bif (a1.kind == 3) then (
 bif (decide (a1.of ≥ 1)) then (
 some ((S_ref07_room.mk (IntKind.i64.wrap (a0.f_left - 1))), (decide (a1.of ≤ 10)))
 ) else (
 some ((S_ref07_room.mk (IntKind.i64.wrap (a0.f_left - 1))), false)
 )
 ) else (
 bif (a1.kind == 4) then (
 (zw1 (a1.only)).bind fun x15 =>
 some ((S_ref07_room.mk (IntKind.i64.wrap (a0.f_left - 1))), (x15.2 == 0))
 ) else (
 bif (a1.kind == 8) then (
 (zlt a1.cls).bind fun x17 =>
 some ((S_ref07_room.mk (IntKind.i64.wrap (a0.f_left - 1))), x17)
 ) else (
 bif (a1.kind == 5) then (
 bif ((((a1.parts).length : Nat) : Int) != 1) then (
 some ((S_ref07_room.mk (IntKind.i64.wrap (a0.f_left - 1))), false)
 ) else (
 z5n r_q0l a0 a1 a2 1
 )
 ) else (
 bif (a1.kind == 7) then (
 bif (decide ((((a1.parts).length : Nat) : Int) < 2)) then (
 some ((S_ref07_room.mk (IntKind.i64.wrap (a0.f_left - 1))), false)
 ) else (
 z5n r_q0l a0 a1 a2 ((a1.parts).length)
 )
 ) else (
 bif (a1.kind == 6) then (
 bif ((((a1.names).length : Nat) : Int) != (((a1.parts).length : Nat) : Int)) then (
 z72 r_q0l a0 a1 a2 true
 ) else (
 bif ((((a1.lacks).length : Nat) : Int) != (((a1.parts).length : Nat) : Int)) then (
 z72 r_q0l a0 a1 a2 true
 ) else (
 z72 r_q0l a0 a1 a2 (decide ((((a1.parts).length : Nat) : Int) > 4096))
 )
 )
 ) else (
 some ((S_ref07_room.mk (IntKind.i64.wrap (a0.f_left - 1))), false)
 )
 )
 )
 )
 )
 )
 )
theorem zv7 (r_q0l : OF ρ → S_ref07_room → Typ → Int → Option (S_ref07_room × Bool)) (h_r_q0l : ∀ y0 y1 y2, CM (fun G => r_q0l G y0 y1 y2)) (a0 : S_ref07_room) (a1 : Typ) (a2 : Int) (s10 : Bool) : CM (fun G : OF ρ => zdk (r_q0l G) a0 a1 a2 s10) := by
 simp only [zdk]
 repeat (first | exact z01 | exact h_r_q0l _ _ _ | apply zlb | apply zv6 | refine z0h ?_ ?_ | refine z0i ?_ (fun _ => ?_) | intro _ | assumption)
noncomputable def z9q (r_q0l : S_ref07_room → Typ → Int → Option (S_ref07_room × Bool)) (a0 : S_ref07_room) (a1 : Typ) (a2 : Int) (s1 : Bool) : Option (S_ref07_room × Bool) :=
 bif s1 then (
 some ((S_ref07_room.mk (IntKind.i64.wrap (a0.f_left - 1))), false)
 ) else (
 bif (a1.kind == 1) then (
 zdk r_q0l a0 a1 a2 (a1.kind == 1)
 ) else (
 zdk r_q0l a0 a1 a2 (a1.kind == 2)
 )
 )
theorem zv8 (r_q0l : OF ρ → S_ref07_room → Typ → Int → Option (S_ref07_room × Bool)) (h_r_q0l : ∀ y0 y1 y2, CM (fun G => r_q0l G y0 y1 y2)) (a0 : S_ref07_room) (a1 : Typ) (a2 : Int) (s1 : Bool) : CM (fun G : OF ρ => z9q (r_q0l G) a0 a1 a2 s1) := by
 simp only [z9q]
 repeat (first | exact z01 | exact h_r_q0l _ _ _ | apply zv7 | refine z0h ?_ ?_ | refine z0i ?_ (fun _ => ?_) | intro _ | assumption)
noncomputable def zou (r_q0l : S_ref07_room → Typ → Int → Option (S_ref07_room × Bool)) (a0 : S_ref07_room) (a1 : Typ) (a2 : Int) : Option (S_ref07_room × Bool) :=
 bif (decide ((IntKind.i64.wrap (a0.f_left - 1)) < 0)) then (
 z9q r_q0l a0 a1 a2 true
 ) else (
 z9q r_q0l a0 a1 a2 (decide (a2 > 64))
 )
theorem Z1x (r_q0l : OF ρ → S_ref07_room → Typ → Int → Option (S_ref07_room × Bool)) (h_r_q0l : ∀ y0 y1 y2, CM (fun G => r_q0l G y0 y1 y2)) (a0 : S_ref07_room) (a1 : Typ) (a2 : Int) : CM (fun G : OF ρ => zou (r_q0l G) a0 a1 a2) := by
 simp only [zou]
 repeat (first | exact z01 | exact h_r_q0l _ _ _ | apply zv8 | refine z0h ?_ ?_ | refine z0i ?_ (fun _ => ?_) | intro _ | assumption)
inductive C_q0l where
 | k_q0l (a0 : S_ref07_room) (a1 : Typ) (a2 : Int)
def C_q0l.R : C_q0l → Type
 | .k_q0l _ _ _ => (S_ref07_room × Bool)
noncomputable def C_q0l.F (g : ∀ i : C_q0l, Option i.R) : ∀ i : C_q0l, Option i.R
 | .k_q0l a0 a1 a2 => zou (fun a0 a1 a2 => g (.k_q0l a0 a1 a2)) a0 a1 a2
noncomputable def zgl (a0 : S_ref07_room) (a1 : Typ) (a2 : Int) : Option (S_ref07_room × Bool) := z22 C_q0l.F (.k_q0l a0 a1 a2)
abbrev Zfr := fun (g : ∀ i : C_q0l, Option i.R) a0 a1 a2 => g (.k_q0l a0 a1 a2)
theorem Zfk (a0 a1 a2 : _) : CM (ρ := C_q0l.R) (fun g => g (C_q0l.k_q0l a0 a1 a2)) := z0s
theorem C_q0l.cm (i : C_q0l) : CM (fun g : (∀ i : C_q0l, Option i.R) => C_q0l.F g i) := by
 cases i with
 | k_q0l a0 a1 a2 => exact Z1x Zfr Zfk a0 a1 a2
theorem Zdj (a0 : S_ref07_room) (a1 : Typ) (a2 : Int) : zgl a0 a1 a2 = zou zgl a0 a1 a2 := z0t C_q0l.cm (.k_q0l a0 a1 a2)
def C_q0l.Q : ∀ i : C_q0l, i.R → Prop
 | .k_q0l a0 a1 a2 => fun (r : (S_ref07_room × Bool)) => z08 Try.prog 34 [(z15 a0), (z02 a1), (I64 a2)] (PV.tup [(z15 r.1), (BO r.2)])
theorem zbq (r_q0l : S_ref07_room → Typ → Int → Option (S_ref07_room × Bool)) (c_q0l : ∀ (a0 : S_ref07_room) (a1 : Typ) (a2 : Int) r, r_q0l a0 a1 a2 = some r → z08 Try.prog 34 [(z15 a0), (z02 a1), (I64 a2)] (PV.tup [(z15 r.1), (BO r.2)])) (a0 : S_ref07_room) (a1 : Typ) (a2 : Int) (r : (S_ref07_room × Bool)) (h : zou r_q0l a0 a1 a2 = some r) : z08 Try.prog 34 [(z15 a0), (z02 a1), (I64 a2)] (PV.tup [(z15 r.1), (BO r.2)]) := by
 unfold zou at h
 refine z0g Try.func34 rfl Try.ntmps34 Try.results34 rfl (z0q ?_)
 change BW _ _ _ ⟨[(0, (z15 a0)), (1, (z02 a1)), (2, (I64 a2))], [], _⟩ _
 refine bR ?_
 iterate 2 refine sX ?_
 refine sS rfl rfl rfl (z16 z43 rfl) ?_
 refine eX ?_
 refine bR ?_
 iterate 2 refine sX ?_
 refine sS rfl rfl rfl (z95 rfl rfl rfl) ?_
 refine sX ?_
 refine z0m rfl rfl (z0d zfw rfl rfl rfl rfl rfl rfl (lbE rfl) rfl) ?_
 refine z06 ?_
 refine cBx ?_
 refine z09 ?_
 refine jX (ι := Bool) (fun i => z9q r_q0l a0 a1 a2 i = some r) (fun i => [(2, (I64 a2)), (3, (PV.rf 0 0)), (4, (PV.rf 1 0)), (6, (PV.rf 2 0)), (24, (BO i))]) (fun i => [.box 79 [(I64 ((IntKind.i64.wrap (a0.f_left - 1))))], .box 34 (z0x a1), .box 79 [(I64 0)]]) ?_ ?_
 rintro s1 h; replace h : z9q r_q0l a0 a1 a2 s1 = some r := h; unfold z9q at h
 change BW _ _ _ ⟨[(2, (I64 a2)), (3, (PV.rf 0 0)), (4, (PV.rf 1 0)), (6, (PV.rf 2 0)), (24, (BO s1))], [.box 79 [(I64 ((IntKind.i64.wrap (a0.f_left - 1))))], .box 34 (z0x a1), .box 79 [(I64 0)]], _⟩ _
 refine cX h rfl ?_ ?_
 intro hc2 h
 refine bR ?_
 refine sX ?_
 refine z0m rfl rfl (z0d z43 rfl rfl rfl rfl rfl rfl (lbE rfl) rfl) ?_
 refine eX ?_
 obtain rfl := eI h; exact z05 ⟨_, rfl, z1f (y := (PV.tup [(z15 (S_ref07_room.mk (IntKind.i64.wrap (a0.f_left - 1)))), (BO false)])) (Wk.refl _) (z03 (z18 (S_ref07_room.mk (IntKind.i64.wrap (a0.f_left - 1)))) (z03 rfl z0o)) ⟨rfl, rfl⟩⟩
 intro hc2 h
 refine z07 ?_
 refine cBx ?_
 refine bR ?_
 refine eX ?_
 refine jX (ι := Nat) (fun i => z5n r_q0l a0 a1 a2 i = some r) (fun i => [(2, (I64 a2)), (3, (PV.rf 0 0)), (4, (PV.rf 1 0)), (6, (PV.rf 2 0)), (8, (I64 (((i : Nat) : Int))))]) (fun i => [.box 79 [(I64 ((IntKind.i64.wrap (a0.f_left - 1))))], .box 34 (z0x a1), .box 79 [(I64 0)]]) ?_ ?_
 rintro s3 h; replace h : z5n r_q0l a0 a1 a2 s3 = some r := h; unfold z5n at h
 change BW _ _ _ ⟨[(2, (I64 a2)), (3, (PV.rf 0 0)), (4, (PV.rf 1 0)), (6, (PV.rf 2 0)), (8, (I64 (((s3 : Nat) : Int))))], [.box 79 [(I64 ((IntKind.i64.wrap (a0.f_left - 1))))], .box 34 (z0x a1), .box 79 [(I64 0)]], _⟩ _
 refine z09 ?_
 refine bR ?_
 refine eX ?_
 refine z0e ?_
 refine cBx ?_
 unfold zhr at h
 refine lX (σ := (Int × Int)) (fun i => [(2, (I64 a2)), (3, (PV.rf 0 0)), (4, (PV.rf 1 0)), (6, (PV.rf 2 0)), (8, (I64 (((s3 : Nat) : Int)))), (12, (I64 i.1))]) (fun i => [.box 79 [(I64 i.2)], .box 34 (z0x a1), .box 79 [(I64 0)]]) (0, (IntKind.i64.wrap (a0.f_left - 1))) h ?_ ?_
 exact jN
 rintro g1_f ⟨s4, s5⟩ h; replace h : z6i r_q0l a1 a2 s3 (fun y0 y1 => g1_f (y0, y1)) s4 s5 = some r := h; unfold z6i at h
 change BW _ _ _ ⟨[(2, (I64 a2)), (3, (PV.rf 0 0)), (4, (PV.rf 1 0)), (6, (PV.rf 2 0)), (8, (I64 (((s3 : Nat) : Int)))), (12, (I64 s4))], [.box 79 [(I64 s5)], .box 34 (z0x a1), .box 79 [(I64 0)]], _⟩ _
 refine z09 ?_
 refine bR ?_
 iterate 2 refine sX ?_
 refine eX ?_
 refine cX h rfl ?_ ?_
 intro hc6 h
 refine z07 ?_
 refine cBx ?_
 refine z09 ?_
 refine z0e ?_
 refine cBx ?_
 refine bR ?_
 refine eX ?_
 refine z09 (z13 13 [0, 12] [1] mo (by kernel_rfl) ?_)
 refine z7e rfl rfl rfl rfl ((z4u z43 Try.underlying79 rfl rfl rfl rfl rfl rfl)) ⟨rfl, trivial⟩ ?_
 iterate 3 refine gX ?_
 obtain ⟨x7, hx7, h⟩ := obind h
 refine z1h rfl rfl rfl rfl (fun H hp => z1o Try.underlying30 z0u rfl rfl rfl hx7 (z1c _)) ?_
 iterate 3 refine gX ?_
 obtain ⟨x8, hx8, h⟩ := obind h
 refine z1h rfl rfl rfl rfl (fun H hp => z04 rfl Z9i rfl (wkr (wkr (wkr .nil))) ⟨(z18 (S_ref07_room.mk s5)), ⟨(z0b x7), ⟨rfl, trivial⟩⟩⟩ (c_q0l (S_ref07_room.mk s5) x7 (IntKind.i64.wrap (a2 + 1)) x8 hx8) (z03 (z18 x8.1) (z03 rfl z0o))) ?_
 iterate 3 refine gX ?_
 refine z87 rfl rfl rfl (z0d z43 rfl rfl rfl rfl rfl rfl (lbE rfl) rfl) ⟨rfl, trivial⟩ ?_
 refine z11 ?_
 change AO _ _ _ _ _
 refine eX ?_
 refine bR ?_
 refine sX ?_
 refine eX ?_
 refine cX h rfl ?_ ?_
 intro hc9 h
 refine bR ?_
 refine sX ?_
 refine z0m rfl rfl (z0d z43 rfl rfl rfl rfl rfl rfl (lbE rfl) rfl) ?_
 refine eX ?_
 obtain rfl := eI h; exact z05 ⟨_, rfl, z1f (y := (PV.tup [(z15 (x8.1)), (BO false)])) (Wk.refl _) (z03 (z18 (x8.1)) (z03 rfl z0o)) ⟨rfl, rfl⟩⟩
 intro hc9 h
 refine z07 ?_
 refine cBx ?_
 refine z0a ?_
 iterate 2 refine sX ?_
 refine sX (z06 ?_)
 exact ⟨rfl, ((IntKind.i64.wrap (s4 + 1)), (x8.1).f_left), h, jN⟩
 intro hc6 h
 refine z1a ?_
 refine cBx ?_
 refine bR ?_
 refine sX ?_
 refine z0m rfl rfl (z0d z43 rfl rfl rfl rfl rfl rfl (lbE rfl) rfl) ?_
 refine eX ?_
 obtain rfl := eI h; exact z05 ⟨_, rfl, z1f (y := (PV.tup [(z15 (S_ref07_room.mk s5)), (BO true)])) (Wk.refl _) (z03 (z18 (S_ref07_room.mk s5)) (z03 rfl z0o)) ⟨rfl, rfl⟩⟩
 refine bR ?_
 refine sX ?_
 refine eX ?_
 refine z0e ?_
 refine cBx ?_
 refine jX (ι := Bool) (fun i => zdk r_q0l a0 a1 a2 i = some r) (fun i => [(2, (I64 a2)), (3, (PV.rf 0 0)), (4, (PV.rf 1 0)), (6, (PV.rf 2 0)), (8, (I64 0)), (27, (I64 a1.kind)), (29, (BO i))]) (fun i => [.box 79 [(I64 ((IntKind.i64.wrap (a0.f_left - 1))))], .box 34 (z0x a1), .box 79 [(I64 0)]]) ?_ ?_
 rintro s10 h; replace h : zdk r_q0l a0 a1 a2 s10 = some r := h; unfold zdk at h
 change BW _ _ _ ⟨[(2, (I64 a2)), (3, (PV.rf 0 0)), (4, (PV.rf 1 0)), (6, (PV.rf 2 0)), (8, (I64 0)), (27, (I64 a1.kind)), (29, (BO s10))], [.box 79 [(I64 ((IntKind.i64.wrap (a0.f_left - 1))))], .box 34 (z0x a1), .box 79 [(I64 0)]], _⟩ _
 refine cX h rfl ?_ ?_
 intro hc11 h
 refine z07 ?_
 exact ⟨rfl, 0, h, jN⟩
 intro hc11 h
 refine bR ?_
 refine sX ?_
 refine eX ?_
 refine cX h rfl ?_ ?_
 intro hc12 h
 refine z09 (z13 10 [9] [0, 1] mo (by kernel_rfl) ?_)
 iterate 5 refine gX ?_
 refine z1s 38 rfl ?_ ?_
 intro hb13; replace h := z0j hb13 h
 iterate 3 refine wX ?_
 refine gX ?_
 refine z87 rfl rfl rfl (z0d z43 rfl rfl rfl rfl rfl rfl (lbE rfl) rfl) ⟨rfl, ⟨rfl, trivial⟩⟩ ?_
 refine z11 ?_
 change AO _ _ _ _ _
 refine eX ?_
 obtain rfl := eI h; exact z05 ⟨_, rfl, z1f (y := (PV.tup [(z15 (S_ref07_room.mk (IntKind.i64.wrap (a0.f_left - 1)))), (BO ((decide (a1.of ≤ 10))))])) (Wk.refl _) (z03 (z18 (S_ref07_room.mk (IntKind.i64.wrap (a0.f_left - 1)))) (z03 rfl z0o)) ⟨rfl, rfl⟩⟩
 intro hb13; replace h := z0k hb13 h
 iterate 3 refine mX ?_
 refine gX ?_
 refine z87 rfl rfl rfl (z0d z43 rfl rfl rfl rfl rfl rfl (lbE rfl) rfl) ⟨rfl, ⟨rfl, trivial⟩⟩ ?_
 refine z11 ?_
 change AO _ _ _ _ _
 refine eX ?_
 obtain rfl := eI h; exact z05 ⟨_, rfl, z1f (y := (PV.tup [(z15 (S_ref07_room.mk (IntKind.i64.wrap (a0.f_left - 1)))), (BO false)])) (Wk.refl _) (z03 (z18 (S_ref07_room.mk (IntKind.i64.wrap (a0.f_left - 1)))) (z03 rfl z0o)) ⟨rfl, rfl⟩⟩
 intro hc12 h
 refine bR ?_
 refine sX ?_
 refine eX ?_
 refine cX h rfl ?_ ?_
 intro hc14 h
 refine bR ?_
 iterate 2 refine sX ?_
 obtain ⟨x15, hx15, h⟩ := obind h
 refine sS rfl rfl rfl (z04 rfl Zcp rfl (wkr .nil) ⟨(z10 (a1.only)), trivial⟩ (Zb0 (a1.only) x15 hx15) (z03 rfl (z03 rfl z0o))) ?_
 iterate 4 refine sX ?_
 refine eX ?_
 refine bR ?_
 iterate 3 refine sX ?_
 refine z0m rfl rfl (z0d z43 rfl rfl rfl rfl rfl rfl (lbE rfl) rfl) ?_
 refine eX ?_
 obtain rfl := eI h; exact z05 ⟨_, rfl, z1f (y := (PV.tup [(z15 (S_ref07_room.mk (IntKind.i64.wrap (a0.f_left - 1)))), (BO ((x15.2 == 0)))])) (Wk.refl _) (z03 (z18 (S_ref07_room.mk (IntKind.i64.wrap (a0.f_left - 1)))) (z03 rfl z0o)) ⟨rfl, rfl⟩⟩
 intro hc14 h
 refine bR ?_
 refine sX ?_
 refine eX ?_
 refine cX h rfl ?_ ?_
 intro hc16 h
 refine z09 (z13 4 [] [0, 1] mo (by kernel_rfl) ?_)
 iterate 3 refine gX ?_
 obtain ⟨x17, hx17, h⟩ := obind h
 refine z1h rfl rfl rfl rfl (fun H hp => z04 rfl Z0q rfl (wkr .nil) ⟨rfl, trivial⟩ (zyt a1.cls x17 hx17) rfl) ?_
 refine z11 ?_
 change AO _ _ _ _ _
 refine z0m rfl rfl (z0d z43 rfl rfl rfl rfl rfl rfl (lbE rfl) rfl) ?_
 refine eX ?_
 obtain rfl := eI h; exact z05 ⟨_, rfl, z1f (y := (PV.tup [(z15 (S_ref07_room.mk (IntKind.i64.wrap (a0.f_left - 1)))), (BO x17)])) (Wk.refl _) (z03 (z18 (S_ref07_room.mk (IntKind.i64.wrap (a0.f_left - 1)))) (z03 rfl z0o)) ⟨rfl, rfl⟩⟩
 intro hc16 h
 refine bR ?_
 refine sX ?_
 refine eX ?_
 refine cX h rfl ?_ ?_
 intro hc18 h
 refine bR ?_
 refine eX ?_
 refine bR ?_
 iterate 3 refine sX ?_
 refine eX ?_
 refine cX h rfl ?_ ?_
 intro hc19 h
 refine bR ?_
 refine sX ?_
 refine z0m rfl rfl (z0d z43 rfl rfl rfl rfl rfl rfl (lbE rfl) rfl) ?_
 refine eX ?_
 obtain rfl := eI h; exact z05 ⟨_, rfl, z1f (y := (PV.tup [(z15 (S_ref07_room.mk (IntKind.i64.wrap (a0.f_left - 1)))), (BO false)])) (Wk.refl _) (z03 (z18 (S_ref07_room.mk (IntKind.i64.wrap (a0.f_left - 1)))) (z03 rfl z0o)) ⟨rfl, rfl⟩⟩
 intro hc19 h
 refine z07 ?_
 exact ⟨rfl, 1, h, jN⟩
 intro hc18 h
 refine bR ?_
 refine sX ?_
 refine eX ?_
 refine cX h rfl ?_ ?_
 intro hc20 h
 refine bR ?_
 iterate 3 refine sX ?_
 refine eX ?_
 refine bR ?_
 refine sX ?_
 refine eX ?_
 refine cX h rfl ?_ ?_
 intro hc21 h
 refine bR ?_
 refine sX ?_
 refine z0m rfl rfl (z0d z43 rfl rfl rfl rfl rfl rfl (lbE rfl) rfl) ?_
 refine eX ?_
 obtain rfl := eI h; exact z05 ⟨_, rfl, z1f (y := (PV.tup [(z15 (S_ref07_room.mk (IntKind.i64.wrap (a0.f_left - 1)))), (BO false)])) (Wk.refl _) (z03 (z18 (S_ref07_room.mk (IntKind.i64.wrap (a0.f_left - 1)))) (z03 rfl z0o)) ⟨rfl, rfl⟩⟩
 intro hc21 h
 refine z07 ?_
 exact ⟨rfl, (a1.parts).length, h, jN⟩
 intro hc20 h
 refine bR ?_
 refine sX ?_
 refine eX ?_
 refine cX h rfl ?_ ?_
 intro hc22 h
 refine bR ?_
 iterate 3 refine sX ?_
 refine eX ?_
 refine z09 ?_
 refine jX (ι := Bool) (fun i => z72 r_q0l a0 a1 a2 i = some r) (fun i => [(2, (I64 a2)), (3, (PV.rf 0 0)), (4, (PV.rf 1 0)), (6, (PV.rf 2 0)), (8, (I64 ((((a1.parts).length : Nat) : Int)))), (95, (BO i))]) (fun i => [.box 79 [(I64 ((IntKind.i64.wrap (a0.f_left - 1))))], .box 34 (z0x a1), .box 79 [(I64 0)]]) ?_ ?_
 rintro s23 h; replace h : z72 r_q0l a0 a1 a2 s23 = some r := h; unfold z72 at h
 change BW _ _ _ ⟨[(2, (I64 a2)), (3, (PV.rf 0 0)), (4, (PV.rf 1 0)), (6, (PV.rf 2 0)), (8, (I64 ((((a1.parts).length : Nat) : Int)))), (95, (BO s23))], [.box 79 [(I64 ((IntKind.i64.wrap (a0.f_left - 1))))], .box 34 (z0x a1), .box 79 [(I64 0)]], _⟩ _
 refine cX h rfl ?_ ?_
 intro hc24 h
 refine bR ?_
 refine sX ?_
 refine z0m rfl rfl (z0d z43 rfl rfl rfl rfl rfl rfl (lbE rfl) rfl) ?_
 refine eX ?_
 obtain rfl := eI h; exact z05 ⟨_, rfl, z1f (y := (PV.tup [(z15 (S_ref07_room.mk (IntKind.i64.wrap (a0.f_left - 1)))), (BO false)])) (Wk.refl _) (z03 (z18 (S_ref07_room.mk (IntKind.i64.wrap (a0.f_left - 1)))) (z03 rfl z0o)) ⟨rfl, rfl⟩⟩
 intro hc24 h
 refine z07 ?_
 refine cBx ?_
 refine bR ?_
 refine eX ?_
 refine z0e ?_
 refine cBx ?_
 unfold zhq at h
 refine lX (σ := Int) (fun i => [(2, (I64 a2)), (3, (PV.rf 0 0)), (4, (PV.rf 1 0)), (6, (PV.rf 2 0)), (8, (I64 ((((a1.parts).length : Nat) : Int)))), (11, (I64 i))]) (fun i => [.box 79 [(I64 ((IntKind.i64.wrap (a0.f_left - 1))))], .box 34 (z0x a1), .box 79 [(I64 0)]]) 0 h ?_ ?_
 exact jN
 rintro g1_f s25 h; replace h : z6h r_q0l a0 a1 a2 (fun y0 => g1_f y0) s25 = some r := h; unfold z6h at h
 change BW _ _ _ ⟨[(2, (I64 a2)), (3, (PV.rf 0 0)), (4, (PV.rf 1 0)), (6, (PV.rf 2 0)), (8, (I64 ((((a1.parts).length : Nat) : Int)))), (11, (I64 s25))], [.box 79 [(I64 ((IntKind.i64.wrap (a0.f_left - 1))))], .box 34 (z0x a1), .box 79 [(I64 0)]], _⟩ _
 refine z09 ?_
 refine bR ?_
 iterate 2 refine sX ?_
 refine eX ?_
 refine cX h rfl ?_ ?_
 intro hc26 h
 refine z07 ?_
 refine cBx ?_
 refine z09 ?_
 refine z0e ?_
 refine cBx ?_
 refine jX (ι := Bool) (fun i => zas (fun y0 => g1_f y0) a0 s25 i = some r) (fun i => [(2, (I64 a2)), (3, (PV.rf 0 0)), (4, (PV.rf 1 0)), (6, (PV.rf 2 0)), (8, (I64 ((((a1.parts).length : Nat) : Int)))), (11, (I64 s25)), (126, (BO i))]) (fun i => [.box 79 [(I64 ((IntKind.i64.wrap (a0.f_left - 1))))], .box 34 (z0x a1), .box 79 [(I64 0)]]) ?_ ?_
 rintro s27 h; replace h : zas (fun y0 => g1_f y0) a0 s25 s27 = some r := h; unfold zas at h
 change BW _ _ _ ⟨[(2, (I64 a2)), (3, (PV.rf 0 0)), (4, (PV.rf 1 0)), (6, (PV.rf 2 0)), (8, (I64 ((((a1.parts).length : Nat) : Int)))), (11, (I64 s25)), (126, (BO s27))], [.box 79 [(I64 ((IntKind.i64.wrap (a0.f_left - 1))))], .box 34 (z0x a1), .box 79 [(I64 0)]], _⟩ _
 refine cX h rfl ?_ ?_
 intro hc28 h
 refine bR ?_
 refine sX ?_
 refine z0m rfl rfl (z0d z43 rfl rfl rfl rfl rfl rfl (lbE rfl) rfl) ?_
 refine eX ?_
 obtain rfl := eI h; exact z05 ⟨_, rfl, z1f (y := (PV.tup [(z15 (S_ref07_room.mk (IntKind.i64.wrap (a0.f_left - 1)))), (BO false)])) (Wk.refl _) (z03 (z18 (S_ref07_room.mk (IntKind.i64.wrap (a0.f_left - 1)))) (z03 rfl z0o)) ⟨rfl, rfl⟩⟩
 intro hc28 h
 refine z07 ?_
 refine cBx ?_
 refine z0a ?_
 iterate 2 refine sX ?_
 refine sX (z06 ?_)
 exact ⟨rfl, (IntKind.i64.wrap (s25 + 1)), h, jN⟩
 refine z13 22 [] [1] mo (by kernel_rfl) ?_
 iterate 3 refine gX ?_
 obtain ⟨x29, hx29, h⟩ := obind h
 refine z1h rfl rfl rfl rfl (fun H hp => z1o Try.underlying31 inf_9 rfl rfl rfl hx29 rfl) ?_
 refine gX ?_
 obtain ⟨x30, hx30, h⟩ := obind h
 refine z1h rfl rfl rfl rfl (fun H hp => z04 rfl Z0q rfl (wkr .nil) ⟨rfl, trivial⟩ (zyt x29 x30 hx30) rfl) ?_
 iterate 2 refine gX ?_
 refine z1s 109 rfl ?_ ?_
 intro hb31; replace h := z0j hb31 h
 iterate 14 refine mX ?_
 refine z11 ?_
 change AO _ _ _ _ _
 iterate 2 refine nX ?_
 refine sX (z06 ?_)
 exact ⟨rfl, true, h, jN⟩
 intro hb31; replace h := z0k hb31 h
 iterate 3 refine wX ?_
 refine z1s 112 rfl ?_ ?_
 intro hb32; replace h := z0j hb32 h
 iterate 3 refine wX ?_
 obtain ⟨x33, hx33, h⟩ := obind h
 refine z2l rfl rfl rfl rfl rfl rfl rfl (fun H hp => z1o Try.underlying31 inf_9 rfl rfl rfl hx33 rfl) ?_
 iterate 4 refine wX ?_
 refine z2l rfl rfl rfl rfl rfl rfl rfl (fun H hp => z95 rfl rfl rfl) ?_
 obtain ⟨x34, hx34, h⟩ := obind h
 refine z2l rfl rfl rfl rfl rfl rfl rfl (fun H hp => z1o Try.underlying31 inf_9 rfl rfl rfl hx34 rfl) ?_
 refine wX ?_
 refine z11 ?_
 change AO _ _ _ _ _
 refine z1g rfl rfl rfl rfl rfl rfl ((z21 (a := x33) (b := x34) rfl rfl rfl rfl).cast (y := (BO ((Op.bytesLess x33 x34 || x33 == x34)))) rfl rfl) ?_
 refine yX ?_
 refine sX (z06 ?_)
 exact ⟨rfl, (Op.bytesLess x33 x34 || x33 == x34), h, jN⟩
 intro hb32; replace h := z0k hb32 h
 iterate 11 refine mX ?_
 refine z11 ?_
 change AO _ _ _ _ _
 refine nX ?_
 refine yX ?_
 refine sX (z06 ?_)
 exact ⟨rfl, false, h, jN⟩
 intro hc26 h
 refine z1a ?_
 exact ⟨rfl, (a1.parts).length, h, jN⟩
 refine z0a ?_
 iterate 6 refine sX ?_
 refine z0n (t := 85) rfl ?_ ?_
 intro hb35; replace h := z0j hb35 h
 iterate 5 refine nX ?_
 iterate 2 refine sX ?_
 iterate 2 refine nX ?_
 refine sX (z06 ?_)
 exact ⟨rfl, true, h, jN⟩
 intro hb35; replace h := z0k hb35 h
 iterate 5 refine yX ?_
 iterate 2 refine sX ?_
 refine z0n (t := 92) rfl ?_ ?_
 intro hb36; replace h := z0j hb36 h
 iterate 2 refine nX ?_
 refine sX (z06 ?_)
 exact ⟨rfl, true, h, jN⟩
 intro hb36; replace h := z0k hb36 h
 iterate 2 refine yX ?_
 refine sX (z06 ?_)
 exact ⟨rfl, (decide ((((a1.parts).length : Nat) : Int) > 4096)), h, jN⟩
 intro hc22 h
 refine bR ?_
 refine sX ?_
 refine z0m rfl rfl (z0d z43 rfl rfl rfl rfl rfl rfl (lbE rfl) rfl) ?_
 refine eX ?_
 obtain rfl := eI h; exact z05 ⟨_, rfl, z1f (y := (PV.tup [(z15 (S_ref07_room.mk (IntKind.i64.wrap (a0.f_left - 1)))), (BO false)])) (Wk.refl _) (z03 (z18 (S_ref07_room.mk (IntKind.i64.wrap (a0.f_left - 1)))) (z03 rfl z0o)) ⟨rfl, rfl⟩⟩
 refine bR ?_
 refine sX ?_
 refine eX ?_
 refine cX h rfl ?_ ?_
 intro hc37 h
 refine z07 ?_
 exact ⟨rfl, (a1.kind == 1), h, jN⟩
 intro hc37 h
 refine z0a ?_
 refine sX ?_
 refine sX (z06 ?_)
 exact ⟨rfl, (a1.kind == 2), h, jN⟩
 refine z0a ?_
 iterate 4 refine sX ?_
 refine z0n (t := 21) rfl ?_ ?_
 intro hb38; replace h := z0j hb38 h
 iterate 2 refine nX ?_
 refine sX (z06 ?_)
 exact ⟨rfl, true, h, jN⟩
 intro hb38; replace h := z0k hb38 h
 iterate 2 refine yX ?_
 refine sX (z06 ?_)
 exact ⟨rfl, (decide (a2 > 64)), h, jN⟩
theorem C_q0l.sound : ∀ (i : C_q0l) (r : i.R), z22 C_q0l.F i = some r → C_q0l.Q i r := by
 refine z2r (Φ := C_q0l.F) (Q := C_q0l.Q) ?_
 intro g hg i r h
 cases i with
 | k_q0l a0 a1 a2 => exact zbq (fun a0 a1 a2 => g (.k_q0l a0 a1 a2)) (fun a0 a1 a2 r hr => hg (.k_q0l a0 a1 a2) r hr) a0 a1 a2 r h
theorem Zb7 (a0 : S_ref07_room) (a1 : Typ) (a2 : Int) (r : (S_ref07_room × Bool)) (h : zgl a0 a1 a2 = some r) : z08 Try.prog 34 [(z15 a0), (z02 a1), (I64 a2)] (PV.tup [(z15 r.1), (BO r.2)]) := C_q0l.sound (.k_q0l a0 a1 a2) r h
noncomputable def zja (a0 : Typ) : Option Bool :=
 (zgl (S_ref07_room.mk 16384) a0 1).bind fun x1 =>
 some x1.2
theorem zt3 (a0 : Typ) (r : Bool) (h : zja a0 = some r) : z08 Try.prog 13 [(z02 a0)] (BO r) := by
 unfold zja at h
 refine z0g Try.func13 rfl Try.ntmps13 Try.results13 rfl (z0q ?_)
 change BW _ _ _ ⟨[(0, (z02 a0))], [], _⟩ _
 refine bR ?_
 refine sX ?_
 refine eX ?_
 refine bR ?_
 refine sS rfl rfl rfl (z1x (cs := [(I64 16384)]) Z6z z43 rfl rfl rfl rfl) ?_
 refine sX ?_
 obtain ⟨x1, hx1, h⟩ := obind h
 refine sS rfl rfl rfl (z04 rfl Z9i rfl (wkr (wkr (wkr .nil))) ⟨(z18 (S_ref07_room.mk 16384)), ⟨(z0b a0), ⟨rfl, trivial⟩⟩⟩ (Zb7 (S_ref07_room.mk 16384) a0 1 x1 hx1) (z03 (z18 x1.1) (z03 rfl z0o))) ?_
 iterate 3 refine sX ?_
 refine sS rfl rfl rfl (z16 z43 rfl) ?_
 refine z0m rfl rfl (z0d z43 rfl rfl rfl rfl rfl rfl (lbE rfl) rfl) ?_
 refine eX ?_
 refine bR ?_
 refine sX ?_
 refine eX ?_
 obtain rfl := eI h; exact z05 eK
noncomputable def zgz (a0 a1 : Typ) (s1 : Bool) : Option (Bool × Int) :=
 bif s1 then (
 some (false, 70)
 ) else (
 (z74 a0 a1).bind fun x3 =>
 some (x3, 0)
 )
noncomputable def zvr (a0 a1 : Typ) : Option (Bool × Int) :=
 (zja a0).bind fun x4 =>
 bif (!x4) then (
 zgz a0 a1 true
 ) else (
 (zja a1).bind fun x6 =>
 zgz a0 a1 (!x6)
 )
theorem Zam (a0 a1 : Typ) (r : (Bool × Int)) (h : zvr a0 a1 = some r) : z08 Try.prog 19 [(z02 a0), (z02 a1)] (PV.tup [(BO r.1), (I64 r.2)]) := by
 unfold zvr at h
 refine z0g Try.func19 rfl Try.ntmps19 Try.results19 rfl (z0q ?_)
 change BW _ _ _ ⟨[(0, (z02 a0)), (1, (z02 a1))], [], _⟩ _
 refine bR ?_
 iterate 3 refine sX ?_
 refine eX ?_
 refine z09 ?_
 refine jX (ι := Bool) (fun i => zgz a0 a1 i = some r) (fun i => [(2, (PV.rf 0 0)), (3, (PV.rf 1 0)), (13, (BO i))]) (fun i => [.box 34 (z0x a0), .box 34 (z0x a1)]) ?_ ?_
 rintro s1 h; replace h : zgz a0 a1 s1 = some r := h; unfold zgz at h
 change BW _ _ _ ⟨[(2, (PV.rf 0 0)), (3, (PV.rf 1 0)), (13, (BO s1))], [.box 34 (z0x a0), .box 34 (z0x a1)], _⟩ _
 refine cX h rfl ?_ ?_
 intro hc2 h
 refine bR ?_
 refine sX ?_
 refine eX ?_
 obtain rfl := eI h; exact z05 eK
 intro hc2 h
 refine z07 ?_
 refine cBx ?_
 refine bR ?_
 iterate 2 refine sX ?_
 obtain ⟨x3, hx3, h⟩ := obind h
 refine sS rfl rfl rfl (z04 rfl zmg rfl (wkr (wkr .nil)) ⟨(z0b a0), ⟨(z0b a1), trivial⟩⟩ (Z4g a0 a1 x3 hx3) rfl) ?_
 refine sX ?_
 refine eX ?_
 obtain rfl := eI h; exact z05 eK
 refine z0a ?_
 refine sX ?_
 obtain ⟨x4, hx4, h⟩ := obind h
 refine sS rfl rfl rfl (z04 rfl zxr rfl (wkr .nil) ⟨(z0b a0), trivial⟩ (zt3 a0 x4 hx4) rfl) ?_
 iterate 2 refine sX ?_
 refine z0n (t := 9) rfl ?_ ?_
 intro hb5; replace h := z0j hb5 h
 iterate 3 refine nX ?_
 refine sX (z06 ?_)
 exact ⟨rfl, true, h, jN⟩
 intro hb5; replace h := z0k hb5 h
 refine yX ?_
 obtain ⟨x6, hx6, h⟩ := obind h
 refine z1g rfl rfl rfl rfl rfl rfl (z04 rfl zxr rfl (wkr .nil) ⟨(z0b a1), trivial⟩ (zt3 a1 x6 hx6) rfl) ?_
 refine yX ?_
 refine sX (z06 ?_)
 exact ⟨rfl, (!x6), h, jN⟩
noncomputable def zru (a0 : Typ) : Option (List Typ) :=
 bif (a0.kind == 7) then (
 some a0.parts
 ) else (
 some ([a0] : (List Typ))
 )
theorem Z7j (a0 : Typ) (r : (List Typ)) (h : zru a0 = some r) : z08 Try.prog 73 [(z02 a0)] (PV.sl none 34 18 (List.map ofTyp r)) := by
 unfold zru at h
 refine z0g Try.func73 rfl Try.ntmps73 Try.results73 rfl (z0q ?_)
 change BW _ _ _ ⟨[(0, (z02 a0))], [], _⟩ _
 refine bR ?_
 refine sX ?_
 refine eX ?_
 refine z09 ?_
 refine bR ?_
 iterate 2 refine sX ?_
 refine eX ?_
 refine cX h rfl ?_ ?_
 intro hc1 h
 refine bR ?_
 iterate 2 refine sX ?_
 refine eX ?_
 obtain rfl := eI h; exact z05 ⟨_, rfl, z1f (y := (PV.sl none 34 18 (List.map ofTyp a0.parts))) (Wk.refl _) (z0c z1m a0.parts) ⟨rfl, rfl⟩⟩
 intro hc1 h
 refine z07 ?_
 refine cBx ?_
 refine bR ?_
 refine sX ?_
 refine sS rfl rfl rfl ((z1q (xs := [(PV.agg (cc4 a0))]) Try.underlying30 z0u rfl rfl rfl rfl rfl rfl ⟨lbE rfl, lbE rfl⟩ rfl).cast (y := (PV.sl (some 1) 34 18 (List.map ofTyp ([a0] : (List Typ))))) (by simp only [List.map_cons, List.map_nil, z1c]; try rfl) rfl) ?_
 refine eX ?_
 obtain rfl := eI h; exact z05 ⟨_, rfl, z1f (y := (PV.sl none 34 18 (List.map ofTyp ([a0] : (List Typ))))) Wk.tok (z0c z1m ([a0] : (List Typ))) ⟨rfl, rfl⟩⟩
noncomputable def z7q (a0 : (List (List Typ))) (g2 : (List Typ) → Nat → Option (List Typ)) (s8 : (List Typ)) (s9 : Nat) : Option (List Typ) :=
 bif (decide (((s9 : Nat) : Int) < (((a0).length : Nat) : Int))) then (
 ((a0)[s9]?).bind fun x12 =>
 (z9f 264 s8 x12).bind fun x13 =>
 g2 x13 (s9 + 1)
 ) else (
 some s8
 )
theorem zrh (g2 : OF ρ → (List Typ) → Nat → Option (List Typ)) (h_g2 : ∀ y0 y1, CM (fun G => g2 G y0 y1)) (a0 : (List (List Typ))) (s8 : (List Typ)) (s9 : Nat) : CM (fun G : OF ρ => z7q a0 (g2 G) s8 s9) := by
 simp only [z7q]
 repeat (first | exact z01 | exact h_g2 _ _ | refine z0h ?_ ?_ | refine z0i ?_ (fun _ => ?_))
noncomputable def zlh (a0 : (List (List Typ))) (s8 : (List Typ)) (s9 : Nat) : Option (List Typ) :=
 z22 (ι := ((List Typ) × Nat)) (ρ := fun _ => (List Typ)) (fun g i => z7q a0 (fun s8 s9 => g (s8, s9)) i.1 i.2) (s8, s9)
theorem zf4 (a0 : (List (List Typ))) (s8 : (List Typ)) (s9 : Nat) : zlh a0 s8 s9 = z7q a0 (zlh a0) s8 s9 :=
 z0t (ι := ((List Typ) × Nat)) (ρ := fun _ => (List Typ)) (Φ := fun g i => z7q a0 (fun s8 s9 => g (s8, s9)) i.1 i.2) (fun i => zrh (ι := ((List Typ) × Nat)) (ρ := fun _ => (List Typ)) (fun g => (fun s8 s9 => g (s8, s9))) (fun _ _ => z0s) a0 i.1 i.2) (s8, s9)
noncomputable def z6m (a0 : (List (List Typ))) (g1 : Int → Nat → Option (List Typ)) (s1 : Int) (s2 : Nat) : Option (List Typ) :=
 bif (decide (((s2 : Nat) : Int) < (((a0).length : Nat) : Int))) then (
 ((a0)[s2]?).bind fun x5 =>
 bif (decide ((IntKind.i64.wrap (s1 + (((x5).length : Nat) : Int))) < 0)) then (
 none
 ) else (
 g1 (IntKind.i64.wrap (s1 + (((x5).length : Nat) : Int))) (s2 + 1)
 )
 ) else (
 (zxh s1).bind fun x7 =>
 zlh a0 ([] : (List Typ)) 0
 )
theorem zri (g1 : OF ρ → Int → Nat → Option (List Typ)) (h_g1 : ∀ y0 y1, CM (fun G => g1 G y0 y1)) (a0 : (List (List Typ))) (s1 : Int) (s2 : Nat) : CM (fun G : OF ρ => z6m a0 (g1 G) s1 s2) := by
 simp only [z6m]
 repeat (first | exact z01 | exact h_g1 _ _ | apply q08_l2_cm | refine z0h ?_ ?_ | refine z0i ?_ (fun _ => ?_) | intro _ | assumption)
noncomputable def zpl (a0 : (List (List Typ))) (s1 : Int) (s2 : Nat) : Option (List Typ) :=
 z22 (ι := (Int × Nat)) (ρ := fun _ => (List Typ)) (fun g i => z6m a0 (fun s1 s2 => g (s1, s2)) i.1 i.2) (s1, s2)
theorem zf5 (a0 : (List (List Typ))) (s1 : Int) (s2 : Nat) : zpl a0 s1 s2 = z6m a0 (zpl a0) s1 s2 :=
 z0t (ι := (Int × Nat)) (ρ := fun _ => (List Typ)) (Φ := fun g i => z6m a0 (fun s1 s2 => g (s1, s2)) i.1 i.2) (fun i => zri (ι := (Int × Nat)) (ρ := fun _ => (List Typ)) (fun g => (fun s1 s2 => g (s1, s2))) (fun _ _ => z0s) a0 i.1 i.2) (s1, s2)
noncomputable def zwa (a0 : (List (List Typ))) : Option (List Typ) :=
 zpl a0 0 0
theorem Zbg (a0 : (List (List Typ))) (r : (List Typ)) (h : zwa a0 = some r) : z08 Try.prog 72 [(PV.sl none 30 1 (List.map (zyl 34 18 ofTyp) a0))] (PV.sl none 34 18 (List.map ofTyp r)) := by
 unfold zwa at h
 refine z0g Try.func72 rfl Try.ntmps72 Try.results72 rfl (z0q ?_)
 change BW _ _ _ ⟨[(0, (PV.sl none 30 1 (List.map (zyl 34 18 ofTyp) a0)))], [], _⟩ _
 refine bR ?_
 refine eX ?_
 refine bR ?_
 refine eX ?_
 refine z09 ?_
 refine bR ?_
 iterate 2 refine sX ?_
 refine eX ?_
 refine z0e ?_
 refine cBx ?_
 unfold zpl at h
 refine z3c (σ := (Int × Nat)) (fun i => [(0, (PV.sl none 30 1 (List.map (zyl 34 18 ofTyp) a0))), (3, (I64 i.1)), (9, (PV.sl none 30 1 (List.map (zyl 34 18 ofTyp) a0))), (10, (I64 ((((a0).length : Nat) : Int)))), (11, (I64 (((i.2 : Nat) : Int))))]) (fun i => []) (0, 0) h ?_ ?_ ?_
 intro i; exact ⟨lbE rfl, ⟨(z00 (z0c (fun a => z0c z1m a) _)), ⟨(z00 rfl), ⟨(z00 (z0c (fun a => z0c z1m a) _)), ⟨(z00 rfl), ⟨(z00 rfl), trivial⟩⟩⟩⟩⟩, trivial⟩
 exact jN
 rintro g1_f ⟨s1, s2⟩ h; replace h : z6m a0 (fun y0 y1 => g1_f (y0, y1)) s1 s2 = some r := h; unfold z6m at h
 change BW _ _ _ ⟨[(0, (PV.sl none 30 1 (List.map (zyl 34 18 ofTyp) a0))), (3, (I64 s1)), (9, (PV.sl none 30 1 (List.map (zyl 34 18 ofTyp) a0))), (10, (I64 ((((a0).length : Nat) : Int)))), (11, (I64 (((s2 : Nat) : Int))))], [], _⟩ _
 refine bR ?_
 refine eX ?_
 refine z09 ?_
 refine z2f (t := 9) rfl fun hb4 => ?_
 try rw [List.length_map] at hb4
 refine cX h rfl ?_ ?_
 intro hc3 h
 have hc3_ := of_decide_eq_true hc3
 refine z07 ?_
 refine cBx ?_
 refine z09 ?_
 refine z0e ?_
 refine cBx ?_
 refine bR ?_
 obtain ⟨x5, hx5, h⟩ := obind h
 refine sS rfl rfl rfl (z0w (i := s2) Try.underlying151 zfv rfl rfl rfl hx5 rfl) ?_
 refine sX ?_
 refine eX ?_
 refine bR ?_
 iterate 4 refine sX ?_
 refine eX ?_
 refine bR ?_
 refine sX ?_
 refine eX ?_
 refine cX h rfl ?_ ?_
 intro hc6 h
 refine z0a ?_
 refine sS rfl rfl rfl ((z4g Try.underlying9 rfl rfl rfl).wk (Wk.iface (Wk.refl _))) ?_
 cases h
 intro hc6 h
 refine z07 ?_
 refine cBx ?_
 refine z0a ?_
 refine sS rfl rfl rfl (z1b (k := s2) (c := 1) rfl rfl rfl (by omega)) ?_
 refine sX (z06 ?_)
 exact ⟨rfl, ((IntKind.i64.wrap (s1 + (((x5).length : Nat) : Int))), (s2 + 1)), h, jN⟩
 intro hc3 h
 refine z1a ?_
 refine cBx ?_
 refine bR ?_
 refine sX ?_
 obtain ⟨x7, hx7, h⟩ := obind h
 refine sS rfl rfl rfl ((zzi (k := x7) (Inf.cells z0u).symm rfl Z9x (by exact congrArg (fun i => some (I64 i)) (zd0 hx7).1) (zxg (zd0 hx7).2.1 (zd0 hx7).2.2)).cast (y := (PV.sl (some 0) 34 18 (List.map ofTyp ([] : (List Typ))))) (H'' := [.arr 34 (([] : (List Typ))).length]) rfl rfl) ?_
 refine eX ?_
 refine z09 ?_
 refine bR ?_
 iterate 2 refine sX ?_
 refine eX ?_
 refine z0e ?_
 refine cBx ?_
 unfold zlh at h
 refine z3c (σ := ((List Typ) × Nat)) (fun i => [(6, (PV.sl (some 0) 34 18 (List.map ofTyp i.1))), (25, (PV.sl none 30 1 (List.map (zyl 34 18 ofTyp) a0))), (26, (I64 ((((a0).length : Nat) : Int)))), (27, (I64 (((i.2 : Nat) : Int))))]) (fun i => [.arr 34 (i.1).length]) (([] : (List Typ)), 0) h ?_ ?_ ?_
 intro i; exact ⟨lbE rfl, ⟨(z8b rfl (z3p z1m _)), ⟨(z00 (z0c (fun a => z0c z1m a) _)), ⟨(z00 rfl), ⟨(z00 rfl), trivial⟩⟩⟩⟩, trivial⟩
 exact jN
 rintro g2_f ⟨s8, s9⟩ h; replace h : z7q a0 (fun y0 y1 => g2_f (y0, y1)) s8 s9 = some r := h; unfold z7q at h
 change BW _ _ _ ⟨[(6, (PV.sl (some 0) 34 18 (List.map ofTyp s8))), (25, (PV.sl none 30 1 (List.map (zyl 34 18 ofTyp) a0))), (26, (I64 ((((a0).length : Nat) : Int)))), (27, (I64 (((s9 : Nat) : Int))))], [.arr 34 (s8).length], _⟩ _
 refine bR ?_
 refine eX ?_
 refine z09 ?_
 refine z2f (t := 25) rfl fun hb11 => ?_
 try rw [List.length_map] at hb11
 refine cX h rfl ?_ ?_
 intro hc10 h
 have hc10_ := of_decide_eq_true hc10
 refine z07 ?_
 refine cBx ?_
 refine z09 ?_
 refine z0e ?_
 refine cBx ?_
 refine bR ?_
 obtain ⟨x12, hx12, h⟩ := obind h
 refine sS rfl rfl rfl (z0w (i := s9) Try.underlying151 zfv rfl rfl rfl hx12 rfl) ?_
 refine sX ?_
 refine eX ?_
 refine z0a ?_
 iterate 2 refine sX ?_
 obtain ⟨x13, hx13, h⟩ := obind h
 refine sS rfl rfl rfl (z3k Try.underlying30 z0u rfl Try.underlying30 rfl rfl rfl rfl zg4 z8x hx13 rfl) ?_
 refine eX ?_
 refine z0a ?_
 refine sS rfl rfl rfl (z1b (k := s9) (c := 1) rfl rfl rfl (by omega)) ?_
 refine sX (z06 ?_)
 exact ⟨rfl, (x13, (s9 + 1)), h, jN⟩
 intro hc10 h
 refine z1a ?_
 refine cBx ?_
 refine bR ?_
 refine sX ?_
 refine eX ?_
 obtain rfl := eI h; exact z05 ⟨_, rfl, z1f (y := (PV.sl none 34 18 (List.map ofTyp s8))) Wk.tok (z0c z1m s8) ⟨rfl, rfl⟩⟩
end Go.Proofs.Ytiapdjdhaclmnaa
