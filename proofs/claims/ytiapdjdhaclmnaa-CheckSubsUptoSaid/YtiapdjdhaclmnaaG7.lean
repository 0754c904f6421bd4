/- Pure functions, and that calls answer as they say. -/
import Derived.Test.YtiapdjdhaclmnaaG6
namespace Go.Proofs.Ytiapdjdhaclmnaa
open Go Aw
set_option linter.unusedVariables false
set_option maxRecDepth 20000
set_option maxHeartbeats 2000000
variable {ι : Type} {ρ : ι → Type}
noncomputable def zak (r_q10 : Term → Term → Option Int) (g1 : Int → Option Int) (a0 a1 : (List (Str × Term))) (s1 : Int) (s2 : Bool) : Option Int :=
 bif s2 then (
 (z5g a0 s1).bind fun x4 =>
 (z5g a1 s1).bind fun x5 =>
 (zna x4.1 x5.1).bind fun x6 =>
 bif (x6 != 0) then (
 some x6
 ) else (
 (z5g a0 s1).bind fun x8 =>
 (z5g a1 s1).bind fun x9 =>
 (r_q10 (x8.2) (x9.2)).bind fun x10 =>
 bif (x10 != 0) then (
 some x10
 ) else (
 g1 (IntKind.i64.wrap (s1 + 1))
 )
 )
 ) else (
 (zfg (IntKind.u64.wrap (((a0).length : Nat) : Int)) (IntKind.u64.wrap (((a1).length : Nat) : Int))).bind fun x12 =>
 some x12
 )
theorem zuj (r_q10 : OF ρ → Term → Term → Option Int) (h_r_q10 : ∀ y0 y1, CM (fun G => r_q10 G y0 y1)) (g1 : OF ρ → Int → Option Int) (h_g1 : ∀ y0, CM (fun G => g1 G y0)) (a0 a1 : (List (Str × Term))) (s1 : Int) (s2 : Bool) : CM (fun G : OF ρ => zak (r_q10 G) (g1 G) a0 a1 s1 s2) := by
 simp only [zak]
 repeat (first | exact z01 | exact h_r_q10 _ _ | exact h_g1 _ | refine z0h ?_ ?_ | refine z0i ?_ (fun _ => ?_))
noncomputable def z6a (r_q10 : Term → Term → Option Int) (a0 a1 : (List (Str × Term))) (g1 : Int → Option Int) (s1 : Int) : Option Int :=
 bif (decide (s1 < (((a0).length : Nat) : Int))) then (
 zak r_q10 g1 a0 a1 s1 (decide (s1 < (((a1).length : Nat) : Int)))
 ) else (
 zak r_q10 g1 a0 a1 s1 false
 )
theorem zce (r_q10 : OF ρ → Term → Term → Option Int) (h_r_q10 : ∀ y0 y1, CM (fun G => r_q10 G y0 y1)) (g1 : OF ρ → Int → Option Int) (h_g1 : ∀ y0, CM (fun G => g1 G y0)) (a0 a1 : (List (Str × Term))) (s1 : Int) : CM (fun G : OF ρ => z6a (r_q10 G) a0 a1 (g1 G) s1) := by
 simp only [z6a]
 repeat (first | exact z01 | exact h_r_q10 _ _ | exact h_g1 _ | apply zuj | refine z0h ?_ ?_ | refine z0i ?_ (fun _ => ?_) | intro _ | assumption)
noncomputable def zhj (r_q10 : Term → Term → Option Int) (a0 a1 : (List (Str × Term))) (s1 : Int) : Option Int :=
 z22 (ι := Int) (ρ := fun _ => Int) (fun g i => z6a r_q10 a0 a1 (fun s1 => g s1) i) s1
theorem zkz (r_q10 : Term → Term → Option Int) (a0 a1 : (List (Str × Term))) (s1 : Int) : zhj r_q10 a0 a1 s1 = z6a r_q10 a0 a1 (zhj r_q10 a0 a1) s1 :=
 z0t (ι := Int) (ρ := fun _ => Int) (Φ := fun g i => z6a r_q10 a0 a1 (fun s1 => g s1) i) (fun i => zce (ι := Int) (ρ := fun _ => Int) (fun _ => r_q10) (fun _ _ => z01) (fun g => (fun s1 => g s1)) (fun _ => z0s) a0 a1 i) s1
theorem zui (r_q10 : OF ρ → Term → Term → Option Int) (h_r_q10 : ∀ y0 y1, CM (fun G => r_q10 G y0 y1)) (a0 a1 : (List (Str × Term))) (s1 : Int) : CM (fun G : OF ρ => zhj (r_q10 G) a0 a1 s1) :=
 z28 (κ := Int) (τ := fun _ => Int) (Φ := fun G g i => z6a (r_q10 G) a0 a1 (fun s1 => g s1) i) (fun g i => zce r_q10 h_r_q10 (fun _ => (fun s1 => g s1)) (fun _ => z01) a0 a1 i) (fun G i => zce (ι := Int) (ρ := fun _ => Int) (fun _ => r_q10 G) (fun _ _ => z01) (fun g => (fun s1 => g s1)) (fun _ => z0s) a0 a1 i) s1
noncomputable def zom (r_q14 : (List (Str × Term)) → (List (Str × Term)) → Option Int) (r_q10 : Term → Term → Option Int) (a0 a1 : (List (Str × Term))) : Option Int :=
 zhj r_q10 a0 a1 0
theorem Z1o (r_q14 : OF ρ → (List (Str × Term)) → (List (Str × Term)) → Option Int) (h_r_q14 : ∀ y0 y1, CM (fun G => r_q14 G y0 y1)) (r_q10 : OF ρ → Term → Term → Option Int) (h_r_q10 : ∀ y0 y1, CM (fun G => r_q10 G y0 y1)) (a0 a1 : (List (Str × Term))) : CM (fun G : OF ρ => zom (r_q14 G) (r_q10 G) a0 a1) := by
 simp only [zom]
 repeat (first | exact z01 | exact h_r_q14 _ _ | exact h_r_q10 _ _ | apply zui | refine z0h ?_ ?_ | refine z0i ?_ (fun _ => ?_) | intro _ | assumption)
noncomputable def zam (r_q10 : Term → Term → Option Int) (g1 : Int → Option Int) (a0 a1 : Term) (s20 : Int) (s21 : Bool) : Option Int :=
 bif s21 then (
 (z5g a0.list s20).bind fun x23 =>
 (z5g a1.list s20).bind fun x24 =>
 (r_q10 x23 x24).bind fun x25 =>
 bif (x25 != 0) then (
 some x25
 ) else (
 g1 (IntKind.i64.wrap (s20 + 1))
 )
 ) else (
 (zfg (IntKind.u64.wrap (((a0.list).length : Nat) : Int)) (IntKind.u64.wrap (((a1.list).length : Nat) : Int))).bind fun x27 =>
 some x27
 )
theorem zun (r_q10 : OF ρ → Term → Term → Option Int) (h_r_q10 : ∀ y0 y1, CM (fun G => r_q10 G y0 y1)) (g1 : OF ρ → Int → Option Int) (h_g1 : ∀ y0, CM (fun G => g1 G y0)) (a0 a1 : Term) (s20 : Int) (s21 : Bool) : CM (fun G : OF ρ => zam (r_q10 G) (g1 G) a0 a1 s20 s21) := by
 simp only [zam]
 repeat (first | exact z01 | exact h_r_q10 _ _ | exact h_g1 _ | refine z0h ?_ ?_ | refine z0i ?_ (fun _ => ?_))
noncomputable def z6c (r_q10 : Term → Term → Option Int) (a0 a1 : Term) (g1 : Int → Option Int) (s20 : Int) : Option Int :=
 bif (decide (s20 < (((a0.list).length : Nat) : Int))) then (
 zam r_q10 g1 a0 a1 s20 (decide (s20 < (((a1.list).length : Nat) : Int)))
 ) else (
 zam r_q10 g1 a0 a1 s20 false
 )
theorem zcg (r_q10 : OF ρ → Term → Term → Option Int) (h_r_q10 : ∀ y0 y1, CM (fun G => r_q10 G y0 y1)) (g1 : OF ρ → Int → Option Int) (h_g1 : ∀ y0, CM (fun G => g1 G y0)) (a0 a1 : Term) (s20 : Int) : CM (fun G : OF ρ => z6c (r_q10 G) a0 a1 (g1 G) s20) := by
 simp only [z6c]
 repeat (first | exact z01 | exact h_r_q10 _ _ | exact h_g1 _ | apply zun | refine z0h ?_ ?_ | refine z0i ?_ (fun _ => ?_) | intro _ | assumption)
noncomputable def zex (r_q10 : Term → Term → Option Int) (a0 a1 : Term) (s20 : Int) : Option Int :=
 z22 (ι := Int) (ρ := fun _ => Int) (fun g i => z6c r_q10 a0 a1 (fun s20 => g s20) i) s20
theorem zl3 (r_q10 : Term → Term → Option Int) (a0 a1 : Term) (s20 : Int) : zex r_q10 a0 a1 s20 = z6c r_q10 a0 a1 (zex r_q10 a0 a1) s20 :=
 z0t (ι := Int) (ρ := fun _ => Int) (Φ := fun g i => z6c r_q10 a0 a1 (fun s20 => g s20) i) (fun i => zcg (ι := Int) (ρ := fun _ => Int) (fun _ => r_q10) (fun _ _ => z01) (fun g => (fun s20 => g s20)) (fun _ => z0s) a0 a1 i) s20
theorem zum (r_q10 : OF ρ → Term → Term → Option Int) (h_r_q10 : ∀ y0 y1, CM (fun G => r_q10 G y0 y1)) (a0 a1 : Term) (s20 : Int) : CM (fun G : OF ρ => zex (r_q10 G) a0 a1 s20) :=
 z28 (κ := Int) (τ := fun _ => Int) (Φ := fun G g i => z6c (r_q10 G) a0 a1 (fun s20 => g s20) i) (fun g i => zcg r_q10 h_r_q10 (fun _ => (fun s20 => g s20)) (fun _ => z01) a0 a1 i) (fun G i => zcg (ι := Int) (ρ := fun _ => Int) (fun _ => r_q10 G) (fun _ _ => z01) (fun g => (fun s20 => g s20)) (fun _ => z0s) a0 a1 i) s20
noncomputable def zoo (r_q14 : (List (Str × Term)) → (List (Str × Term)) → Option Int) (r_q10 : Term → Term → Option Int) (a0 a1 : Term) : Option Int :=
 bif (a0.kind != a1.kind) then (
 (zfg (IntKind.u64.wrap a0.kind) (IntKind.u64.wrap a1.kind)).bind fun x2 =>
 some x2
 ) else (
 bif (a0.kind == 2) then (
 (zvw a0.bool).bind fun x4 =>
 (zvw a1.bool).bind fun x5 =>
 (zfg x4 x5).bind fun x6 =>
 some x6
 ) else (
 bif (a0.kind == 3) then (
 (zfg (IntKind.u64.wrap ((IntKind.u64.wrap a0.int) + 9223372036854775808)) (IntKind.u64.wrap ((IntKind.u64.wrap a1.int) + 9223372036854775808))).bind fun x8 =>
 some x8
 ) else (
 bif (a0.kind == 4) then (
 (zrr a0.float).bind fun x10 =>
 (zrr a1.float).bind fun x11 =>
 (zfg x10 x11).bind fun x12 =>
 some x12
 ) else (
 bif (a0.kind == 5) then (
 (zna a0.text a1.text).bind fun x14 =>
 some x14
 ) else (
 bif (a0.kind == 6) then (
 (zna a0.bytes a1.bytes).bind fun x16 =>
 some x16
 ) else (
 bif (a0.kind == 7) then (
 (zfg a0.ref a1.ref).bind fun x18 =>
 some x18
 ) else (
 bif (a0.kind == 8) then (
 zex r_q10 a0 a1 0
 ) else (
 bif (a0.kind == 9) then (
 (r_q14 a0.fields a1.fields).bind fun x30 =>
 some x30
 ) else (
 bif (a0.kind == 10) then (
 (zna a0.cls a1.cls).bind fun x32 =>
 bif (x32 != 0) then (
 some x32
 ) else (
 bif (a0.ver != a1.ver) then (
 (zfg (IntKind.u64.wrap a0.ver) (IntKind.u64.wrap a1.ver)).bind fun x35 =>
 some x35
 ) else (
 (r_q14 a0.fields a1.fields).bind fun x36 =>
 some x36
 )
 )
 ) else (
 some 0
 )
 )
 )
 )
 )
 )
 )
 )
 )
 )
theorem Z1q (r_q14 : OF ρ → (List (Str × Term)) → (List (Str × Term)) → Option Int) (h_r_q14 : ∀ y0 y1, CM (fun G => r_q14 G y0 y1)) (r_q10 : OF ρ → Term → Term → Option Int) (h_r_q10 : ∀ y0 y1, CM (fun G => r_q10 G y0 y1)) (a0 a1 : Term) : CM (fun G : OF ρ => zoo (r_q14 G) (r_q10 G) a0 a1) := by
 simp only [zoo]
 repeat (first | exact z01 | exact h_r_q14 _ _ | exact h_r_q10 _ _ | apply zum | refine z0h ?_ ?_ | refine z0i ?_ (fun _ => ?_) | intro _ | assumption)
inductive C_q14 where
 | k_q14 (a0 : (List (Str × Term))) (a1 : (List (Str × Term)))
 | k_q10 (a0 : Term) (a1 : Term)
def C_q14.R : C_q14 → Type
 | .k_q14 _ _ => Int
 | .k_q10 _ _ => Int
noncomputable def C_q14.F (g : ∀ i : C_q14, Option i.R) : ∀ i : C_q14, Option i.R
 | .k_q14 a0 a1 => zom (fun a0 a1 => g (.k_q14 a0 a1)) (fun a0 a1 => g (.k_q10 a0 a1)) a0 a1
 | .k_q10 a0 a1 => zoo (fun a0 a1 => g (.k_q14 a0 a1)) (fun a0 a1 => g (.k_q10 a0 a1)) a0 a1
noncomputable def zz5 (a0 a1 : (List (Str × Term))) : Option Int := z22 C_q14.F (.k_q14 a0 a1)
noncomputable def z9x (a0 a1 : Term) : Option Int := z22 C_q14.F (.k_q10 a0 a1)
abbrev Zf2 := fun (g : ∀ i : C_q14, Option i.R) a0 a1 => g (.k_q14 a0 a1)
theorem Zes (a0 a1 : _) : CM (ρ := C_q14.R) (fun g => g (C_q14.k_q14 a0 a1)) := z0s
abbrev Zf1 := fun (g : ∀ i : C_q14, Option i.R) a0 a1 => g (.k_q10 a0 a1)
theorem Zer (a0 a1 : _) : CM (ρ := C_q14.R) (fun g => g (C_q14.k_q10 a0 a1)) := z0s
theorem C_q14.cm (i : C_q14) : CM (fun g : (∀ i : C_q14, Option i.R) => C_q14.F g i) := by
 cases i with
 | k_q14 a0 a1 => exact Z1o Zf2 Zes Zf1 Zer a0 a1
 | k_q10 a0 a1 => exact Z1q Zf2 Zes Zf1 Zer a0 a1
theorem Zdb (a0 a1 : (List (Str × Term))) : zz5 a0 a1 = zom zz5 z9x a0 a1 := z0t C_q14.cm (.k_q14 a0 a1)
theorem Zdd (a0 a1 : Term) : z9x a0 a1 = zoo zz5 z9x a0 a1 := z0t C_q14.cm (.k_q10 a0 a1)
def C_q14.Q : ∀ i : C_q14, i.R → Prop
 | .k_q14 a0 a1 => fun (r : Int) => z08 Try.prog 81 [(PV.sl none 101 12 (List.map z0f a0)), (PV.sl none 101 12 (List.map z0f a1))] (I64 r)
 | .k_q10 a0 a1 => fun (r : Int) => z08 Try.prog 46 [(z0v a0), (z0v a1)] (I64 r)
theorem zgf (r_q14 : (List (Str × Term)) → (List (Str × Term)) → Option Int) (c_q14 : ∀ (a0 : (List (Str × Term))) (a1 : (List (Str × Term))) r, r_q14 a0 a1 = some r → z08 Try.prog 81 [(PV.sl none 101 12 (List.map z0f a0)), (PV.sl none 101 12 (List.map z0f a1))] (I64 r)) (r_q10 : Term → Term → Option Int) (c_q10 : ∀ (a0 : Term) (a1 : Term) r, r_q10 a0 a1 = some r → z08 Try.prog 46 [(z0v a0), (z0v a1)] (I64 r)) (a0 a1 : (List (Str × Term))) (r : Int) (h : zom r_q14 r_q10 a0 a1 = some r) : z08 Try.prog 81 [(PV.sl none 101 12 (List.map z0f a0)), (PV.sl none 101 12 (List.map z0f a1))] (I64 r) := by
 unfold zom at h
 refine z0g Try.func81 rfl Try.ntmps81 Try.results81 rfl (z0q ?_)
 change BW _ _ _ ⟨[(0, (PV.sl none 101 12 (List.map z0f a0))), (1, (PV.sl none 101 12 (List.map z0f a1)))], [], _⟩ _
 refine bR ?_
 refine eX ?_
 refine z09 ?_
 refine bR ?_
 refine eX ?_
 refine z0e ?_
 refine cBx ?_
 unfold zhj at h
 refine lX (σ := Int) (fun i => [(0, (PV.sl none 101 12 (List.map z0f a0))), (1, (PV.sl none 101 12 (List.map z0f a1))), (5, (I64 i))]) (fun i => []) 0 h ?_ ?_
 exact jN
 rintro g1_f s1 h; replace h : z6a r_q10 a0 a1 (fun y0 => g1_f y0) s1 = some r := h; unfold z6a at h
 change BW _ _ _ ⟨[(0, (PV.sl none 101 12 (List.map z0f a0))), (1, (PV.sl none 101 12 (List.map z0f a1))), (5, (I64 s1))], [], _⟩ _
 refine z09 ?_
 refine jX (ι := Bool) (fun i => zak r_q10 (fun y0 => g1_f y0) a0 a1 s1 i = some r) (fun i => [(0, (PV.sl none 101 12 (List.map z0f a0))), (1, (PV.sl none 101 12 (List.map z0f a1))), (5, (I64 s1)), (17, (BO i))]) (fun i => []) ?_ ?_
 rintro s2 h; replace h : zak r_q10 (fun y0 => g1_f y0) a0 a1 s1 s2 = some r := h; unfold zak at h
 change BW _ _ _ ⟨[(0, (PV.sl none 101 12 (List.map z0f a0))), (1, (PV.sl none 101 12 (List.map z0f a1))), (5, (I64 s1)), (17, (BO s2))], [], _⟩ _
 refine cX h rfl ?_ ?_
 intro hc3 h
 refine z07 ?_
 refine cBx ?_
 refine z09 ?_
 refine z0e ?_
 refine cBx ?_
 refine z09 ?_
 refine z09 (z13 10 [] [] mo (by kernel_rfl) ?_)
 iterate 2 refine gX ?_
 obtain ⟨x4, hx4, h⟩ := obind h
 refine z1h rfl rfl rfl rfl (fun H hp => z1o Try.underlying27 z24 rfl rfl rfl hx4 (z1r _)) ?_
 iterate 4 refine gX ?_
 obtain ⟨x5, hx5, h⟩ := obind h
 refine z1h rfl rfl rfl rfl (fun H hp => z1o Try.underlying27 z24 rfl rfl rfl hx5 (z1r _)) ?_
 iterate 2 refine gX ?_
 refine z11 ?_
 change AO _ _ _ _ _
 obtain ⟨x6, hx6, h⟩ := obind h
 refine sS rfl rfl rfl (z04 rfl Z0p rfl (wkr (wkr .nil)) ⟨rfl, ⟨rfl, trivial⟩⟩ (zyu x4.1 x5.1 x6 hx6) rfl) ?_
 refine eX ?_
 refine bR ?_
 refine sX ?_
 refine eX ?_
 refine cX h rfl ?_ ?_
 intro hc7 h
 refine bR ?_
 refine sX ?_
 refine eX ?_
 obtain rfl := eI h; exact z05 eK
 intro hc7 h
 refine z07 ?_
 refine cBx ?_
 refine z09 (z13 10 [] [] mo (by kernel_rfl) ?_)
 iterate 2 refine gX ?_
 obtain ⟨x8, hx8, h⟩ := obind h
 refine z1h rfl rfl rfl rfl (fun H hp => z1o Try.underlying27 z24 rfl rfl rfl hx8 (z1r _)) ?_
 iterate 4 refine gX ?_
 obtain ⟨x9, hx9, h⟩ := obind h
 refine z1h rfl rfl rfl rfl (fun H hp => z1o Try.underlying27 z24 rfl rfl rfl hx9 (z1r _)) ?_
 iterate 2 refine gX ?_
 refine z11 ?_
 change AO _ _ _ _ _
 obtain ⟨x10, hx10, h⟩ := obind h
 refine sS rfl rfl rfl (z04 rfl Z0s rfl (wkr (wkr .nil)) ⟨(z10 (x8.2)), ⟨(z10 (x9.2)), trivial⟩⟩ (c_q10 (x8.2) (x9.2) x10 hx10) rfl) ?_
 refine eX ?_
 refine bR ?_
 refine sX ?_
 refine eX ?_
 refine cX h rfl ?_ ?_
 intro hc11 h
 refine bR ?_
 refine sX ?_
 refine eX ?_
 obtain rfl := eI h; exact z05 eK
 intro hc11 h
 refine z07 ?_
 refine cBx ?_
 refine z0a ?_
 iterate 2 refine sX ?_
 refine sX (z06 ?_)
 exact ⟨rfl, (IntKind.i64.wrap (s1 + 1)), h, jN⟩
 intro hc3 h
 refine z1a ?_
 refine cBx ?_
 refine bR ?_
 iterate 2 refine sX ?_
 refine sS rfl rfl rfl (z3r Try.underlying3 Try.underlying24 rfl rfl) ?_
 iterate 2 refine sX ?_
 refine sS rfl rfl rfl (z3r Try.underlying3 Try.underlying24 rfl rfl) ?_
 obtain ⟨x12, hx12, h⟩ := obind h
 refine sS rfl rfl rfl (z04 rfl zmf rfl (wkr (wkr .nil)) ⟨rfl, ⟨rfl, trivial⟩⟩ (zk2 (IntKind.u64.wrap (((a0).length : Nat) : Int)) (IntKind.u64.wrap (((a1).length : Nat) : Int)) x12 hx12) rfl) ?_
 refine eX ?_
 obtain rfl := eI h; exact z05 eK
 refine z0a ?_
 iterate 5 refine sX ?_
 refine z0n (t := 12) rfl ?_ ?_
 intro hb13; replace h := z0j hb13 h
 iterate 4 refine yX ?_
 refine sX (z06 ?_)
 exact ⟨rfl, (decide (s1 < (((a1).length : Nat) : Int))), h, jN⟩
 intro hb13; replace h := z0k hb13 h
 iterate 4 refine nX ?_
 refine sX (z06 ?_)
 exact ⟨rfl, false, h, jN⟩
theorem zei (r_q14 : (List (Str × Term)) → (List (Str × Term)) → Option Int) (c_q14 : ∀ (a0 : (List (Str × Term))) (a1 : (List (Str × Term))) r, r_q14 a0 a1 = some r → z08 Try.prog 81 [(PV.sl none 101 12 (List.map z0f a0)), (PV.sl none 101 12 (List.map z0f a1))] (I64 r)) (r_q10 : Term → Term → Option Int) (c_q10 : ∀ (a0 : Term) (a1 : Term) r, r_q10 a0 a1 = some r → z08 Try.prog 46 [(z0v a0), (z0v a1)] (I64 r)) (a0 a1 : Term) (r : Int) (h : zoo r_q14 r_q10 a0 a1 = some r) : z08 Try.prog 46 [(z0v a0), (z0v a1)] (I64 r) := by
 unfold zoo at h
 refine z0g Try.func46 rfl Try.ntmps46 Try.results46 rfl (z0q ?_)
 change BW _ _ _ ⟨[(0, (z0v a0)), (1, (z0v a1))], [], _⟩ _
 refine bR ?_
 iterate 2 refine sX ?_
 refine eX ?_
 refine z09 ?_
 refine bR ?_
 iterate 4 refine sX ?_
 refine eX ?_
 refine cX h rfl ?_ ?_
 intro hc1 h
 refine bR ?_
 iterate 2 refine sX ?_
 refine sS rfl rfl rfl (z3r Try.underlying3 Try.underlying24 rfl rfl) ?_
 iterate 2 refine sX ?_
 refine sS rfl rfl rfl (z3r Try.underlying3 Try.underlying24 rfl rfl) ?_
 obtain ⟨x2, hx2, h⟩ := obind h
 refine sS rfl rfl rfl (z04 rfl zmf rfl (wkr (wkr .nil)) ⟨rfl, ⟨rfl, trivial⟩⟩ (zk2 (IntKind.u64.wrap a0.kind) (IntKind.u64.wrap a1.kind) x2 hx2) rfl) ?_
 refine eX ?_
 obtain rfl := eI h; exact z05 eK
 intro hc1 h
 refine z07 ?_
 refine cBx ?_
 refine z09 ?_
 refine bR ?_
 refine sX ?_
 refine eX ?_
 refine z0e ?_
 refine cBx ?_
 refine bR ?_
 refine sX ?_
 refine eX ?_
 refine cX h rfl ?_ ?_
 intro hc3 h
 refine z09 (z13 5 [] [0, 1] mo (by kernel_rfl) ?_)
 iterate 2 refine gX ?_
 obtain ⟨x4, hx4, h⟩ := obind h
 refine z1h rfl rfl rfl rfl (fun H hp => z04 rfl Z97 rfl (wkr .nil) ⟨rfl, trivial⟩ (Z76 a0.bool x4 hx4) rfl) ?_
 iterate 2 refine gX ?_
 refine z11 ?_
 change AO _ _ _ _ _
 obtain ⟨x5, hx5, h⟩ := obind h
 refine sS rfl rfl rfl (z04 rfl Z97 rfl (wkr .nil) ⟨rfl, trivial⟩ (Z76 a1.bool x5 hx5) rfl) ?_
 obtain ⟨x6, hx6, h⟩ := obind h
 refine sS rfl rfl rfl (z04 rfl zmf rfl (wkr (wkr .nil)) ⟨rfl, ⟨rfl, trivial⟩⟩ (zk2 x4 x5 x6 hx6) rfl) ?_
 refine eX ?_
 obtain rfl := eI h; exact z05 eK
 intro hc3 h
 refine bR ?_
 refine sX ?_
 refine eX ?_
 refine cX h rfl ?_ ?_
 intro hc7 h
 refine bR ?_
 iterate 2 refine sX ?_
 refine sS rfl rfl rfl (z3r Try.underlying2 Try.underlying24 rfl rfl) ?_
 iterate 3 refine sX ?_
 refine sS rfl rfl rfl (z3r Try.underlying2 Try.underlying24 rfl rfl) ?_
 refine sX ?_
 obtain ⟨x8, hx8, h⟩ := obind h
 refine sS rfl rfl rfl (z04 rfl zmf rfl (wkr (wkr .nil)) ⟨rfl, ⟨rfl, trivial⟩⟩ (zk2 (IntKind.u64.wrap ((IntKind.u64.wrap a0.int) + 9223372036854775808)) (IntKind.u64.wrap ((IntKind.u64.wrap a1.int) + 9223372036854775808)) x8 hx8) rfl) ?_
 refine eX ?_
 obtain rfl := eI h; exact z05 eK
 intro hc7 h
 refine bR ?_
 refine sX ?_
 refine eX ?_
 refine cX h rfl ?_ ?_
 intro hc9 h
 refine z09 (z13 5 [] [0, 1] mo (by kernel_rfl) ?_)
 iterate 2 refine gX ?_
 obtain ⟨x10, hx10, h⟩ := obind h
 refine z1h rfl rfl rfl rfl (fun H hp => z04 rfl Z96 rfl (wkr .nil) ⟨rfl, trivial⟩ (Z7e a0.float x10 hx10) rfl) ?_
 iterate 2 refine gX ?_
 refine z11 ?_
 change AO _ _ _ _ _
 obtain ⟨x11, hx11, h⟩ := obind h
 refine sS rfl rfl rfl (z04 rfl Z96 rfl (wkr .nil) ⟨rfl, trivial⟩ (Z7e a1.float x11 hx11) rfl) ?_
 obtain ⟨x12, hx12, h⟩ := obind h
 refine sS rfl rfl rfl (z04 rfl zmf rfl (wkr (wkr .nil)) ⟨rfl, ⟨rfl, trivial⟩⟩ (zk2 x10 x11 x12 hx12) rfl) ?_
 refine eX ?_
 obtain rfl := eI h; exact z05 eK
 intro hc9 h
 refine bR ?_
 refine sX ?_
 refine eX ?_
 refine cX h rfl ?_ ?_
 intro hc13 h
 refine bR ?_
 iterate 4 refine sX ?_
 obtain ⟨x14, hx14, h⟩ := obind h
 refine sS rfl rfl rfl (z04 rfl Z0p rfl (wkr (wkr .nil)) ⟨rfl, ⟨rfl, trivial⟩⟩ (zyu a0.text a1.text x14 hx14) rfl) ?_
 refine eX ?_
 obtain rfl := eI h; exact z05 eK
 intro hc13 h
 refine bR ?_
 refine sX ?_
 refine eX ?_
 refine cX h rfl ?_ ?_
 intro hc15 h
 refine bR ?_
 iterate 2 refine sX ?_
 refine sS rfl rfl rfl (zwk Try.underlying23 Try.underlying9 Try.underlying5 rfl rfl) ?_
 iterate 2 refine sX ?_
 refine sS rfl rfl rfl (zwk Try.underlying23 Try.underlying9 Try.underlying5 rfl rfl) ?_
 obtain ⟨x16, hx16, h⟩ := obind h
 refine sS rfl rfl rfl (z04 rfl Z0p rfl (wkr (wkr .nil)) ⟨rfl, ⟨rfl, trivial⟩⟩ (zyu a0.bytes a1.bytes x16 hx16) rfl) ?_
 refine eX ?_
 obtain rfl := eI h; exact z05 eK
 intro hc15 h
 refine bR ?_
 refine sX ?_
 refine eX ?_
 refine cX h rfl ?_ ?_
 intro hc17 h
 refine bR ?_
 iterate 4 refine sX ?_
 obtain ⟨x18, hx18, h⟩ := obind h
 refine sS rfl rfl rfl (z04 rfl zmf rfl (wkr (wkr .nil)) ⟨rfl, ⟨rfl, trivial⟩⟩ (zk2 a0.ref a1.ref x18 hx18) rfl) ?_
 refine eX ?_
 obtain rfl := eI h; exact z05 eK
 intro hc17 h
 refine bR ?_
 refine sX ?_
 refine eX ?_
 refine cX h rfl ?_ ?_
 intro hc19 h
 refine z09 ?_
 refine bR ?_
 refine eX ?_
 refine z0e ?_
 refine cBx ?_
 unfold zex at h
 refine lX (σ := Int) (fun i => [(2, (PV.rf 0 0)), (3, (PV.rf 1 0)), (5, (I64 i))]) (fun i => [.box 29 (z2j a0), .box 29 (z2j a1)]) 0 h ?_ ?_
 exact jN
 rintro g1_f s20 h; replace h : z6c r_q10 a0 a1 (fun y0 => g1_f y0) s20 = some r := h; unfold z6c at h
 change BW _ _ _ ⟨[(2, (PV.rf 0 0)), (3, (PV.rf 1 0)), (5, (I64 s20))], [.box 29 (z2j a0), .box 29 (z2j a1)], _⟩ _
 refine z09 ?_
 refine jX (ι := Bool) (fun i => zam r_q10 (fun y0 => g1_f y0) a0 a1 s20 i = some r) (fun i => [(2, (PV.rf 0 0)), (3, (PV.rf 1 0)), (5, (I64 s20)), (87, (BO i))]) (fun i => [.box 29 (z2j a0), .box 29 (z2j a1)]) ?_ ?_
 rintro s21 h; replace h : zam r_q10 (fun y0 => g1_f y0) a0 a1 s20 s21 = some r := h; unfold zam at h
 change BW _ _ _ ⟨[(2, (PV.rf 0 0)), (3, (PV.rf 1 0)), (5, (I64 s20)), (87, (BO s21))], [.box 29 (z2j a0), .box 29 (z2j a1)], _⟩ _
 refine cX h rfl ?_ ?_
 intro hc22 h
 refine z07 ?_
 refine cBx ?_
 refine z09 ?_
 refine z0e ?_
 refine cBx ?_
 refine z09 (z13 10 [] [0, 1] mo (by kernel_rfl) ?_)
 iterate 3 refine gX ?_
 obtain ⟨x23, hx23, h⟩ := obind h
 refine z1h rfl rfl rfl rfl (fun H hp => z1o Try.underlying26 z20 rfl rfl rfl hx23 (z26 _)) ?_
 iterate 4 refine gX ?_
 obtain ⟨x24, hx24, h⟩ := obind h
 refine z1h rfl rfl rfl rfl (fun H hp => z1o Try.underlying26 z20 rfl rfl rfl hx24 (z26 _)) ?_
 refine gX ?_
 refine z11 ?_
 change AO _ _ _ _ _
 obtain ⟨x25, hx25, h⟩ := obind h
 refine sS rfl rfl rfl (z04 rfl Z0s rfl (wkr (wkr .nil)) ⟨(z10 x23), ⟨(z10 x24), trivial⟩⟩ (c_q10 x23 x24 x25 hx25) rfl) ?_
 refine eX ?_
 refine bR ?_
 refine sX ?_
 refine eX ?_
 refine cX h rfl ?_ ?_
 intro hc26 h
 refine bR ?_
 refine sX ?_
 refine eX ?_
 obtain rfl := eI h; exact z05 eK
 intro hc26 h
 refine z07 ?_
 refine cBx ?_
 refine z0a ?_
 iterate 2 refine sX ?_
 refine sX (z06 ?_)
 exact ⟨rfl, (IntKind.i64.wrap (s20 + 1)), h, jN⟩
 intro hc22 h
 refine z1a ?_
 refine cBx ?_
 refine bR ?_
 iterate 3 refine sX ?_
 refine sS rfl rfl rfl (z3r Try.underlying3 Try.underlying24 rfl rfl) ?_
 iterate 3 refine sX ?_
 refine sS rfl rfl rfl (z3r Try.underlying3 Try.underlying24 rfl rfl) ?_
 obtain ⟨x27, hx27, h⟩ := obind h
 refine sS rfl rfl rfl (z04 rfl zmf rfl (wkr (wkr .nil)) ⟨rfl, ⟨rfl, trivial⟩⟩ (zk2 (IntKind.u64.wrap (((a0.list).length : Nat) : Int)) (IntKind.u64.wrap (((a1.list).length : Nat) : Int)) x27 hx27) rfl) ?_
 refine eX ?_
 obtain rfl := eI h; exact z05 eK
 refine z0a ?_
 iterate 6 refine sX ?_
 refine z0n (t := 81) rfl ?_ ?_
 intro hb28; replace h := z0j hb28 h
 iterate 5 refine yX ?_
 refine sX (z06 ?_)
 exact ⟨rfl, (decide (s20 < (((a1.list).length : Nat) : Int))), h, jN⟩
 intro hb28; replace h := z0k hb28 h
 iterate 5 refine nX ?_
 refine sX (z06 ?_)
 exact ⟨rfl, false, h, jN⟩
 intro hc19 h
 refine bR ?_
 refine sX ?_
 refine eX ?_
 refine cX h rfl ?_ ?_
 intro hc29 h
 refine bR ?_
 iterate 4 refine sX ?_
 obtain ⟨x30, hx30, h⟩ := obind h
 refine sS rfl rfl rfl (z04 rfl Z95 rfl (wkr (wkr .nil)) ⟨(z0c z19 a0.fields), ⟨(z0c z19 a1.fields), trivial⟩⟩ (c_q14 a0.fields a1.fields x30 hx30) rfl) ?_
 refine eX ?_
 obtain rfl := eI h; exact z05 eK
 intro hc29 h
 refine bR ?_
 refine sX ?_
 refine eX ?_
 refine cX h rfl ?_ ?_
 intro hc31 h
 refine z09 ?_
 refine bR ?_
 iterate 4 refine sX ?_
 obtain ⟨x32, hx32, h⟩ := obind h
 refine sS rfl rfl rfl (z04 rfl Z0p rfl (wkr (wkr .nil)) ⟨rfl, ⟨rfl, trivial⟩⟩ (zyu a0.cls a1.cls x32 hx32) rfl) ?_
 refine eX ?_
 refine bR ?_
 refine sX ?_
 refine eX ?_
 refine cX h rfl ?_ ?_
 intro hc33 h
 refine bR ?_
 refine sX ?_
 refine eX ?_
 obtain rfl := eI h; exact z05 eK
 intro hc33 h
 refine z07 ?_
 refine cBx ?_
 refine z09 ?_
 refine bR ?_
 iterate 4 refine sX ?_
 refine eX ?_
 refine cX h rfl ?_ ?_
 intro hc34 h
 refine bR ?_
 iterate 2 refine sX ?_
 refine sS rfl rfl rfl (z3r Try.underlying3 Try.underlying24 rfl rfl) ?_
 iterate 2 refine sX ?_
 refine sS rfl rfl rfl (z3r Try.underlying3 Try.underlying24 rfl rfl) ?_
 obtain ⟨x35, hx35, h⟩ := obind h
 refine sS rfl rfl rfl (z04 rfl zmf rfl (wkr (wkr .nil)) ⟨rfl, ⟨rfl, trivial⟩⟩ (zk2 (IntKind.u64.wrap a0.ver) (IntKind.u64.wrap a1.ver) x35 hx35) rfl) ?_
 refine eX ?_
 obtain rfl := eI h; exact z05 eK
 intro hc34 h
 refine z07 ?_
 refine cBx ?_
 refine bR ?_
 iterate 4 refine sX ?_
 obtain ⟨x36, hx36, h⟩ := obind h
 refine sS rfl rfl rfl (z04 rfl Z95 rfl (wkr (wkr .nil)) ⟨(z0c z19 a0.fields), ⟨(z0c z19 a1.fields), trivial⟩⟩ (c_q14 a0.fields a1.fields x36 hx36) rfl) ?_
 refine eX ?_
 obtain rfl := eI h; exact z05 eK
 intro hc31 h
 refine z07 ?_
 refine cBx ?_
 refine bR ?_
 refine eX ?_
 obtain rfl := eI h; exact z05 eK
theorem C_q14.sound : ∀ (i : C_q14) (r : i.R), z22 C_q14.F i = some r → C_q14.Q i r := by
 refine z2r (Φ := C_q14.F) (Q := C_q14.Q) ?_
 intro g hg i r h
 cases i with
 | k_q14 a0 a1 => exact zgf (fun a0 a1 => g (.k_q14 a0 a1)) (fun a0 a1 r hr => hg (.k_q14 a0 a1) r hr) (fun a0 a1 => g (.k_q10 a0 a1)) (fun a0 a1 r hr => hg (.k_q10 a0 a1) r hr) a0 a1 r h
 | k_q10 a0 a1 => exact zei (fun a0 a1 => g (.k_q14 a0 a1)) (fun a0 a1 r hr => hg (.k_q14 a0 a1) r hr) (fun a0 a1 => g (.k_q10 a0 a1)) (fun a0 a1 r hr => hg (.k_q10 a0 a1) r hr) a0 a1 r h
theorem Z7i (a0 a1 : Term) (r : Int) (h : z9x a0 a1 = some r) : z08 Try.prog 46 [(z0v a0), (z0v a1)] (I64 r) := C_q14.sound (.k_q10 a0 a1) r h
noncomputable def zh9 (s2 : (List Term)) : Option (List Term) :=
 some s2
noncomputable def z7k (a0 : Term) (g1 : (List Term) → Nat → Option (List Term)) (s5 : (List Term)) (s6 : Nat) : Option (List Term) :=
 bif (decide (((s6 : Nat) : Int) < (((a0.fields).length : Nat) : Int))) then (
 ((a0.fields)[s6]?).bind fun x9 =>
 (z9f 152 s5 ([(x9.2)] : (List Term))).bind fun x10 =>
 g1 x10 (s6 + 1)
 ) else (
 zh9 s5
 )
theorem zrb (g1 : OF ρ → (List Term) → Nat → Option (List Term)) (h_g1 : ∀ y0 y1, CM (fun G => g1 G y0 y1)) (a0 : Term) (s5 : (List Term)) (s6 : Nat) : CM (fun G : OF ρ => z7k a0 (g1 G) s5 s6) := by
 simp only [z7k]
 repeat (first | exact z01 | exact h_g1 _ _ | apply q1p_j1_cm | refine z0h ?_ ?_ | refine z0i ?_ (fun _ => ?_) | intro _ | assumption)
noncomputable def zkn (a0 : Term) (s5 : (List Term)) (s6 : Nat) : Option (List Term) :=
 z22 (ι := ((List Term) × Nat)) (ρ := fun _ => (List Term)) (fun g i => z7k a0 (fun s5 s6 => g (s5, s6)) i.1 i.2) (s5, s6)
theorem zkm (a0 : Term) (s5 : (List Term)) (s6 : Nat) : zkn a0 s5 s6 = z7k a0 (zkn a0) s5 s6 :=
 z0t (ι := ((List Term) × Nat)) (ρ := fun _ => (List Term)) (Φ := fun g i => z7k a0 (fun s5 s6 => g (s5, s6)) i.1 i.2) (fun i => zrb (ι := ((List Term) × Nat)) (ρ := fun _ => (List Term)) (fun g => (fun s5 s6 => g (s5, s6))) (fun _ _ => z0s) a0 i.1 i.2) (s5, s6)
noncomputable def zh8 (a0 : Term) (s3 : Bool) : Option (List Term) :=
 bif s3 then (
 zkn a0 ([] : (List Term)) 0
 ) else (
 zh9 ([] : (List Term))
 )
noncomputable def zrn (a0 : Term) : Option (List Term) :=
 bif (a0.kind == 8) then (
 some a0.list
 ) else (
 bif (a0.kind == 9) then (
 zh8 a0 true
 ) else (
 zh8 a0 (a0.kind == 10)
 )
 )
theorem Z79 (a0 : Term) (r : (List Term)) (h : zrn a0 = some r) : z08 Try.prog 85 [(z0v a0)] (PV.sl none 29 11 (List.map z0r r)) := by
 unfold zrn at h
 refine z0g Try.func85 rfl Try.ntmps85 Try.results85 rfl (z0q ?_)
 change BW _ _ _ ⟨[(0, (z0v a0))], [], _⟩ _
 refine bR ?_
 refine sX ?_
 refine eX ?_
 refine z09 ?_
 refine bR ?_
 iterate 2 refine sX ?_
 refine eX ?_
 refine cX h rfl ?_ ?_
 intro hc1 h
 refine bR ?_
 iterate 2 refine sX ?_
 refine eX ?_
 obtain rfl := eI h; exact z05 ⟨_, rfl, z1f (y := (PV.sl none 29 11 (List.map z0r a0.list))) (Wk.refl _) (z0c z1p a0.list) ⟨rfl, rfl⟩⟩
 intro hc1 h
 refine z07 ?_
 refine cBx ?_
 refine bR ?_
 refine sS rfl rfl rfl ((z1q (xs := []) Try.underlying26 z20 rfl rfl rfl rfl rfl rfl ⟨lbE rfl, lbE rfl⟩ rfl).cast (y := (PV.sl (some 1) 29 11 (List.map z0r ([] : (List Term))))) rfl rfl) ?_
 refine eX ?_
 refine z37 (ι := (List Term)) (fun i => zh9 i = some r) (fun i => [(3, (PV.sl (some 1) 29 11 (List.map z0r i)))]) (fun i => [.dead, .arr 29 (i).length]) ?_ ?_ ?_
 intro i; exact ⟨lbE rfl, ⟨(z8b rfl (z3p z1p _)), trivial⟩, trivial⟩
 rintro s2 h; replace h : zh9 s2 = some r := h; unfold zh9 at h
 change BW _ _ _ ⟨[(3, (PV.sl (some 1) 29 11 (List.map z0r s2)))], [.dead, .arr 29 (s2).length], _⟩ _
 refine bR ?_
 refine sX ?_
 refine eX ?_
 obtain rfl := eI h; exact z05 ⟨_, rfl, z1f (y := (PV.sl none 29 11 (List.map z0r s2))) Wk.tok (z0c z1p s2) ⟨rfl, rfl⟩⟩
 refine z37 (ι := Bool) (fun i => zh8 a0 i = some r) (fun i => [(1, (PV.rf 0 0)), (3, (PV.sl (some 1) 29 11 (List.map z0r ([] : (List Term))))), (18, (BO i))]) (fun i => [.box 29 (z2j a0), .arr 29 (([] : (List Term))).length]) ?_ ?_ ?_
 intro i; exact ⟨lbE rfl, ⟨(il_rf rfl), ⟨(z8b rfl (z3p z1p _)), ⟨(z00 rfl), trivial⟩⟩⟩, ⟨wfC29, trivial⟩⟩
 rintro s3 h; replace h : zh8 a0 s3 = some r := h; unfold zh8 at h
 change BW _ _ _ ⟨[(1, (PV.rf 0 0)), (3, (PV.sl (some 1) 29 11 (List.map z0r ([] : (List Term))))), (18, (BO s3))], [.box 29 (z2j a0), .arr 29 (([] : (List Term))).length], _⟩ _
 refine cX h rfl ?_ ?_
 intro hc4 h
 refine bR ?_
 refine eX ?_
 refine z0e ?_
 refine cBx ?_
 unfold zkn at h
 refine z3c (σ := ((List Term) × Nat)) (fun i => [(1, (PV.rf 0 0)), (3, (PV.sl (some 1) 29 11 (List.map z0r i.1))), (4, (I64 (((i.2 : Nat) : Int))))]) (fun i => [.box 29 (z2j a0), .arr 29 (i.1).length]) (([] : (List Term)), 0) h ?_ ?_ ?_
 intro i; exact ⟨lbE rfl, ⟨(il_rf rfl), ⟨(z8b rfl (z3p z1p _)), ⟨(z00 rfl), trivial⟩⟩⟩, ⟨wfC29, trivial⟩⟩
 exact jN
 rintro g1_f ⟨s5, s6⟩ h; replace h : z7k a0 (fun y0 y1 => g1_f (y0, y1)) s5 s6 = some r := h; unfold z7k at h
 change BW _ _ _ ⟨[(1, (PV.rf 0 0)), (3, (PV.sl (some 1) 29 11 (List.map z0r s5))), (4, (I64 (((s6 : Nat) : Int))))], [.box 29 (z2j a0), .arr 29 (s5).length], _⟩ _
 refine z09 ?_
 refine bR ?_
 iterate 4 refine sX ?_
 refine eX ?_
 refine z2f (t := 21) rfl fun hb8 => ?_
 try rw [List.length_map] at hb8
 refine cX h rfl ?_ ?_
 intro hc7 h
 have hc7_ := of_decide_eq_true hc7
 refine z07 ?_
 refine cBx ?_
 refine z09 ?_
 refine z0e ?_
 refine cBx ?_
 refine z0a ?_
 iterate 4 refine sX ?_
 obtain ⟨x9, hx9, h⟩ := obind h
 refine sS rfl rfl rfl (z0w (i := s6) Try.underlying27 z24 rfl rfl rfl hx9 (z1r _)) ?_
 iterate 2 refine sX ?_
 refine sS rfl rfl rfl ((z1q (xs := [(z0v (x9.2))]) Try.underlying26 z20 rfl rfl rfl rfl rfl rfl ⟨lbE rfl, lbE rfl⟩ rfl).cast (y := (PV.sl (some 2) 29 11 (List.map z0r ([(x9.2)] : (List Term))))) (by simp only [List.map_cons, List.map_nil, z26]; try rfl) rfl) ?_
 obtain ⟨x10, hx10, h⟩ := obind h
 refine sS rfl rfl rfl (z3k Try.underlying26 z20 rfl Try.underlying26 rfl rfl rfl rfl zjm zd4 hx10 rfl) ?_
 refine eX ?_
 refine z0a ?_
 refine sX ?_
 refine sS rfl rfl rfl (z1b (k := s6) (c := 1) rfl rfl rfl (by omega)) ?_
 refine sX (z06 ?_)
 exact ⟨rfl, (x10, (s6 + 1)), h, jN⟩
 intro hc7 h
 refine z1a ?_
 exact ⟨rfl, s5, h, ⟨(.cons .dead (.cons .same .nil)), (sC rfl z1i)⟩⟩
 intro hc4 h
 refine z07 ?_
 exact ⟨rfl, ([] : (List Term)), h, ⟨(.cons .dead (.cons .same .nil)), (sC rfl z1i)⟩⟩
 refine z0a ?_
 iterate 4 refine sX ?_
 refine z0n (t := 14) rfl ?_ ?_
 intro hb11; replace h := z0j hb11 h
 iterate 3 refine nX ?_
 refine sX (z06 ?_)
 exact ⟨rfl, true, h, jN⟩
 intro hb11; replace h := z0k hb11 h
 iterate 3 refine yX ?_
 refine sX (z06 ?_)
 exact ⟨rfl, (a0.kind == 10), h, jN⟩
noncomputable def z62 (r_q1o : Term → Option Int) (x1 : (List Term)) (g1 : Int → Nat → Option Int) (s2 : Int) (s3 : Nat) : Option Int :=
 bif (decide (((s3 : Nat) : Int) < (((x1).length : Nat) : Int))) then (
 ((x1)[s3]?).bind fun x6 =>
 (r_q1o x6).bind fun x7 =>
 g1 (IntKind.i64.wrap (s2 + x7)) (s3 + 1)
 ) else (
 some s2
 )
theorem zc6 (r_q1o : OF ρ → Term → Option Int) (h_r_q1o : ∀ y0, CM (fun G => r_q1o G y0)) (g1 : OF ρ → Int → Nat → Option Int) (h_g1 : ∀ y0 y1, CM (fun G => g1 G y0 y1)) (x1 : (List Term)) (s2 : Int) (s3 : Nat) : CM (fun G : OF ρ => z62 (r_q1o G) x1 (g1 G) s2 s3) := by
 simp only [z62]
 repeat (first | exact z01 | exact h_r_q1o _ | exact h_g1 _ _ | refine z0h ?_ ?_ | refine z0i ?_ (fun _ => ?_))
noncomputable def zha (r_q1o : Term → Option Int) (x1 : (List Term)) (s2 : Int) (s3 : Nat) : Option Int :=
 z22 (ι := (Int × Nat)) (ρ := fun _ => Int) (fun g i => z62 r_q1o x1 (fun s2 s3 => g (s2, s3)) i.1 i.2) (s2, s3)
theorem zko (r_q1o : Term → Option Int) (x1 : (List Term)) (s2 : Int) (s3 : Nat) : zha r_q1o x1 s2 s3 = z62 r_q1o x1 (zha r_q1o x1) s2 s3 :=
 z0t (ι := (Int × Nat)) (ρ := fun _ => Int) (Φ := fun g i => z62 r_q1o x1 (fun s2 s3 => g (s2, s3)) i.1 i.2) (fun i => zc6 (ι := (Int × Nat)) (ρ := fun _ => Int) (fun _ => r_q1o) (fun _ => z01) (fun g => (fun s2 s3 => g (s2, s3))) (fun _ _ => z0s) x1 i.1 i.2) (s2, s3)
theorem zu1 (r_q1o : OF ρ → Term → Option Int) (h_r_q1o : ∀ y0, CM (fun G => r_q1o G y0)) (x1 : (List Term)) (s2 : Int) (s3 : Nat) : CM (fun G : OF ρ => zha (r_q1o G) x1 s2 s3) :=
 z28 (κ := (Int × Nat)) (τ := fun _ => Int) (Φ := fun G g i => z62 (r_q1o G) x1 (fun s2 s3 => g (s2, s3)) i.1 i.2) (fun g i => zc6 r_q1o h_r_q1o (fun _ => (fun s2 s3 => g (s2, s3))) (fun _ _ => z01) x1 i.1 i.2) (fun G i => zc6 (ι := (Int × Nat)) (ρ := fun _ => Int) (fun _ => r_q1o G) (fun _ => z01) (fun g => (fun s2 s3 => g (s2, s3))) (fun _ _ => z0s) x1 i.1 i.2) (s2, s3)
noncomputable def zoe (r_q1o : Term → Option Int) (a0 : Term) : Option Int :=
 (zrn a0).bind fun x1 =>
 zha r_q1o x1 1 0
theorem Z1g (r_q1o : OF ρ → Term → Option Int) (h_r_q1o : ∀ y0, CM (fun G => r_q1o G y0)) (a0 : Term) : CM (fun G : OF ρ => zoe (r_q1o G) a0) := by
 simp only [zoe]
 repeat (first | exact z01 | exact h_r_q1o _ | apply zu1 | refine z0h ?_ ?_ | refine z0i ?_ (fun _ => ?_) | intro _ | assumption)
inductive C_q1o where
 | k_q1o (a0 : Term)
def C_q1o.R : C_q1o → Type
 | .k_q1o _ => Int
noncomputable def C_q1o.F (g : ∀ i : C_q1o, Option i.R) : ∀ i : C_q1o, Option i.R
 | .k_q1o a0 => zoe (fun a0 => g (.k_q1o a0)) a0
noncomputable def zgj (a0 : Term) : Option Int := z22 C_q1o.F (.k_q1o a0)
abbrev Zft := fun (g : ∀ i : C_q1o, Option i.R) a0 => g (.k_q1o a0)
theorem Zfm (a0 : _) : CM (ρ := C_q1o.R) (fun g => g (C_q1o.k_q1o a0)) := z0s
theorem C_q1o.cm (i : C_q1o) : CM (fun g : (∀ i : C_q1o, Option i.R) => C_q1o.F g i) := by
 cases i with
 | k_q1o a0 => exact Z1g Zft Zfm a0
theorem Zd4 (a0 : Term) : zgj a0 = zoe zgj a0 := z0t C_q1o.cm (.k_q1o a0)
def C_q1o.Q : ∀ i : C_q1o, i.R → Prop
 | .k_q1o a0 => fun (r : Int) => z08 Try.prog 90 [(z0v a0)] (I64 r)
theorem zir (r_q1o : Term → Option Int) (c_q1o : ∀ (a0 : Term) r, r_q1o a0 = some r → z08 Try.prog 90 [(z0v a0)] (I64 r)) (a0 : Term) (r : Int) (h : zoe r_q1o a0 = some r) : z08 Try.prog 90 [(z0v a0)] (I64 r) := by
 unfold zoe at h
 refine z0g Try.func90 rfl Try.ntmps90 Try.results90 rfl (z0q ?_)
 change BW _ _ _ ⟨[(0, (z0v a0))], [], _⟩ _
 refine bR ?_
 refine sX ?_
 refine eX ?_
 refine bR ?_
 refine eX ?_
 refine bR ?_
 refine sX ?_
 obtain ⟨x1, hx1, h⟩ := obind h
 refine sS rfl rfl rfl (z04 rfl Z93 rfl (wkr .nil) ⟨(z10 a0), trivial⟩ (Z79 a0 x1 hx1) (z0c z1p x1)) ?_
 refine eX ?_
 refine z09 ?_
 refine bR ?_
 refine eX ?_
 refine z0e ?_
 refine cBx ?_
 unfold zha at h
 refine lX (σ := (Int × Nat)) (fun i => [(3, (I64 i.1)), (4, (PV.sl none 29 11 (List.map z0r x1))), (5, (I64 (((i.2 : Nat) : Int))))]) (fun i => []) (1, 0) h ?_ ?_
 exact jN
 rintro g1_f ⟨s2, s3⟩ h; replace h : z62 r_q1o x1 (fun y0 y1 => g1_f (y0, y1)) s2 s3 = some r := h; unfold z62 at h
 change BW _ _ _ ⟨[(3, (I64 s2)), (4, (PV.sl none 29 11 (List.map z0r x1))), (5, (I64 (((s3 : Nat) : Int))))], [], _⟩ _
 refine z09 ?_
 refine bR ?_
 iterate 3 refine sX ?_
 refine eX ?_
 refine z2f (t := 9) rfl fun hb5 => ?_
 try rw [List.length_map] at hb5
 refine cX h rfl ?_ ?_
 intro hc4 h
 have hc4_ := of_decide_eq_true hc4
 refine z07 ?_
 refine cBx ?_
 refine z09 ?_
 refine z0e ?_
 refine cBx ?_
 refine z0a ?_
 iterate 3 refine sX ?_
 obtain ⟨x6, hx6, h⟩ := obind h
 refine sS rfl rfl rfl (z0w (i := s3) Try.underlying26 z20 rfl rfl rfl hx6 (z26 _)) ?_
 refine sX ?_
 obtain ⟨x7, hx7, h⟩ := obind h
 refine sS rfl rfl rfl (z04 rfl Z5p rfl (wkr .nil) ⟨(z10 x6), trivial⟩ (c_q1o x6 x7 hx7) rfl) ?_
 refine sX ?_
 refine eX ?_
 refine z0a ?_
 refine sX ?_
 refine sS rfl rfl rfl (z1b (k := s3) (c := 1) rfl rfl rfl (by omega)) ?_
 refine sX (z06 ?_)
 exact ⟨rfl, ((IntKind.i64.wrap (s2 + x7)), (s3 + 1)), h, jN⟩
 intro hc4 h
 refine z1a ?_
 refine cBx ?_
 refine bR ?_
 refine sX ?_
 refine eX ?_
 obtain rfl := eI h; exact z05 eK
theorem C_q1o.sound : ∀ (i : C_q1o) (r : i.R), z22 C_q1o.F i = some r → C_q1o.Q i r := by
 refine z2r (Φ := C_q1o.F) (Q := C_q1o.Q) ?_
 intro g hg i r h
 cases i with
 | k_q1o a0 => exact zir (fun a0 => g (.k_q1o a0)) (fun a0 r hr => hg (.k_q1o a0) r hr) a0 r h
theorem Z7a (a0 : Term) (r : Int) (h : zgj a0 = some r) : z08 Try.prog 90 [(z0v a0)] (I64 r) := C_q1o.sound (.k_q1o a0) r h
end Go.Proofs.Ytiapdjdhaclmnaa
