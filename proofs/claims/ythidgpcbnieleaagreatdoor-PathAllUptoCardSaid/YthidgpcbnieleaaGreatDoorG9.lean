/- Pure functions, and that calls answer as they say. -/
import Derived.Test.YthidgpcbnieleaaGreatDoorG8
namespace Go.Proofs.YthidgpcbnieleaaGreatDoor
open Go Aw
set_option linter.unusedVariables false
set_option linter.unusedSimpArgs false
set_option maxRecDepth 20000
set_option maxHeartbeats 2000000
variable {ι : Type} {ρ : ι → Type}
noncomputable def zu0 (a0c0 : Int) (a1 : (List S_api_Step)) (a2 a3 : V) (a4 : Int) : Option (Int × V × Int) :=
 (zfs a1).bind fun x1 =>
 (zd2 a2).bind fun x2 =>
 (zu2 x1 x2 a0c0).bind fun x3 =>
 some (x3.2.2, x3.1, x3.2.1)
theorem Z53 (a0c0 : Int) (a1 : (List S_api_Step)) (a2 a3 : V) (a4 : Int) (r : (Int × V × Int)) (h : zu0 a0c0 a1 a2 a3 a4 = some r) : z18 Tryz.prog 89 [(PV.rf 0 0), (PV.pt 30 (PV.sl none 83 3 (List.map z00 a1)) 0), (PV.pt 20 (ofV a2) 0), (PV.rf 2 0), (PV.rf 3 0)] [.box 60 [(PV.fn (.func 24) [] [(PV.rf 1 0)])], .box 3 [(I64 a0c0)], .box 20 [(ofV a3)], .box 33 [(I64 a4)]] (PV.tup []) [.box 60 [(PV.fn (.func 24) [] [(PV.rf 1 0)])], .box 3 [(I64 r.1)], .box 20 [(ofV r.2.1)], .box 33 [(I64 r.2.2)]] := by
 unfold zu0 at h
 refine z0d Tryz.func89 rfl Tryz.ntmps89 Tryz.results89 rfl (z0g ?_)
 change BW _ _ _ ⟨[(0, (PV.rf 0 0)), (1, (PV.pt 30 (PV.sl none 83 3 (List.map z00 a1)) 0)), (2, (PV.pt 20 (ofV a2) 0)), (3, (PV.rf 2 0)), (4, (PV.rf 3 0))], [.box 60 [(PV.fn (.func 24) [] [(PV.rf 1 0)])], .box 3 [(I64 a0c0)], .box 20 [(ofV a3)], .box 33 [(I64 a4)]], _⟩ _
 refine z1l 10 [5, 9] [0] mo (by kernel_rfl) ?_
 iterate 2 refine gX ?_
 obtain ⟨x1, hx1, h⟩ := obind h
 refine z1p rfl rfl rfl rfl (fun H hp => z06 rfl zvm rfl (wkr .nil) ⟨(z03 z02 a1), trivial⟩ (zti a1 x1 hx1) (z03 z02 x1)) ?_
 refine z1p rfl rfl rfl rfl (fun H hp => z1y (y := (ofV a2)) Tryz.underlying20 rfl rfl rfl (by rw [z0t]; rfl)) ?_
 obtain ⟨x2, hx2, h⟩ := obind h
 refine z1p rfl rfl rfl rfl (fun H hp => z06 rfl Z00 rfl (wkr .nil) ⟨(ids_V a2), trivial⟩ (Z4t a2 x2 hx2) (ids_V x2)) ?_
 obtain ⟨x3, hx3, h⟩ := obind h
 refine z41 rfl rfl rfl rfl (Op1.cast (y := (PV.tup [(ofV x3.1), (I64 x3.2.1)])) (H'' := [.box 60 [(PV.fn (.func 24) [] [(PV.rf 1 0)])], .box 3 [(I64 x3.2.2)], .box 20 [(ofV a3)], .box 33 [(I64 a4)]]) (z1b [1] (.held rfl rfl) Z7i rfl (wkr (wkr (wkr .nil))) rfl (.cons rfl (.box (.cons (.same rfl) .nil)) .nil) (.cons (.same (z03 z02 x1)) (.cons (.same (ids_V x2)) (.cons (.rf rfl) .nil))) (Z55 x1 x2 a0c0 x3 hx3) (.same (z01 (ids_V x3.1) (z01 rfl z04))) (.cons (.box (.cons (.same rfl) .nil)) .nil) rfl) rfl rfl) ⟨rfl, trivial⟩ ?_
 iterate 3 refine gX ?_
 refine zds rfl rfl rfl ((z0e z1t rfl rfl rfl rfl (z3t _) (csz_V _) (lbE rfl) (z4i _)).cast (H'' := [.box 60 [(PV.fn (.func 24) [] [(PV.rf 1 0)])], .box 3 [(I64 x3.2.2)], .box 20 [(ofV x3.1)], .box 33 [(I64 a4)]]) rfl (by rw [z0t]; rfl)) ⟨rfl, trivial⟩ ?_
 refine z1u ?_
 change AO _ _ _ _ _
 refine z0j rfl rfl (z0e z3x rfl rfl rfl rfl rfl rfl (lbE rfl) rfl) ?_
 refine z0a ?_
 change ∃ xs, _ = some xs ∧ EndOk _ _ _ _
 obtain rfl := Option.some.inj h
 exact ⟨_, rfl, endR (y := (PV.tup [])) 4 (Wk.refl _) rfl rfl (.tup .nil) (.cons (.box (.cons (.fn (.cons (.rf rfl) .nil)) .nil)) (.cons (.box (.cons (.same rfl) .nil)) (.cons (.box (.cons (.same (ids_V x3.1)) .nil)) (.cons (.box (.cons (.same rfl) .nil)) .nil)))) ⟨rfl, rfl⟩⟩
noncomputable def zua (a0c0c0 : Int) (a0c1 : (List S_api_Step)) (a0c2 a0c3 : V) (a0c4 : Int) : Option (Bool × Int × V × Int) :=
 (zu0 a0c0c0 a0c1 a0c2 a0c3 a0c4).bind fun x1 =>
 (zo4 false).bind fun x2 =>
 some (x2, x1.1, x1.2.1, x1.2.2)
theorem Z5m (a0c0c0 : Int) (a0c1 : (List S_api_Step)) (a0c2 a0c3 : V) (a0c4 : Int) (r : (Bool × Int × V × Int)) (h : zua a0c0c0 a0c1 a0c2 a0c3 a0c4 = some r) : z18 Tryz.prog 82 [(PV.fn (.func 89) [] [(PV.rf 0 0), (PV.pt 30 (PV.sl none 83 3 (List.map z00 a0c1)) 0), (PV.pt 20 (ofV a0c2) 0), (PV.rf 2 0), (PV.rf 3 0)])] [.box 60 [(PV.fn (.func 24) [] [(PV.rf 1 0)])], .box 3 [(I64 a0c0c0)], .box 20 [(ofV a0c3)], .box 33 [(I64 a0c4)]] (BO r.1) [.box 60 [(PV.fn (.func 24) [] [(PV.rf 1 0)])], .box 3 [(I64 r.2.1)], .box 20 [(ofV r.2.2.1)], .box 33 [(I64 r.2.2.2)]] := by
 unfold zua at h
 refine z82 Tryz.func82 rfl Tryz.ntmps82 rfl ?_
 change DW _ _ _ _ _ ⟨[(0, (PV.fn (.func 89) [] [(PV.rf 0 0), (PV.pt 30 (PV.sl none 83 3 (List.map z00 a0c1)) 0), (PV.pt 20 (ofV a0c2) 0), (PV.rf 2 0), (PV.rf 3 0)]))], [.box 60 [(PV.fn (.func 24) [] [(PV.rf 1 0)])], .box 3 [(I64 a0c0c0)], .box 20 [(ofV a0c3)], .box 33 [(I64 a0c4)]], _⟩ _
 refine zf5 ?_
 refine cBx ?_
 refine z0f ?_
 refine sS rfl rfl rfl (z14 z3a rfl) (z0a ?_)
 change DW _ _ _ _ _ _ _
 refine zf5 ?_
 refine cBx ?_
 refine z0f ?_
 refine z0j rfl rfl (z0e z3a rfl rfl rfl rfl rfl rfl (lbE rfl) rfl) ?_
 refine z0a ?_
 change DW _ _ _ _ _ _ _
 refine zgc (caps := [.tmp 2]) rfl rfl rfl rfl rfl rfl rfl rfl ?_
 refine zsg zsf Tryz.results82 ?_
 refine cBx ?_
 refine bR ?_
 refine sX ?_
 obtain ⟨x1, hx1, h⟩ := obind h
 refine sS rfl rfl rfl (Op1.cast (y := (PV.tup [])) (H'' := [.box 60 [(PV.fn (.func 24) [] [(PV.rf 1 0)])], .box 3 [(I64 x1.1)], .box 20 [(ofV x1.2.1)], .box 33 [(I64 x1.2.2)], .box 4 [(BO true)]]) (z1b [0, 1, 2, 3] (.held rfl rfl) Z6x rfl (wkr (wkr (wkr (wkr (wkr .nil))))) rfl (.cons rfl (.box (.cons (.fn (.cons (.rf rfl) .nil)) .nil)) (.cons rfl (.box (.cons (.same rfl) .nil)) (.cons rfl (.box (.cons (.same (ids_V a0c3)) .nil)) (.cons rfl (.box (.cons (.same rfl) .nil)) .nil)))) (.cons (.rf rfl) (.cons (.same (z13 (z03 z02 a0c1))) (.cons (.same (z13 (ids_V a0c2))) (.cons (.rf rfl) (.cons (.rf rfl) .nil))))) (Z53 a0c0c0 a0c1 a0c2 a0c3 a0c4 x1 hx1) (.same z04) (.cons (.box (.cons (.fn (.cons (.rf rfl) .nil)) .nil)) (.cons (.box (.cons (.same rfl) .nil)) (.cons (.box (.cons (.same (ids_V x1.2.1)) .nil)) (.cons (.box (.cons (.same rfl) .nil)) .nil)))) rfl) rfl rfl) (z0a ?_)
 refine cBx ?_
 refine bR ?_
 refine z0j rfl rfl (z0e z3a rfl rfl rfl rfl rfl rfl (lbE rfl) rfl) ?_
 refine z0a ?_
 refine cBx ?_
 refine z05 ?_
 refine zdo ?_
 obtain ⟨x2, hx2, h⟩ := obind h
 obtain rfl := Option.some.inj h
 refine zkg [4] rfl (.cons rfl (.box (.cons (.same rfl) .nil)) .nil) (.cons (.rf rfl) .nil) (fun p hp => by cases hp) (zyh false x2 hx2) (.cons (.box (.cons (.same rfl) .nil)) .nil) rfl rfl ?_
 exact endR (y := (BO x2)) 4 (Wk.refl _) rfl rfl (.same rfl) (.cons (.box (.cons (.fn (.cons (.rf rfl) .nil)) .nil)) (.cons (.box (.cons (.same rfl) .nil)) (.cons (.box (.cons (.same (ids_V x1.2.1)) .nil)) (.cons (.box (.cons (.same rfl) .nil)) .nil)))) ⟨rfl, rfl⟩
noncomputable def zhh (x3 : (V × Int × Int)) (s4 : V) : Option (Bool × Int × Int × V) :=
 some ((x3.2.1 == 0), x3.2.2, x3.2.1, s4)
noncomputable def zku (r_q1b : S_api_Step → V → (List S_api_Step) → Int → Int → V → Option (Bool × Int × Int × V)) (r_q0i : V → (List S_api_Step) → Int → Int → V → Option (Int × Int × V)) (r_q07 : (List S_api_Step) → V → Int → Option (V × Int × Int)) (a0 : S_api_Step) (a1 : V) (a2 : (List S_api_Step)) (a3c0 a4 : Int) (a5 : V) : Option (Bool × Int × Int × V) :=
 (zdx a2).bind fun x1 =>
 (z8k 32 x1 ([a0] : (List S_api_Step))).bind fun x2 =>
 (r_q07 x2 a1 a3c0).bind fun x3 =>
 bif (x3.2.1 == 0) then (
 (zd0 a5 a0 x3.1).bind fun x6 =>
 zhh x3 x6
 ) else (
 zhh x3 a5
 )
theorem zwa (r_q1b : OF ρ → S_api_Step → V → (List S_api_Step) → Int → Int → V → Option (Bool × Int × Int × V)) (h_r_q1b : ∀ y0 y1 y2 y3 y4 y5, CM (fun G => r_q1b G y0 y1 y2 y3 y4 y5)) (r_q0i : OF ρ → V → (List S_api_Step) → Int → Int → V → Option (Int × Int × V)) (h_r_q0i : ∀ y0 y1 y2 y3 y4, CM (fun G => r_q0i G y0 y1 y2 y3 y4)) (r_q07 : OF ρ → (List S_api_Step) → V → Int → Option (V × Int × Int)) (h_r_q07 : ∀ y0 y1 y2, CM (fun G => r_q07 G y0 y1 y2)) (a0 : S_api_Step) (a1 : V) (a2 : (List S_api_Step)) (a3c0 a4 : Int) (a5 : V) : CM (fun G : OF ρ => zku (r_q1b G) (r_q0i G) (r_q07 G) a0 a1 a2 a3c0 a4 a5) := by
 simp only [zku]
 repeat (first | exact z0c | exact h_r_q1b _ _ _ _ _ _ | exact h_r_q0i _ _ _ _ _ | exact h_r_q07 _ _ _ | apply q1b_j1_cm | refine z11 ?_ ?_ | refine z12 ?_ (fun _ => ?_) | intro _ | assumption)
noncomputable def z4e (r_q1b : S_api_Step → V → (List S_api_Step) → Int → Int → V → Option (Bool × Int × Int × V)) (a1c0 : (List S_api_Step)) (x4 : ((List (Str × V)) × Bool)) (g1 : Nat → Int → Int → V → Option (Int × Int × V)) (s5 : Nat) (s6 s7 : Int) (s8 : V) : Option (Int × Int × V) :=
 bif (decide (((s5 : Nat) : Int) < (((x4.1).length : Nat) : Int))) then (
 ((x4.1)[s5]?).bind fun x11 =>
 (r_q1b (S_api_Step.mk x11.1 false 0) x11.2 a1c0 s6 s7 s8).bind fun x12 =>
 bif (!x12.1) then (
 some (x12.2.1, x12.2.2.1, x12.2.2.2)
 ) else (
 g1 (s5 + 1) x12.2.1 x12.2.2.1 x12.2.2.2
 )
 ) else (
 some (s6, s7, s8)
 )
theorem zax (r_q1b : OF ρ → S_api_Step → V → (List S_api_Step) → Int → Int → V → Option (Bool × Int × Int × V)) (h_r_q1b : ∀ y0 y1 y2 y3 y4 y5, CM (fun G => r_q1b G y0 y1 y2 y3 y4 y5)) (g1 : OF ρ → Nat → Int → Int → V → Option (Int × Int × V)) (h_g1 : ∀ y0 y1 y2 y3, CM (fun G => g1 G y0 y1 y2 y3)) (a1c0 : (List S_api_Step)) (x4 : ((List (Str × V)) × Bool)) (s5 : Nat) (s6 s7 : Int) (s8 : V) : CM (fun G : OF ρ => z4e (r_q1b G) a1c0 x4 (g1 G) s5 s6 s7 s8) := by
 simp only [z4e]
 repeat (first | exact z0c | exact h_r_q1b _ _ _ _ _ _ | exact h_g1 _ _ _ _ | refine z11 ?_ ?_ | refine z12 ?_ (fun _ => ?_))
noncomputable def zel (r_q1b : S_api_Step → V → (List S_api_Step) → Int → Int → V → Option (Bool × Int × Int × V)) (a1c0 : (List S_api_Step)) (x4 : ((List (Str × V)) × Bool)) (s5 : Nat) (s6 s7 : Int) (s8 : V) : Option (Int × Int × V) :=
 z2w (ι := (Nat × Int × Int × V)) (ρ := fun _ => (Int × Int × V)) (fun g i => z4e r_q1b a1c0 x4 (fun s5 s6 s7 s8 => g (s5, s6, s7, s8)) i.1 i.2.1 i.2.2.1 i.2.2.2) (s5, s6, s7, s8)
theorem z9i (r_q1b : S_api_Step → V → (List S_api_Step) → Int → Int → V → Option (Bool × Int × Int × V)) (a1c0 : (List S_api_Step)) (x4 : ((List (Str × V)) × Bool)) (s5 : Nat) (s6 s7 : Int) (s8 : V) : zel r_q1b a1c0 x4 s5 s6 s7 s8 = z4e r_q1b a1c0 x4 (zel r_q1b a1c0 x4) s5 s6 s7 s8 :=
 z19 (ι := (Nat × Int × Int × V)) (ρ := fun _ => (Int × Int × V)) (Φ := fun g i => z4e r_q1b a1c0 x4 (fun s5 s6 s7 s8 => g (s5, s6, s7, s8)) i.1 i.2.1 i.2.2.1 i.2.2.2) (fun i => zax (ι := (Nat × Int × Int × V)) (ρ := fun _ => (Int × Int × V)) (fun _ => r_q1b) (fun _ _ _ _ _ _ => z0c) (fun g => (fun s5 s6 s7 s8 => g (s5, s6, s7, s8))) (fun _ _ _ _ => z17) a1c0 x4 i.1 i.2.1 i.2.2.1 i.2.2.2) (s5, s6, s7, s8)
theorem zq3 (r_q1b : OF ρ → S_api_Step → V → (List S_api_Step) → Int → Int → V → Option (Bool × Int × Int × V)) (h_r_q1b : ∀ y0 y1 y2 y3 y4 y5, CM (fun G => r_q1b G y0 y1 y2 y3 y4 y5)) (a1c0 : (List S_api_Step)) (x4 : ((List (Str × V)) × Bool)) (s5 : Nat) (s6 s7 : Int) (s8 : V) : CM (fun G : OF ρ => zel (r_q1b G) a1c0 x4 s5 s6 s7 s8) :=
 z40 (κ := (Nat × Int × Int × V)) (τ := fun _ => (Int × Int × V)) (Φ := fun G g i => z4e (r_q1b G) a1c0 x4 (fun s5 s6 s7 s8 => g (s5, s6, s7, s8)) i.1 i.2.1 i.2.2.1 i.2.2.2) (fun g i => zax r_q1b h_r_q1b (fun _ => (fun s5 s6 s7 s8 => g (s5, s6, s7, s8))) (fun _ _ _ _ => z0c) a1c0 x4 i.1 i.2.1 i.2.2.1 i.2.2.2) (fun G i => zax (ι := (Nat × Int × Int × V)) (ρ := fun _ => (Int × Int × V)) (fun _ => r_q1b G) (fun _ _ _ _ _ _ => z0c) (fun g => (fun s5 s6 s7 s8 => g (s5, s6, s7, s8))) (fun _ _ _ _ => z17) a1c0 x4 i.1 i.2.1 i.2.2.1 i.2.2.2) (s5, s6, s7, s8)
noncomputable def z9j (r_q1b : S_api_Step → V → (List S_api_Step) → Int → Int → V → Option (Bool × Int × Int × V)) (a0 : V) (a1c0 : (List S_api_Step)) (s1 s2 : Int) (s3 : V) : Option (Int × Int × V) :=
 (zfq a0).bind fun x4 =>
 zel r_q1b a1c0 x4 0 s1 s2 s3
theorem zhr (r_q1b : OF ρ → S_api_Step → V → (List S_api_Step) → Int → Int → V → Option (Bool × Int × Int × V)) (h_r_q1b : ∀ y0 y1 y2 y3 y4 y5, CM (fun G => r_q1b G y0 y1 y2 y3 y4 y5)) (a0 : V) (a1c0 : (List S_api_Step)) (s1 s2 : Int) (s3 : V) : CM (fun G : OF ρ => z9j (r_q1b G) a0 a1c0 s1 s2 s3) := by
 simp only [z9j]
 repeat (first | exact z0c | exact h_r_q1b _ _ _ _ _ _ | apply zq3 | refine z11 ?_ ?_ | refine z12 ?_ (fun _ => ?_) | intro _ | assumption)
noncomputable def z5t (r_q1b : S_api_Step → V → (List S_api_Step) → Int → Int → V → Option (Bool × Int × Int × V)) (a0 : V) (a1c0 : (List S_api_Step)) (g1 : Nat → Int → Int → V → Option (Int × Int × V)) (s15 : Nat) (s16 s17 : Int) (s18 : V) : Option (Int × Int × V) :=
 bif (decide (((s15 : Nat) : Int) < ((((a0).asList).length : Nat) : Int))) then (
 (((a0).asList)[s15]?).bind fun x21 =>
 (r_q1b (S_api_Step.mk [] true ((s15 : Nat) : Int)) x21 a1c0 s16 s17 s18).bind fun x22 =>
 bif (!x22.1) then (
 some (x22.2.1, x22.2.2.1, x22.2.2.2)
 ) else (
 g1 (s15 + 1) x22.2.1 x22.2.2.1 x22.2.2.2
 )
 ) else (
 z9j r_q1b a0 a1c0 s16 s17 s18
 )
theorem zaw (r_q1b : OF ρ → S_api_Step → V → (List S_api_Step) → Int → Int → V → Option (Bool × Int × Int × V)) (h_r_q1b : ∀ y0 y1 y2 y3 y4 y5, CM (fun G => r_q1b G y0 y1 y2 y3 y4 y5)) (g1 : OF ρ → Nat → Int → Int → V → Option (Int × Int × V)) (h_g1 : ∀ y0 y1 y2 y3, CM (fun G => g1 G y0 y1 y2 y3)) (a0 : V) (a1c0 : (List S_api_Step)) (s15 : Nat) (s16 s17 : Int) (s18 : V) : CM (fun G : OF ρ => z5t (r_q1b G) a0 a1c0 (g1 G) s15 s16 s17 s18) := by
 simp only [z5t]
 repeat (first | exact z0c | exact h_r_q1b _ _ _ _ _ _ | exact h_g1 _ _ _ _ | apply zhr | refine z11 ?_ ?_ | refine z12 ?_ (fun _ => ?_) | intro _ | assumption)
noncomputable def zek (r_q1b : S_api_Step → V → (List S_api_Step) → Int → Int → V → Option (Bool × Int × Int × V)) (a0 : V) (a1c0 : (List S_api_Step)) (s15 : Nat) (s16 s17 : Int) (s18 : V) : Option (Int × Int × V) :=
 z2w (ι := (Nat × Int × Int × V)) (ρ := fun _ => (Int × Int × V)) (fun g i => z5t r_q1b a0 a1c0 (fun s15 s16 s17 s18 => g (s15, s16, s17, s18)) i.1 i.2.1 i.2.2.1 i.2.2.2) (s15, s16, s17, s18)
theorem zhq (r_q1b : S_api_Step → V → (List S_api_Step) → Int → Int → V → Option (Bool × Int × Int × V)) (a0 : V) (a1c0 : (List S_api_Step)) (s15 : Nat) (s16 s17 : Int) (s18 : V) : zek r_q1b a0 a1c0 s15 s16 s17 s18 = z5t r_q1b a0 a1c0 (zek r_q1b a0 a1c0) s15 s16 s17 s18 :=
 z19 (ι := (Nat × Int × Int × V)) (ρ := fun _ => (Int × Int × V)) (Φ := fun g i => z5t r_q1b a0 a1c0 (fun s15 s16 s17 s18 => g (s15, s16, s17, s18)) i.1 i.2.1 i.2.2.1 i.2.2.2) (fun i => zaw (ι := (Nat × Int × Int × V)) (ρ := fun _ => (Int × Int × V)) (fun _ => r_q1b) (fun _ _ _ _ _ _ => z0c) (fun g => (fun s15 s16 s17 s18 => g (s15, s16, s17, s18))) (fun _ _ _ _ => z17) a0 a1c0 i.1 i.2.1 i.2.2.1 i.2.2.2) (s15, s16, s17, s18)
theorem zq2 (r_q1b : OF ρ → S_api_Step → V → (List S_api_Step) → Int → Int → V → Option (Bool × Int × Int × V)) (h_r_q1b : ∀ y0 y1 y2 y3 y4 y5, CM (fun G => r_q1b G y0 y1 y2 y3 y4 y5)) (a0 : V) (a1c0 : (List S_api_Step)) (s15 : Nat) (s16 s17 : Int) (s18 : V) : CM (fun G : OF ρ => zek (r_q1b G) a0 a1c0 s15 s16 s17 s18) :=
 z40 (κ := (Nat × Int × Int × V)) (τ := fun _ => (Int × Int × V)) (Φ := fun G g i => z5t (r_q1b G) a0 a1c0 (fun s15 s16 s17 s18 => g (s15, s16, s17, s18)) i.1 i.2.1 i.2.2.1 i.2.2.2) (fun g i => zaw r_q1b h_r_q1b (fun _ => (fun s15 s16 s17 s18 => g (s15, s16, s17, s18))) (fun _ _ _ _ => z0c) a0 a1c0 i.1 i.2.1 i.2.2.1 i.2.2.2) (fun G i => zaw (ι := (Nat × Int × Int × V)) (ρ := fun _ => (Int × Int × V)) (fun _ => r_q1b G) (fun _ _ _ _ _ _ => z0c) (fun g => (fun s15 s16 s17 s18 => g (s15, s16, s17, s18))) (fun _ _ _ _ => z17) a0 a1c0 i.1 i.2.1 i.2.2.1 i.2.2.2) (s15, s16, s17, s18)
noncomputable def zl2 (r_q1b : S_api_Step → V → (List S_api_Step) → Int → Int → V → Option (Bool × Int × Int × V)) (r_q0i : V → (List S_api_Step) → Int → Int → V → Option (Int × Int × V)) (r_q07 : (List S_api_Step) → V → Int → Option (V × Int × Int)) (a0 : V) (a1c0 : (List S_api_Step)) (a1c1c0 a1c2 : Int) (a1c3 : V) : Option (Int × Int × V) :=
 bif (a0).isList then (
 zek r_q1b a0 a1c0 0 a1c1c0 a1c2 a1c3
 ) else (
 z9j r_q1b a0 a1c0 a1c1c0 a1c2 a1c3
 )
theorem zwk (r_q1b : OF ρ → S_api_Step → V → (List S_api_Step) → Int → Int → V → Option (Bool × Int × Int × V)) (h_r_q1b : ∀ y0 y1 y2 y3 y4 y5, CM (fun G => r_q1b G y0 y1 y2 y3 y4 y5)) (r_q0i : OF ρ → V → (List S_api_Step) → Int → Int → V → Option (Int × Int × V)) (h_r_q0i : ∀ y0 y1 y2 y3 y4, CM (fun G => r_q0i G y0 y1 y2 y3 y4)) (r_q07 : OF ρ → (List S_api_Step) → V → Int → Option (V × Int × Int)) (h_r_q07 : ∀ y0 y1 y2, CM (fun G => r_q07 G y0 y1 y2)) (a0 : V) (a1c0 : (List S_api_Step)) (a1c1c0 a1c2 : Int) (a1c3 : V) : CM (fun G : OF ρ => zl2 (r_q1b G) (r_q0i G) (r_q07 G) a0 a1c0 a1c1c0 a1c2 a1c3) := by
 simp only [zl2]
 repeat (first | exact z0c | exact h_r_q1b _ _ _ _ _ _ | exact h_r_q0i _ _ _ _ _ | exact h_r_q07 _ _ _ | apply zhr | apply zq2 | refine z11 ?_ ?_ | refine z12 ?_ (fun _ => ?_) | intro _ | assumption)
noncomputable def zl5 (r_q1b : S_api_Step → V → (List S_api_Step) → Int → Int → V → Option (Bool × Int × Int × V)) (r_q0i : V → (List S_api_Step) → Int → Int → V → Option (Int × Int × V)) (r_q07 : (List S_api_Step) → V → Int → Option (V × Int × Int)) (a0 : (List S_api_Step)) (a1 : V) (a2c0 : Int) : Option (V × Int × Int) :=
 (r_q0i a1 a0 a2c0 0 a1).bind fun x1 =>
 bif (x1.2.1 != 0) then (
 some (V.nil, x1.2.1, x1.1)
 ) else (
 (zua x1.1 a0 x1.2.2 V.nil x1.2.1).bind fun x3 =>
 bif x3.1 then (
 some (V.nil, 9, x3.2.1)
 ) else (
 bif (x3.2.2.2 != 0) then (
 some (V.nil, x3.2.2.2, x3.2.1)
 ) else (
 (z8q x3.2.2.1).bind fun x6 =>
 some (x6.1, x6.2, x3.2.1)
 )
 )
 )
theorem zwo (r_q1b : OF ρ → S_api_Step → V → (List S_api_Step) → Int → Int → V → Option (Bool × Int × Int × V)) (h_r_q1b : ∀ y0 y1 y2 y3 y4 y5, CM (fun G => r_q1b G y0 y1 y2 y3 y4 y5)) (r_q0i : OF ρ → V → (List S_api_Step) → Int → Int → V → Option (Int × Int × V)) (h_r_q0i : ∀ y0 y1 y2 y3 y4, CM (fun G => r_q0i G y0 y1 y2 y3 y4)) (r_q07 : OF ρ → (List S_api_Step) → V → Int → Option (V × Int × Int)) (h_r_q07 : ∀ y0 y1 y2, CM (fun G => r_q07 G y0 y1 y2)) (a0 : (List S_api_Step)) (a1 : V) (a2c0 : Int) : CM (fun G : OF ρ => zl5 (r_q1b G) (r_q0i G) (r_q07 G) a0 a1 a2c0) := by
 simp only [zl5]
 repeat (first | exact z0c | exact h_r_q1b _ _ _ _ _ _ | exact h_r_q0i _ _ _ _ _ | exact h_r_q07 _ _ _ | refine z11 ?_ ?_ | refine z12 ?_ (fun _ => ?_))
inductive C_q1b where
 | k_q1b (a0 : S_api_Step) (a1 : V) (a2 : (List S_api_Step)) (a3c0 : Int) (a4 : Int) (a5 : V)
 | k_q0i (a0 : V) (a1c0 : (List S_api_Step)) (a1c1c0 : Int) (a1c2 : Int) (a1c3 : V)
 | k_q07 (a0 : (List S_api_Step)) (a1 : V) (a2c0 : Int)
def C_q1b.R : C_q1b → Type
 | .k_q1b _ _ _ _ _ _ => (Bool × Int × Int × V)
 | .k_q0i _ _ _ _ _ => (Int × Int × V)
 | .k_q07 _ _ _ => (V × Int × Int)
noncomputable def C_q1b.F (g : ∀ i : C_q1b, Option i.R) : ∀ i : C_q1b, Option i.R
 | .k_q1b a0 a1 a2 a3c0 a4 a5 => zku (fun a0 a1 a2 a3c0 a4 a5 => g (.k_q1b a0 a1 a2 a3c0 a4 a5)) (fun a0 a1c0 a1c1c0 a1c2 a1c3 => g (.k_q0i a0 a1c0 a1c1c0 a1c2 a1c3)) (fun a0 a1 a2c0 => g (.k_q07 a0 a1 a2c0)) a0 a1 a2 a3c0 a4 a5
 | .k_q0i a0 a1c0 a1c1c0 a1c2 a1c3 => zl2 (fun a0 a1 a2 a3c0 a4 a5 => g (.k_q1b a0 a1 a2 a3c0 a4 a5)) (fun a0 a1c0 a1c1c0 a1c2 a1c3 => g (.k_q0i a0 a1c0 a1c1c0 a1c2 a1c3)) (fun a0 a1 a2c0 => g (.k_q07 a0 a1 a2c0)) a0 a1c0 a1c1c0 a1c2 a1c3
 | .k_q07 a0 a1 a2c0 => zl5 (fun a0 a1 a2 a3c0 a4 a5 => g (.k_q1b a0 a1 a2 a3c0 a4 a5)) (fun a0 a1c0 a1c1c0 a1c2 a1c3 => g (.k_q0i a0 a1c0 a1c1c0 a1c2 a1c3)) (fun a0 a1 a2c0 => g (.k_q07 a0 a1 a2c0)) a0 a1 a2c0
noncomputable def zjy (a0 : S_api_Step) (a1 : V) (a2 : (List S_api_Step)) (a3c0 a4 : Int) (a5 : V) : Option (Bool × Int × Int × V) := z2w C_q1b.F (.k_q1b a0 a1 a2 a3c0 a4 a5)
noncomputable def zqw (a0 : V) (a1c0 : (List S_api_Step)) (a1c1c0 a1c2 : Int) (a1c3 : V) : Option (Int × Int × V) := z2w C_q1b.F (.k_q0i a0 a1c0 a1c1c0 a1c2 a1c3)
noncomputable def zk3 (a0 : (List S_api_Step)) (a1 : V) (a2c0 : Int) : Option (V × Int × Int) := z2w C_q1b.F (.k_q07 a0 a1 a2c0)
abbrev Z6m := fun (g : ∀ i : C_q1b, Option i.R) a0 a1 a2 a3c0 a4 a5 => g (.k_q1b a0 a1 a2 a3c0 a4 a5)
theorem Z6d (a0 a1 a2 a3c0 a4 a5 : _) : CM (ρ := C_q1b.R) (fun g => g (C_q1b.k_q1b a0 a1 a2 a3c0 a4 a5)) := z17
abbrev Z6l := fun (g : ∀ i : C_q1b, Option i.R) a0 a1c0 a1c1c0 a1c2 a1c3 => g (.k_q0i a0 a1c0 a1c1c0 a1c2 a1c3)
theorem Z6c (a0 a1c0 a1c1c0 a1c2 a1c3 : _) : CM (ρ := C_q1b.R) (fun g => g (C_q1b.k_q0i a0 a1c0 a1c1c0 a1c2 a1c3)) := z17
abbrev Z6k := fun (g : ∀ i : C_q1b, Option i.R) a0 a1 a2c0 => g (.k_q07 a0 a1 a2c0)
theorem Z6b (a0 a1 a2c0 : _) : CM (ρ := C_q1b.R) (fun g => g (C_q1b.k_q07 a0 a1 a2c0)) := z17
theorem C_q1b.cm (i : C_q1b) : CM (fun g : (∀ i : C_q1b, Option i.R) => C_q1b.F g i) := by
 cases i with
 | k_q1b a0 a1 a2 a3c0 a4 a5 => exact zwa Z6m Z6d Z6l Z6c Z6k Z6b a0 a1 a2 a3c0 a4 a5
 | k_q0i a0 a1c0 a1c1c0 a1c2 a1c3 => exact zwk Z6m Z6d Z6l Z6c Z6k Z6b a0 a1c0 a1c1c0 a1c2 a1c3
 | k_q07 a0 a1 a2c0 => exact zwo Z6m Z6d Z6l Z6c Z6k Z6b a0 a1 a2c0
theorem Z7x (a0 : S_api_Step) (a1 : V) (a2 : (List S_api_Step)) (a3c0 a4 : Int) (a5 : V) : zjy a0 a1 a2 a3c0 a4 a5 = zku zjy zqw zk3 a0 a1 a2 a3c0 a4 a5 := z19 C_q1b.cm (.k_q1b a0 a1 a2 a3c0 a4 a5)
theorem Z86 (a0 : V) (a1c0 : (List S_api_Step)) (a1c1c0 a1c2 : Int) (a1c3 : V) : zqw a0 a1c0 a1c1c0 a1c2 a1c3 = zl2 zjy zqw zk3 a0 a1c0 a1c1c0 a1c2 a1c3 := z19 C_q1b.cm (.k_q0i a0 a1c0 a1c1c0 a1c2 a1c3)
theorem Z8a (a0 : (List S_api_Step)) (a1 : V) (a2c0 : Int) : zk3 a0 a1 a2c0 = zl5 zjy zqw zk3 a0 a1 a2c0 := z19 C_q1b.cm (.k_q07 a0 a1 a2c0)
def C_q1b.Q : ∀ i : C_q1b, i.R → Prop
 | .k_q1b a0 a1 a2 a3c0 a4 a5 => fun (r : (Bool × Int × Int × V)) => z18 Tryz.prog 88 [(z00 a0), (ofV a1), (PV.pt 30 (PV.sl none 83 3 (List.map z00 a2)) 0), (PV.rf 0 0), (PV.rf 2 0), (PV.rf 3 0)] [.box 60 [(PV.fn (.func 24) [] [(PV.rf 1 0)])], .box 3 [(I64 a3c0)], .box 33 [(I64 a4)], .box 20 [(ofV a5)]] (BO r.1) [.box 60 [(PV.fn (.func 24) [] [(PV.rf 1 0)])], .box 3 [(I64 r.2.1)], .box 33 [(I64 r.2.2.1)], .box 20 [(ofV r.2.2.2)]]
 | .k_q0i a0 a1c0 a1c1c0 a1c2 a1c3 => fun (r : (Int × Int × V)) => z18 Tryz.prog 84 [(ofV a0), (PV.fn (.func 88) [] [(PV.pt 30 (PV.sl none 83 3 (List.map z00 a1c0)) 0), (PV.rf 0 0), (PV.rf 2 0), (PV.rf 3 0)])] [.box 60 [(PV.fn (.func 24) [] [(PV.rf 1 0)])], .box 3 [(I64 a1c1c0)], .box 33 [(I64 a1c2)], .box 20 [(ofV a1c3)]] (PV.tup []) [.box 60 [(PV.fn (.func 24) [] [(PV.rf 1 0)])], .box 3 [(I64 r.1)], .box 33 [(I64 r.2.1)], .box 20 [(ofV r.2.2)]]
 | .k_q07 a0 a1 a2c0 => fun (r : (V × Int × Int)) => z18 Tryz.prog 51 [(PV.sl none 83 3 (List.map z00 a0)), (ofV a1), (PV.fn (.func 24) [] [(PV.rf 0 0)])] [.box 3 [(I64 a2c0)]] (PV.tup [(ofV r.1), (I64 r.2.1)]) [.box 3 [(I64 r.2.2)]]
theorem zcd (r_q1b : S_api_Step → V → (List S_api_Step) → Int → Int → V → Option (Bool × Int × Int × V)) (c_q1b : ∀ (a0 : S_api_Step) (a1 : V) (a2 : (List S_api_Step)) (a3c0 : Int) (a4 : Int) (a5 : V) r, r_q1b a0 a1 a2 a3c0 a4 a5 = some r → z18 Tryz.prog 88 [(z00 a0), (ofV a1), (PV.pt 30 (PV.sl none 83 3 (List.map z00 a2)) 0), (PV.rf 0 0), (PV.rf 2 0), (PV.rf 3 0)] [.box 60 [(PV.fn (.func 24) [] [(PV.rf 1 0)])], .box 3 [(I64 a3c0)], .box 33 [(I64 a4)], .box 20 [(ofV a5)]] (BO r.1) [.box 60 [(PV.fn (.func 24) [] [(PV.rf 1 0)])], .box 3 [(I64 r.2.1)], .box 33 [(I64 r.2.2.1)], .box 20 [(ofV r.2.2.2)]]) (r_q0i : V → (List S_api_Step) → Int → Int → V → Option (Int × Int × V)) (c_q0i : ∀ (a0 : V) (a1c0 : (List S_api_Step)) (a1c1c0 : Int) (a1c2 : Int) (a1c3 : V) r, r_q0i a0 a1c0 a1c1c0 a1c2 a1c3 = some r → z18 Tryz.prog 84 [(ofV a0), (PV.fn (.func 88) [] [(PV.pt 30 (PV.sl none 83 3 (List.map z00 a1c0)) 0), (PV.rf 0 0), (PV.rf 2 0), (PV.rf 3 0)])] [.box 60 [(PV.fn (.func 24) [] [(PV.rf 1 0)])], .box 3 [(I64 a1c1c0)], .box 33 [(I64 a1c2)], .box 20 [(ofV a1c3)]] (PV.tup []) [.box 60 [(PV.fn (.func 24) [] [(PV.rf 1 0)])], .box 3 [(I64 r.1)], .box 33 [(I64 r.2.1)], .box 20 [(ofV r.2.2)]]) (r_q07 : (List S_api_Step) → V → Int → Option (V × Int × Int)) (c_q07 : ∀ (a0 : (List S_api_Step)) (a1 : V) (a2c0 : Int) r, r_q07 a0 a1 a2c0 = some r → z18 Tryz.prog 51 [(PV.sl none 83 3 (List.map z00 a0)), (ofV a1), (PV.fn (.func 24) [] [(PV.rf 0 0)])] [.box 3 [(I64 a2c0)]] (PV.tup [(ofV r.1), (I64 r.2.1)]) [.box 3 [(I64 r.2.2)]]) (a0 : S_api_Step) (a1 : V) (a2 : (List S_api_Step)) (a3c0 a4 : Int) (a5 : V) (r : (Bool × Int × Int × V)) (h : zku r_q1b r_q0i r_q07 a0 a1 a2 a3c0 a4 a5 = some r) : z18 Tryz.prog 88 [(z00 a0), (ofV a1), (PV.pt 30 (PV.sl none 83 3 (List.map z00 a2)) 0), (PV.rf 0 0), (PV.rf 2 0), (PV.rf 3 0)] [.box 60 [(PV.fn (.func 24) [] [(PV.rf 1 0)])], .box 3 [(I64 a3c0)], .box 33 [(I64 a4)], .box 20 [(ofV a5)]] (BO r.1) [.box 60 [(PV.fn (.func 24) [] [(PV.rf 1 0)])], .box 3 [(I64 r.2.1)], .box 33 [(I64 r.2.2.1)], .box 20 [(ofV r.2.2.2)]] := by
 unfold zku at h
 refine z0d Tryz.func88 rfl Tryz.ntmps88 Tryz.results88 rfl (z0g ?_)
 change BW _ _ _ ⟨[(0, (z00 a0)), (1, (ofV a1)), (2, (PV.pt 30 (PV.sl none 83 3 (List.map z00 a2)) 0)), (3, (PV.rf 0 0)), (4, (PV.rf 2 0)), (5, (PV.rf 3 0))], [.box 60 [(PV.fn (.func 24) [] [(PV.rf 1 0)])], .box 3 [(I64 a3c0)], .box 33 [(I64 a4)], .box 20 [(ofV a5)]], _⟩ _
 refine bR ?_
 refine sX ?_
 refine eX ?_
 refine z08 (z1l 12 [1, 4, 7] [0, 4] mo (by kernel_rfl) ?_)
 refine gX ?_
 obtain ⟨x1, hx1, h⟩ := obind h
 refine z41 rfl rfl rfl rfl (z49 rfl zvi rfl (wkr .nil) ⟨(z03 z02 a2), trivial⟩ (ztg a2 x1 hx1) (z67 (z0u z02 _) rfl) rfl) ⟨rfl, ⟨rfl, trivial⟩⟩ ?_
 refine gX ?_
 refine z1p rfl rfl rfl rfl (fun H hp => (z77 (xs := [(PV.agg [(z0i a0.f_Name), (BO a0.f_At), (I64 a0.f_Index)])]) Tryz.underlying30 z1h rfl rfl rfl rfl rfl rfl ⟨lbE rfl, lbE rfl⟩ rfl).cast (y := (PV.sl none 83 3 (List.map z00 ([a0] : (List S_api_Step))))) rfl rfl) ?_
 obtain ⟨x2, hx2, h⟩ := obind h
 refine z41 rfl rfl rfl rfl (z2l Tryz.underlying30 z1h rfl Tryz.underlying30 rfl rfl rfl rfl z2x z2j hx2 rfl) ⟨rfl, ⟨rfl, trivial⟩⟩ ?_
 iterate 2 refine gX ?_
 obtain ⟨x3, hx3, h⟩ := obind h
 refine z41 rfl rfl rfl rfl (Op1.cast (y := (PV.tup [(ofV x3.1), (I64 x3.2.1)])) (H'' := [.box 60 [(PV.fn (.func 24) [] [(PV.rf 1 0)])], .box 3 [(I64 x3.2.2)], .box 33 [(I64 a4)], .box 20 [(ofV a5)], .box 83 [(z0i a0.f_Name), (BO a0.f_At), (I64 a0.f_Index)], .arr 83 (x2).length]) (z1b [1] (.func rfl) Z3r rfl (.cons Wk.tok (wkr (wkr .nil))) rfl (.cons rfl (.box (.cons (.same rfl) .nil)) .nil) (.cons (.same (z03 z02 x2)) (.cons (.same (ids_V a1)) (.cons (.fn (.cons (.rf rfl) .nil)) .nil))) (c_q07 x2 a1 a3c0 x3 hx3) (.same (z01 (ids_V x3.1) (z01 rfl z04))) (.cons (.box (.cons (.same rfl) .nil)) .nil) rfl) rfl rfl) ⟨rfl, ⟨rfl, trivial⟩⟩ ?_
 iterate 4 refine gX ?_
 refine z1u ?_
 change AO _ _ _ _ _
 refine eX ?_
 refine z2t (ι := V) (fun i => zhh x3 i = some r) (fun i => [(4, (PV.rf 2 0)), (5, (PV.rf 3 0)), (10, (I64 x3.2.1))]) (fun i => [.box 60 [(PV.fn (.func 24) [] [(PV.rf 1 0)])], .box 3 [(I64 x3.2.2)], .box 33 [(I64 x3.2.1)], .box 20 [(ofV i)]]) ?_ ?_ ?_
 intro i; exact ⟨lbE rfl, ⟨(il_rf rfl), ⟨(il_rf rfl), ⟨(z09 rfl), trivial⟩⟩⟩, ⟨⟨(il_fn (z0s (il_rf rfl) z24)), trivial⟩, ⟨⟨(z09 rfl), trivial⟩, ⟨⟨(z09 rfl), trivial⟩, ⟨⟨(z09 (ids_V _)), trivial⟩, trivial⟩⟩⟩⟩⟩
 rintro s4 h; replace h : zhh x3 s4 = some r := h; unfold zhh at h
 change BW _ _ _ ⟨[(4, (PV.rf 2 0)), (5, (PV.rf 3 0)), (10, (I64 x3.2.1))], [.box 60 [(PV.fn (.func 24) [] [(PV.rf 1 0)])], .box 3 [(I64 x3.2.2)], .box 33 [(I64 x3.2.1)], .box 20 [(ofV s4)]], _⟩ _
 refine bR ?_
 iterate 2 refine sX ?_
 refine eX ?_
 obtain rfl := eI h; exact z05 ⟨_, rfl, endR (y := (BO ((x3.2.1 == 0)))) 4 (Wk.refl _) rfl rfl (.same rfl) (.cons (.box (.cons (.fn (.cons (.rf rfl) .nil)) .nil)) (.cons (.box (.cons (.same rfl) .nil)) (.cons (.box (.cons (.same rfl) .nil)) (.cons (.box (.cons (.same (ids_V s4)) .nil)) .nil)))) ⟨rfl, rfl⟩⟩
 refine bR ?_
 refine sX ?_
 refine z0j rfl rfl (z0e z3x rfl rfl rfl rfl rfl rfl (lbE rfl) rfl) ?_
 refine z0a ?_
 refine cBx ?_
 refine bR ?_
 refine sX ?_
 refine eX ?_
 refine cX h rfl ?_ ?_
 intro hc5 h
 refine z0f ?_
 iterate 3 refine sX ?_
 obtain ⟨x6, hx6, h⟩ := obind h
 refine sS rfl rfl rfl (z06 rfl zvo rfl (wkr (wkr (wkr .nil))) ⟨(ids_V a5), ⟨(z02 a0), ⟨(ids_V x3.1), trivial⟩⟩⟩ (ztc a5 a0 x3.1 x6 hx6) (ids_V x6)) ?_
 refine z0j rfl rfl ((z0e z1t rfl rfl rfl rfl (z3t _) (csz_V _) (lbE rfl) (z4i _)).cast (H'' := [.box 60 [(PV.fn (.func 24) [] [(PV.rf 1 0)])], .box 3 [(I64 x3.2.2)], .box 33 [(I64 x3.2.1)], .box 20 [(ofV x6)], .box 83 [(z0i a0.f_Name), (BO a0.f_At), (I64 a0.f_Index)], .arr 83 (x2).length]) rfl (by rw [z0t]; rfl)) ?_
 refine z0a ?_
 exact ⟨rfl, x6, h, jN⟩
 intro hc5 h
 refine z07 ?_
 exact ⟨rfl, a5, h, jN⟩
theorem z59 (r_q1b : S_api_Step → V → (List S_api_Step) → Int → Int → V → Option (Bool × Int × Int × V)) (c_q1b : ∀ (a0 : S_api_Step) (a1 : V) (a2 : (List S_api_Step)) (a3c0 : Int) (a4 : Int) (a5 : V) r, r_q1b a0 a1 a2 a3c0 a4 a5 = some r → z18 Tryz.prog 88 [(z00 a0), (ofV a1), (PV.pt 30 (PV.sl none 83 3 (List.map z00 a2)) 0), (PV.rf 0 0), (PV.rf 2 0), (PV.rf 3 0)] [.box 60 [(PV.fn (.func 24) [] [(PV.rf 1 0)])], .box 3 [(I64 a3c0)], .box 33 [(I64 a4)], .box 20 [(ofV a5)]] (BO r.1) [.box 60 [(PV.fn (.func 24) [] [(PV.rf 1 0)])], .box 3 [(I64 r.2.1)], .box 33 [(I64 r.2.2.1)], .box 20 [(ofV r.2.2.2)]]) (r_q0i : V → (List S_api_Step) → Int → Int → V → Option (Int × Int × V)) (c_q0i : ∀ (a0 : V) (a1c0 : (List S_api_Step)) (a1c1c0 : Int) (a1c2 : Int) (a1c3 : V) r, r_q0i a0 a1c0 a1c1c0 a1c2 a1c3 = some r → z18 Tryz.prog 84 [(ofV a0), (PV.fn (.func 88) [] [(PV.pt 30 (PV.sl none 83 3 (List.map z00 a1c0)) 0), (PV.rf 0 0), (PV.rf 2 0), (PV.rf 3 0)])] [.box 60 [(PV.fn (.func 24) [] [(PV.rf 1 0)])], .box 3 [(I64 a1c1c0)], .box 33 [(I64 a1c2)], .box 20 [(ofV a1c3)]] (PV.tup []) [.box 60 [(PV.fn (.func 24) [] [(PV.rf 1 0)])], .box 3 [(I64 r.1)], .box 33 [(I64 r.2.1)], .box 20 [(ofV r.2.2)]]) (r_q07 : (List S_api_Step) → V → Int → Option (V × Int × Int)) (c_q07 : ∀ (a0 : (List S_api_Step)) (a1 : V) (a2c0 : Int) r, r_q07 a0 a1 a2c0 = some r → z18 Tryz.prog 51 [(PV.sl none 83 3 (List.map z00 a0)), (ofV a1), (PV.fn (.func 24) [] [(PV.rf 0 0)])] [.box 3 [(I64 a2c0)]] (PV.tup [(ofV r.1), (I64 r.2.1)]) [.box 3 [(I64 r.2.2)]]) (a0 : V) (a1c0 : (List S_api_Step)) (a1c1c0 a1c2 : Int) (a1c3 : V) (r : (Int × Int × V)) (h : zl2 r_q1b r_q0i r_q07 a0 a1c0 a1c1c0 a1c2 a1c3 = some r) : z18 Tryz.prog 84 [(ofV a0), (PV.fn (.func 88) [] [(PV.pt 30 (PV.sl none 83 3 (List.map z00 a1c0)) 0), (PV.rf 0 0), (PV.rf 2 0), (PV.rf 3 0)])] [.box 60 [(PV.fn (.func 24) [] [(PV.rf 1 0)])], .box 3 [(I64 a1c1c0)], .box 33 [(I64 a1c2)], .box 20 [(ofV a1c3)]] (PV.tup []) [.box 60 [(PV.fn (.func 24) [] [(PV.rf 1 0)])], .box 3 [(I64 r.1)], .box 33 [(I64 r.2.1)], .box 20 [(ofV r.2.2)]] := by
 unfold zl2 at h
 refine z0d Tryz.func84 rfl Tryz.ntmps84 Tryz.results84 rfl (z0g ?_)
 change BW _ _ _ ⟨[(0, (ofV a0)), (1, (PV.fn (.func 88) [] [(PV.pt 30 (PV.sl none 83 3 (List.map z00 a1c0)) 0), (PV.rf 0 0), (PV.rf 2 0), (PV.rf 3 0)]))], [.box 60 [(PV.fn (.func 24) [] [(PV.rf 1 0)])], .box 3 [(I64 a1c1c0)], .box 33 [(I64 a1c2)], .box 20 [(ofV a1c3)]], _⟩ _
 refine z2t (ι := (Int × Int × V)) (fun i => z9j r_q1b a0 a1c0 i.1 i.2.1 i.2.2 = some r) (fun i => [(0, (ofV a0)), (1, (PV.fn (.func 88) [] [(PV.pt 30 (PV.sl none 83 3 (List.map z00 a1c0)) 0), (PV.rf 0 0), (PV.rf 2 0), (PV.rf 3 0)]))]) (fun i => [.box 60 [(PV.fn (.func 24) [] [(PV.rf 1 0)])], .box 3 [(I64 i.1)], .box 33 [(I64 i.2.1)], .box 20 [(ofV i.2.2)]]) ?_ ?_ ?_
 intro i; exact ⟨lbE rfl, ⟨(z09 (ids_V _)), ⟨(il_fn (z0s (z09 (z13 (z03 z02 a1c0))) (z0s (il_rf rfl) (z0s (il_rf rfl) (z0s (il_rf rfl) z24))))), trivial⟩⟩, ⟨⟨(il_fn (z0s (il_rf rfl) z24)), trivial⟩, ⟨⟨(z09 rfl), trivial⟩, ⟨⟨(z09 rfl), trivial⟩, ⟨⟨(z09 (ids_V _)), trivial⟩, trivial⟩⟩⟩⟩⟩
 rintro ⟨s1, s2, s3⟩ h; replace h : z9j r_q1b a0 a1c0 s1 s2 s3 = some r := h; unfold z9j at h
 change BW _ _ _ ⟨[(0, (ofV a0)), (1, (PV.fn (.func 88) [] [(PV.pt 30 (PV.sl none 83 3 (List.map z00 a1c0)) 0), (PV.rf 0 0), (PV.rf 2 0), (PV.rf 3 0)]))], [.box 60 [(PV.fn (.func 24) [] [(PV.rf 1 0)])], .box 3 [(I64 s1)], .box 33 [(I64 s2)], .box 20 [(ofV s3)]], _⟩ _
 refine bR ?_
 refine sX ?_
 obtain ⟨x4, hx4, h⟩ := obind h
 refine sS rfl rfl rfl (z06 rfl zvg rfl (wkr .nil) ⟨(ids_V a0), trivial⟩ (ztf a0 x4 hx4) (z01 (z03 z0r x4.1) (z01 rfl z04))) ?_
 iterate 4 refine sX ?_
 refine eX ?_
 refine bR ?_
 iterate 2 refine sX ?_
 refine eX ?_
 refine z0h ?_
 refine cBx ?_
 unfold zel at h
 refine z2u (σ := (Nat × Int × Int × V)) (fun i => [(1, (PV.fn (.func 88) [] [(PV.pt 30 (PV.sl none 83 3 (List.map z00 a1c0)) 0), (PV.rf 0 0), (PV.rf 2 0), (PV.rf 3 0)])), (37, (PV.sl none 69 2 (List.map ofFld x4.1))), (38, (I64 ((((x4.1).length : Nat) : Int)))), (39, (I64 (((i.1 : Nat) : Int))))]) (fun i => [.box 60 [(PV.fn (.func 24) [] [(PV.rf 1 0)])], .box 3 [(I64 i.2.1)], .box 33 [(I64 i.2.2.1)], .box 20 [(ofV i.2.2.2)]]) (0, s1, s2, s3) h ?_ ?_ ?_
 intro i; exact ⟨lbE rfl, ⟨(il_fn (z0s (z09 (z13 (z03 z02 a1c0))) (z0s (il_rf rfl) (z0s (il_rf rfl) (z0s (il_rf rfl) z24))))), ⟨(z09 (z03 z0r _)), ⟨(z09 rfl), ⟨(z09 rfl), trivial⟩⟩⟩⟩, ⟨⟨(il_fn (z0s (il_rf rfl) z24)), trivial⟩, ⟨⟨(z09 rfl), trivial⟩, ⟨⟨(z09 rfl), trivial⟩, ⟨⟨(z09 (ids_V _)), trivial⟩, trivial⟩⟩⟩⟩⟩
 exact jN
 rintro g1_f ⟨s5, s6, s7, s8⟩ h; replace h : z4e r_q1b a1c0 x4 (fun y0 y1 y2 y3 => g1_f (y0, y1, y2, y3)) s5 s6 s7 s8 = some r := h; unfold z4e at h
 change BW _ _ _ ⟨[(1, (PV.fn (.func 88) [] [(PV.pt 30 (PV.sl none 83 3 (List.map z00 a1c0)) 0), (PV.rf 0 0), (PV.rf 2 0), (PV.rf 3 0)])), (37, (PV.sl none 69 2 (List.map ofFld x4.1))), (38, (I64 ((((x4.1).length : Nat) : Int)))), (39, (I64 (((s5 : Nat) : Int))))], [.box 60 [(PV.fn (.func 24) [] [(PV.rf 1 0)])], .box 3 [(I64 s6)], .box 33 [(I64 s7)], .box 20 [(ofV s8)]], _⟩ _
 refine bR ?_
 refine eX ?_
 refine z08 ?_
 refine z3j (t := 37) rfl fun hb10 => ?_
 try rw [List.length_map] at hb10
 refine cX h rfl ?_ ?_
 intro hc9 h
 have hc9_ := of_decide_eq_true hc9
 refine z07 ?_
 refine cBx ?_
 refine z08 ?_
 refine z0h ?_
 refine cBx ?_
 refine bR ?_
 obtain ⟨x11, hx11, h⟩ := obind h
 refine sS rfl rfl rfl (z1r (i := s5) Tryz.underlying71 z0z rfl rfl rfl hx11 rfl) ?_
 refine sX ?_
 refine sS rfl rfl rfl ((z14 z0z rfl).cast (H'' := [.box 60 [(PV.fn (.func 24) [] [(PV.rf 1 0)])], .box 3 [(I64 s6)], .box 33 [(I64 s7)], .box 20 [(ofV s8)], .box 69 [(z0i []), (ofV V.nil)]]) rfl (by simp only [mk_nil]; rfl)) ?_
 refine z0j rfl rfl (z0e z0z rfl rfl rfl rfl rfl rfl (lbE rfl) (by show List.all [(z0i x11.1), (ofV x11.2)] z6n = true; simp only [List.all_cons, List.all_nil, zb5, z3v, Bool.and_true, Bool.true_and]; try rfl)) ?_
 refine z0a ?_
 refine cBx ?_
 refine bR ?_
 iterate 3 refine sX ?_
 refine sS rfl rfl rfl (z1g (cs := [(z0i x11.1), (BO false), (I64 0)]) z8e z1h rfl rfl rfl rfl) ?_
 iterate 2 refine sX ?_
 obtain ⟨x12, hx12, h⟩ := obind h
 refine sS rfl rfl rfl (Op1.cast (y := (BO x12.1)) (H'' := [.box 60 [(PV.fn (.func 24) [] [(PV.rf 1 0)])], .box 3 [(I64 x12.2.1)], .box 33 [(I64 x12.2.2.1)], .box 20 [(ofV x12.2.2.2)], .box 69 [(z0i x11.1), (ofV x11.2)]]) (z1b [0, 1, 2, 3] (.held rfl rfl) Z3i rfl (wkr (wkr (wkr (wkr (wkr (wkr .nil)))))) rfl (.cons rfl (.box (.cons (.fn (.cons (.rf rfl) .nil)) .nil)) (.cons rfl (.box (.cons (.same rfl) .nil)) (.cons rfl (.box (.cons (.same rfl) .nil)) (.cons rfl (.box (.cons (.same (ids_V s8)) .nil)) .nil)))) (.cons (.same (z02 (S_api_Step.mk x11.1 false 0))) (.cons (.same (ids_V x11.2)) (.cons (.same (z13 (z03 z02 a1c0))) (.cons (.rf rfl) (.cons (.rf rfl) (.cons (.rf rfl) .nil)))))) (c_q1b (S_api_Step.mk x11.1 false 0) x11.2 a1c0 s6 s7 s8 x12 hx12) (.same rfl) (.cons (.box (.cons (.fn (.cons (.rf rfl) .nil)) .nil)) (.cons (.box (.cons (.same rfl) .nil)) (.cons (.box (.cons (.same rfl) .nil)) (.cons (.box (.cons (.same (ids_V x12.2.2.2)) .nil)) .nil)))) rfl) rfl rfl) ?_
 refine eX ?_
 refine cX h rfl ?_ ?_
 intro hc13 h
 obtain rfl := eI h; exact z05 ⟨_, rfl, endR (y := (PV.tup [])) 4 (Wk.refl _) rfl rfl (.tup .nil) (.cons (.box (.cons (.fn (.cons (.rf rfl) .nil)) .nil)) (.cons (.box (.cons (.same rfl) .nil)) (.cons (.box (.cons (.same rfl) .nil)) (.cons (.box (.cons (.same (ids_V x12.2.2.2)) .nil)) .nil)))) ⟨rfl, rfl⟩⟩
 intro hc13 h
 refine z07 ?_
 refine cBx ?_
 refine z0f ?_
 refine sS rfl rfl rfl (z27 (k := s5) (c := 1) rfl rfl rfl (by omega)) ?_
 refine sX (z0a ?_)
 exact ⟨rfl, ((s5 + 1), x12.2.1, x12.2.2.1, x12.2.2.2), h, jN⟩
 intro hc9 h
 refine z1z ?_
 change ∃ xs, _ = some xs ∧ EndOk _ _ _ _
 obtain rfl := Option.some.inj h
 exact ⟨_, rfl, endR (y := (PV.tup [])) 4 (Wk.refl _) rfl rfl (.tup .nil) (.cons (.box (.cons (.fn (.cons (.rf rfl) .nil)) .nil)) (.cons (.box (.cons (.same rfl) .nil)) (.cons (.box (.cons (.same rfl) .nil)) (.cons (.box (.cons (.same (ids_V s8)) .nil)) .nil)))) ⟨rfl, rfl⟩⟩
 refine bR ?_
 refine sX ?_
 refine sS rfl rfl rfl (z1w rfl rfl) ?_
 iterate 4 refine sX ?_
 refine eX ?_
 refine bR ?_
 refine eX ?_
 refine cX h rfl ?_ ?_
 intro hc14 h
 refine bR ?_
 iterate 2 refine sX ?_
 refine eX ?_
 refine z0h ?_
 refine cBx ?_
 unfold zek at h
 refine z2u (σ := (Nat × Int × Int × V)) (fun i => [(0, (ofV a0)), (1, (PV.fn (.func 88) [] [(PV.pt 30 (PV.sl none 83 3 (List.map z00 a1c0)) 0), (PV.rf 0 0), (PV.rf 2 0), (PV.rf 3 0)])), (18, (PV.sl none 20 1 (List.map ofV (a0).asList))), (19, (I64 (((((a0).asList).length : Nat) : Int)))), (20, (I64 (((i.1 : Nat) : Int))))]) (fun i => [.box 60 [(PV.fn (.func 24) [] [(PV.rf 1 0)])], .box 3 [(I64 i.2.1)], .box 33 [(I64 i.2.2.1)], .box 20 [(ofV i.2.2.2)]]) (0, a1c1c0, a1c2, a1c3) h ?_ ?_ ?_
 intro i; exact ⟨lbE rfl, ⟨(z09 (ids_V _)), ⟨(il_fn (z0s (z09 (z13 (z03 z02 a1c0))) (z0s (il_rf rfl) (z0s (il_rf rfl) (z0s (il_rf rfl) z24))))), ⟨(z09 (z03 ids_V _)), ⟨(z09 rfl), ⟨(z09 rfl), trivial⟩⟩⟩⟩⟩, ⟨⟨(il_fn (z0s (il_rf rfl) z24)), trivial⟩, ⟨⟨(z09 rfl), trivial⟩, ⟨⟨(z09 rfl), trivial⟩, ⟨⟨(z09 (ids_V _)), trivial⟩, trivial⟩⟩⟩⟩⟩
 exact jN
 rintro g1_f ⟨s15, s16, s17, s18⟩ h; replace h : z5t r_q1b a0 a1c0 (fun y0 y1 y2 y3 => g1_f (y0, y1, y2, y3)) s15 s16 s17 s18 = some r := h; unfold z5t at h
 change BW _ _ _ ⟨[(0, (ofV a0)), (1, (PV.fn (.func 88) [] [(PV.pt 30 (PV.sl none 83 3 (List.map z00 a1c0)) 0), (PV.rf 0 0), (PV.rf 2 0), (PV.rf 3 0)])), (18, (PV.sl none 20 1 (List.map ofV (a0).asList))), (19, (I64 (((((a0).asList).length : Nat) : Int)))), (20, (I64 (((s15 : Nat) : Int))))], [.box 60 [(PV.fn (.func 24) [] [(PV.rf 1 0)])], .box 3 [(I64 s16)], .box 33 [(I64 s17)], .box 20 [(ofV s18)]], _⟩ _
 refine bR ?_
 refine eX ?_
 refine z08 ?_
 refine z3j (t := 18) rfl fun hb20 => ?_
 try rw [List.length_map] at hb20
 refine cX h rfl ?_ ?_
 intro hc19 h
 have hc19_ := of_decide_eq_true hc19
 refine z07 ?_
 refine cBx ?_
 refine z08 ?_
 refine z0h ?_
 refine cBx ?_
 refine bR ?_
 refine sX ?_
 obtain ⟨x21, hx21, h⟩ := obind h
 refine sS rfl rfl rfl (z1r (i := s15) Tryz.underlying67 z1t rfl rfl rfl hx21 rfl) ?_
 refine sS rfl rfl rfl (z1y (y := (ofV x21)) Tryz.underlying20 rfl rfl rfl (by rw [z0t]; rfl)) ?_
 refine sX ?_
 refine eX ?_
 refine bR ?_
 iterate 2 refine sX ?_
 refine sS rfl rfl rfl (z1g (cs := [(z0i []), (BO true), (I64 (((s15 : Nat) : Int)))]) z8e z1h rfl rfl rfl rfl) ?_
 refine sX ?_
 obtain ⟨x22, hx22, h⟩ := obind h
 refine sS rfl rfl rfl (Op1.cast (y := (BO x22.1)) (H'' := [.box 60 [(PV.fn (.func 24) [] [(PV.rf 1 0)])], .box 3 [(I64 x22.2.1)], .box 33 [(I64 x22.2.2.1)], .box 20 [(ofV x22.2.2.2)]]) (z1b [0, 1, 2, 3] (.held rfl rfl) Z3i rfl (wkr (wkr (wkr (wkr (wkr (wkr .nil)))))) rfl (.cons rfl (.box (.cons (.fn (.cons (.rf rfl) .nil)) .nil)) (.cons rfl (.box (.cons (.same rfl) .nil)) (.cons rfl (.box (.cons (.same rfl) .nil)) (.cons rfl (.box (.cons (.same (ids_V s18)) .nil)) .nil)))) (.cons (.same (z02 (S_api_Step.mk [] true ((s15 : Nat) : Int)))) (.cons (.same (ids_V x21)) (.cons (.same (z13 (z03 z02 a1c0))) (.cons (.rf rfl) (.cons (.rf rfl) (.cons (.rf rfl) .nil)))))) (c_q1b (S_api_Step.mk [] true ((s15 : Nat) : Int)) x21 a1c0 s16 s17 s18 x22 hx22) (.same rfl) (.cons (.box (.cons (.fn (.cons (.rf rfl) .nil)) .nil)) (.cons (.box (.cons (.same rfl) .nil)) (.cons (.box (.cons (.same rfl) .nil)) (.cons (.box (.cons (.same (ids_V x22.2.2.2)) .nil)) .nil)))) rfl) rfl rfl) ?_
 refine eX ?_
 refine cX h rfl ?_ ?_
 intro hc23 h
 obtain rfl := eI h; exact z05 ⟨_, rfl, endR (y := (PV.tup [])) 4 (Wk.refl _) rfl rfl (.tup .nil) (.cons (.box (.cons (.fn (.cons (.rf rfl) .nil)) .nil)) (.cons (.box (.cons (.same rfl) .nil)) (.cons (.box (.cons (.same rfl) .nil)) (.cons (.box (.cons (.same (ids_V x22.2.2.2)) .nil)) .nil)))) ⟨rfl, rfl⟩⟩
 intro hc23 h
 refine z07 ?_
 refine cBx ?_
 refine z0f ?_
 refine sS rfl rfl rfl (z27 (k := s15) (c := 1) rfl rfl rfl (by omega)) ?_
 refine sX (z0a ?_)
 exact ⟨rfl, ((s15 + 1), x22.2.1, x22.2.2.1, x22.2.2.2), h, jN⟩
 intro hc19 h
 refine z1z ?_
 exact ⟨rfl, (s16, s17, s18), h, jN⟩
 intro hc14 h
 refine z07 ?_
 exact ⟨rfl, (a1c1c0, a1c2, a1c3), h, jN⟩
theorem z4d (r_q1b : S_api_Step → V → (List S_api_Step) → Int → Int → V → Option (Bool × Int × Int × V)) (c_q1b : ∀ (a0 : S_api_Step) (a1 : V) (a2 : (List S_api_Step)) (a3c0 : Int) (a4 : Int) (a5 : V) r, r_q1b a0 a1 a2 a3c0 a4 a5 = some r → z18 Tryz.prog 88 [(z00 a0), (ofV a1), (PV.pt 30 (PV.sl none 83 3 (List.map z00 a2)) 0), (PV.rf 0 0), (PV.rf 2 0), (PV.rf 3 0)] [.box 60 [(PV.fn (.func 24) [] [(PV.rf 1 0)])], .box 3 [(I64 a3c0)], .box 33 [(I64 a4)], .box 20 [(ofV a5)]] (BO r.1) [.box 60 [(PV.fn (.func 24) [] [(PV.rf 1 0)])], .box 3 [(I64 r.2.1)], .box 33 [(I64 r.2.2.1)], .box 20 [(ofV r.2.2.2)]]) (r_q0i : V → (List S_api_Step) → Int → Int → V → Option (Int × Int × V)) (c_q0i : ∀ (a0 : V) (a1c0 : (List S_api_Step)) (a1c1c0 : Int) (a1c2 : Int) (a1c3 : V) r, r_q0i a0 a1c0 a1c1c0 a1c2 a1c3 = some r → z18 Tryz.prog 84 [(ofV a0), (PV.fn (.func 88) [] [(PV.pt 30 (PV.sl none 83 3 (List.map z00 a1c0)) 0), (PV.rf 0 0), (PV.rf 2 0), (PV.rf 3 0)])] [.box 60 [(PV.fn (.func 24) [] [(PV.rf 1 0)])], .box 3 [(I64 a1c1c0)], .box 33 [(I64 a1c2)], .box 20 [(ofV a1c3)]] (PV.tup []) [.box 60 [(PV.fn (.func 24) [] [(PV.rf 1 0)])], .box 3 [(I64 r.1)], .box 33 [(I64 r.2.1)], .box 20 [(ofV r.2.2)]]) (r_q07 : (List S_api_Step) → V → Int → Option (V × Int × Int)) (c_q07 : ∀ (a0 : (List S_api_Step)) (a1 : V) (a2c0 : Int) r, r_q07 a0 a1 a2c0 = some r → z18 Tryz.prog 51 [(PV.sl none 83 3 (List.map z00 a0)), (ofV a1), (PV.fn (.func 24) [] [(PV.rf 0 0)])] [.box 3 [(I64 a2c0)]] (PV.tup [(ofV r.1), (I64 r.2.1)]) [.box 3 [(I64 r.2.2)]]) (a0 : (List S_api_Step)) (a1 : V) (a2c0 : Int) (r : (V × Int × Int)) (h : zl5 r_q1b r_q0i r_q07 a0 a1 a2c0 = some r) : z18 Tryz.prog 51 [(PV.sl none 83 3 (List.map z00 a0)), (ofV a1), (PV.fn (.func 24) [] [(PV.rf 0 0)])] [.box 3 [(I64 a2c0)]] (PV.tup [(ofV r.1), (I64 r.2.1)]) [.box 3 [(I64 r.2.2)]] := by
 unfold zl5 at h
 refine z0d Tryz.func51 rfl Tryz.ntmps51 Tryz.results51 rfl (z0g ?_)
 change BW _ _ _ ⟨[(0, (PV.sl none 83 3 (List.map z00 a0))), (1, (ofV a1)), (2, (PV.fn (.func 24) [] [(PV.rf 0 0)]))], [.box 3 [(I64 a2c0)]], _⟩ _
 refine bR ?_
 iterate 3 refine sX ?_
 refine eX ?_
 refine z08 ?_
 refine z3p 1 3 (y := (PV.pt 30 (PV.sl none 83 3 (List.map z00 a0)) 0)) rfl rfl (Wk.pt (x := .agg [(PV.sl none 83 3 (List.map z00 a0))]) (y := (PV.sl none 83 3 (List.map z00 a0))) (wkr .nil)) ?_
 refine z0f ?_
 refine sX ?_
 refine sS rfl rfl rfl ((z14 z1t rfl).cast (H'' := [.box 3 [(I64 a2c0)], .dead, .box 60 [(PV.fn (.func 24) [] [(PV.rf 0 0)])], .box 20 [(ofV V.nil)]]) rfl (by simp only [mk_nil]; rfl)) ?_
 refine sS rfl rfl rfl (z14 z3x rfl) ?_
 refine z0j rfl rfl ((z0e z1t rfl rfl rfl rfl (z3t _) (csz_V _) (lbE rfl) (z4i _)).cast (H'' := [.box 3 [(I64 a2c0)], .dead, .box 60 [(PV.fn (.func 24) [] [(PV.rf 0 0)])], .box 20 [(ofV a1)], .box 33 [(I64 0)]]) rfl (by rw [z0t]; rfl)) ?_
 refine z0j rfl rfl (z0e z3x rfl rfl rfl rfl rfl rfl (lbE rfl) rfl) ?_
 refine z0a ?_
 refine cBx ?_
 refine bR ?_
 refine sX ?_
 refine sS rfl rfl rfl (z69 rfl rfl rfl) ?_
 obtain ⟨x1, hx1, h⟩ := obind h
 refine sS rfl rfl rfl (Op1.cast (y := (PV.tup [])) (H'' := [.box 3 [(I64 x1.1)], .dead, .box 60 [(PV.fn (.func 24) [] [(PV.rf 0 0)])], .box 20 [(ofV x1.2.2)], .box 33 [(I64 x1.2.1)]]) (z1b [2, 0, 4, 3] (.func rfl) Z01 rfl (wkr (wkr .nil)) rfl (.cons rfl (.box (.cons (.fn (.cons (.rf rfl) .nil)) .nil)) (.cons rfl (.box (.cons (.same rfl) .nil)) (.cons rfl (.box (.cons (.same rfl) .nil)) (.cons rfl (.box (.cons (.same (ids_V a1)) .nil)) .nil)))) (.cons (.same (ids_V a1)) (.cons (.fn (.cons (.same (z13 (z03 z02 a0))) (.cons (.rf rfl) (.cons (.rf rfl) (.cons (.rf rfl) .nil))))) .nil)) (c_q0i a1 a0 a2c0 0 a1 x1 hx1) (.same z04) (.cons (.box (.cons (.fn (.cons (.rf rfl) .nil)) .nil)) (.cons (.box (.cons (.same rfl) .nil)) (.cons (.box (.cons (.same rfl) .nil)) (.cons (.box (.cons (.same (ids_V x1.2.2)) .nil)) .nil)))) rfl) rfl rfl) (z0a ?_)
 refine cBx ?_
 refine z08 ?_
 refine bR ?_
 refine sX ?_
 refine eX ?_
 refine cX h rfl ?_ ?_
 intro hc2 h
 refine z08 (z1l 2 [] [4] mo (by kernel_rfl) ?_)
 iterate 2 refine gX ?_
 refine z1u ?_
 change AO _ _ _ _ _
 refine eX ?_
 obtain rfl := eI h; exact z05 ⟨_, rfl, endR (y := (PV.tup [(ofV V.nil), (I64 x1.2.1)])) 1 (Wk.tup (.cons (Wk.eq mk_nil.symm) (wkr .nil))) rfl rfl (.tup (.cons (.same (ids_V V.nil)) (.cons (.same rfl) .nil))) (.cons (.box (.cons (.same rfl) .nil)) .nil) ⟨rfl, rfl⟩⟩
 intro hc2 h
 refine z07 ?_
 refine cBx ?_
 refine bR ?_
 refine sS rfl rfl rfl ((z14 z1t rfl).cast (H'' := [.box 3 [(I64 x1.1)], .dead, .box 60 [(PV.fn (.func 24) [] [(PV.rf 0 0)])], .box 20 [(ofV x1.2.2)], .box 33 [(I64 x1.2.1)], .box 20 [(ofV V.nil)]]) rfl (by simp only [mk_nil]; rfl)) (z0a ?_)
 refine cBx ?_
 refine z08 ?_
 refine z08 ?_
 refine z3p 3 8 (y := (PV.pt 20 (ofV x1.2.2) 0)) rfl rfl (Wk.pt (x := .agg [(ofV x1.2.2)]) (y := (ofV x1.2.2)) (by rw [z0t]; exact (wkr .nil))) ?_
 refine z0f ?_
 refine sS rfl rfl rfl (z69 rfl rfl rfl) ?_
 obtain ⟨x3, hx3, h⟩ := obind h
 refine sS rfl rfl rfl (Op1.cast (y := (BO x3.1)) (H'' := [.box 3 [(I64 x3.2.1)], .dead, .box 60 [(PV.fn (.func 24) [] [(PV.rf 0 0)])], .dead, .box 33 [(I64 x3.2.2.2)], .box 20 [(ofV x3.2.2.1)]]) (z1b [2, 0, 5, 4] (.func rfl) Z02 rfl (wkr .nil) rfl (.cons rfl (.box (.cons (.fn (.cons (.rf rfl) .nil)) .nil)) (.cons rfl (.box (.cons (.same rfl) .nil)) (.cons rfl (.box (.cons (.same (ids_V V.nil)) .nil)) (.cons rfl (.box (.cons (.same rfl) .nil)) .nil)))) (.cons (.fn (.cons (.rf rfl) (.cons (.same (z13 (z03 z02 a0))) (.cons (.same (z13 (ids_V x1.2.2))) (.cons (.rf rfl) (.cons (.rf rfl) .nil)))))) .nil) (Z5m x1.1 a0 x1.2.2 V.nil x1.2.1 x3 hx3) (.same rfl) (.cons (.box (.cons (.fn (.cons (.rf rfl) .nil)) .nil)) (.cons (.box (.cons (.same rfl) .nil)) (.cons (.box (.cons (.same (ids_V x3.2.2.1)) .nil)) (.cons (.box (.cons (.same rfl) .nil)) .nil)))) rfl) rfl rfl) (z0a ?_)
 refine cBx ?_
 refine cX h rfl ?_ ?_
 intro hc4 h
 refine bR ?_
 refine sX ?_
 refine eX ?_
 obtain rfl := eI h; exact z05 ⟨_, rfl, endR (y := (PV.tup [(ofV V.nil), (I64 9)])) 1 (Wk.tup (.cons (Wk.eq mk_nil.symm) (wkr .nil))) rfl rfl (.tup (.cons (.same (ids_V V.nil)) (.cons (.same rfl) .nil))) (.cons (.box (.cons (.same rfl) .nil)) .nil) ⟨rfl, rfl⟩⟩
 intro hc4 h
 refine z07 ?_
 refine cBx ?_
 refine z08 ?_
 refine bR ?_
 refine sX ?_
 refine eX ?_
 refine cX h rfl ?_ ?_
 intro hc5 h
 refine z08 (z1l 2 [] [4] mo (by kernel_rfl) ?_)
 iterate 2 refine gX ?_
 refine z1u ?_
 change AO _ _ _ _ _
 refine eX ?_
 obtain rfl := eI h; exact z05 ⟨_, rfl, endR (y := (PV.tup [(ofV V.nil), (I64 x3.2.2.2)])) 1 (Wk.tup (.cons (Wk.eq mk_nil.symm) (wkr .nil))) rfl rfl (.tup (.cons (.same (ids_V V.nil)) (.cons (.same rfl) .nil))) (.cons (.box (.cons (.same rfl) .nil)) .nil) ⟨rfl, rfl⟩⟩
 intro hc5 h
 refine z07 ?_
 refine cBx ?_
 refine bR ?_
 refine sX ?_
 obtain ⟨x6, hx6, h⟩ := obind h
 refine sS rfl rfl rfl (z06 rfl zkh rfl (wkr .nil) ⟨(ids_V x3.2.2.1), trivial⟩ (zjh x3.2.2.1 x6 hx6) (z01 (ids_V x6.1) (z01 rfl z04))) ?_
 iterate 3 refine sX ?_
 refine eX ?_
 obtain rfl := eI h; exact z05 ⟨_, rfl, endR (y := (PV.tup [(ofV x6.1), (I64 x6.2)])) 1 (Wk.refl _) rfl rfl (.tup (.cons (.same (ids_V x6.1)) (.cons (.same rfl) .nil))) (.cons (.box (.cons (.same rfl) .nil)) .nil) ⟨rfl, rfl⟩⟩
theorem C_q1b.sound : ∀ (i : C_q1b) (r : i.R), z2w C_q1b.F i = some r → C_q1b.Q i r := by
 refine z3z (Φ := C_q1b.F) (Q := C_q1b.Q) ?_
 intro g hg i r h
 cases i with
 | k_q1b a0 a1 a2 a3c0 a4 a5 => exact zcd (fun a0 a1 a2 a3c0 a4 a5 => g (.k_q1b a0 a1 a2 a3c0 a4 a5)) (fun a0 a1 a2 a3c0 a4 a5 r hr => hg (.k_q1b a0 a1 a2 a3c0 a4 a5) r hr) (fun a0 a1c0 a1c1c0 a1c2 a1c3 => g (.k_q0i a0 a1c0 a1c1c0 a1c2 a1c3)) (fun a0 a1c0 a1c1c0 a1c2 a1c3 r hr => hg (.k_q0i a0 a1c0 a1c1c0 a1c2 a1c3) r hr) (fun a0 a1 a2c0 => g (.k_q07 a0 a1 a2c0)) (fun a0 a1 a2c0 r hr => hg (.k_q07 a0 a1 a2c0) r hr) a0 a1 a2 a3c0 a4 a5 r h
 | k_q0i a0 a1c0 a1c1c0 a1c2 a1c3 => exact z59 (fun a0 a1 a2 a3c0 a4 a5 => g (.k_q1b a0 a1 a2 a3c0 a4 a5)) (fun a0 a1 a2 a3c0 a4 a5 r hr => hg (.k_q1b a0 a1 a2 a3c0 a4 a5) r hr) (fun a0 a1c0 a1c1c0 a1c2 a1c3 => g (.k_q0i a0 a1c0 a1c1c0 a1c2 a1c3)) (fun a0 a1c0 a1c1c0 a1c2 a1c3 r hr => hg (.k_q0i a0 a1c0 a1c1c0 a1c2 a1c3) r hr) (fun a0 a1 a2c0 => g (.k_q07 a0 a1 a2c0)) (fun a0 a1 a2c0 r hr => hg (.k_q07 a0 a1 a2c0) r hr) a0 a1c0 a1c1c0 a1c2 a1c3 r h
 | k_q07 a0 a1 a2c0 => exact z4d (fun a0 a1 a2 a3c0 a4 a5 => g (.k_q1b a0 a1 a2 a3c0 a4 a5)) (fun a0 a1 a2 a3c0 a4 a5 r hr => hg (.k_q1b a0 a1 a2 a3c0 a4 a5) r hr) (fun a0 a1c0 a1c1c0 a1c2 a1c3 => g (.k_q0i a0 a1c0 a1c1c0 a1c2 a1c3)) (fun a0 a1c0 a1c1c0 a1c2 a1c3 r hr => hg (.k_q0i a0 a1c0 a1c1c0 a1c2 a1c3) r hr) (fun a0 a1 a2c0 => g (.k_q07 a0 a1 a2c0)) (fun a0 a1 a2c0 r hr => hg (.k_q07 a0 a1 a2c0) r hr) a0 a1 a2c0 r h
theorem Z5p (a0 : (List S_api_Step)) (a1 : V) (a2c0 : Int) (r : (V × Int × Int)) (h : zk3 a0 a1 a2c0 = some r) : z18 Tryz.prog 51 [(PV.sl none 83 3 (List.map z00 a0)), (ofV a1), (PV.fn (.func 24) [] [(PV.rf 0 0)])] [.box 3 [(I64 a2c0)]] (PV.tup [(ofV r.1), (I64 r.2.1)]) [.box 3 [(I64 r.2.2)]] := C_q1b.sound (.k_q07 a0 a1 a2c0) r h
noncomputable def zqx (a0 : V) (a1c0 : Int) : Option (V × Int × Int) :=
 (zd3 a0).bind fun x1 =>
 bif (x1.2 != 0) then (
 some (V.nil, x1.2, a1c0)
 ) else (
 (zk3 ([]) a0 a1c0).bind fun x3 =>
 bif (x3.2.1 != 0) then (
 some (V.nil, x3.2.1, x3.2.2)
 ) else (
 (z8q x3.1).bind fun x5 =>
 some (x5.1, x5.2, x3.2.2)
 )
 )
theorem Z5h (a0 : V) (a1c0 : Int) (r : (V × Int × Int)) (h : zqx a0 a1c0 = some r) : z18 Tryz.prog 23 [(ofV a0), (PV.fn (.func 24) [] [(PV.rf 0 0)])] [.box 3 [(I64 a1c0)]] (PV.tup [(ofV r.1), (I64 r.2.1)]) [.box 3 [(I64 r.2.2)]] := by
 unfold zqx at h
 refine z0d Tryz.func23 rfl Tryz.ntmps23 Tryz.results23 rfl (z0g ?_)
 change BW _ _ _ ⟨[(0, (ofV a0)), (1, (PV.fn (.func 24) [] [(PV.rf 0 0)]))], [.box 3 [(I64 a1c0)]], _⟩ _
 refine bR ?_
 refine sX ?_
 refine eX ?_
 refine z08 ?_
 refine bR ?_
 refine sX ?_
 obtain ⟨x1, hx1, h⟩ := obind h
 refine sS rfl rfl rfl (z06 rfl zki rfl (wkr .nil) ⟨(ids_V a0), trivial⟩ (zji a0 x1 hx1) (z01 rfl (z01 rfl z04))) ?_
 iterate 4 refine sX ?_
 refine eX ?_
 refine bR ?_
 refine sX ?_
 refine eX ?_
 refine cX h rfl ?_ ?_
 intro hc2 h
 refine bR ?_
 iterate 2 refine sX ?_
 refine eX ?_
 obtain rfl := eI h; exact z05 ⟨_, rfl, endR (y := (PV.tup [(ofV V.nil), (I64 x1.2)])) 1 (Wk.tup (.cons (Wk.eq mk_nil.symm) (wkr .nil))) rfl rfl (.tup (.cons (.same (ids_V V.nil)) (.cons (.same rfl) .nil))) (.cons (.box (.cons (.same rfl) .nil)) .nil) ⟨rfl, rfl⟩⟩
 intro hc2 h
 refine z07 ?_
 refine cBx ?_
 refine z08 ?_
 refine bR ?_
 refine sX ?_
 refine sS rfl rfl rfl (zfz Tryz.underlying60 ⟨_, _, _, rfl⟩ rfl rfl rfl (.inl ⟨rfl, rfl⟩)) (z0a ?_)
 refine cBx ?_
 refine z7c rfl ?_
 refine z07 ?_
 refine cBx ?_
 refine bR ?_
 iterate 2 refine sX ?_
 obtain ⟨x3, hx3, h⟩ := obind h
 refine sS rfl rfl rfl (Op1.cast (y := (PV.tup [(ofV x3.1), (I64 x3.2.1)])) (H'' := [.box 3 [(I64 x3.2.2)]]) (z1b [0] (.func rfl) Z3r rfl (.cons Wk.nil (wkr (wkr .nil))) rfl (.cons rfl (.box (.cons (.same rfl) .nil)) .nil) (.cons (.same (z03 z02 ([]))) (.cons (.same (ids_V a0)) (.cons (.fn (.cons (.rf rfl) .nil)) .nil))) (Z5p ([]) a0 a1c0 x3 hx3) (.same (z01 (ids_V x3.1) (z01 rfl z04))) (.cons (.box (.cons (.same rfl) .nil)) .nil) rfl) rfl rfl) ?_
 iterate 4 refine sX ?_
 refine eX ?_
 refine z08 ?_
 refine bR ?_
 refine sX ?_
 refine eX ?_
 refine cX h rfl ?_ ?_
 intro hc4 h
 refine bR ?_
 iterate 2 refine sX ?_
 refine eX ?_
 obtain rfl := eI h; exact z05 ⟨_, rfl, endR (y := (PV.tup [(ofV V.nil), (I64 x3.2.1)])) 1 (Wk.tup (.cons (Wk.eq mk_nil.symm) (wkr .nil))) rfl rfl (.tup (.cons (.same (ids_V V.nil)) (.cons (.same rfl) .nil))) (.cons (.box (.cons (.same rfl) .nil)) .nil) ⟨rfl, rfl⟩⟩
 intro hc4 h
 refine z07 ?_
 refine cBx ?_
 refine bR ?_
 refine sX ?_
 obtain ⟨x5, hx5, h⟩ := obind h
 refine sS rfl rfl rfl (z06 rfl zkh rfl (wkr .nil) ⟨(ids_V x3.1), trivial⟩ (zjh x3.1 x5 hx5) (z01 (ids_V x5.1) (z01 rfl z04))) ?_
 iterate 3 refine sX ?_
 refine eX ?_
 obtain rfl := eI h; exact z05 ⟨_, rfl, endR (y := (PV.tup [(ofV x5.1), (I64 x5.2)])) 1 (Wk.refl _) rfl rfl (.tup (.cons (.same (ids_V x5.1)) (.cons (.same rfl) .nil))) (.cons (.box (.cons (.same rfl) .nil)) .nil) ⟨rfl, rfl⟩⟩
noncomputable def zu5 (a0 : V) : Option Bool :=
 some true
theorem Z58 (a0 : V) (r : Bool) (h : zu5 a0 = some r) : z0m Tryz.prog 26 [(ofV a0)] (BO r) := by
 unfold zu5 at h
 refine z0d Tryz.func26 rfl Tryz.ntmps26 Tryz.results26 rfl (z0g ?_)
 change BW _ _ _ ⟨[(0, (ofV a0))], [], _⟩ _
 refine bR ?_
 refine eX ?_
 refine bR ?_
 refine eX ?_
 obtain rfl := eI h; exact z05 eK
noncomputable def zhd (s1 : (List (List S_api_Step))) : Option (Int × (List (List S_api_Step))) :=
 some (0, s1)
noncomputable def ztx (a0 : (List S_api_Step)) (a1 : V) (a3 : (List (List S_api_Step))) : Option (Int × (List (List S_api_Step))) :=
 (zu5 a1).bind fun x2 =>
 bif x2 then (
 (z8k 24 a3 ([a0] : (List (List S_api_Step)))).bind fun x4 =>
 zhd x4
 ) else (
 zhd a3
 )
theorem Z4v (a0 : (List S_api_Step)) (a1 : V) (a3 : (List (List S_api_Step))) (r : (Int × (List (List S_api_Step)))) (h : ztx a0 a1 a3 = some r) : z18 Tryz.prog 52 [(PV.sl none 83 3 (List.map z00 a0)), (ofV a1), (PV.rf 0 0), (PV.rf 1 0)] [.box 64 [(PV.fn (.func 26) [] [])], .box 61 [(PV.sl (some 2) 30 1 (List.map (ofSl 83 3 z00) a3))], .arr 30 (a3).length] (I64 r.1) [.box 64 [(PV.fn (.func 26) [] [])], .box 61 [(PV.sl (some 2) 30 1 (List.map (ofSl 83 3 z00) r.2))], .arr 30 (r.2).length] := by
 unfold ztx at h
 refine z0d Tryz.func52 rfl Tryz.ntmps52 Tryz.results52 rfl (z0g ?_)
 change BW _ _ _ ⟨[(0, (PV.sl none 83 3 (List.map z00 a0))), (1, (ofV a1)), (2, (PV.rf 0 0)), (3, (PV.rf 1 0))], [.box 64 [(PV.fn (.func 26) [] [])], .box 61 [(PV.sl (some 2) 30 1 (List.map (ofSl 83 3 z00) a3))], .arr 30 (a3).length], _⟩ _
 refine bR ?_
 refine eX ?_
 refine z2t (ι := (List (List S_api_Step))) (fun i => zhd i = some r) (fun i => [(3, (PV.rf 1 0))]) (fun i => [.box 64 [(PV.fn (.func 26) [] [])], .box 61 [(PV.sl (some 2) 30 1 (List.map (ofSl 83 3 z00) i))], .arr 30 (i).length]) ?_ ?_ ?_
 intro i; exact ⟨lbE rfl, ⟨(il_rf rfl), trivial⟩, ⟨⟨(z09 rfl), trivial⟩, ⟨⟨(z3r rfl (z0u (fun a => z03 (e := 83) (sz := 3) z02 a) _)), trivial⟩, trivial⟩⟩⟩
 rintro s1 h; replace h : zhd s1 = some r := h; unfold zhd at h
 change BW _ _ _ ⟨[(3, (PV.rf 1 0))], [.box 64 [(PV.fn (.func 26) [] [])], .box 61 [(PV.sl (some 2) 30 1 (List.map (ofSl 83 3 z00) s1))], .arr 30 (s1).length], _⟩ _
 refine bR ?_
 refine eX ?_
 obtain rfl := eI h; exact z05 ⟨_, rfl, endR (y := (I64 0)) 3 (Wk.refl _) rfl rfl (.same rfl) (.cons (.box (.cons (.fn .nil) .nil)) (.cons (.box (.cons (.row rfl (z0u (fun a => z03 (e := 83) (sz := 3) z02 a) s1)) .nil)) (.cons .arr .nil))) ⟨rfl, rfl⟩⟩
 refine bR ?_
 iterate 2 refine sX ?_
 obtain ⟨x2, hx2, h⟩ := obind h
 refine sS rfl rfl rfl (z4o rfl rfl Z7g rfl (wkr .nil) ⟨(ids_V a1), trivial⟩ (Z58 a1 x2 hx2) rfl) (z0a ?_)
 refine cBx ?_
 refine cX h rfl ?_ ?_
 intro hc3 h
 refine z0f ?_
 iterate 2 refine sX ?_
 refine sS rfl rfl rfl ((z1e (xs := [(PV.sl none 83 3 (List.map z00 a0))]) Tryz.underlying61 zxh rfl rfl rfl rfl rfl rfl ⟨lbE rfl, lbE rfl⟩ rfl).cast (y := (PV.sl (some 3) 30 1 (List.map (ofSl 83 3 z00) ([a0] : (List (List S_api_Step)))))) rfl rfl) ?_
 obtain ⟨x4, hx4, h⟩ := obind h
 refine sS rfl rfl rfl (z2l Tryz.underlying61 zxh rfl Tryz.underlying61 rfl rfl rfl rfl (fun _ => rfl) (fun _ => rfl) hx4 rfl) ?_
 refine z0j rfl rfl (z0e zxf rfl rfl rfl rfl rfl rfl (lbE rfl) rfl) ?_
 refine z0a ?_
 exact ⟨rfl, x4, h, jN⟩
 intro hc3 h
 refine z07 ?_
 exact ⟨rfl, a3, h, jN⟩
noncomputable def zty (a0c1 : (List (List S_api_Step))) (a1 : (List S_api_Step)) (a2 : V) (a3 : Int) : Option ((List (List S_api_Step)) × Int) :=
 (zfs a1).bind fun x1 =>
 (zjp a2).bind fun x2 =>
 (ztx x1 x2 a0c1).bind fun x3 =>
 some (x3.2, x3.1)
theorem Z4z (a0c1 : (List (List S_api_Step))) (a1 : (List S_api_Step)) (a2 : V) (a3 : Int) (r : ((List (List S_api_Step)) × Int)) (h : zty a0c1 a1 a2 a3 = some r) : z18 Tryz.prog 83 [(PV.rf 0 0), (PV.pt 30 (PV.sl none 83 3 (List.map z00 a1)) 0), (PV.pt 20 (ofV a2) 0), (PV.rf 4 0)] [.box 56 [(PV.fn (.func 52) [] [(PV.rf 1 0), (PV.rf 2 0)])], .box 64 [(PV.fn (.func 26) [] [])], .box 61 [(PV.sl (some 3) 30 1 (List.map (ofSl 83 3 z00) a0c1))], .arr 30 (a0c1).length, .box 3 [(I64 a3)]] (PV.tup []) [.box 56 [(PV.fn (.func 52) [] [(PV.rf 1 0), (PV.rf 2 0)])], .box 64 [(PV.fn (.func 26) [] [])], .box 61 [(PV.sl (some 3) 30 1 (List.map (ofSl 83 3 z00) r.1))], .arr 30 (r.1).length, .box 3 [(I64 r.2)]] := by
 unfold zty at h
 refine z0d Tryz.func83 rfl Tryz.ntmps83 Tryz.results83 rfl (z0g ?_)
 change BW _ _ _ ⟨[(0, (PV.rf 0 0)), (1, (PV.pt 30 (PV.sl none 83 3 (List.map z00 a1)) 0)), (2, (PV.pt 20 (ofV a2) 0)), (3, (PV.rf 4 0))], [.box 56 [(PV.fn (.func 52) [] [(PV.rf 1 0), (PV.rf 2 0)])], .box 64 [(PV.fn (.func 26) [] [])], .box 61 [(PV.sl (some 3) 30 1 (List.map (ofSl 83 3 z00) a0c1))], .arr 30 (a0c1).length, .box 3 [(I64 a3)]], _⟩ _
 refine z1l 5 [] [0] mo (by kernel_rfl) ?_
 iterate 2 refine gX ?_
 obtain ⟨x1, hx1, h⟩ := obind h
 refine z1p rfl rfl rfl rfl (fun H hp => z06 rfl zvm rfl (wkr .nil) ⟨(z03 z02 a1), trivial⟩ (zti a1 x1 hx1) (z03 z02 x1)) ?_
 refine z1p rfl rfl rfl rfl (fun H hp => z1y (y := (ofV a2)) Tryz.underlying20 rfl rfl rfl (by rw [z0t]; rfl)) ?_
 obtain ⟨x2, hx2, h⟩ := obind h
 refine z1p rfl rfl rfl rfl (fun H hp => z06 rfl Z07 rfl (wkr .nil) ⟨(ids_V a2), trivial⟩ (zyd a2 x2 hx2) (ids_V x2)) ?_
 refine z1u ?_
 change AO _ _ _ _ _
 obtain ⟨x3, hx3, h⟩ := obind h
 refine sS rfl rfl rfl (Op1.cast (y := (I64 x3.1)) (H'' := [.box 56 [(PV.fn (.func 52) [] [(PV.rf 1 0), (PV.rf 2 0)])], .box 64 [(PV.fn (.func 26) [] [])], .box 61 [(PV.sl (some 3) 30 1 (List.map (ofSl 83 3 z00) x3.2))], .arr 30 (x3.2).length, .box 3 [(I64 a3)]]) (z1b [1, 2, 3] (.held rfl rfl) Z79 rfl (wkr (wkr (wkr (wkr .nil)))) rfl (.cons rfl (.box (.cons (.fn .nil) .nil)) (.cons rfl (.box (.cons (.row rfl (z0u (fun a => z03 (e := 83) (sz := 3) z02 a) a0c1)) .nil)) (.cons rfl .arr .nil))) (.cons (.same (z03 z02 x1)) (.cons (.same (ids_V x2)) (.cons (.rf rfl) (.cons (.rf rfl) .nil)))) (Z4v x1 x2 a0c1 x3 hx3) (.same rfl) (.cons (.box (.cons (.fn .nil) .nil)) (.cons (.box (.cons (.row rfl (z0u (fun a => z03 (e := 83) (sz := 3) z02 a) x3.2)) .nil)) (.cons .arr .nil))) rfl) rfl rfl) ?_
 refine z0j rfl rfl (z0e z8f rfl rfl rfl rfl rfl rfl (lbE rfl) rfl) ?_
 refine z0a ?_
 change ∃ xs, _ = some xs ∧ EndOk _ _ _ _
 obtain rfl := Option.some.inj h
 exact ⟨_, rfl, endR (y := (PV.tup [])) 5 (Wk.refl _) rfl rfl (.tup .nil) (.cons (.box (.cons (.fn (.cons (.rf rfl) (.cons (.rf rfl) .nil))) .nil)) (.cons (.box (.cons (.fn .nil) .nil)) (.cons (.box (.cons (.row rfl (z0u (fun a => z03 (e := 83) (sz := 3) z02 a) x3.2)) .nil)) (.cons .arr (.cons (.box (.cons (.same rfl) .nil)) .nil))))) ⟨rfl, rfl⟩⟩
noncomputable def zqv (a0c0c1 : (List (List S_api_Step))) (a0c1 : (List S_api_Step)) (a0c2 : V) (a0c3 : Int) : Option (Bool × (List (List S_api_Step)) × Int) :=
 (zty a0c0c1 a0c1 a0c2 a0c3).bind fun x1 =>
 (zo4 false).bind fun x2 =>
 some (x2, x1.1, x1.2)
theorem Z5g (a0c0c1 : (List (List S_api_Step))) (a0c1 : (List S_api_Step)) (a0c2 : V) (a0c3 : Int) (r : (Bool × (List (List S_api_Step)) × Int)) (h : zqv a0c0c1 a0c1 a0c2 a0c3 = some r) : z18 Tryz.prog 82 [(PV.fn (.func 83) [] [(PV.rf 0 0), (PV.pt 30 (PV.sl none 83 3 (List.map z00 a0c1)) 0), (PV.pt 20 (ofV a0c2) 0), (PV.rf 4 0)])] [.box 56 [(PV.fn (.func 52) [] [(PV.rf 1 0), (PV.rf 2 0)])], .box 64 [(PV.fn (.func 26) [] [])], .box 61 [(PV.sl (some 3) 30 1 (List.map (ofSl 83 3 z00) a0c0c1))], .arr 30 (a0c0c1).length, .box 3 [(I64 a0c3)]] (BO r.1) [.box 56 [(PV.fn (.func 52) [] [(PV.rf 1 0), (PV.rf 2 0)])], .box 64 [(PV.fn (.func 26) [] [])], .box 61 [(PV.sl (some 3) 30 1 (List.map (ofSl 83 3 z00) r.2.1))], .arr 30 (r.2.1).length, .box 3 [(I64 r.2.2)]] := by
 unfold zqv at h
 refine z82 Tryz.func82 rfl Tryz.ntmps82 rfl ?_
 change DW _ _ _ _ _ ⟨[(0, (PV.fn (.func 83) [] [(PV.rf 0 0), (PV.pt 30 (PV.sl none 83 3 (List.map z00 a0c1)) 0), (PV.pt 20 (ofV a0c2) 0), (PV.rf 4 0)]))], [.box 56 [(PV.fn (.func 52) [] [(PV.rf 1 0), (PV.rf 2 0)])], .box 64 [(PV.fn (.func 26) [] [])], .box 61 [(PV.sl (some 3) 30 1 (List.map (ofSl 83 3 z00) a0c0c1))], .arr 30 (a0c0c1).length, .box 3 [(I64 a0c3)]], _⟩ _
 refine zf5 ?_
 refine cBx ?_
 refine z0f ?_
 refine sS rfl rfl rfl (z14 z3a rfl) (z0a ?_)
 change DW _ _ _ _ _ _ _
 refine zf5 ?_
 refine cBx ?_
 refine z0f ?_
 refine z0j rfl rfl (z0e z3a rfl rfl rfl rfl rfl rfl (lbE rfl) rfl) ?_
 refine z0a ?_
 change DW _ _ _ _ _ _ _
 refine zgc (caps := [.tmp 2]) rfl rfl rfl rfl rfl rfl rfl rfl ?_
 refine zsg zsf Tryz.results82 ?_
 refine cBx ?_
 refine bR ?_
 refine sX ?_
 obtain ⟨x1, hx1, h⟩ := obind h
 refine sS rfl rfl rfl (Op1.cast (y := (PV.tup [])) (H'' := [.box 56 [(PV.fn (.func 52) [] [(PV.rf 1 0), (PV.rf 2 0)])], .box 64 [(PV.fn (.func 26) [] [])], .box 61 [(PV.sl (some 3) 30 1 (List.map (ofSl 83 3 z00) x1.1))], .arr 30 (x1.1).length, .box 3 [(I64 x1.2)], .box 4 [(BO true)]]) (z1b [0, 1, 2, 3, 4] (.held rfl rfl) Z3k rfl (wkr (wkr (wkr (wkr .nil)))) rfl (.cons rfl (.box (.cons (.fn (.cons (.rf rfl) (.cons (.rf rfl) .nil))) .nil)) (.cons rfl (.box (.cons (.fn .nil) .nil)) (.cons rfl (.box (.cons (.row rfl (z0u (fun a => z03 (e := 83) (sz := 3) z02 a) a0c0c1)) .nil)) (.cons rfl .arr (.cons rfl (.box (.cons (.same rfl) .nil)) .nil))))) (.cons (.rf rfl) (.cons (.same (z13 (z03 z02 a0c1))) (.cons (.same (z13 (ids_V a0c2))) (.cons (.rf rfl) .nil)))) (Z4z a0c0c1 a0c1 a0c2 a0c3 x1 hx1) (.same z04) (.cons (.box (.cons (.fn (.cons (.rf rfl) (.cons (.rf rfl) .nil))) .nil)) (.cons (.box (.cons (.fn .nil) .nil)) (.cons (.box (.cons (.row rfl (z0u (fun a => z03 (e := 83) (sz := 3) z02 a) x1.1)) .nil)) (.cons .arr (.cons (.box (.cons (.same rfl) .nil)) .nil))))) rfl) rfl rfl) (z0a ?_)
 refine cBx ?_
 refine bR ?_
 refine z0j rfl rfl (z0e z3a rfl rfl rfl rfl rfl rfl (lbE rfl) rfl) ?_
 refine z0a ?_
 refine cBx ?_
 refine z05 ?_
 refine zdo ?_
 obtain ⟨x2, hx2, h⟩ := obind h
 obtain rfl := Option.some.inj h
 refine zkg [5] rfl (.cons rfl (.box (.cons (.same rfl) .nil)) .nil) (.cons (.rf rfl) .nil) (fun p hp => by cases hp) (zyh false x2 hx2) (.cons (.box (.cons (.same rfl) .nil)) .nil) rfl rfl ?_
 exact endR (y := (BO x2)) 5 (Wk.refl _) rfl rfl (.same rfl) (.cons (.box (.cons (.fn (.cons (.rf rfl) (.cons (.rf rfl) .nil))) .nil)) (.cons (.box (.cons (.fn .nil) .nil)) (.cons (.box (.cons (.row rfl (z0u (fun a => z03 (e := 83) (sz := 3) z02 a) x1.1)) .nil)) (.cons .arr (.cons (.box (.cons (.same rfl) .nil)) .nil))))) ⟨rfl, rfl⟩
end Go.Proofs.YthidgpcbnieleaaGreatDoor
