/- Pure functions, and that calls answer as they say. -/
import Derived.Test.YtiapdjdhaclmnaaG14
namespace Go.Proofs.Ytiapdjdhaclmnaa
open Go Aw
set_option linter.unusedVariables false
set_option maxRecDepth 20000
set_option maxHeartbeats 2000000
variable {ι : Type} {ρ : ι → Type}
noncomputable def z9n (a0 a1 : Typ) (s1 : Bool) : Option (Typ × Int) :=
 bif s1 then (
 some ((Typ.mk 0 0 (Term.mk 0 false 0 0 [] [] 0 [] [] [] 0) [] [] [] false []), 70)
 ) else (
 (z9w a0).bind fun x3 =>
 (z9w a1).bind fun x4 =>
 (z74 x3 x4).bind fun x5 =>
 bif x5 then (
 some (x4, 0)
 ) else (
 (z74 x4 x3).bind fun x7 =>
 bif x7 then (
 some (x3, 0)
 ) else (
 (zrx x3).bind fun x9 =>
 (z9f 264 ([] : (List Typ)) x9).bind fun x10 =>
 (zrx x4).bind fun x11 =>
 (z9f 264 x10 x11).bind fun x12 =>
 (zja (Typ.mk 7 0 (Term.mk 0 false 0 0 [] [] 0 [] [] [] 0) x12 [] [] false [])).bind fun x13 =>
 bif (!x13) then (
 some ((Typ.mk 0 0 (Term.mk 0 false 0 0 [] [] 0 [] [] [] 0) [] [] [] false []), 70)
 ) else (
 some ((Typ.mk 7 0 (Term.mk 0 false 0 0 [] [] 0 [] [] [] 0) x12 [] [] false []), 0)
 )
 )
 )
 )
noncomputable def zw2 (a0 a1 : Typ) : Option (Typ × Int) :=
 (zja a0).bind fun x15 =>
 bif (!x15) then (
 z9n a0 a1 true
 ) else (
 (zja a1).bind fun x17 =>
 z9n a0 a1 (!x17)
 )
theorem Zb1 (a0 a1 : Typ) (r : (Typ × Int)) (h : zw2 a0 a1 = some r) : z08 Try.prog 21 [(z02 a0), (z02 a1)] (PV.tup [(z02 r.1), (I64 r.2)]) := by
 unfold zw2 at h
 refine z0g Try.func21 rfl Try.ntmps21 Try.results21 rfl (z0q ?_)
 change BW _ _ _ ⟨[(0, (z02 a0)), (1, (z02 a1))], [], _⟩ _
 refine bR ?_
 iterate 2 refine sX ?_
 refine sS rfl rfl rfl (z16 z0u rfl) ?_
 refine eX ?_
 refine z09 ?_
 refine jX (ι := Bool) (fun i => z9n a0 a1 i = some r) (fun i => [(2, (PV.rf 0 0)), (3, (PV.rf 1 0)), (4, (PV.rf 2 0)), (14, (BO i))]) (fun i => [.box 34 (z0x a0), .box 34 (z0x a1), .box 34 z5d]) ?_ ?_
 rintro s1 h; replace h : z9n a0 a1 s1 = some r := h; unfold z9n at h
 change BW _ _ _ ⟨[(2, (PV.rf 0 0)), (3, (PV.rf 1 0)), (4, (PV.rf 2 0)), (14, (BO s1))], [.box 34 (z0x a0), .box 34 (z0x a1), .box 34 z5d], _⟩ _
 refine cX h rfl ?_ ?_
 intro hc2 h
 refine bR ?_
 refine sS rfl rfl rfl (z1x (cs := [(I64 0), (I64 0), (I64 0), (BO false), (I64 0), (PV.v (.float .f64 0)), (ofStr []), (PV.v (.slice none 0 0)), (PV.v (.int .u64 0)), (PV.v (.slice none 0 0)), (PV.v (.slice none 0 0)), (ofStr []), (I64 0), (PV.v (.slice none 0 0)), (PV.v (.slice none 0 0)), (PV.v (.slice none 0 0)), (BO false), (ofStr [])]) z5e z0u rfl rfl rfl rfl) ?_
 refine z0m rfl rfl (z0d z0u rfl rfl rfl rfl rfl rfl (lbE rfl) rfl) ?_
 refine eX ?_
 obtain rfl := eI h; exact z05 ⟨_, rfl, z1f (y := (PV.tup [(z02 (Typ.mk 0 0 (Term.mk 0 false 0 0 [] [] 0 [] [] [] 0) [] [] [] false [])), (I64 70)])) (Wk.tup (.cons (Wk.agg (wkr (wkr (wkr (wkr (wkr (wkr (wkr (wkn (wkr (wkn (wkn (wkr (wkr (wkn (wkn (wkn (wkr (wkr .nil))))))))))))))))))) (wkr .nil))) (z03 (z0b (Typ.mk 0 0 (Term.mk 0 false 0 0 [] [] 0 [] [] [] 0) [] [] [] false [])) (z03 rfl z0o)) ⟨rfl, rfl⟩⟩
 intro hc2 h
 refine z07 ?_
 refine cBx ?_
 refine z09 (z13 3 [] [0, 1] mo (by kernel_rfl) ?_)
 refine gX ?_
 obtain ⟨x3, hx3, h⟩ := obind h
 refine z1h rfl rfl rfl rfl (fun H hp => z04 rfl zsg rfl (wkr .nil) ⟨(z0b a0), trivial⟩ (zt4 a0 x3 hx3) (z0b x3)) ?_
 refine gX ?_
 refine z11 ?_
 change AO _ _ _ _ _
 obtain ⟨x4, hx4, h⟩ := obind h
 refine sS rfl rfl rfl (z04 rfl zsg rfl (wkr .nil) ⟨(z0b a1), trivial⟩ (zt4 a1 x4 hx4) (z0b x4)) ?_
 refine z0m rfl rfl (z0d z0u rfl rfl rfl rfl rfl rfl (lbE rfl) rfl) ?_
 refine z0m rfl rfl (z0d z0u rfl rfl rfl rfl rfl rfl (lbE rfl) rfl) ?_
 refine z06 ?_
 refine cBx ?_
 refine z09 ?_
 refine bR ?_
 iterate 2 refine sX ?_
 obtain ⟨x5, hx5, h⟩ := obind h
 refine sS rfl rfl rfl (z04 rfl zmg rfl (wkr (wkr .nil)) ⟨(z0b x3), ⟨(z0b x4), trivial⟩⟩ (Z4g x3 x4 x5 hx5) rfl) (z06 ?_)
 refine cBx ?_
 refine cX h rfl ?_ ?_
 intro hc6 h
 refine bR ?_
 refine sX ?_
 refine z0m rfl rfl (z0d z0u rfl rfl rfl rfl rfl rfl (lbE rfl) rfl) ?_
 refine eX ?_
 obtain rfl := eI h; exact z05 ⟨_, rfl, z1f (y := (PV.tup [(z02 x4), (I64 0)])) (Wk.refl _) (z03 (z0b x4) (z03 rfl z0o)) ⟨rfl, rfl⟩⟩
 intro hc6 h
 refine z07 ?_
 refine cBx ?_
 refine z09 ?_
 refine bR ?_
 iterate 2 refine sX ?_
 obtain ⟨x7, hx7, h⟩ := obind h
 refine sS rfl rfl rfl (z04 rfl zmg rfl (wkr (wkr .nil)) ⟨(z0b x4), ⟨(z0b x3), trivial⟩⟩ (Z4g x4 x3 x7 hx7) rfl) (z06 ?_)
 refine cBx ?_
 refine cX h rfl ?_ ?_
 intro hc8 h
 refine bR ?_
 refine sX ?_
 refine z0m rfl rfl (z0d z0u rfl rfl rfl rfl rfl rfl (lbE rfl) rfl) ?_
 refine eX ?_
 obtain rfl := eI h; exact z05 ⟨_, rfl, z1f (y := (PV.tup [(z02 x3), (I64 0)])) (Wk.refl _) (z03 (z0b x3) (z03 rfl z0o)) ⟨rfl, rfl⟩⟩
 intro hc8 h
 refine z07 ?_
 refine cBx ?_
 refine bR ?_
 refine sS rfl rfl rfl (z1x (cs := [(I64 7), (I64 0), (I64 0), (BO false), (I64 0), (PV.v (.float .f64 0)), (ofStr []), (PV.v (.slice none 0 0)), (PV.v (.int .u64 0)), (PV.v (.slice none 0 0)), (PV.v (.slice none 0 0)), (ofStr []), (I64 0), (PV.v (.slice none 0 0)), (PV.v (.slice none 0 0)), (PV.v (.slice none 0 0)), (BO false), (ofStr [])]) z5e z0u rfl rfl rfl rfl) ?_
 refine sS rfl rfl rfl (z16 z0u rfl) ?_
 refine z0m rfl rfl (z0d z0u rfl rfl rfl rfl rfl rfl (lbE rfl) rfl) ?_
 refine z06 ?_
 refine cBx ?_
 refine z09 (z13 5 [0, 3] [0, 1] mo (by kernel_rfl) ?_)
 refine z7e rfl rfl rfl rfl ((z1q (xs := []) Try.underlying30 z0u rfl rfl rfl rfl rfl rfl ⟨lbE rfl, lbE rfl⟩ rfl).cast (y := (PV.sl (some 4) 34 18 (List.map ofTyp ([] : (List Typ))))) rfl rfl) ⟨rfl, ⟨rfl, trivial⟩⟩ ?_
 refine gX ?_
 obtain ⟨x9, hx9, h⟩ := obind h
 refine z1h rfl rfl rfl rfl (fun H hp => z04 rfl Z9g rfl (wkr .nil) ⟨(z0b x3), trivial⟩ (Z7k x3 x9 hx9) (z0c z1m x9)) ?_
 obtain ⟨x10, hx10, h⟩ := obind h
 refine z7e rfl rfl rfl rfl (z3k Try.underlying30 z0u rfl Try.underlying30 rfl rfl rfl rfl zg4 z8x hx10 rfl) ⟨rfl, ⟨rfl, trivial⟩⟩ ?_
 refine gX ?_
 refine z11 ?_
 change AO _ _ _ _ _
 obtain ⟨x11, hx11, h⟩ := obind h
 refine sS rfl rfl rfl (z04 rfl Z9g rfl (wkr .nil) ⟨(z0b x4), trivial⟩ (Z7k x4 x11 hx11) (z0c z1m x11)) ?_
 obtain ⟨x12, hx12, h⟩ := obind h
 refine sS rfl rfl rfl (z3k Try.underlying30 z0u rfl Try.underlying30 rfl rfl rfl rfl zg4 z8x hx12 rfl) ?_
 refine sX ?_
 refine z0m rfl rfl (z0d zfv rfl rfl rfl rfl rfl rfl (lbE rfl) rfl) ?_
 refine z06 ?_
 refine cBx ?_
 refine z09 ?_
 refine bR ?_
 refine sX ?_
 obtain ⟨x13, hx13, h⟩ := obind h
 refine sS rfl rfl rfl (z04 rfl zxr rfl (.cons (Wk.agg (wkr (wkr (wkr (wkr (wkr (wkr (wkr (wkn (wkr (wkn (wkn (wkr (wkr (.cons Wk.tok (wkn (wkn (wkr (wkr .nil))))))))))))))))))) .nil) ⟨(z0b (Typ.mk 7 0 (Term.mk 0 false 0 0 [] [] 0 [] [] [] 0) x12 [] [] false [])), trivial⟩ (zt3 (Typ.mk 7 0 (Term.mk 0 false 0 0 [] [] 0 [] [] [] 0) x12 [] [] false []) x13 hx13) rfl) ?_
 refine eX ?_
 refine cX h rfl ?_ ?_
 intro hc14 h
 refine bR ?_
 refine sS rfl rfl rfl (z1x (cs := [(I64 0), (I64 0), (I64 0), (BO false), (I64 0), (PV.v (.float .f64 0)), (ofStr []), (PV.v (.slice none 0 0)), (PV.v (.int .u64 0)), (PV.v (.slice none 0 0)), (PV.v (.slice none 0 0)), (ofStr []), (I64 0), (PV.v (.slice none 0 0)), (PV.v (.slice none 0 0)), (PV.v (.slice none 0 0)), (BO false), (ofStr [])]) z5e z0u rfl rfl rfl rfl) ?_
 refine z0m rfl rfl (z0d z0u rfl rfl rfl rfl rfl rfl (lbE rfl) rfl) ?_
 refine eX ?_
 obtain rfl := eI h; exact z05 ⟨_, rfl, z1f (y := (PV.tup [(z02 (Typ.mk 0 0 (Term.mk 0 false 0 0 [] [] 0 [] [] [] 0) [] [] [] false [])), (I64 70)])) (Wk.tup (.cons (Wk.agg (wkr (wkr (wkr (wkr (wkr (wkr (wkr (wkn (wkr (wkn (wkn (wkr (wkr (wkn (wkn (wkn (wkr (wkr .nil))))))))))))))))))) (wkr .nil))) (z03 (z0b (Typ.mk 0 0 (Term.mk 0 false 0 0 [] [] 0 [] [] [] 0) [] [] [] false [])) (z03 rfl z0o)) ⟨rfl, rfl⟩⟩
 intro hc14 h
 refine z07 ?_
 refine cBx ?_
 refine bR ?_
 refine sX ?_
 refine z0m rfl rfl (z0d z0u rfl rfl rfl rfl rfl rfl (lbE rfl) rfl) ?_
 refine eX ?_
 obtain rfl := eI h; exact z05 ⟨_, rfl, z1f (y := (PV.tup [(z02 (Typ.mk 7 0 (Term.mk 0 false 0 0 [] [] 0 [] [] [] 0) x12 [] [] false [])), (I64 0)])) (Wk.tup (.cons (Wk.agg (wkr (wkr (wkr (wkr (wkr (wkr (wkr (wkn (wkr (wkn (wkn (wkr (wkr (.cons Wk.tok (wkn (wkn (wkr (wkr .nil))))))))))))))))))) (wkr .nil))) (z03 (z0b (Typ.mk 7 0 (Term.mk 0 false 0 0 [] [] 0 [] [] [] 0) x12 [] [] false [])) (z03 rfl z0o)) ⟨rfl, rfl⟩⟩
 refine z0a ?_
 refine sX ?_
 obtain ⟨x15, hx15, h⟩ := obind h
 refine sS rfl rfl rfl (z04 rfl zxr rfl (wkr .nil) ⟨(z0b a0), trivial⟩ (zt3 a0 x15 hx15) rfl) ?_
 iterate 2 refine sX ?_
 refine z0n (t := 10) rfl ?_ ?_
 intro hb16; replace h := z0j hb16 h
 iterate 3 refine nX ?_
 refine sX (z06 ?_)
 exact ⟨rfl, true, h, jN⟩
 intro hb16; replace h := z0k hb16 h
 refine yX ?_
 obtain ⟨x17, hx17, h⟩ := obind h
 refine z1g rfl rfl rfl rfl rfl rfl (z04 rfl zxr rfl (wkr .nil) ⟨(z0b a1), trivial⟩ (zt3 a1 x17 hx17) rfl) ?_
 refine yX ?_
 refine sX (z06 ?_)
 exact ⟨rfl, (!x17), h, jN⟩
noncomputable def z5x (r_q28 : Typ → Typ → Option Bool) (a0 a1 : Typ) (g1 : Nat → Option Bool) (s5 : Nat) : Option Bool :=
 bif (decide (((s5 : Nat) : Int) < (((a0.parts).length : Nat) : Int))) then (
 ((a0.parts)[s5]?).bind fun x8 =>
 ((a1.parts)[s5]?).bind fun x9 =>
 (r_q28 x8 x9).bind fun x10 =>
 bif (!x10) then (
 some false
 ) else (
 g1 (s5 + 1)
 )
 ) else (
 some true
 )
theorem zc2 (r_q28 : OF ρ → Typ → Typ → Option Bool) (h_r_q28 : ∀ y0 y1, CM (fun G => r_q28 G y0 y1)) (g1 : OF ρ → Nat → Option Bool) (h_g1 : ∀ y0, CM (fun G => g1 G y0)) (a0 a1 : Typ) (s5 : Nat) : CM (fun G : OF ρ => z5x (r_q28 G) a0 a1 (g1 G) s5) := by
 simp only [z5x]
 repeat (first | exact z01 | exact h_r_q28 _ _ | exact h_g1 _ | refine z0h ?_ ?_ | refine z0i ?_ (fun _ => ?_))
noncomputable def zes (r_q28 : Typ → Typ → Option Bool) (a0 a1 : Typ) (s5 : Nat) : Option Bool :=
 z22 (ι := Nat) (ρ := fun _ => Bool) (fun g i => z5x r_q28 a0 a1 (fun s5 => g s5) i) s5
theorem zkc (r_q28 : Typ → Typ → Option Bool) (a0 a1 : Typ) (s5 : Nat) : zes r_q28 a0 a1 s5 = z5x r_q28 a0 a1 (zes r_q28 a0 a1) s5 :=
 z0t (ι := Nat) (ρ := fun _ => Bool) (Φ := fun g i => z5x r_q28 a0 a1 (fun s5 => g s5) i) (fun i => zc2 (ι := Nat) (ρ := fun _ => Bool) (fun _ => r_q28) (fun _ _ => z01) (fun g => (fun s5 => g s5)) (fun _ => z0s) a0 a1 i) s5
theorem ztm (r_q28 : OF ρ → Typ → Typ → Option Bool) (h_r_q28 : ∀ y0 y1, CM (fun G => r_q28 G y0 y1)) (a0 a1 : Typ) (s5 : Nat) : CM (fun G : OF ρ => zes (r_q28 G) a0 a1 s5) :=
 z28 (κ := Nat) (τ := fun _ => Bool) (Φ := fun G g i => z5x (r_q28 G) a0 a1 (fun s5 => g s5) i) (fun g i => zc2 r_q28 h_r_q28 (fun _ => (fun s5 => g s5)) (fun _ => z01) a0 a1 i) (fun G i => zc2 (ι := Nat) (ρ := fun _ => Bool) (fun _ => r_q28 G) (fun _ _ => z01) (fun g => (fun s5 => g s5)) (fun _ => z0s) a0 a1 i) s5
noncomputable def zae (r_q28 : Typ → Typ → Option Bool) (a0 a1 : Typ) (s2 : Bool) : Option Bool :=
 bif s2 then (
 some true
 ) else (
 bif ((((a0.parts).length : Nat) : Int) != (((a1.parts).length : Nat) : Int)) then (
 some false
 ) else (
 zes r_q28 a0 a1 0
 )
 )
theorem ztp (r_q28 : OF ρ → Typ → Typ → Option Bool) (h_r_q28 : ∀ y0 y1, CM (fun G => r_q28 G y0 y1)) (a0 a1 : Typ) (s2 : Bool) : CM (fun G : OF ρ => zae (r_q28 G) a0 a1 s2) := by
 simp only [zae]
 repeat (first | exact z01 | exact h_r_q28 _ _ | apply ztm | refine z0h ?_ ?_ | refine z0i ?_ (fun _ => ?_) | intro _ | assumption)
noncomputable def z8j (r_q28 : Typ → Typ → Option Bool) (a0 a1 : Typ) : Option Bool :=
 bif (a0.kind != 5) then (
 bif (a0.kind != 7) then (
 zae r_q28 a0 a1 (a0.kind != 6)
 ) else (
 zae r_q28 a0 a1 false
 )
 ) else (
 zae r_q28 a0 a1 false
 )
theorem zkd (r_q28 : OF ρ → Typ → Typ → Option Bool) (h_r_q28 : ∀ y0 y1, CM (fun G => r_q28 G y0 y1)) (a0 a1 : Typ) : CM (fun G : OF ρ => z8j (r_q28 G) a0 a1) := by
 simp only [z8j]
 repeat (first | exact z01 | exact h_r_q28 _ _ | apply ztp | refine z0h ?_ ?_ | refine z0i ?_ (fun _ => ?_) | intro _ | assumption)
noncomputable def zac (g1 : Nat → Option Bool) (s21 : Nat) (s24 : Bool) : Option Bool :=
 bif s24 then (
 some false
 ) else (
 g1 (s21 + 1)
 )
theorem ztn (g1 : OF ρ → Nat → Option Bool) (h_g1 : ∀ y0, CM (fun G => g1 G y0)) (s21 : Nat) (s24 : Bool) : CM (fun G : OF ρ => zac (g1 G) s21 s24) := by
 simp only [zac]
 repeat (first | exact z01 | exact h_g1 _ | refine z0h ?_ ?_ | refine z0i ?_ (fun _ => ?_))
noncomputable def z5w (r_q28 : Typ → Typ → Option Bool) (a0 a1 : Typ) (g1 : Nat → Option Bool) (s21 : Nat) : Option Bool :=
 bif (decide (((s21 : Nat) : Int) < (((a0.names).length : Nat) : Int))) then (
 ((a0.names)[s21]?).bind fun x26 =>
 ((a1.names)[s21]?).bind fun x27 =>
 bif (!(x26 == x27)) then (
 zac g1 s21 true
 ) else (
 bif (decide (((s21 : Nat) : Int) < (((a0.lacks).length : Nat) : Int))) then (
 ((a0.lacks)[s21]?).bind fun x30 =>
 ((a1.lacks)[s21]?).bind fun x31 =>
 zac g1 s21 (!(x30 == x31))
 ) else (
 zac g1 s21 false
 )
 )
 ) else (
 z8j r_q28 a0 a1
 )
theorem zc1 (r_q28 : OF ρ → Typ → Typ → Option Bool) (h_r_q28 : ∀ y0 y1, CM (fun G => r_q28 G y0 y1)) (g1 : OF ρ → Nat → Option Bool) (h_g1 : ∀ y0, CM (fun G => g1 G y0)) (a0 a1 : Typ) (s21 : Nat) : CM (fun G : OF ρ => z5w (r_q28 G) a0 a1 (g1 G) s21) := by
 simp only [z5w]
 repeat (first | exact z01 | exact h_r_q28 _ _ | exact h_g1 _ | apply zkd | apply ztn | refine z0h ?_ ?_ | refine z0i ?_ (fun _ => ?_) | intro _ | assumption)
noncomputable def zh4 (r_q28 : Typ → Typ → Option Bool) (a0 a1 : Typ) (s21 : Nat) : Option Bool :=
 z22 (ι := Nat) (ρ := fun _ => Bool) (fun g i => z5w r_q28 a0 a1 (fun s21 => g s21) i) s21
theorem zkb (r_q28 : Typ → Typ → Option Bool) (a0 a1 : Typ) (s21 : Nat) : zh4 r_q28 a0 a1 s21 = z5w r_q28 a0 a1 (zh4 r_q28 a0 a1) s21 :=
 z0t (ι := Nat) (ρ := fun _ => Bool) (Φ := fun g i => z5w r_q28 a0 a1 (fun s21 => g s21) i) (fun i => zc1 (ι := Nat) (ρ := fun _ => Bool) (fun _ => r_q28) (fun _ _ => z01) (fun g => (fun s21 => g s21)) (fun _ => z0s) a0 a1 i) s21
theorem ztl (r_q28 : OF ρ → Typ → Typ → Option Bool) (h_r_q28 : ∀ y0 y1, CM (fun G => r_q28 G y0 y1)) (a0 a1 : Typ) (s21 : Nat) : CM (fun G : OF ρ => zh4 (r_q28 G) a0 a1 s21) :=
 z28 (κ := Nat) (τ := fun _ => Bool) (Φ := fun G g i => z5w (r_q28 G) a0 a1 (fun s21 => g s21) i) (fun g i => zc1 r_q28 h_r_q28 (fun _ => (fun s21 => g s21)) (fun _ => z01) a0 a1 i) (fun G i => zc1 (ι := Nat) (ρ := fun _ => Bool) (fun _ => r_q28 G) (fun _ _ => z01) (fun g => (fun s21 => g s21)) (fun _ => z0s) a0 a1 i) s21
noncomputable def zad (r_q28 : Typ → Typ → Option Bool) (a0 a1 : Typ) (s19 : Bool) : Option Bool :=
 bif s19 then (
 some false
 ) else (
 zh4 r_q28 a0 a1 0
 )
theorem zto (r_q28 : OF ρ → Typ → Typ → Option Bool) (h_r_q28 : ∀ y0 y1, CM (fun G => r_q28 G y0 y1)) (a0 a1 : Typ) (s19 : Bool) : CM (fun G : OF ρ => zad (r_q28 G) a0 a1 s19) := by
 simp only [zad]
 repeat (first | exact z01 | exact h_r_q28 _ _ | apply ztl | refine z0h ?_ ?_ | refine z0i ?_ (fun _ => ?_) | intro _ | assumption)
noncomputable def zo6 (r_q28 : Typ → Typ → Option Bool) (a0 a1 : Typ) : Option Bool :=
 bif (a0.kind != a1.kind) then (
 some false
 ) else (
 bif (a0.kind == 3) then (
 some (a0.of == a1.of)
 ) else (
 bif (a0.kind == 4) then (
 (z9x (a0.only) (a1.only)).bind fun x16 =>
 some (x16 == 0)
 ) else (
 bif (a0.kind == 8) then (
 some (a0.cls == a1.cls)
 ) else (
 bif (a0.kind == 6) then (
 bif (!(a0.opn == a1.opn)) then (
 zad r_q28 a0 a1 true
 ) else (
 bif ((((a0.names).length : Nat) : Int) != (((a1.names).length : Nat) : Int)) then (
 zad r_q28 a0 a1 true
 ) else (
 zad r_q28 a0 a1 ((((a0.lacks).length : Nat) : Int) != (((a1.lacks).length : Nat) : Int))
 )
 )
 ) else (
 z8j r_q28 a0 a1
 )
 )
 )
 )
 )
theorem Z18 (r_q28 : OF ρ → Typ → Typ → Option Bool) (h_r_q28 : ∀ y0 y1, CM (fun G => r_q28 G y0 y1)) (a0 a1 : Typ) : CM (fun G : OF ρ => zo6 (r_q28 G) a0 a1) := by
 simp only [zo6]
 repeat (first | exact z01 | exact h_r_q28 _ _ | apply zkd | apply zto | refine z0h ?_ ?_ | refine z0i ?_ (fun _ => ?_) | intro _ | assumption)
inductive C_q28 where
 | k_q28 (a0 : Typ) (a1 : Typ)
def C_q28.R : C_q28 → Type
 | .k_q28 _ _ => Bool
noncomputable def C_q28.F (g : ∀ i : C_q28, Option i.R) : ∀ i : C_q28, Option i.R
 | .k_q28 a0 a1 => zo6 (fun a0 a1 => g (.k_q28 a0 a1)) a0 a1
noncomputable def z7t (a0 a1 : Typ) : Option Bool := z22 C_q28.F (.k_q28 a0 a1)
abbrev Zfo := fun (g : ∀ i : C_q28, Option i.R) a0 a1 => g (.k_q28 a0 a1)
theorem Zfh (a0 a1 : _) : CM (ρ := C_q28.R) (fun g => g (C_q28.k_q28 a0 a1)) := z0s
theorem C_q28.cm (i : C_q28) : CM (fun g : (∀ i : C_q28, Option i.R) => C_q28.F g i) := by
 cases i with
 | k_q28 a0 a1 => exact Z18 Zfo Zfh a0 a1
theorem Zcw (a0 a1 : Typ) : z7t a0 a1 = zo6 z7t a0 a1 := z0t C_q28.cm (.k_q28 a0 a1)
def C_q28.Q : ∀ i : C_q28, i.R → Prop
 | .k_q28 a0 a1 => fun (r : Bool) => z08 Try.prog 22 [(z02 a0), (z02 a1)] (BO r)
theorem zk0 (r_q28 : Typ → Typ → Option Bool) (c_q28 : ∀ (a0 : Typ) (a1 : Typ) r, r_q28 a0 a1 = some r → z08 Try.prog 22 [(z02 a0), (z02 a1)] (BO r)) (a0 a1 : Typ) (r : Bool) (h : zo6 r_q28 a0 a1 = some r) : z08 Try.prog 22 [(z02 a0), (z02 a1)] (BO r) := by
 unfold zo6 at h
 refine z0g Try.func22 rfl Try.ntmps22 Try.results22 rfl (z0q ?_)
 change BW _ _ _ ⟨[(0, (z02 a0)), (1, (z02 a1))], [], _⟩ _
 refine bR ?_
 iterate 2 refine sX ?_
 refine eX ?_
 refine z09 ?_
 refine bR ?_
 iterate 4 refine sX ?_
 refine eX ?_
 refine cX h rfl ?_ ?_
 intro hc1 h
 refine bR ?_
 refine eX ?_
 obtain rfl := eI h; exact z05 eK
 intro hc1 h
 refine z07 ?_
 refine cBx ?_
 refine jX (ι := Unit) (fun i => z8j r_q28 a0 a1 = some r) (fun i => [(2, (PV.rf 0 0)), (3, (PV.rf 1 0))]) (fun i => [.box 34 (z0x a0), .box 34 (z0x a1)]) ?_ ?_
 rintro ⟨⟩ h; replace h : z8j r_q28 a0 a1 = some r := h; unfold z8j at h
 change BW _ _ _ ⟨[(2, (PV.rf 0 0)), (3, (PV.rf 1 0))], [.box 34 (z0x a0), .box 34 (z0x a1)], _⟩ _
 refine z09 ?_
 refine jX (ι := Bool) (fun i => zae r_q28 a0 a1 i = some r) (fun i => [(2, (PV.rf 0 0)), (3, (PV.rf 1 0)), (111, (BO i))]) (fun i => [.box 34 (z0x a0), .box 34 (z0x a1)]) ?_ ?_
 rintro s2 h; replace h : zae r_q28 a0 a1 s2 = some r := h; unfold zae at h
 change BW _ _ _ ⟨[(2, (PV.rf 0 0)), (3, (PV.rf 1 0)), (111, (BO s2))], [.box 34 (z0x a0), .box 34 (z0x a1)], _⟩ _
 refine cX h rfl ?_ ?_
 intro hc3 h
 refine bR ?_
 refine eX ?_
 obtain rfl := eI h; exact z05 eK
 intro hc3 h
 refine z07 ?_
 refine cBx ?_
 refine z09 ?_
 refine bR ?_
 iterate 6 refine sX ?_
 refine eX ?_
 refine cX h rfl ?_ ?_
 intro hc4 h
 refine bR ?_
 refine eX ?_
 obtain rfl := eI h; exact z05 eK
 intro hc4 h
 refine z07 ?_
 refine cBx ?_
 refine z09 ?_
 refine bR ?_
 refine eX ?_
 refine z0e ?_
 refine cBx ?_
 unfold zes at h
 refine lX (σ := Nat) (fun i => [(2, (PV.rf 0 0)), (3, (PV.rf 1 0)), (6, (I64 (((i : Nat) : Int))))]) (fun i => [.box 34 (z0x a0), .box 34 (z0x a1)]) 0 h ?_ ?_
 exact jN
 rintro g1_f s5 h; replace h : z5x r_q28 a0 a1 (fun y0 => g1_f y0) s5 = some r := h; unfold z5x at h
 change BW _ _ _ ⟨[(2, (PV.rf 0 0)), (3, (PV.rf 1 0)), (6, (I64 (((s5 : Nat) : Int))))], [.box 34 (z0x a0), .box 34 (z0x a1)], _⟩ _
 refine z09 ?_
 refine bR ?_
 iterate 4 refine sX ?_
 refine eX ?_
 refine z2f (t := 121) rfl fun hb7 => ?_
 try rw [List.length_map] at hb7
 refine cX h rfl ?_ ?_
 intro hc6 h
 have hc6_ := of_decide_eq_true hc6
 refine z07 ?_
 refine cBx ?_
 refine z09 ?_
 refine z0e ?_
 refine cBx ?_
 refine z09 (z13 10 [] [0, 1] mo (by kernel_rfl) ?_)
 iterate 3 refine gX ?_
 obtain ⟨x8, hx8, h⟩ := obind h
 refine z1h rfl rfl rfl rfl (fun H hp => z0w (i := s5) Try.underlying30 z0u rfl rfl rfl hx8 (z1c _)) ?_
 iterate 4 refine gX ?_
 obtain ⟨x9, hx9, h⟩ := obind h
 refine z1h rfl rfl rfl rfl (fun H hp => z0w (i := s5) Try.underlying30 z0u rfl rfl rfl hx9 (z1c _)) ?_
 refine gX ?_
 refine z11 ?_
 change AO _ _ _ _ _
 obtain ⟨x10, hx10, h⟩ := obind h
 refine sS rfl rfl rfl (z04 rfl zsh rfl (wkr (wkr .nil)) ⟨(z0b x8), ⟨(z0b x9), trivial⟩⟩ (c_q28 x8 x9 x10 hx10) rfl) ?_
 refine eX ?_
 refine cX h rfl ?_ ?_
 intro hc11 h
 refine bR ?_
 refine eX ?_
 obtain rfl := eI h; exact z05 eK
 intro hc11 h
 refine z07 ?_
 refine cBx ?_
 refine z0a ?_
 refine sX ?_
 refine sS rfl rfl rfl (z1b (k := s5) (c := 1) rfl rfl rfl (by omega)) ?_
 refine sX (z06 ?_)
 exact ⟨rfl, (s5 + 1), h, jN⟩
 intro hc6 h
 refine z1a ?_
 refine cBx ?_
 refine bR ?_
 refine eX ?_
 obtain rfl := eI h; exact z05 eK
 refine z0a ?_
 iterate 4 refine sX ?_
 refine z0n (t := 102) rfl ?_ ?_
 intro hb12; replace h := z0j hb12 h
 iterate 3 refine yX ?_
 iterate 2 refine sX ?_
 refine z0n (t := 107) rfl ?_ ?_
 intro hb13; replace h := z0j hb13 h
 iterate 3 refine yX ?_
 refine sX (z06 ?_)
 exact ⟨rfl, (a0.kind != 6), h, jN⟩
 intro hb13; replace h := z0k hb13 h
 iterate 3 refine nX ?_
 refine sX (z06 ?_)
 exact ⟨rfl, false, h, jN⟩
 intro hb12; replace h := z0k hb12 h
 iterate 3 refine nX ?_
 iterate 2 refine sX ?_
 iterate 3 refine nX ?_
 refine sX (z06 ?_)
 exact ⟨rfl, false, h, jN⟩
 refine bR ?_
 refine sX ?_
 refine eX ?_
 refine z0e ?_
 refine cBx ?_
 refine bR ?_
 refine sX ?_
 refine eX ?_
 refine cX h rfl ?_ ?_
 intro hc14 h
 refine bR ?_
 iterate 5 refine sX ?_
 refine eX ?_
 obtain rfl := eI h; exact z05 eK
 intro hc14 h
 refine bR ?_
 refine sX ?_
 refine eX ?_
 refine cX h rfl ?_ ?_
 intro hc15 h
 refine bR ?_
 iterate 4 refine sX ?_
 obtain ⟨x16, hx16, h⟩ := obind h
 refine sS rfl rfl rfl (z04 rfl Z0s rfl (wkr (wkr .nil)) ⟨(z10 (a0.only)), ⟨(z10 (a1.only)), trivial⟩⟩ (Z7i (a0.only) (a1.only) x16 hx16) rfl) ?_
 refine sX ?_
 refine eX ?_
 obtain rfl := eI h; exact z05 eK
 intro hc15 h
 refine bR ?_
 refine sX ?_
 refine eX ?_
 refine cX h rfl ?_ ?_
 intro hc17 h
 refine bR ?_
 iterate 4 refine sX ?_
 refine sS rfl rfl rfl ((z21 (a := a0.cls) (b := a1.cls) rfl rfl rfl rfl).cast (y := (BO ((a0.cls == a1.cls)))) rfl rfl) ?_
 refine eX ?_
 obtain rfl := eI h; exact z05 eK
 intro hc17 h
 refine bR ?_
 refine sX ?_
 refine eX ?_
 refine cX h rfl ?_ ?_
 intro hc18 h
 refine z09 ?_
 refine jX (ι := Bool) (fun i => zad r_q28 a0 a1 i = some r) (fun i => [(2, (PV.rf 0 0)), (3, (PV.rf 1 0)), (60, (BO i))]) (fun i => [.box 34 (z0x a0), .box 34 (z0x a1)]) ?_ ?_
 rintro s19 h; replace h : zad r_q28 a0 a1 s19 = some r := h; unfold zad at h
 change BW _ _ _ ⟨[(2, (PV.rf 0 0)), (3, (PV.rf 1 0)), (60, (BO s19))], [.box 34 (z0x a0), .box 34 (z0x a1)], _⟩ _
 refine cX h rfl ?_ ?_
 intro hc20 h
 refine bR ?_
 refine eX ?_
 obtain rfl := eI h; exact z05 eK
 intro hc20 h
 refine z07 ?_
 refine cBx ?_
 refine bR ?_
 refine eX ?_
 refine z0e ?_
 refine cBx ?_
 unfold zh4 at h
 refine lX (σ := Nat) (fun i => [(2, (PV.rf 0 0)), (3, (PV.rf 1 0)), (5, (I64 (((i : Nat) : Int))))]) (fun i => [.box 34 (z0x a0), .box 34 (z0x a1)]) 0 h ?_ ?_
 exact jN
 rintro g1_f s21 h; replace h : z5w r_q28 a0 a1 (fun y0 => g1_f y0) s21 = some r := h; unfold z5w at h
 change BW _ _ _ ⟨[(2, (PV.rf 0 0)), (3, (PV.rf 1 0)), (5, (I64 (((s21 : Nat) : Int))))], [.box 34 (z0x a0), .box 34 (z0x a1)], _⟩ _
 refine z09 ?_
 refine bR ?_
 iterate 4 refine sX ?_
 refine eX ?_
 refine z2f (t := 63) rfl fun hb23 => ?_
 try rw [List.length_map] at hb23
 refine cX h rfl ?_ ?_
 intro hc22 h
 have hc22_ := of_decide_eq_true hc22
 refine z07 ?_
 refine cBx ?_
 refine z09 ?_
 refine z0e ?_
 refine cBx ?_
 refine jX (ι := Bool) (fun i => zac (fun y0 => g1_f y0) s21 i = some r) (fun i => [(2, (PV.rf 0 0)), (3, (PV.rf 1 0)), (5, (I64 (((s21 : Nat) : Int)))), (98, (BO i))]) (fun i => [.box 34 (z0x a0), .box 34 (z0x a1)]) ?_ ?_
 rintro s24 h; replace h : zac (fun y0 => g1_f y0) s21 s24 = some r := h; unfold zac at h
 change BW _ _ _ ⟨[(2, (PV.rf 0 0)), (3, (PV.rf 1 0)), (5, (I64 (((s21 : Nat) : Int)))), (98, (BO s24))], [.box 34 (z0x a0), .box 34 (z0x a1)], _⟩ _
 refine cX h rfl ?_ ?_
 intro hc25 h
 refine bR ?_
 refine eX ?_
 obtain rfl := eI h; exact z05 eK
 intro hc25 h
 refine z07 ?_
 refine cBx ?_
 refine z0a ?_
 refine sX ?_
 refine sS rfl rfl rfl (z1b (k := s21) (c := 1) rfl rfl rfl (by omega)) ?_
 refine sX (z06 ?_)
 exact ⟨rfl, (s21 + 1), h, jN⟩
 refine z13 28 [] [0, 1] mo (by kernel_rfl) ?_
 iterate 3 refine gX ?_
 obtain ⟨x26, hx26, h⟩ := obind h
 refine z1h rfl rfl rfl rfl (fun H hp => z0w (i := s21) Try.underlying31 inf_9 rfl rfl rfl hx26 rfl) ?_
 iterate 4 refine gX ?_
 obtain ⟨x27, hx27, h⟩ := obind h
 refine z1h rfl rfl rfl rfl (fun H hp => z0w (i := s21) Try.underlying31 inf_9 rfl rfl rfl hx27 rfl) ?_
 refine gX ?_
 refine z1h rfl rfl rfl rfl (fun H hp => (z21 (a := x26) (b := x27) rfl rfl rfl rfl).cast (y := (BO ((!(x26 == x27))))) rfl rfl) ?_
 refine gX ?_
 refine z1s 79 rfl ?_ ?_
 intro hb28; replace h := z0j hb28 h
 iterate 16 refine mX ?_
 refine z11 ?_
 change AO _ _ _ _ _
 iterate 2 refine nX ?_
 refine sX (z06 ?_)
 exact ⟨rfl, true, h, jN⟩
 intro hb28; replace h := z0k hb28 h
 iterate 6 refine wX ?_
 refine z1s 85 rfl ?_ ?_
 intro hb29; replace h := z0j hb29 h
 iterate 3 refine wX ?_
 obtain ⟨x30, hx30, h⟩ := obind h
 refine z2l rfl rfl rfl rfl rfl rfl rfl (fun H hp => z0w (i := s21) Try.underlying32 inf_4 rfl rfl rfl hx30 rfl) ?_
 iterate 4 refine wX ?_
 obtain ⟨x31, hx31, h⟩ := obind h
 refine z2l rfl rfl rfl rfl rfl rfl rfl (fun H hp => z0w (i := s21) Try.underlying32 inf_4 rfl rfl rfl hx31 rfl) ?_
 refine wX ?_
 refine z11 ?_
 change AO _ _ _ _ _
 refine z1g rfl rfl rfl rfl rfl rfl (zje Try.underlying4 rfl rfl rfl) ?_
 refine yX ?_
 refine sX (z06 ?_)
 exact ⟨rfl, (!(x30 == x31)), h, jN⟩
 intro hb29; replace h := z0k hb29 h
 iterate 10 refine mX ?_
 refine z11 ?_
 change AO _ _ _ _ _
 refine nX ?_
 refine yX ?_
 refine sX (z06 ?_)
 exact ⟨rfl, false, h, jN⟩
 intro hc22 h
 refine z1a ?_
 exact ⟨rfl, (), h, jN⟩
 refine z0a ?_
 iterate 4 refine sX ?_
 refine sS rfl rfl rfl (zje Try.underlying4 rfl rfl rfl) ?_
 refine sX ?_
 refine z0n (t := 43) rfl ?_ ?_
 intro hb32; replace h := z0j hb32 h
 iterate 7 refine nX ?_
 iterate 2 refine sX ?_
 iterate 7 refine nX ?_
 refine sX (z06 ?_)
 exact ⟨rfl, true, h, jN⟩
 intro hb32; replace h := z0k hb32 h
 iterate 7 refine yX ?_
 iterate 2 refine sX ?_
 refine z0n (t := 52) rfl ?_ ?_
 intro hb33; replace h := z0j hb33 h
 iterate 7 refine nX ?_
 refine sX (z06 ?_)
 exact ⟨rfl, true, h, jN⟩
 intro hb33; replace h := z0k hb33 h
 iterate 7 refine yX ?_
 refine sX (z06 ?_)
 exact ⟨rfl, ((((a0.lacks).length : Nat) : Int) != (((a1.lacks).length : Nat) : Int)), h, jN⟩
 intro hc18 h
 refine z07 ?_
 exact ⟨rfl, (), h, jN⟩
theorem C_q28.sound : ∀ (i : C_q28) (r : i.R), z22 C_q28.F i = some r → C_q28.Q i r := by
 refine z2r (Φ := C_q28.F) (Q := C_q28.Q) ?_
 intro g hg i r h
 cases i with
 | k_q28 a0 a1 => exact zk0 (fun a0 a1 => g (.k_q28 a0 a1)) (fun a0 a1 r hr => hg (.k_q28 a0 a1) r hr) a0 a1 r h
theorem zt1 (a0 a1 : Typ) (r : Bool) (h : z7t a0 a1 = some r) : z08 Try.prog 22 [(z02 a0), (z02 a1)] (BO r) := C_q28.sound (.k_q28 a0 a1) r h
end Go.Proofs.Ytiapdjdhaclmnaa
