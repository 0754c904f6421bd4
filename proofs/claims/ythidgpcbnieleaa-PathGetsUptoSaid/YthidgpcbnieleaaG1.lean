/- Pure functions, and that calls answer as they say. -/
import Derived.Test.YthidgpcbnieleaaG0
namespace Go.Proofs.Ythidgpcbnieleaa
open Go Aw
set_option linter.unusedVariables false
set_option linter.unusedSimpArgs false
set_option maxRecDepth 20000
set_option maxHeartbeats 2000000
variable {ι : Type} {ρ : ι → Type}
noncomputable def zb3 : Option Int :=
 some 0
noncomputable def zb2 (x16 : Rec) (s19 : Bool) : Option Int :=
 bif s19 then (
 some 1
 ) else (
 (zjz x16.fields).bind fun x21 =>
 some x21
 )
noncomputable def z86 (a0 : V) (s1 : Bool) : Option Int :=
 bif s1 then (
 (zqf a0).bind fun x3 =>
 bif (x3 == 11) then (
 some 7
 ) else (
 bif (x3 == 0) then (
 some 6
 ) else (
 some 2
 )
 )
 ) else (
 bif (a0).isText then (
 bif (decide (((((a0).asText).length : Nat) : Int) > 65536)) then (
 some 2
 ) else (
 zb3
 )
 ) else (
 bif (a0).isBytes then (
 bif (decide (((((a0).asBytes).length : Nat) : Int) > 65536)) then (
 some 2
 ) else (
 zb3
 )
 ) else (
 bif (a0).isList then (
 bif (decide (((((a0).asList).length : Nat) : Int) > 4096)) then (
 some 2
 ) else (
 zb3
 )
 ) else (
 bif (a0).isDict then (
 (zjz ((a0).asDict)).bind fun x13 =>
 some x13
 ) else (
 bif (a0).isRec then (
 bif ((a0).asRec).isNone then (
 some 7
 ) else (
 ((a0).asRec).bind fun x16 =>
 (zjv x16.cls).bind fun x17 =>
 bif (!x17) then (
 some 8
 ) else (
 bif (decide (x16.ver < 1)) then (
 zb2 x16 true
 ) else (
 zb2 x16 (decide (x16.ver > 1000))
 )
 )
 )
 ) else (
 (zqf a0).bind fun x23 =>
 bif (x23 == 0) then (
 some 6
 ) else (
 zb3
 )
 )
 )
 )
 )
 )
 )
noncomputable def zqa (a0 : V) (a1 a2 : Int) : Option Int :=
 bif (decide (a1 ≥ 16384)) then (
 z86 a0 true
 ) else (
 z86 a0 (decide (a2 > 64))
 )
theorem Z32 (a0 : V) (a1 a2 r : Int) (h : zqa a0 a1 a2 = some r) : z0o Try.prog 94 [(ofV a0), (I64 a1), (I64 a2)] (I64 r) := by
 unfold zqa at h
 refine z0j Try.func94 rfl Try.ntmps94 Try.results94 rfl (z0q ?_)
 change BW _ _ _ ⟨[(0, (ofV a0)), (1, (I64 a1)), (2, (I64 a2))], [], _⟩ _
 refine bR ?_
 refine eX ?_
 refine z0d ?_
 refine z2l (ι := Bool) (fun i => z86 a0 i = some r) (fun i => [(0, (ofV a0)), (18, (BO i))]) (fun i => []) ?_ ?_ ?_
 intro i; exact ⟨lbE rfl, ⟨(z02 (ids_V _)), ⟨(z02 rfl), trivial⟩⟩, trivial⟩
 rintro s1 h; replace h : z86 a0 s1 = some r := h; unfold z86 at h
 change BW _ _ _ ⟨[(0, (ofV a0)), (18, (BO s1))], [], _⟩ _
 refine cX h rfl ?_ ?_
 intro hc2 h
 refine z0d ?_
 refine bR ?_
 refine sX ?_
 obtain ⟨x3, hx3, h⟩ := obind h
 refine sS rfl rfl rfl (z03 rfl zwf rfl (wkr .nil) ⟨(ids_V a0), trivial⟩ (Z01 a0 x3 hx3) rfl) (z08 ?_)
 refine cBx ?_
 refine z0r ?_
 refine cBx ?_
 refine bR ?_
 refine sX ?_
 refine eX ?_
 refine cX h rfl ?_ ?_
 intro hc4 h
 refine bR ?_
 refine eX ?_
 obtain rfl := eI h; exact z04 eK
 intro hc4 h
 refine bR ?_
 refine sX ?_
 refine eX ?_
 refine cX h rfl ?_ ?_
 intro hc5 h
 refine bR ?_
 refine eX ?_
 obtain rfl := eI h; exact z04 eK
 intro hc5 h
 refine z0c ?_
 refine cBx ?_
 refine bR ?_
 refine eX ?_
 obtain rfl := eI h; exact z04 eK
 intro hc2 h
 refine z0c ?_
 refine cBx ?_
 refine jX (ι := Unit) (fun i => zb3 = some r) (fun i => []) (fun i => []) ?_ ?_
 rintro ⟨⟩ h; replace h : zb3 = some r := h; unfold zb3 at h
 change BW _ _ _ ⟨[], [], _⟩ _
 refine bR ?_
 refine eX ?_
 obtain rfl := eI h; exact z04 eK
 refine bR ?_
 refine eX ?_
 refine z0r ?_
 refine cBx ?_
 refine bR ?_
 refine sS rfl rfl rfl (zan rfl rfl) ?_
 refine sX ?_
 refine eX ?_
 refine cX h rfl ?_ ?_
 intro hc6 h
 refine bR ?_
 refine eX ?_
 refine bR ?_
 refine sX ?_
 refine sS rfl rfl rfl (z4w (s := ((a0).asText)) Try.underlying9 rfl rfl) ?_
 refine eX ?_
 refine cX h rfl ?_ ?_
 intro hc7 h
 refine bR ?_
 refine eX ?_
 obtain rfl := eI h; exact z04 eK
 intro hc7 h
 refine z0c ?_
 exact ⟨rfl, (), h, jN⟩
 intro hc6 h
 refine bR ?_
 refine sS rfl rfl rfl (z6g rfl rfl) ?_
 refine sX ?_
 refine eX ?_
 refine cX h rfl ?_ ?_
 intro hc8 h
 refine bR ?_
 refine eX ?_
 refine bR ?_
 iterate 2 refine sX ?_
 refine eX ?_
 refine cX h rfl ?_ ?_
 intro hc9 h
 refine bR ?_
 refine eX ?_
 obtain rfl := eI h; exact z04 eK
 intro hc9 h
 refine z0c ?_
 exact ⟨rfl, (), h, jN⟩
 intro hc8 h
 refine bR ?_
 refine sS rfl rfl rfl (z2t rfl rfl) ?_
 refine sX ?_
 refine eX ?_
 refine cX h rfl ?_ ?_
 intro hc10 h
 refine bR ?_
 refine eX ?_
 refine bR ?_
 iterate 2 refine sX ?_
 refine eX ?_
 refine cX h rfl ?_ ?_
 intro hc11 h
 refine bR ?_
 refine eX ?_
 obtain rfl := eI h; exact z04 eK
 intro hc11 h
 refine z0c ?_
 exact ⟨rfl, (), h, jN⟩
 intro hc10 h
 refine bR ?_
 refine sS rfl rfl rfl (z3o rfl rfl) ?_
 refine sX ?_
 refine eX ?_
 refine cX h rfl ?_ ?_
 intro hc12 h
 refine bR ?_
 refine eX ?_
 refine bR ?_
 refine sX ?_
 obtain ⟨x13, hx13, h⟩ := obind h
 refine sS rfl rfl rfl (z03 rfl zwe rfl (wkr .nil) ⟨(z0f z19 ((a0).asDict)), trivial⟩ (Z0a ((a0).asDict) x13 hx13) rfl) ?_
 refine eX ?_
 obtain rfl := eI h; exact z04 eK
 intro hc12 h
 refine bR ?_
 refine sS rfl rfl rfl (z48 rfl rfl) ?_
 refine sX ?_
 refine eX ?_
 refine cX h rfl ?_ ?_
 intro hc14 h
 refine bR ?_
 refine eX ?_
 refine z0d ?_
 refine z0r ?_
 refine cBx ?_
 refine bR ?_
 refine sX ?_
 refine sS rfl rfl rfl (zaq Try.underlying66 rfl rfl) ?_
 refine eX ?_
 refine cX h rfl ?_ ?_
 intro hc15 h
 refine bR ?_
 refine eX ?_
 obtain rfl := eI h; exact z04 eK
 intro hc15 h
 refine bR ?_
 refine sX ?_
 obtain ⟨x16, hx16, h⟩ := obind h
 refine sS rfl rfl rfl (z2d rfl rfl hx16) ?_
 iterate 2 refine sX ?_
 obtain ⟨x17, hx17, h⟩ := obind h
 refine sS rfl rfl rfl (z03 rfl zwd rfl (wkr .nil) ⟨rfl, trivial⟩ (Z02 x16.cls x17 hx17) rfl) ?_
 refine sX ?_
 refine eX ?_
 refine cX h rfl ?_ ?_
 intro hc18 h
 refine bR ?_
 refine eX ?_
 obtain rfl := eI h; exact z04 eK
 intro hc18 h
 refine z2l (ι := Bool) (fun i => zb2 x16 i = some r) (fun i => [(11, (ofRecP (a0).asRec)), (65, (BO i))]) (fun i => []) ?_ ?_ ?_
 intro i; exact ⟨lbE rfl, ⟨(z02 (zuc _)), ⟨(z02 rfl), trivial⟩⟩, trivial⟩
 rintro s19 h; replace h : zb2 x16 s19 = some r := h; unfold zb2 at h
 change BW _ _ _ ⟨[(11, (ofRecP (a0).asRec)), (65, (BO s19))], [], _⟩ _
 refine cX h rfl ?_ ?_
 intro hc20 h
 refine bR ?_
 refine eX ?_
 obtain rfl := eI h; exact z04 eK
 intro hc20 h
 refine z0c ?_
 refine cBx ?_
 refine bR ?_
 refine sX ?_
 refine sS rfl rfl rfl (z2d rfl rfl hx16) ?_
 iterate 2 refine sX ?_
 obtain ⟨x21, hx21, h⟩ := obind h
 refine sS rfl rfl rfl (z03 rfl zwe rfl (wkr .nil) ⟨(z0f z19 x16.fields), trivial⟩ (Z0a x16.fields x21 hx21) rfl) ?_
 refine eX ?_
 obtain rfl := eI h; exact z04 eK
 refine z0e ?_
 refine sX ?_
 refine sS rfl rfl rfl (z2d rfl rfl hx16) ?_
 iterate 4 refine sX ?_
 refine z0n (t := 71) rfl ?_ ?_
 intro hb22; replace h := z0t hb22 h
 iterate 5 refine nX ?_
 refine sX ?_
 refine sX (z08 ?_)
 exact ⟨rfl, true, h, jN⟩
 intro hb22; replace h := z0u hb22 h
 refine yX ?_
 refine z1t rfl rfl rfl rfl rfl rfl (z2d rfl rfl hx16) ?_
 iterate 3 refine yX ?_
 refine sX ?_
 refine sX (z08 ?_)
 exact ⟨rfl, (decide (x16.ver > 1000)), h, jN⟩
 intro hc14 h
 refine bR ?_
 refine eX ?_
 refine bR ?_
 refine sX ?_
 obtain ⟨x23, hx23, h⟩ := obind h
 refine sS rfl rfl rfl (z03 rfl zwf rfl (wkr .nil) ⟨(ids_V a0), trivial⟩ (Z01 a0 x23 hx23) rfl) ?_
 refine eX ?_
 refine cX h rfl ?_ ?_
 intro hc24 h
 refine bR ?_
 refine eX ?_
 obtain rfl := eI h; exact z04 eK
 intro hc24 h
 refine z0c ?_
 exact ⟨rfl, (), h, jN⟩
 refine z0e ?_
 iterate 3 refine sX ?_
 refine z0n (t := 15) rfl ?_ ?_
 intro hb25; replace h := z0t hb25 h
 iterate 2 refine nX ?_
 refine sX (z08 ?_)
 exact ⟨rfl, true, h, jN⟩
 intro hb25; replace h := z0u hb25 h
 iterate 2 refine yX ?_
 refine sX (z08 ?_)
 exact ⟨rfl, (decide (a2 > 64)), h, jN⟩
noncomputable def z5a (r_q08 : S_value_count → V → Int → Option (Bool × S_value_count)) (a1 : (List (Str × V))) (a2 : Int) (g1 : Nat → Int → Int → Int → Option (Bool × S_value_count)) (s1 : Nat) (s2 s3 s4 : Int) : Option (Bool × S_value_count) :=
 bif (decide (((s1 : Nat) : Int) < (((a1).length : Nat) : Int))) then (
 ((a1)[s1]?).bind fun x7 =>
 (r_q08 (S_value_count.mk s2 s3 s4) x7.2 (IntKind.i64.wrap (a2 + 1))).bind fun x8 =>
 bif (!x8.1) then (
 some (false, (x8.2))
 ) else (
 g1 (s1 + 1) ((x8.2).f_n) ((x8.2).f_deep) ((x8.2).f_why)
 )
 ) else (
 some (true, (S_value_count.mk s2 s3 s4))
 )
theorem zaj (r_q08 : OF ρ → S_value_count → V → Int → Option (Bool × S_value_count)) (h_r_q08 : ∀ y0 y1 y2, CM (fun G => r_q08 G y0 y1 y2)) (g1 : OF ρ → Nat → Int → Int → Int → Option (Bool × S_value_count)) (h_g1 : ∀ y0 y1 y2 y3, CM (fun G => g1 G y0 y1 y2 y3)) (a1 : (List (Str × V))) (a2 : Int) (s1 : Nat) (s2 s3 s4 : Int) : CM (fun G : OF ρ => z5a (r_q08 G) a1 a2 (g1 G) s1 s2 s3 s4) := by
 simp only [z5a]
 repeat (first | exact z0h | exact h_r_q08 _ _ _ | exact h_g1 _ _ _ _ | refine z10 ?_ ?_ | refine z11 ?_ (fun _ => ?_))
noncomputable def zep (r_q08 : S_value_count → V → Int → Option (Bool × S_value_count)) (a1 : (List (Str × V))) (a2 : Int) (s1 : Nat) (s2 s3 s4 : Int) : Option (Bool × S_value_count) :=
 z3b (ι := (Nat × Int × Int × Int)) (ρ := fun _ => (Bool × S_value_count)) (fun g i => z5a r_q08 a1 a2 (fun s1 s2 s3 s4 => g (s1, s2, s3, s4)) i.1 i.2.1 i.2.2.1 i.2.2.2) (s1, s2, s3, s4)
theorem zi1 (r_q08 : S_value_count → V → Int → Option (Bool × S_value_count)) (a1 : (List (Str × V))) (a2 : Int) (s1 : Nat) (s2 s3 s4 : Int) : zep r_q08 a1 a2 s1 s2 s3 s4 = z5a r_q08 a1 a2 (zep r_q08 a1 a2) s1 s2 s3 s4 :=
 z1f (ι := (Nat × Int × Int × Int)) (ρ := fun _ => (Bool × S_value_count)) (Φ := fun g i => z5a r_q08 a1 a2 (fun s1 s2 s3 s4 => g (s1, s2, s3, s4)) i.1 i.2.1 i.2.2.1 i.2.2.2) (fun i => zaj (ι := (Nat × Int × Int × Int)) (ρ := fun _ => (Bool × S_value_count)) (fun _ => r_q08) (fun _ _ _ => z0h) (fun g => (fun s1 s2 s3 s4 => g (s1, s2, s3, s4))) (fun _ _ _ _ => z1i) a1 a2 i.1 i.2.1 i.2.2.1 i.2.2.2) (s1, s2, s3, s4)
theorem zpq (r_q08 : OF ρ → S_value_count → V → Int → Option (Bool × S_value_count)) (h_r_q08 : ∀ y0 y1 y2, CM (fun G => r_q08 G y0 y1 y2)) (a1 : (List (Str × V))) (a2 : Int) (s1 : Nat) (s2 s3 s4 : Int) : CM (fun G : OF ρ => zep (r_q08 G) a1 a2 s1 s2 s3 s4) :=
 z5z (κ := (Nat × Int × Int × Int)) (τ := fun _ => (Bool × S_value_count)) (Φ := fun G g i => z5a (r_q08 G) a1 a2 (fun s1 s2 s3 s4 => g (s1, s2, s3, s4)) i.1 i.2.1 i.2.2.1 i.2.2.2) (fun g i => zaj r_q08 h_r_q08 (fun _ => (fun s1 s2 s3 s4 => g (s1, s2, s3, s4))) (fun _ _ _ _ => z0h) a1 a2 i.1 i.2.1 i.2.2.1 i.2.2.2) (fun G i => zaj (ι := (Nat × Int × Int × Int)) (ρ := fun _ => (Bool × S_value_count)) (fun _ => r_q08 G) (fun _ _ _ => z0h) (fun g => (fun s1 s2 s3 s4 => g (s1, s2, s3, s4))) (fun _ _ _ _ => z1i) a1 a2 i.1 i.2.1 i.2.2.1 i.2.2.2) (s1, s2, s3, s4)
noncomputable def zkj (r_q0a : S_value_count → (List (Str × V)) → Int → Option (Bool × S_value_count)) (r_q08 : S_value_count → V → Int → Option (Bool × S_value_count)) (a0 : S_value_count) (a1 : (List (Str × V))) (a2 : Int) : Option (Bool × S_value_count) :=
 zep r_q08 a1 a2 0 a0.f_n a0.f_deep a0.f_why
theorem zv7 (r_q0a : OF ρ → S_value_count → (List (Str × V)) → Int → Option (Bool × S_value_count)) (h_r_q0a : ∀ y0 y1 y2, CM (fun G => r_q0a G y0 y1 y2)) (r_q08 : OF ρ → S_value_count → V → Int → Option (Bool × S_value_count)) (h_r_q08 : ∀ y0 y1 y2, CM (fun G => r_q08 G y0 y1 y2)) (a0 : S_value_count) (a1 : (List (Str × V))) (a2 : Int) : CM (fun G : OF ρ => zkj (r_q0a G) (r_q08 G) a0 a1 a2) := by
 simp only [zkj]
 repeat (first | exact z0h | exact h_r_q0a _ _ _ | exact h_r_q08 _ _ _ | apply zpq | refine z10 ?_ ?_ | refine z11 ?_ (fun _ => ?_) | intro _ | assumption)
noncomputable def zer (s3 s4 s5 : Int) : Option (Bool × S_value_count) :=
 some (true, (S_value_count.mk s3 s4 s5))
noncomputable def z5c (r_q08 : S_value_count → V → Int → Option (Bool × S_value_count)) (a1 : V) (a2 : Int) (g1 : Nat → Int → Int → Int → Option (Bool × S_value_count)) (s7 : Nat) (s8 s9 s10 : Int) : Option (Bool × S_value_count) :=
 bif (decide (((s7 : Nat) : Int) < ((((a1).asList).length : Nat) : Int))) then (
 (((a1).asList)[s7]?).bind fun x13 =>
 (r_q08 (S_value_count.mk s8 s9 s10) x13 (IntKind.i64.wrap (a2 + 1))).bind fun x14 =>
 bif (!x14.1) then (
 some (false, (x14.2))
 ) else (
 g1 (s7 + 1) ((x14.2).f_n) ((x14.2).f_deep) ((x14.2).f_why)
 )
 ) else (
 zer s8 s9 s10
 )
theorem zal (r_q08 : OF ρ → S_value_count → V → Int → Option (Bool × S_value_count)) (h_r_q08 : ∀ y0 y1 y2, CM (fun G => r_q08 G y0 y1 y2)) (g1 : OF ρ → Nat → Int → Int → Int → Option (Bool × S_value_count)) (h_g1 : ∀ y0 y1 y2 y3, CM (fun G => g1 G y0 y1 y2 y3)) (a1 : V) (a2 : Int) (s7 : Nat) (s8 s9 s10 : Int) : CM (fun G : OF ρ => z5c (r_q08 G) a1 a2 (g1 G) s7 s8 s9 s10) := by
 simp only [z5c]
 repeat (first | exact z0h | exact h_r_q08 _ _ _ | exact h_g1 _ _ _ _ | apply q08_j1_cm | refine z10 ?_ ?_ | refine z11 ?_ (fun _ => ?_) | intro _ | assumption)
noncomputable def zeq (r_q08 : S_value_count → V → Int → Option (Bool × S_value_count)) (a1 : V) (a2 : Int) (s7 : Nat) (s8 s9 s10 : Int) : Option (Bool × S_value_count) :=
 z3b (ι := (Nat × Int × Int × Int)) (ρ := fun _ => (Bool × S_value_count)) (fun g i => z5c r_q08 a1 a2 (fun s7 s8 s9 s10 => g (s7, s8, s9, s10)) i.1 i.2.1 i.2.2.1 i.2.2.2) (s7, s8, s9, s10)
theorem zi3 (r_q08 : S_value_count → V → Int → Option (Bool × S_value_count)) (a1 : V) (a2 : Int) (s7 : Nat) (s8 s9 s10 : Int) : zeq r_q08 a1 a2 s7 s8 s9 s10 = z5c r_q08 a1 a2 (zeq r_q08 a1 a2) s7 s8 s9 s10 :=
 z1f (ι := (Nat × Int × Int × Int)) (ρ := fun _ => (Bool × S_value_count)) (Φ := fun g i => z5c r_q08 a1 a2 (fun s7 s8 s9 s10 => g (s7, s8, s9, s10)) i.1 i.2.1 i.2.2.1 i.2.2.2) (fun i => zal (ι := (Nat × Int × Int × Int)) (ρ := fun _ => (Bool × S_value_count)) (fun _ => r_q08) (fun _ _ _ => z0h) (fun g => (fun s7 s8 s9 s10 => g (s7, s8, s9, s10))) (fun _ _ _ _ => z1i) a1 a2 i.1 i.2.1 i.2.2.1 i.2.2.2) (s7, s8, s9, s10)
theorem zpt (r_q08 : OF ρ → S_value_count → V → Int → Option (Bool × S_value_count)) (h_r_q08 : ∀ y0 y1 y2, CM (fun G => r_q08 G y0 y1 y2)) (a1 : V) (a2 : Int) (s7 : Nat) (s8 s9 s10 : Int) : CM (fun G : OF ρ => zeq (r_q08 G) a1 a2 s7 s8 s9 s10) :=
 z5z (κ := (Nat × Int × Int × Int)) (τ := fun _ => (Bool × S_value_count)) (Φ := fun G g i => z5c (r_q08 G) a1 a2 (fun s7 s8 s9 s10 => g (s7, s8, s9, s10)) i.1 i.2.1 i.2.2.1 i.2.2.2) (fun g i => zal r_q08 h_r_q08 (fun _ => (fun s7 s8 s9 s10 => g (s7, s8, s9, s10))) (fun _ _ _ _ => z0h) a1 a2 i.1 i.2.1 i.2.2.1 i.2.2.2) (fun G i => zal (ι := (Nat × Int × Int × Int)) (ρ := fun _ => (Bool × S_value_count)) (fun _ => r_q08 G) (fun _ _ _ => z0h) (fun g => (fun s7 s8 s9 s10 => g (s7, s8, s9, s10))) (fun _ _ _ _ => z1i) a1 a2 i.1 i.2.1 i.2.2.1 i.2.2.2) (s7, s8, s9, s10)
noncomputable def zkl (r_q0a : S_value_count → (List (Str × V)) → Int → Option (Bool × S_value_count)) (r_q08 : S_value_count → V → Int → Option (Bool × S_value_count)) (a0 : S_value_count) (a1 : V) (a2 : Int) : Option (Bool × S_value_count) :=
 (zqa a1 a0.f_n a2).bind fun x1 =>
 bif (x1 != 0) then (
 some (false, (S_value_count.mk a0.f_n a0.f_deep x1))
 ) else (
 bif (a1).isList then (
 zeq r_q08 a1 a2 0 (IntKind.i64.wrap (a0.f_n + 1)) (if a2 > a0.f_deep then a2 else a0.f_deep) x1
 ) else (
 bif (a1).isDict then (
 (r_q0a (S_value_count.mk (IntKind.i64.wrap (a0.f_n + 1)) (if a2 > a0.f_deep then a2 else a0.f_deep) x1) ((a1).asDict) a2).bind fun x17 =>
 some (x17.1, (x17.2))
 ) else (
 bif (a1).isRec then (
 ((a1).asRec).bind fun x19 =>
 (r_q0a (S_value_count.mk (IntKind.i64.wrap (a0.f_n + 1)) (if a2 > a0.f_deep then a2 else a0.f_deep) x1) x19.fields a2).bind fun x20 =>
 some (x20.1, (x20.2))
 ) else (
 zer (IntKind.i64.wrap (a0.f_n + 1)) (if a2 > a0.f_deep then a2 else a0.f_deep) x1
 )
 )
 )
 )
theorem zv9 (r_q0a : OF ρ → S_value_count → (List (Str × V)) → Int → Option (Bool × S_value_count)) (h_r_q0a : ∀ y0 y1 y2, CM (fun G => r_q0a G y0 y1 y2)) (r_q08 : OF ρ → S_value_count → V → Int → Option (Bool × S_value_count)) (h_r_q08 : ∀ y0 y1 y2, CM (fun G => r_q08 G y0 y1 y2)) (a0 : S_value_count) (a1 : V) (a2 : Int) : CM (fun G : OF ρ => zkl (r_q0a G) (r_q08 G) a0 a1 a2) := by
 simp only [zkl]
 repeat (first | exact z0h | exact h_r_q0a _ _ _ | exact h_r_q08 _ _ _ | apply q08_j1_cm | apply zpt | refine z10 ?_ ?_ | refine z11 ?_ (fun _ => ?_) | intro _ | assumption)
inductive C_q0a where
 | k_q0a (a0 : S_value_count) (a1 : (List (Str × V))) (a2 : Int)
 | k_q08 (a0 : S_value_count) (a1 : V) (a2 : Int)
def C_q0a.R : C_q0a → Type
 | .k_q0a _ _ _ => (Bool × S_value_count)
 | .k_q08 _ _ _ => (Bool × S_value_count)
noncomputable def C_q0a.F (g : ∀ i : C_q0a, Option i.R) : ∀ i : C_q0a, Option i.R
 | .k_q0a a0 a1 a2 => zkj (fun a0 a1 a2 => g (.k_q0a a0 a1 a2)) (fun a0 a1 a2 => g (.k_q08 a0 a1 a2)) a0 a1 a2
 | .k_q08 a0 a1 a2 => zkl (fun a0 a1 a2 => g (.k_q0a a0 a1 a2)) (fun a0 a1 a2 => g (.k_q08 a0 a1 a2)) a0 a1 a2
noncomputable def znl (a0 : S_value_count) (a1 : (List (Str × V))) (a2 : Int) : Option (Bool × S_value_count) := z3b C_q0a.F (.k_q0a a0 a1 a2)
noncomputable def zig (a0 : S_value_count) (a1 : V) (a2 : Int) : Option (Bool × S_value_count) := z3b C_q0a.F (.k_q08 a0 a1 a2)
abbrev gg3 := fun (g : ∀ i : C_q0a, Option i.R) a0 a1 a2 => g (.k_q0a a0 a1 a2)
theorem hh3 (a0 a1 a2 : _) : CM (ρ := C_q0a.R) (fun g => g (C_q0a.k_q0a a0 a1 a2)) := z1i
abbrev gg4 := fun (g : ∀ i : C_q0a, Option i.R) a0 a1 a2 => g (.k_q08 a0 a1 a2)
theorem hh4 (a0 a1 a2 : _) : CM (ρ := C_q0a.R) (fun g => g (C_q0a.k_q08 a0 a1 a2)) := z1i
theorem C_q0a.cm (i : C_q0a) : CM (fun g : (∀ i : C_q0a, Option i.R) => C_q0a.F g i) := by
 cases i with
 | k_q0a a0 a1 a2 => exact zv7 gg3 hh3 gg4 hh4 a0 a1 a2
 | k_q08 a0 a1 a2 => exact zv9 gg3 hh3 gg4 hh4 a0 a1 a2
theorem Z53 (a0 : S_value_count) (a1 : (List (Str × V))) (a2 : Int) : znl a0 a1 a2 = zkj znl zig a0 a1 a2 := z1f C_q0a.cm (.k_q0a a0 a1 a2)
theorem Z55 (a0 : S_value_count) (a1 : V) (a2 : Int) : zig a0 a1 a2 = zkl znl zig a0 a1 a2 := z1f C_q0a.cm (.k_q08 a0 a1 a2)
def C_q0a.Q : ∀ i : C_q0a, i.R → Prop
 | .k_q0a a0 a1 a2 => fun (r : (Bool × S_value_count)) => z8d Try.prog 95 [(PV.rf 0 0), (PV.sl none 96 2 (List.map ofFld a1)), (I64 a2)] (.box 133 [(I64 a0.f_n), (I64 a0.f_deep), (I64 a0.f_why)]) (BO r.1) (.box 133 [(I64 ((r.2).f_n)), (I64 ((r.2).f_deep)), (I64 ((r.2).f_why))])
 | .k_q08 a0 a1 a2 => fun (r : (Bool × S_value_count)) => z8d Try.prog 81 [(PV.rf 0 0), (ofV a1), (I64 a2)] (.box 133 [(I64 a0.f_n), (I64 a0.f_deep), (I64 a0.f_why)]) (BO r.1) (.box 133 [(I64 ((r.2).f_n)), (I64 ((r.2).f_deep)), (I64 ((r.2).f_why))])
theorem za5 (r_q0a : S_value_count → (List (Str × V)) → Int → Option (Bool × S_value_count)) (c_q0a : ∀ (a0 : S_value_count) (a1 : (List (Str × V))) (a2 : Int) r, r_q0a a0 a1 a2 = some r → z8d Try.prog 95 [(PV.rf 0 0), (PV.sl none 96 2 (List.map ofFld a1)), (I64 a2)] (.box 133 [(I64 a0.f_n), (I64 a0.f_deep), (I64 a0.f_why)]) (BO r.1) (.box 133 [(I64 ((r.2).f_n)), (I64 ((r.2).f_deep)), (I64 ((r.2).f_why))])) (r_q08 : S_value_count → V → Int → Option (Bool × S_value_count)) (c_q08 : ∀ (a0 : S_value_count) (a1 : V) (a2 : Int) r, r_q08 a0 a1 a2 = some r → z8d Try.prog 81 [(PV.rf 0 0), (ofV a1), (I64 a2)] (.box 133 [(I64 a0.f_n), (I64 a0.f_deep), (I64 a0.f_why)]) (BO r.1) (.box 133 [(I64 ((r.2).f_n)), (I64 ((r.2).f_deep)), (I64 ((r.2).f_why))])) (a0 : S_value_count) (a1 : (List (Str × V))) (a2 : Int) (r : (Bool × S_value_count)) (h : zkj r_q0a r_q08 a0 a1 a2 = some r) : z8d Try.prog 95 [(PV.rf 0 0), (PV.sl none 96 2 (List.map ofFld a1)), (I64 a2)] (.box 133 [(I64 a0.f_n), (I64 a0.f_deep), (I64 a0.f_why)]) (BO r.1) (.box 133 [(I64 ((r.2).f_n)), (I64 ((r.2).f_deep)), (I64 ((r.2).f_why))]) := by
 unfold zkj at h
 refine z0j Try.func95 rfl Try.ntmps95 Try.results95 rfl (z0q ?_)
 change BW _ _ _ ⟨[(0, (PV.rf 0 0)), (1, (PV.sl none 96 2 (List.map ofFld a1))), (2, (I64 a2))], [.box 133 [(I64 a0.f_n), (I64 a0.f_deep), (I64 a0.f_why)]], _⟩ _
 refine bR ?_
 refine eX ?_
 refine z0d ?_
 refine bR ?_
 iterate 2 refine sX ?_
 refine eX ?_
 refine z0r ?_
 refine cBx ?_
 unfold zep at h
 refine lX (σ := (Nat × Int × Int × Int)) (fun i => [(0, (PV.rf 0 0)), (2, (I64 a2)), (9, (PV.sl none 96 2 (List.map ofFld a1))), (10, (I64 ((((a1).length : Nat) : Int)))), (11, (I64 (((i.1 : Nat) : Int))))]) (fun i => [.box 133 [(I64 i.2.1), (I64 i.2.2.1), (I64 i.2.2.2)]]) (0, a0.f_n, a0.f_deep, a0.f_why) h ?_ ?_
 exact jN
 rintro g1_f ⟨s1, s2, s3, s4⟩ h; replace h : z5a r_q08 a1 a2 (fun y0 y1 y2 y3 => g1_f (y0, y1, y2, y3)) s1 s2 s3 s4 = some r := h; unfold z5a at h
 change BW _ _ _ ⟨[(0, (PV.rf 0 0)), (2, (I64 a2)), (9, (PV.sl none 96 2 (List.map ofFld a1))), (10, (I64 ((((a1).length : Nat) : Int)))), (11, (I64 (((s1 : Nat) : Int))))], [.box 133 [(I64 s2), (I64 s3), (I64 s4)]], _⟩ _
 refine bR ?_
 refine eX ?_
 refine z0d ?_
 refine z3p (t := 9) rfl fun hb6 => ?_
 try rw [List.length_map] at hb6
 refine cX h rfl ?_ ?_
 intro hc5 h
 have hc5_ := of_decide_eq_true hc5
 refine z0c ?_
 refine cBx ?_
 refine z0d ?_
 refine z0r ?_
 refine cBx ?_
 refine bR ?_
 obtain ⟨x7, hx7, h⟩ := obind h
 refine sS rfl rfl rfl (z1d (i := s1) Try.underlying64 z1c rfl rfl rfl hx7 rfl) ?_
 refine sX ?_
 refine sS rfl rfl rfl ((z1b z1c rfl).cast (H'' := [.box 133 [(I64 s2), (I64 s3), (I64 s4)], .box 96 [(z0k []), (ofV V.nil)]]) rfl (by simp only [mk_nil]; rfl)) ?_
 refine z0l rfl rfl (z0g z1c rfl rfl rfl rfl rfl rfl (lbE rfl) (by show List.all [(z0k x7.1), (ofV x7.2)] z6w = true; simp only [List.all_cons, List.all_nil, zk1, zbq, Bool.and_true, Bool.true_and]; try rfl)) ?_
 refine z08 ?_
 refine cBx ?_
 refine bR ?_
 iterate 5 refine sX ?_
 obtain ⟨x8, hx8, h⟩ := obind h
 refine sS rfl rfl rfl (z7a 0 rfl zyc rfl (wkr (wkr (wkr .nil))) (.box (.val (ids_V x7.2) (.val rfl .nil))) rfl (z0w rfl (z0w rfl (z0w rfl rfl))) (c_q08 (S_value_count.mk s2 s3 s4) x7.2 (IntKind.i64.wrap (a2 + 1)) x8 hx8) rfl (z0w rfl (z0w rfl (z0w rfl rfl)))) ?_
 refine eX ?_
 refine cX h rfl ?_ ?_
 intro hc9 h
 refine bR ?_
 refine eX ?_
 obtain rfl := eI h; exact z04 ⟨_, rfl, zdm (y := (BO false)) (e := .box 133 [(I64 (((x8.2)).f_n)), (I64 (((x8.2)).f_deep)), (I64 (((x8.2)).f_why))]) (Wk.refl _) rfl rfl (z0w rfl (z0w rfl (z0w rfl rfl))) ⟨rfl, rfl⟩⟩
 intro hc9 h
 refine z0c ?_
 refine cBx ?_
 refine z0e ?_
 refine sS rfl rfl rfl (z20 (k := s1) (c := 1) rfl rfl rfl (by omega)) ?_
 refine sX (z08 ?_)
 exact ⟨rfl, ((s1 + 1), (x8.2).f_n, (x8.2).f_deep, (x8.2).f_why), h, jN⟩
 intro hc5 h
 refine z1z ?_
 refine cBx ?_
 refine bR ?_
 refine eX ?_
 obtain rfl := eI h; exact z04 ⟨_, rfl, zdm (y := (BO true)) (e := .box 133 [(I64 (((S_value_count.mk s2 s3 s4)).f_n)), (I64 (((S_value_count.mk s2 s3 s4)).f_deep)), (I64 (((S_value_count.mk s2 s3 s4)).f_why))]) (Wk.refl _) rfl rfl (z0w rfl (z0w rfl (z0w rfl rfl))) ⟨rfl, rfl⟩⟩
theorem z91 (r_q0a : S_value_count → (List (Str × V)) → Int → Option (Bool × S_value_count)) (c_q0a : ∀ (a0 : S_value_count) (a1 : (List (Str × V))) (a2 : Int) r, r_q0a a0 a1 a2 = some r → z8d Try.prog 95 [(PV.rf 0 0), (PV.sl none 96 2 (List.map ofFld a1)), (I64 a2)] (.box 133 [(I64 a0.f_n), (I64 a0.f_deep), (I64 a0.f_why)]) (BO r.1) (.box 133 [(I64 ((r.2).f_n)), (I64 ((r.2).f_deep)), (I64 ((r.2).f_why))])) (r_q08 : S_value_count → V → Int → Option (Bool × S_value_count)) (c_q08 : ∀ (a0 : S_value_count) (a1 : V) (a2 : Int) r, r_q08 a0 a1 a2 = some r → z8d Try.prog 81 [(PV.rf 0 0), (ofV a1), (I64 a2)] (.box 133 [(I64 a0.f_n), (I64 a0.f_deep), (I64 a0.f_why)]) (BO r.1) (.box 133 [(I64 ((r.2).f_n)), (I64 ((r.2).f_deep)), (I64 ((r.2).f_why))])) (a0 : S_value_count) (a1 : V) (a2 : Int) (r : (Bool × S_value_count)) (h : zkl r_q0a r_q08 a0 a1 a2 = some r) : z8d Try.prog 81 [(PV.rf 0 0), (ofV a1), (I64 a2)] (.box 133 [(I64 a0.f_n), (I64 a0.f_deep), (I64 a0.f_why)]) (BO r.1) (.box 133 [(I64 ((r.2).f_n)), (I64 ((r.2).f_deep)), (I64 ((r.2).f_why))]) := by
 unfold zkl at h
 refine z0j Try.func81 rfl Try.ntmps81 Try.results81 rfl (z0q ?_)
 change BW _ _ _ ⟨[(0, (PV.rf 0 0)), (1, (ofV a1)), (2, (I64 a2))], [.box 133 [(I64 a0.f_n), (I64 a0.f_deep), (I64 a0.f_why)]], _⟩ _
 refine bR ?_
 refine eX ?_
 refine z0d ?_
 refine bR ?_
 iterate 3 refine sX ?_
 refine sS rfl rfl rfl (z6h rfl rfl) ?_
 iterate 3 refine sX ?_
 obtain ⟨x1, hx1, h⟩ := obind h
 refine sS rfl rfl rfl (z03 rfl Z45 rfl (wkr (wkr (wkr .nil))) ⟨(ids_V a1), ⟨rfl, ⟨rfl, trivial⟩⟩⟩ (Z32 a1 a0.f_n a2 x1 hx1) rfl) ?_
 refine sS rfl rfl rfl (z6h rfl rfl) ?_
 refine sX ?_
 refine z0l rfl rfl (z0g zw3 rfl rfl rfl rfl rfl rfl (lbE rfl) rfl) ?_
 refine z08 ?_
 refine cBx ?_
 refine bR ?_
 refine sX ?_
 refine sS rfl rfl rfl (z6h rfl rfl) ?_
 iterate 2 refine sX ?_
 refine eX ?_
 refine cX h rfl ?_ ?_
 intro hc2 h
 refine bR ?_
 refine eX ?_
 obtain rfl := eI h; exact z04 ⟨_, rfl, zdm (y := (BO false)) (e := .box 133 [(I64 (((S_value_count.mk a0.f_n a0.f_deep x1)).f_n)), (I64 (((S_value_count.mk a0.f_n a0.f_deep x1)).f_deep)), (I64 (((S_value_count.mk a0.f_n a0.f_deep x1)).f_why))]) (Wk.refl _) rfl rfl (z0w rfl (z0w rfl (z0w rfl rfl))) ⟨rfl, rfl⟩⟩
 intro hc2 h
 refine z0c ?_
 refine cBx ?_
 refine bR ?_
 refine sX ?_
 refine sS rfl rfl rfl (z6h rfl rfl) ?_
 iterate 3 refine sX ?_
 refine sS rfl rfl rfl (z6h rfl rfl) ?_
 refine sX ?_
 refine z0l rfl rfl (z0g zg8 rfl rfl rfl rfl rfl rfl (lbE rfl) rfl) ?_
 refine z08 ?_
 refine cBx ?_
 refine bR ?_
 iterate 2 refine sX ?_
 refine sS rfl rfl rfl (z6h rfl rfl) ?_
 iterate 3 refine sX ?_
 refine sS rfl rfl rfl (zty (args := []) rfl rfl rfl) ?_
 refine sS rfl rfl rfl (z6h rfl rfl) ?_
 refine sX ?_
 refine z0l rfl rfl (z0g zg8 rfl rfl rfl rfl rfl rfl (lbE rfl) rfl) ?_
 refine z08 ?_
 refine cBx ?_
 refine jX (ι := (Int × Int × Int)) (fun i => zer i.1 i.2.1 i.2.2 = some r) (fun i => [(0, (PV.rf 0 0))]) (fun i => [.box 133 [(I64 i.1), (I64 i.2.1), (I64 i.2.2)]]) ?_ ?_
 rintro ⟨s3, s4, s5⟩ h; replace h : zer s3 s4 s5 = some r := h; unfold zer at h
 change BW _ _ _ ⟨[(0, (PV.rf 0 0))], [.box 133 [(I64 s3), (I64 s4), (I64 s5)]], _⟩ _
 refine bR ?_
 refine eX ?_
 obtain rfl := eI h; exact z04 ⟨_, rfl, zdm (y := (BO true)) (e := .box 133 [(I64 (((S_value_count.mk s3 s4 s5)).f_n)), (I64 (((S_value_count.mk s3 s4 s5)).f_deep)), (I64 (((S_value_count.mk s3 s4 s5)).f_why))]) (Wk.refl _) rfl rfl (z0w rfl (z0w rfl (z0w rfl rfl))) ⟨rfl, rfl⟩⟩
 refine bR ?_
 refine eX ?_
 refine z0r ?_
 refine cBx ?_
 refine bR ?_
 refine sS rfl rfl rfl (z2t rfl rfl) ?_
 refine sX ?_
 refine eX ?_
 refine cX h rfl ?_ ?_
 intro hc6 h
 refine bR ?_
 refine eX ?_
 refine bR ?_
 iterate 2 refine sX ?_
 refine eX ?_
 refine z0r ?_
 refine cBx ?_
 unfold zeq at h
 refine lX (σ := (Nat × Int × Int × Int)) (fun i => [(0, (PV.rf 0 0)), (2, (I64 a2)), (47, (PV.sl none 20 1 (List.map ofV (a1).asList))), (48, (I64 (((((a1).asList).length : Nat) : Int)))), (49, (I64 (((i.1 : Nat) : Int))))]) (fun i => [.box 133 [(I64 i.2.1), (I64 i.2.2.1), (I64 i.2.2.2)]]) (0, (IntKind.i64.wrap (a0.f_n + 1)), (if a2 > a0.f_deep then a2 else a0.f_deep), x1) h ?_ ?_
 exact jN
 rintro g1_f ⟨s7, s8, s9, s10⟩ h; replace h : z5c r_q08 a1 a2 (fun y0 y1 y2 y3 => g1_f (y0, y1, y2, y3)) s7 s8 s9 s10 = some r := h; unfold z5c at h
 change BW _ _ _ ⟨[(0, (PV.rf 0 0)), (2, (I64 a2)), (47, (PV.sl none 20 1 (List.map ofV (a1).asList))), (48, (I64 (((((a1).asList).length : Nat) : Int)))), (49, (I64 (((s7 : Nat) : Int))))], [.box 133 [(I64 s8), (I64 s9), (I64 s10)]], _⟩ _
 refine bR ?_
 refine eX ?_
 refine z0d ?_
 refine z3p (t := 47) rfl fun hb12 => ?_
 try rw [List.length_map] at hb12
 refine cX h rfl ?_ ?_
 intro hc11 h
 have hc11_ := of_decide_eq_true hc11
 refine z0c ?_
 refine cBx ?_
 refine z0d ?_
 refine z0r ?_
 refine cBx ?_
 refine bR ?_
 obtain ⟨x13, hx13, h⟩ := obind h
 refine sS rfl rfl rfl (z1d (i := s7) Try.underlying62 z2g rfl rfl rfl hx13 rfl) ?_
 refine sS rfl rfl rfl (z6j (y := (ofV x13)) Try.underlying20 rfl rfl rfl (by rw [z1x]; rfl)) ?_
 refine eX ?_
 refine bR ?_
 iterate 4 refine sX ?_
 obtain ⟨x14, hx14, h⟩ := obind h
 refine sS rfl rfl rfl (z7a 0 rfl zyc rfl (wkr (wkr (wkr .nil))) (.box (.val (ids_V x13) (.val rfl .nil))) rfl (z0w rfl (z0w rfl (z0w rfl rfl))) (c_q08 (S_value_count.mk s8 s9 s10) x13 (IntKind.i64.wrap (a2 + 1)) x14 hx14) rfl (z0w rfl (z0w rfl (z0w rfl rfl)))) ?_
 refine eX ?_
 refine cX h rfl ?_ ?_
 intro hc15 h
 refine bR ?_
 refine eX ?_
 obtain rfl := eI h; exact z04 ⟨_, rfl, zdm (y := (BO false)) (e := .box 133 [(I64 (((x14.2)).f_n)), (I64 (((x14.2)).f_deep)), (I64 (((x14.2)).f_why))]) (Wk.refl _) rfl rfl (z0w rfl (z0w rfl (z0w rfl rfl))) ⟨rfl, rfl⟩⟩
 intro hc15 h
 refine z0c ?_
 refine cBx ?_
 refine z0e ?_
 refine sS rfl rfl rfl (z20 (k := s7) (c := 1) rfl rfl rfl (by omega)) ?_
 refine sX (z08 ?_)
 exact ⟨rfl, ((s7 + 1), (x14.2).f_n, (x14.2).f_deep, (x14.2).f_why), h, jN⟩
 intro hc11 h
 refine z1z ?_
 exact ⟨rfl, (s8, s9, s10), h, jN⟩
 intro hc6 h
 refine bR ?_
 refine sS rfl rfl rfl (z3o rfl rfl) ?_
 refine sX ?_
 refine eX ?_
 refine cX h rfl ?_ ?_
 intro hc16 h
 refine bR ?_
 refine eX ?_
 refine bR ?_
 iterate 3 refine sX ?_
 obtain ⟨x17, hx17, h⟩ := obind h
 refine sS rfl rfl rfl (z7a 0 rfl Z1j rfl (wkr (wkr (wkr .nil))) (.box (.val (z0f z19 ((a1).asDict)) (.val rfl .nil))) rfl (z0w rfl (z0w rfl (z0w rfl rfl))) (c_q0a (S_value_count.mk (IntKind.i64.wrap (a0.f_n + 1)) (if a2 > a0.f_deep then a2 else a0.f_deep) x1) ((a1).asDict) a2 x17 hx17) rfl (z0w rfl (z0w rfl (z0w rfl rfl)))) ?_
 refine eX ?_
 obtain rfl := eI h; exact z04 ⟨_, rfl, zdm (y := (BO x17.1)) (e := .box 133 [(I64 (((x17.2)).f_n)), (I64 (((x17.2)).f_deep)), (I64 (((x17.2)).f_why))]) (Wk.refl _) rfl rfl (z0w rfl (z0w rfl (z0w rfl rfl))) ⟨rfl, rfl⟩⟩
 intro hc16 h
 refine bR ?_
 refine sS rfl rfl rfl (z48 rfl rfl) ?_
 refine sX ?_
 refine eX ?_
 refine cX h rfl ?_ ?_
 intro hc18 h
 refine bR ?_
 refine eX ?_
 refine bR ?_
 iterate 2 refine sX ?_
 obtain ⟨x19, hx19, h⟩ := obind h
 refine sS rfl rfl rfl (z2d rfl rfl hx19) ?_
 iterate 3 refine sX ?_
 obtain ⟨x20, hx20, h⟩ := obind h
 refine sS rfl rfl rfl (z7a 0 rfl Z1j rfl (wkr (wkr (wkr .nil))) (.box (.val (z0f z19 x19.fields) (.val rfl .nil))) rfl (z0w rfl (z0w rfl (z0w rfl rfl))) (c_q0a (S_value_count.mk (IntKind.i64.wrap (a0.f_n + 1)) (if a2 > a0.f_deep then a2 else a0.f_deep) x1) x19.fields a2 x20 hx20) rfl (z0w rfl (z0w rfl (z0w rfl rfl)))) ?_
 refine eX ?_
 obtain rfl := eI h; exact z04 ⟨_, rfl, zdm (y := (BO x20.1)) (e := .box 133 [(I64 (((x20.2)).f_n)), (I64 (((x20.2)).f_deep)), (I64 (((x20.2)).f_why))]) (Wk.refl _) rfl rfl (z0w rfl (z0w rfl (z0w rfl rfl))) ⟨rfl, rfl⟩⟩
 intro hc18 h
 refine z0c ?_
 exact ⟨rfl, ((IntKind.i64.wrap (a0.f_n + 1)), (if a2 > a0.f_deep then a2 else a0.f_deep), x1), h, jN⟩
theorem C_q0a.sound : ∀ (i : C_q0a) (r : i.R), z3b C_q0a.F i = some r → C_q0a.Q i r := by
 refine z42 (Φ := C_q0a.F) (Q := C_q0a.Q) ?_
 intro g hg i r h
 cases i with
 | k_q0a a0 a1 a2 => exact za5 (fun a0 a1 a2 => g (.k_q0a a0 a1 a2)) (fun a0 a1 a2 r hr => hg (.k_q0a a0 a1 a2) r hr) (fun a0 a1 a2 => g (.k_q08 a0 a1 a2)) (fun a0 a1 a2 r hr => hg (.k_q08 a0 a1 a2) r hr) a0 a1 a2 r h
 | k_q08 a0 a1 a2 => exact z91 (fun a0 a1 a2 => g (.k_q0a a0 a1 a2)) (fun a0 a1 a2 r hr => hg (.k_q0a a0 a1 a2) r hr) (fun a0 a1 a2 => g (.k_q08 a0 a1 a2)) (fun a0 a1 a2 r hr => hg (.k_q08 a0 a1 a2) r hr) a0 a1 a2 r h
theorem Z3k (a0 : S_value_count) (a1 : V) (a2 : Int) (r : (Bool × S_value_count)) (h : zig a0 a1 a2 = some r) : z8d Try.prog 81 [(PV.rf 0 0), (ofV a1), (I64 a2)] (.box 133 [(I64 a0.f_n), (I64 a0.f_deep), (I64 a0.f_why)]) (BO r.1) (.box 133 [(I64 ((r.2).f_n)), (I64 ((r.2).f_deep)), (I64 ((r.2).f_why))]) := C_q0a.sound (.k_q08 a0 a1 a2) r h
noncomputable def znh (a0 : V) : Option (Int × Int) :=
 (zig (S_value_count.mk 0 0 0) a0 1).bind fun x1 =>
 bif (!x1.1) then (
 some ((x1.2).f_n, (x1.2).f_why)
 ) else (
 some (0, 0)
 )
theorem Z07 (a0 : V) (r : (Int × Int)) (h : znh a0 = some r) : z0o Try.prog 52 [(ofV a0)] (PV.tup [(I64 r.1), (I64 r.2)]) := by
 unfold znh at h
 refine z0j Try.func52 rfl Try.ntmps52 Try.results52 rfl (z0q ?_)
 change BW _ _ _ ⟨[(0, (ofV a0))], [], _⟩ _
 refine bR ?_
 refine sX ?_
 refine eX ?_
 refine bR ?_
 refine sS rfl rfl rfl (z1b zxz rfl) (z08 ?_)
 refine cBx ?_
 refine z0d ?_
 refine bR ?_
 refine sX ?_
 obtain ⟨x1, hx1, h⟩ := obind h
 refine sS rfl rfl rfl (z7a 0 rfl zyc rfl (wkr (wkr (wkr .nil))) (.box (.val (ids_V a0) (.val rfl .nil))) rfl (z0w rfl (z0w rfl (z0w rfl rfl))) (Z3k (S_value_count.mk 0 0 0) a0 1 x1 hx1) rfl (z0w rfl (z0w rfl (z0w rfl rfl)))) ?_
 refine eX ?_
 refine cX h rfl ?_ ?_
 intro hc2 h
 refine z0d (z1y 5 [] [0] mo (by kernel_rfl) ?_)
 iterate 5 refine gX ?_
 refine z23 ?_
 change AO _ _ _ _ _
 refine eX ?_
 obtain rfl := eI h; exact z04 eK
 intro hc2 h
 refine z0c ?_
 refine cBx ?_
 refine bR ?_
 refine sX ?_
 refine eX ?_
 obtain rfl := eI h; exact z04 eK
noncomputable def zng (a0 : V) : Option (Int × Int) :=
 (znh a0).bind fun x1 =>
 some (x1.1, x1.2)
theorem Z06 (a0 : V) (r : (Int × Int)) (h : zng a0 = some r) : z0o Try.prog 28 [(ofV a0)] (PV.tup [(I64 r.1), (I64 r.2)]) := by
 unfold zng at h
 refine z0j Try.func28 rfl Try.ntmps28 Try.results28 rfl (z0q ?_)
 change BW _ _ _ ⟨[(0, (ofV a0))], [], _⟩ _
 refine bR ?_
 refine sX ?_
 refine eX ?_
 refine bR ?_
 refine sX ?_
 obtain ⟨x1, hx1, h⟩ := obind h
 refine sS rfl rfl rfl (z03 rfl Z1w rfl (wkr .nil) ⟨(ids_V a0), trivial⟩ (Z07 a0 x1 hx1) (z00 rfl (z00 rfl z05))) ?_
 iterate 3 refine sX ?_
 refine eX ?_
 obtain rfl := eI h; exact z04 eK
noncomputable def zxh (a0 : Str) (a1 : UInt8) : Option Int :=
 some (ixB a0 a1)
theorem Z3n (a0 : Str) (a1 : UInt8) (r : Int) (h : zxh a0 a1 = some r) : z0o Try.prog 106 [(z0k a0), (ofB a1)] (I64 r) := by
 unfold zxh at h
 refine z0j Try.func106 rfl Try.ntmps106 Try.results106 rfl (z0q ?_)
 change BW _ _ _ ⟨[(0, (z0k a0)), (1, (ofB a1))], [], _⟩ _
 refine bR ?_
 refine eX ?_
 refine bR ?_
 iterate 2 refine sX ?_
 refine sS rfl rfl rfl (zxn (s := a0) (c := a1) rfl rfl rfl) ?_
 refine eX ?_
 obtain rfl := eI h; exact z04 eK
noncomputable def zqq (a0 : Str) (a1 : UInt8) : Option Int :=
 (zxh a0 a1).bind fun x1 =>
 some x1
theorem Z0d (a0 : Str) (a1 : UInt8) (r : Int) (h : zqq a0 a1 = some r) : z0o Try.prog 103 [(z0k a0), (ofB a1)] (I64 r) := by
 unfold zqq at h
 refine z0j Try.func103 rfl Try.ntmps103 Try.results103 rfl (z0q ?_)
 change BW _ _ _ ⟨[(0, (z0k a0)), (1, (ofB a1))], [], _⟩ _
 refine bR ?_
 refine eX ?_
 refine bR ?_
 iterate 2 refine sX ?_
 obtain ⟨x1, hx1, h⟩ := obind h
 refine sS rfl rfl rfl (z03 rfl Z24 rfl (wkr (wkr .nil)) ⟨rfl, ⟨rfl, trivial⟩⟩ (Z3n a0 a1 x1 hx1) rfl) ?_
 refine eX ?_
 obtain rfl := eI h; exact z04 eK
noncomputable def z99 (g1 : Int → Option Str) (a0 : Str) (a1 s1 : Int) (s2 : Bool) : Option Str :=
 bif s2 then (
 g1 (IntKind.i64.wrap (s1 + 1))
 ) else (
 (z83 a0 a1 s1).bind fun x4 =>
 some x4
 )
theorem zpb (g1 : OF ρ → Int → Option Str) (h_g1 : ∀ y0, CM (fun G => g1 G y0)) (a0 : Str) (a1 s1 : Int) (s2 : Bool) : CM (fun G : OF ρ => z99 (g1 G) a0 a1 s1 s2) := by
 simp only [z99]
 repeat (first | exact z0h | exact h_g1 _ | refine z10 ?_ ?_ | refine z11 ?_ (fun _ => ?_))
noncomputable def z65 (a0 : Str) (a1 : Int) (a2 : Str) (g1 : Int → Option Str) (s1 : Int) : Option Str :=
 bif (decide (s1 < (((a0).length : Nat) : Int))) then (
 (z8x a0 s1).bind fun x6 =>
 (zqq a2 x6).bind fun x7 =>
 z99 g1 a0 a1 s1 (decide (x7 ≥ 0))
 ) else (
 z99 g1 a0 a1 s1 false
 )
theorem zn2 (g1 : OF ρ → Int → Option Str) (h_g1 : ∀ y0, CM (fun G => g1 G y0)) (a0 : Str) (a1 : Int) (a2 : Str) (s1 : Int) : CM (fun G : OF ρ => z65 a0 a1 a2 (g1 G) s1) := by
 simp only [z65]
 repeat (first | exact z0h | exact h_g1 _ | apply zpb | refine z10 ?_ ?_ | refine z11 ?_ (fun _ => ?_) | intro _ | assumption)
noncomputable def zhi (a0 : Str) (a1 : Int) (a2 : Str) (s1 : Int) : Option Str :=
 z3b (ι := Int) (ρ := fun _ => Str) (fun g i => z65 a0 a1 a2 (fun s1 => g s1) i) s1
theorem zhh (a0 : Str) (a1 : Int) (a2 : Str) (s1 : Int) : zhi a0 a1 a2 s1 = z65 a0 a1 a2 (zhi a0 a1 a2) s1 :=
 z1f (ι := Int) (ρ := fun _ => Str) (Φ := fun g i => z65 a0 a1 a2 (fun s1 => g s1) i) (fun i => zn2 (ι := Int) (ρ := fun _ => Str) (fun g => (fun s1 => g s1)) (fun _ => z1i) a0 a1 a2 i) s1
noncomputable def zqd (a0 : Str) (a1 : Int) (a2 : Str) : Option Str :=
 zhi a0 a1 a2 a1
theorem Z35 (a0 : Str) (a1 : Int) (a2 r : Str) (h : zqd a0 a1 a2 = some r) : z0o Try.prog 104 [(z0k a0), (I64 a1), (z0k a2)] (z0k r) := by
 unfold zqd at h
 refine z0j Try.func104 rfl Try.ntmps104 Try.results104 rfl (z0q ?_)
 change BW _ _ _ ⟨[(0, (z0k a0)), (1, (I64 a1)), (2, (z0k a2))], [], _⟩ _
 refine bR ?_
 refine eX ?_
 refine bR ?_
 refine sX ?_
 refine eX ?_
 refine z0d ?_
 refine z0r ?_
 refine cBx ?_
 unfold zhi at h
 refine lX (σ := Int) (fun i => [(0, (z0k a0)), (1, (I64 a1)), (2, (z0k a2)), (7, (I64 i))]) (fun i => []) a1 h ?_ ?_
 exact jN
 rintro g1_f s1 h; replace h : z65 a0 a1 a2 (fun y0 => g1_f y0) s1 = some r := h; unfold z65 at h
 change BW _ _ _ ⟨[(0, (z0k a0)), (1, (I64 a1)), (2, (z0k a2)), (7, (I64 s1))], [], _⟩ _
 refine z0d ?_
 refine jX (ι := Bool) (fun i => z99 (fun y0 => g1_f y0) a0 a1 s1 i = some r) (fun i => [(0, (z0k a0)), (1, (I64 a1)), (2, (z0k a2)), (7, (I64 s1)), (20, (BO i))]) (fun i => []) ?_ ?_
 rintro s2 h; replace h : z99 (fun y0 => g1_f y0) a0 a1 s1 s2 = some r := h; unfold z99 at h
 change BW _ _ _ ⟨[(0, (z0k a0)), (1, (I64 a1)), (2, (z0k a2)), (7, (I64 s1)), (20, (BO s2))], [], _⟩ _
 refine cX h rfl ?_ ?_
 intro hc3 h
 refine z0c ?_
 refine cBx ?_
 refine z0r ?_
 refine cBx ?_
 refine z0e ?_
 iterate 2 refine sX ?_
 refine sX (z08 ?_)
 exact ⟨rfl, (IntKind.i64.wrap (s1 + 1)), h, jN⟩
 intro hc3 h
 refine z1z ?_
 refine cBx ?_
 refine bR ?_
 iterate 3 refine sX ?_
 obtain ⟨x4, hx4, h⟩ := obind h
 refine sS rfl rfl rfl (zu5 (s := a0) (l := a1) (h := s1) Try.underlying9 rfl rfl rfl rfl rfl rfl hx4) ?_
 refine eX ?_
 obtain rfl := eI h; exact z04 eK
 refine z0e ?_
 iterate 2 refine sX ?_
 refine sS rfl rfl rfl (z4w (s := a0) Try.underlying9 rfl rfl) ?_
 iterate 2 refine sX ?_
 refine z0n (t := 13) rfl ?_ ?_
 intro hb5; replace h := z0t hb5 h
 iterate 3 refine yX ?_
 obtain ⟨x6, hx6, h⟩ := obind h
 refine z1t rfl rfl rfl rfl rfl rfl (z6k (s := a0) Try.underlying9 rfl rfl rfl hx6) ?_
 obtain ⟨x7, hx7, h⟩ := obind h
 refine z1t rfl rfl rfl rfl rfl rfl (z03 rfl zwc rfl (wkr (wkr .nil)) ⟨rfl, ⟨rfl, trivial⟩⟩ (Z0d a2 x6 x7 hx7) rfl) ?_
 refine yX ?_
 refine sX (z08 ?_)
 exact ⟨rfl, (decide (x7 ≥ 0)), h, jN⟩
 intro hb5; replace h := z0u hb5 h
 iterate 6 refine nX ?_
 refine sX (z08 ?_)
 exact ⟨rfl, false, h, jN⟩
noncomputable def zql (a0 : Str) : Option Bool :=
 bif (!(a0 == ([] : Str))) then (
 bif (decide ((((a0).length : Nat) : Int) ≤ 32)) then (
 ((a0)[0]?).bind fun x3 =>
 (zqq ([97, 98, 99, 100, 101, 102, 103, 104, 105, 106, 107, 108, 109, 110, 111, 112, 113, 114, 115, 116, 117, 118, 119, 120, 121, 122] : Str) x3).bind fun x4 =>
 bif (decide (x4 ≥ 0)) then (
 (zqd a0 0 ([97, 98, 99, 100, 101, 102, 103, 104, 105, 106, 107, 108, 109, 110, 111, 112, 113, 114, 115, 116, 117, 118, 119, 120, 121, 122, 48, 49, 50, 51, 52, 53, 54, 55, 56, 57, 95] : Str)).bind fun x6 =>
 some (x6 == a0)
 ) else (
 some false
 )
 ) else (
 some false
 )
 ) else (
 some false
 )
theorem Z3b (a0 : Str) (r : Bool) (h : zql a0 = some r) : z0o Try.prog 97 [(z0k a0)] (BO r) := by
 unfold zql at h
 refine z0j Try.func97 rfl Try.ntmps97 Try.results97 rfl (z0q ?_)
 change BW _ _ _ ⟨[(0, (z0k a0))], [], _⟩ _
 refine bR ?_
 refine eX ?_
 refine bR ?_
 refine sX ?_
 refine sS rfl rfl rfl ((z2p (a := a0) (b := ([] : Str)) rfl rfl rfl rfl).cast (y := (BO ((!(a0 == ([] : Str)))))) rfl rfl) ?_
 refine sX ?_
 refine z0n (t := 5) rfl ?_ ?_
 intro hb1; replace h := z0t hb1 h
 refine yX ?_
 refine z1t rfl rfl rfl rfl rfl rfl (z4w (s := a0) Try.underlying9 rfl rfl) ?_
 refine yX ?_
 iterate 2 refine sX ?_
 refine z0n (t := 10) rfl ?_ ?_
 intro hb2; replace h := z0t hb2 h
 refine yX ?_
 obtain ⟨x3, hx3, h⟩ := obind h
 refine z1t rfl rfl rfl rfl rfl rfl (zd3 (s := a0) (i := 0) Try.underlying9 rfl rfl rfl hx3) ?_
 obtain ⟨x4, hx4, h⟩ := obind h
 refine z1t rfl rfl rfl rfl rfl rfl (z03 rfl zwc rfl (wkr (wkr .nil)) ⟨rfl, ⟨rfl, trivial⟩⟩ (Z0d ([97, 98, 99, 100, 101, 102, 103, 104, 105, 106, 107, 108, 109, 110, 111, 112, 113, 114, 115, 116, 117, 118, 119, 120, 121, 122] : Str) x3 x4 hx4) rfl) ?_
 refine yX ?_
 iterate 2 refine sX ?_
 refine z0n (t := 16) rfl ?_ ?_
 intro hb5; replace h := z0t hb5 h
 refine yX ?_
 obtain ⟨x6, hx6, h⟩ := obind h
 refine z1t rfl rfl rfl rfl rfl rfl (z03 rfl Z25 rfl (wkr (wkr (wkr .nil))) ⟨rfl, ⟨rfl, ⟨rfl, trivial⟩⟩⟩ (Z35 a0 0 ([97, 98, 99, 100, 101, 102, 103, 104, 105, 106, 107, 108, 109, 110, 111, 112, 113, 114, 115, 116, 117, 118, 119, 120, 121, 122, 48, 49, 50, 51, 52, 53, 54, 55, 56, 57, 95] : Str) x6 hx6) rfl) ?_
 refine yX ?_
 refine z1t rfl rfl rfl rfl rfl rfl ((z2p (a := x6) (b := a0) rfl rfl rfl rfl).cast (y := (BO ((x6 == a0)))) rfl rfl) ?_
 refine sX ?_
 refine eX ?_
 obtain rfl := eI h; exact z04 eK
 intro hb5; replace h := z0u hb5 h
 iterate 4 refine nX ?_
 refine sX ?_
 refine eX ?_
 obtain rfl := eI h; exact z04 eK
 intro hb2; replace h := z0u hb2 h
 iterate 4 refine nX ?_
 iterate 2 refine sX ?_
 iterate 4 refine nX ?_
 refine sX ?_
 refine eX ?_
 obtain rfl := eI h; exact z04 eK
 intro hb1; replace h := z0u hb1 h
 iterate 3 refine nX ?_
 iterate 2 refine sX ?_
 iterate 4 refine nX ?_
 iterate 2 refine sX ?_
 iterate 4 refine nX ?_
 refine sX ?_
 refine eX ?_
 obtain rfl := eI h; exact z04 eK
noncomputable def zb0 (s7 : Bool) : Option Int :=
 bif s7 then (
 some 1
 ) else (
 some 0
 )
noncomputable def zce (a0 : S_api_Step) (s5 : Bool) : Option Int :=
 bif s5 then (
 some 8
 ) else (
 bif a0.f_At then (
 bif (decide (a0.f_Index < 0)) then (
 zb0 true
 ) else (
 zb0 (decide (a0.f_Index ≥ 4096))
 )
 ) else (
 zb0 false
 )
 )
noncomputable def zcf (a0 : S_api_Step) (s3 : Bool) : Option Int :=
 bif s3 then (
 some 1
 ) else (
 bif a0.f_At then (
 zce a0 (!(a0.f_Name == ([] : Str)))
 ) else (
 zce a0 false
 )
 )
noncomputable def zcg (a0 : S_api_Step) (s1 : Bool) : Option Int :=
 bif s1 then (
 some 8
 ) else (
 bif (!a0.f_At) then (
 zcf a0 (a0.f_Index != 0)
 ) else (
 zcf a0 false
 )
 )
noncomputable def zq3 (a0 : S_api_Step) : Option Int :=
 bif (!a0.f_At) then (
 (zql a0.f_Name).bind fun x14 =>
 zcg a0 (!x14)
 ) else (
 zcg a0 false
 )
theorem Z2u (a0 : S_api_Step) (r : Int) (h : zq3 a0 = some r) : z0o Try.prog 89 [(z01 a0)] (I64 r) := by
 unfold zq3 at h
 refine z0j Try.func89 rfl Try.ntmps89 Try.results89 rfl (z0q ?_)
 change BW _ _ _ ⟨[(0, (z01 a0))], [], _⟩ _
 refine bR ?_
 refine sX ?_
 refine eX ?_
 refine z0d ?_
 refine z0r ?_
 refine cBx ?_
 refine jX (ι := Bool) (fun i => zcg a0 i = some r) (fun i => [(1, (PV.rf 0 0)), (3, (BO i))]) (fun i => [.box 76 [(z0k a0.f_Name), (BO a0.f_At), (I64 a0.f_Index)]]) ?_ ?_
 rintro s1 h; replace h : zcg a0 s1 = some r := h; unfold zcg at h
 change BW _ _ _ ⟨[(1, (PV.rf 0 0)), (3, (BO s1))], [.box 76 [(z0k a0.f_Name), (BO a0.f_At), (I64 a0.f_Index)]], _⟩ _
 refine cX h rfl ?_ ?_
 intro hc2 h
 refine bR ?_
 refine eX ?_
 obtain rfl := eI h; exact z04 eK
 intro hc2 h
 refine jX (ι := Bool) (fun i => zcf a0 i = some r) (fun i => [(1, (PV.rf 0 0)), (13, (BO i))]) (fun i => [.box 76 [(z0k a0.f_Name), (BO a0.f_At), (I64 a0.f_Index)]]) ?_ ?_
 rintro s3 h; replace h : zcf a0 s3 = some r := h; unfold zcf at h
 change BW _ _ _ ⟨[(1, (PV.rf 0 0)), (13, (BO s3))], [.box 76 [(z0k a0.f_Name), (BO a0.f_At), (I64 a0.f_Index)]], _⟩ _
 refine cX h rfl ?_ ?_
 intro hc4 h
 refine bR ?_
 refine eX ?_
 obtain rfl := eI h; exact z04 eK
 intro hc4 h
 refine jX (ι := Bool) (fun i => zce a0 i = some r) (fun i => [(1, (PV.rf 0 0)), (22, (BO i))]) (fun i => [.box 76 [(z0k a0.f_Name), (BO a0.f_At), (I64 a0.f_Index)]]) ?_ ?_
 rintro s5 h; replace h : zce a0 s5 = some r := h; unfold zce at h
 change BW _ _ _ ⟨[(1, (PV.rf 0 0)), (22, (BO s5))], [.box 76 [(z0k a0.f_Name), (BO a0.f_At), (I64 a0.f_Index)]], _⟩ _
 refine cX h rfl ?_ ?_
 intro hc6 h
 refine bR ?_
 refine eX ?_
 obtain rfl := eI h; exact z04 eK
 intro hc6 h
 refine jX (ι := Bool) (fun i => zb0 i = some r) (fun i => [(30, (BO i))]) (fun i => []) ?_ ?_
 rintro s7 h; replace h : zb0 s7 = some r := h; unfold zb0 at h
 change BW _ _ _ ⟨[(30, (BO s7))], [], _⟩ _
 refine cX h rfl ?_ ?_
 intro hc8 h
 refine bR ?_
 refine eX ?_
 obtain rfl := eI h; exact z04 eK
 intro hc8 h
 refine z0c ?_
 refine cBx ?_
 refine bR ?_
 refine eX ?_
 obtain rfl := eI h; exact z04 eK
 refine z0e ?_
 iterate 3 refine sX ?_
 refine z0n (t := 33) rfl ?_ ?_
 intro hb9; replace h := z0t hb9 h
 iterate 4 refine yX ?_
 refine z0n (t := 37) rfl ?_ ?_
 intro hb10; replace h := z0t hb10 h
 iterate 3 refine nX ?_
 refine yX ?_
 refine sX ?_
 refine sX (z08 ?_)
 exact ⟨rfl, true, h, jN⟩
 intro hb10; replace h := z0u hb10 h
 iterate 4 refine yX ?_
 refine sX ?_
 refine sX (z08 ?_)
 exact ⟨rfl, (decide (a0.f_Index ≥ 4096)), h, jN⟩
 intro hb9; replace h := z0u hb9 h
 iterate 8 refine nX ?_
 refine sX ?_
 refine sX (z08 ?_)
 exact ⟨rfl, false, h, jN⟩
 refine z0e ?_
 iterate 3 refine sX ?_
 refine z0n (t := 25) rfl ?_ ?_
 intro hb11; replace h := z0t hb11 h
 iterate 2 refine yX ?_
 refine z1t rfl rfl rfl rfl rfl rfl ((z2p (a := a0.f_Name) (b := ([] : Str)) rfl rfl rfl rfl).cast (y := (BO ((!(a0.f_Name == ([] : Str)))))) rfl rfl) ?_
 refine sX ?_
 refine sX (z08 ?_)
 exact ⟨rfl, (!(a0.f_Name == ([] : Str))), h, jN⟩
 intro hb11; replace h := z0u hb11 h
 iterate 3 refine nX ?_
 refine sX ?_
 refine sX (z08 ?_)
 exact ⟨rfl, false, h, jN⟩
 refine z0e ?_
 iterate 4 refine sX ?_
 refine z0n (t := 17) rfl ?_ ?_
 intro hb12; replace h := z0t hb12 h
 iterate 3 refine yX ?_
 refine sX ?_
 refine sX (z08 ?_)
 exact ⟨rfl, (a0.f_Index != 0), h, jN⟩
 intro hb12; replace h := z0u hb12 h
 iterate 3 refine nX ?_
 refine sX ?_
 refine sX (z08 ?_)
 exact ⟨rfl, false, h, jN⟩
 refine z0e ?_
 iterate 4 refine sX ?_
 refine z0n (t := 7) rfl ?_ ?_
 intro hb13; replace h := z0t hb13 h
 iterate 2 refine yX ?_
 obtain ⟨x14, hx14, h⟩ := obind h
 refine z1t rfl rfl rfl rfl rfl rfl (z03 rfl Z44 rfl (wkr .nil) ⟨rfl, trivial⟩ (Z3b a0.f_Name x14 hx14) rfl) ?_
 refine yX ?_
 refine sX ?_
 refine sX (z08 ?_)
 exact ⟨rfl, (!x14), h, jN⟩
 intro hb13; replace h := z0u hb13 h
 iterate 4 refine nX ?_
 refine sX ?_
 refine sX (z08 ?_)
 exact ⟨rfl, false, h, jN⟩
noncomputable def z66 (a0 : (List S_api_Step)) (g1 : Nat → Option Int) (s2 : Nat) : Option Int :=
 bif (decide (((s2 : Nat) : Int) < (((a0).length : Nat) : Int))) then (
 ((a0)[s2]?).bind fun x5 =>
 (zq3 x5).bind fun x6 =>
 bif (x6 != 0) then (
 some x6
 ) else (
 g1 (s2 + 1)
 )
 ) else (
 some 0
 )
theorem zn4 (g1 : OF ρ → Nat → Option Int) (h_g1 : ∀ y0, CM (fun G => g1 G y0)) (a0 : (List S_api_Step)) (s2 : Nat) : CM (fun G : OF ρ => z66 a0 (g1 G) s2) := by
 simp only [z66]
 repeat (first | exact z0h | exact h_g1 _ | refine z10 ?_ ?_ | refine z11 ?_ (fun _ => ?_))
noncomputable def zhk (a0 : (List S_api_Step)) (s2 : Nat) : Option Int :=
 z3b (ι := Nat) (ρ := fun _ => Int) (fun g i => z66 a0 (fun s2 => g s2) i) s2
theorem zhj (a0 : (List S_api_Step)) (s2 : Nat) : zhk a0 s2 = z66 a0 (zhk a0) s2 :=
 z1f (ι := Nat) (ρ := fun _ => Int) (Φ := fun g i => z66 a0 (fun s2 => g s2) i) (fun i => zn4 (ι := Nat) (ρ := fun _ => Int) (fun g => (fun s2 => g s2)) (fun _ => z1i) a0 i) s2
noncomputable def zqg (a0 : (List S_api_Step)) : Option Int :=
 bif (decide ((((a0).length : Nat) : Int) > 64)) then (
 some 2
 ) else (
 zhk a0 0
 )
theorem Z37 (a0 : (List S_api_Step)) (r : Int) (h : zqg a0 = some r) : z0o Try.prog 66 [(PV.sl none 76 3 (List.map z01 a0))] (I64 r) := by
 unfold zqg at h
 refine z0j Try.func66 rfl Try.ntmps66 Try.results66 rfl (z0q ?_)
 change BW _ _ _ ⟨[(0, (PV.sl none 76 3 (List.map z01 a0)))], [], _⟩ _
 refine bR ?_
 refine eX ?_
 refine z0d ?_
 refine bR ?_
 iterate 2 refine sX ?_
 refine eX ?_
 refine cX h rfl ?_ ?_
 intro hc1 h
 refine bR ?_
 refine eX ?_
 obtain rfl := eI h; exact z04 eK
 intro hc1 h
 refine z0c ?_
 refine cBx ?_
 refine z0d ?_
 refine bR ?_
 iterate 2 refine sX ?_
 refine eX ?_
 refine z0r ?_
 refine cBx ?_
 unfold zhk at h
 refine z3c (σ := Nat) (fun i => [(9, (PV.sl none 76 3 (List.map z01 a0))), (10, (I64 ((((a0).length : Nat) : Int)))), (11, (I64 (((i : Nat) : Int))))]) (fun i => []) 0 h ?_ ?_ ?_
 intro i; exact ⟨lbE rfl, ⟨(z02 (z0f z07 _)), ⟨(z02 rfl), ⟨(z02 rfl), trivial⟩⟩⟩, trivial⟩
 exact jN
 rintro g1_f s2 h; replace h : z66 a0 (fun y0 => g1_f y0) s2 = some r := h; unfold z66 at h
 change BW _ _ _ ⟨[(9, (PV.sl none 76 3 (List.map z01 a0))), (10, (I64 ((((a0).length : Nat) : Int)))), (11, (I64 (((s2 : Nat) : Int))))], [], _⟩ _
 refine bR ?_
 refine eX ?_
 refine z0d ?_
 refine z3p (t := 9) rfl fun hb4 => ?_
 try rw [List.length_map] at hb4
 refine cX h rfl ?_ ?_
 intro hc3 h
 have hc3_ := of_decide_eq_true hc3
 refine z0c ?_
 refine cBx ?_
 refine z0d ?_
 refine z0r ?_
 refine cBx ?_
 refine bR ?_
 obtain ⟨x5, hx5, h⟩ := obind h
 refine sS rfl rfl rfl (z1d (i := s2) Try.underlying37 z1w rfl rfl rfl hx5 rfl) ?_
 refine sX ?_
 refine sS rfl rfl rfl (z1b z1w rfl) ?_
 refine z0l rfl rfl (z0g z1w rfl rfl rfl rfl rfl rfl (lbE rfl) rfl) ?_
 refine z08 ?_
 refine cBx ?_
 refine bR ?_
 refine sX ?_
 obtain ⟨x6, hx6, h⟩ := obind h
 refine sS rfl rfl rfl (z03 rfl Z48 rfl (wkr .nil) ⟨(z07 x5), trivial⟩ (Z2u x5 x6 hx6) rfl) ?_
 refine eX ?_
 refine bR ?_
 refine sX ?_
 refine eX ?_
 refine cX h rfl ?_ ?_
 intro hc7 h
 refine bR ?_
 refine sX ?_
 refine eX ?_
 obtain rfl := eI h; exact z04 eK
 intro hc7 h
 refine z0c ?_
 refine cBx ?_
 refine z0e ?_
 refine sS rfl rfl rfl (z20 (k := s2) (c := 1) rfl rfl rfl (by omega)) ?_
 refine sX (z08 ?_)
 exact ⟨rfl, (s2 + 1), h, jN⟩
 intro hc3 h
 refine z1z ?_
 refine cBx ?_
 refine bR ?_
 refine eX ?_
 obtain rfl := eI h; exact z04 eK
noncomputable def zjw (a0 : V) (a1 : (List S_api_Step)) : Option Int :=
 (zng a0).bind fun x1 =>
 bif (x1.2 != 0) then (
 some x1.2
 ) else (
 (zqg a1).bind fun x3 =>
 some x3
 )
theorem zx3 (a0 : V) (a1 : (List S_api_Step)) (r : Int) (h : zjw a0 a1 = some r) : z0o Try.prog 38 [(ofV a0), (PV.sl none 76 3 (List.map z01 a1))] (I64 r) := by
 unfold zjw at h
 refine z0j Try.func38 rfl Try.ntmps38 Try.results38 rfl (z0q ?_)
 change BW _ _ _ ⟨[(0, (ofV a0)), (1, (PV.sl none 76 3 (List.map z01 a1)))], [], _⟩ _
 refine bR ?_
 refine eX ?_
 refine z0d ?_
 refine bR ?_
 refine sX ?_
 obtain ⟨x1, hx1, h⟩ := obind h
 refine sS rfl rfl rfl (z03 rfl Z21 rfl (wkr .nil) ⟨(ids_V a0), trivial⟩ (Z06 a0 x1 hx1) (z00 rfl (z00 rfl z05))) ?_
 iterate 4 refine sX ?_
 refine eX ?_
 refine bR ?_
 refine sX ?_
 refine eX ?_
 refine cX h rfl ?_ ?_
 intro hc2 h
 refine bR ?_
 refine sX ?_
 refine eX ?_
 obtain rfl := eI h; exact z04 eK
 intro hc2 h
 refine z0c ?_
 refine cBx ?_
 refine bR ?_
 refine sX ?_
 obtain ⟨x3, hx3, h⟩ := obind h
 refine sS rfl rfl rfl (z03 rfl Z4e rfl (wkr .nil) ⟨(z0f z07 a1), trivial⟩ (Z37 a1 x3 hx3) rfl) ?_
 refine eX ?_
 obtain rfl := eI h; exact z04 eK
noncomputable def zto (a0 : V) : Option ((List (Str × V)) × Bool) :=
 bif (a0).isDict then (
 some ((a0).asDict, true)
 ) else (
 bif (a0).isRec then (
 ((a0).asRec).bind fun x3 =>
 some (x3.fields, true)
 ) else (
 some ([], false)
 )
 )
theorem Z3h (a0 : V) (r : ((List (Str × V)) × Bool)) (h : zto a0 = some r) : z0o Try.prog 83 [(ofV a0)] (PV.tup [(PV.sl none 96 2 (List.map ofFld r.1)), (BO r.2)]) := by
 unfold zto at h
 refine z0j Try.func83 rfl Try.ntmps83 Try.results83 rfl (z0q ?_)
 change BW _ _ _ ⟨[(0, (ofV a0))], [], _⟩ _
 refine bR ?_
 refine sX ?_
 refine eX ?_
 refine z0d ?_
 refine bR ?_
 refine eX ?_
 refine z0r ?_
 refine cBx ?_
 refine bR ?_
 refine sS rfl rfl rfl (z3o rfl rfl) ?_
 refine sX ?_
 refine eX ?_
 refine cX h rfl ?_ ?_
 intro hc1 h
 refine bR ?_
 refine eX ?_
 refine bR ?_
 iterate 2 refine sX ?_
 refine eX ?_
 obtain rfl := eI h; exact z04 ⟨_, rfl, z0p (y := (PV.tup [(PV.sl none 96 2 (List.map ofFld (a0).asDict)), (BO true)])) (Wk.refl _) (z00 (z0f z19 ((a0).asDict)) (z00 rfl z05)) ⟨rfl, rfl⟩⟩
 intro hc1 h
 refine bR ?_
 refine sS rfl rfl rfl (z48 rfl rfl) ?_
 refine sX ?_
 refine eX ?_
 refine cX h rfl ?_ ?_
 intro hc2 h
 refine bR ?_
 refine eX ?_
 refine bR ?_
 refine sX ?_
 obtain ⟨x3, hx3, h⟩ := obind h
 refine sS rfl rfl rfl (z2d rfl rfl hx3) ?_
 iterate 3 refine sX ?_
 refine eX ?_
 obtain rfl := eI h; exact z04 ⟨_, rfl, z0p (y := (PV.tup [(PV.sl none 96 2 (List.map ofFld x3.fields)), (BO true)])) (Wk.refl _) (z00 (z0f z19 x3.fields) (z00 rfl z05)) ⟨rfl, rfl⟩⟩
 intro hc2 h
 refine z0c ?_
 refine cBx ?_
 refine bR ?_
 refine sX ?_
 refine eX ?_
 obtain rfl := eI h; exact z04 ⟨_, rfl, z0p (y := (PV.tup [(PV.sl none 96 2 (List.map ofFld [])), (BO false)])) (Wk.tup (wkn (wkr .nil))) (z00 (z0f z19 ([])) (z00 rfl z05)) ⟨rfl, rfl⟩⟩
noncomputable def zni (a0 : (Str × V)) (a1 : Str) : Option Int :=
 bif (Op.bytesLess a0.1 a1) then (
 some (-1)
 ) else (
 bif (!(Op.bytesLess a0.1 a1 || a0.1 == a1)) then (
 some 1
 ) else (
 some 0
 )
 )
theorem Z08 (a0 : (Str × V)) (a1 : Str) (r : Int) (h : zni a0 a1 = some r) : z0o Try.prog 93 [(ofFld a0), (z0k a1)] (I64 r) := by
 unfold zni at h
 refine z0j Try.func93 rfl Try.ntmps93 Try.results93 rfl (z0q ?_)
 change BW _ _ _ ⟨[(0, (ofFld a0)), (1, (z0k a1))], [], _⟩ _
 refine bR ?_
 refine sX ?_
 refine eX ?_
 refine z0d ?_
 refine z0r ?_
 refine cBx ?_
 refine bR ?_
 iterate 3 refine sX ?_
 refine sS rfl rfl rfl ((z2p (a := a0.1) (b := a1) rfl rfl rfl rfl).cast (y := (BO ((Op.bytesLess a0.1 a1)))) rfl rfl) ?_
 refine eX ?_
 refine cX h rfl ?_ ?_
 intro hc1 h
 refine bR ?_
 refine eX ?_
 obtain rfl := eI h; exact z04 eK
 intro hc1 h
 refine bR ?_
 iterate 3 refine sX ?_
 refine sS rfl rfl rfl ((z2p (a := a0.1) (b := a1) rfl rfl rfl rfl).cast (y := (BO ((!(Op.bytesLess a0.1 a1 || a0.1 == a1))))) rfl rfl) ?_
 refine eX ?_
 refine cX h rfl ?_ ?_
 intro hc2 h
 refine bR ?_
 refine eX ?_
 obtain rfl := eI h; exact z04 eK
 intro hc2 h
 refine z0c ?_
 refine cBx ?_
 refine bR ?_
 refine eX ?_
 obtain rfl := eI h; exact z04 eK
end Go.Proofs.Ythidgpcbnieleaa
