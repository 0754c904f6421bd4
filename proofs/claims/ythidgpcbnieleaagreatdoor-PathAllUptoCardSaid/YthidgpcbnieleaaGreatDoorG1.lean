/- Pure functions, and that calls answer as they say. -/
import Derived.Test.YthidgpcbnieleaaGreatDoorG0
namespace Go.Proofs.YthidgpcbnieleaaGreatDoor
open Go Aw
set_option linter.unusedVariables false
set_option linter.unusedSimpArgs false
set_option maxRecDepth 20000
set_option maxHeartbeats 2000000
variable {ι : Type} {ρ : ι → Type}
noncomputable def zbg : Option Int :=
 some 0
noncomputable def zbf (x16 : Rec) (s19 : Bool) : Option Int :=
 bif s19 then (
 some 1
 ) else (
 (zjx x16.fields).bind fun x21 =>
 some x21
 )
noncomputable def z8i (a0 : V) (s1 : Bool) : Option Int :=
 bif s1 then (
 (zjt a0).bind fun x3 =>
 bif (x3 == 11) then (
 some 7
 ) else (
 bif (x3 == 0) then (
 some 6
 ) else (
 some 2
 )
 )
 ) else (
 bif (a0).isText then (
 bif (decide (((((a0).asText).length : Nat) : Int) > 65536)) then (
 some 2
 ) else (
 zbg
 )
 ) else (
 bif (a0).isBytes then (
 bif (decide (((((a0).asBytes).length : Nat) : Int) > 65536)) then (
 some 2
 ) else (
 zbg
 )
 ) else (
 bif (a0).isList then (
 bif (decide (((((a0).asList).length : Nat) : Int) > 4096)) then (
 some 2
 ) else (
 zbg
 )
 ) else (
 bif (a0).isDict then (
 (zjx ((a0).asDict)).bind fun x13 =>
 some x13
 ) else (
 bif (a0).isRec then (
 bif ((a0).asRec).isNone then (
 some 7
 ) else (
 ((a0).asRec).bind fun x16 =>
 (zjs x16.cls).bind fun x17 =>
 bif (!x17) then (
 some 8
 ) else (
 bif (decide (x16.ver < 1)) then (
 zbf x16 true
 ) else (
 zbf x16 (decide (x16.ver > 1000))
 )
 )
 )
 ) else (
 (zjt a0).bind fun x23 =>
 bif (x23 == 0) then (
 some 6
 ) else (
 zbg
 )
 )
 )
 )
 )
 )
 )
noncomputable def zql (a0 : V) (a1 a2 : Int) : Option Int :=
 bif (decide (a1 ≥ 16384)) then (
 z8i a0 true
 ) else (
 z8i a0 (decide (a2 > 64))
 )
theorem Z4o (a0 : V) (a1 a2 r : Int) (h : zql a0 a1 a2 = some r) : z0m Tryz.prog 86 [(ofV a0), (I64 a1), (I64 a2)] (I64 r) := by
 unfold zql at h
 refine z0d Tryz.func86 rfl Tryz.ntmps86 Tryz.results86 rfl (z0g ?_)
 change BW _ _ _ ⟨[(0, (ofV a0)), (1, (I64 a1)), (2, (I64 a2))], [], _⟩ _
 refine bR ?_
 refine eX ?_
 refine z08 ?_
 refine z2t (ι := Bool) (fun i => z8i a0 i = some r) (fun i => [(0, (ofV a0)), (18, (BO i))]) (fun i => []) ?_ ?_ ?_
 intro i; exact ⟨lbE rfl, ⟨(z09 (ids_V _)), ⟨(z09 rfl), trivial⟩⟩, trivial⟩
 rintro s1 h; replace h : z8i a0 s1 = some r := h; unfold z8i at h
 change BW _ _ _ ⟨[(0, (ofV a0)), (18, (BO s1))], [], _⟩ _
 refine cX h rfl ?_ ?_
 intro hc2 h
 refine z08 ?_
 refine bR ?_
 refine sX ?_
 obtain ⟨x3, hx3, h⟩ := obind h
 refine sS rfl rfl rfl (z06 rfl zvj rfl (wkr .nil) ⟨(ids_V a0), trivial⟩ (ztd a0 x3 hx3) rfl) (z0a ?_)
 refine cBx ?_
 refine z0h ?_
 refine cBx ?_
 refine bR ?_
 refine sX ?_
 refine eX ?_
 refine cX h rfl ?_ ?_
 intro hc4 h
 refine bR ?_
 refine eX ?_
 obtain rfl := eI h; exact z05 eK
 intro hc4 h
 refine bR ?_
 refine sX ?_
 refine eX ?_
 refine cX h rfl ?_ ?_
 intro hc5 h
 refine bR ?_
 refine eX ?_
 obtain rfl := eI h; exact z05 eK
 intro hc5 h
 refine z07 ?_
 refine cBx ?_
 refine bR ?_
 refine eX ?_
 obtain rfl := eI h; exact z05 eK
 intro hc2 h
 refine z07 ?_
 refine cBx ?_
 refine jX (ι := Unit) (fun i => zbg = some r) (fun i => []) (fun i => []) ?_ ?_
 rintro ⟨⟩ h; replace h : zbg = some r := h; unfold zbg at h
 change BW _ _ _ ⟨[], [], _⟩ _
 refine bR ?_
 refine eX ?_
 obtain rfl := eI h; exact z05 eK
 refine bR ?_
 refine eX ?_
 refine z0h ?_
 refine cBx ?_
 refine bR ?_
 refine sS rfl rfl rfl (zb3 rfl rfl) ?_
 refine sX ?_
 refine eX ?_
 refine cX h rfl ?_ ?_
 intro hc6 h
 refine bR ?_
 refine eX ?_
 refine bR ?_
 refine sX ?_
 refine sS rfl rfl rfl (z4m (s := ((a0).asText)) Tryz.underlying9 rfl rfl) ?_
 refine eX ?_
 refine cX h rfl ?_ ?_
 intro hc7 h
 refine bR ?_
 refine eX ?_
 obtain rfl := eI h; exact z05 eK
 intro hc7 h
 refine z07 ?_
 exact ⟨rfl, (), h, jN⟩
 intro hc6 h
 refine bR ?_
 refine sS rfl rfl rfl (z4z rfl rfl) ?_
 refine sX ?_
 refine eX ?_
 refine cX h rfl ?_ ?_
 intro hc8 h
 refine bR ?_
 refine eX ?_
 refine bR ?_
 iterate 2 refine sX ?_
 refine eX ?_
 refine cX h rfl ?_ ?_
 intro hc9 h
 refine bR ?_
 refine eX ?_
 obtain rfl := eI h; exact z05 eK
 intro hc9 h
 refine z07 ?_
 exact ⟨rfl, (), h, jN⟩
 intro hc8 h
 refine bR ?_
 refine sS rfl rfl rfl (z1w rfl rfl) ?_
 refine sX ?_
 refine eX ?_
 refine cX h rfl ?_ ?_
 intro hc10 h
 refine bR ?_
 refine eX ?_
 refine bR ?_
 iterate 2 refine sX ?_
 refine eX ?_
 refine cX h rfl ?_ ?_
 intro hc11 h
 refine bR ?_
 refine eX ?_
 obtain rfl := eI h; exact z05 eK
 intro hc11 h
 refine z07 ?_
 exact ⟨rfl, (), h, jN⟩
 intro hc10 h
 refine bR ?_
 refine sS rfl rfl rfl (z2r rfl rfl) ?_
 refine sX ?_
 refine eX ?_
 refine cX h rfl ?_ ?_
 intro hc12 h
 refine bR ?_
 refine eX ?_
 refine bR ?_
 refine sX ?_
 obtain ⟨x13, hx13, h⟩ := obind h
 refine sS rfl rfl rfl (z06 rfl zxr rfl (wkr .nil) ⟨(z03 z0r ((a0).asDict)), trivial⟩ (Z1v ((a0).asDict) x13 hx13) rfl) ?_
 refine eX ?_
 obtain rfl := eI h; exact z05 eK
 intro hc12 h
 refine bR ?_
 refine sS rfl rfl rfl (z35 rfl rfl) ?_
 refine sX ?_
 refine eX ?_
 refine cX h rfl ?_ ?_
 intro hc14 h
 refine bR ?_
 refine eX ?_
 refine z08 ?_
 refine z0h ?_
 refine cBx ?_
 refine bR ?_
 refine sX ?_
 refine sS rfl rfl rfl (zer Tryz.underlying73 rfl rfl) ?_
 refine eX ?_
 refine cX h rfl ?_ ?_
 intro hc15 h
 refine bR ?_
 refine eX ?_
 obtain rfl := eI h; exact z05 eK
 intro hc15 h
 refine bR ?_
 refine sX ?_
 obtain ⟨x16, hx16, h⟩ := obind h
 refine sS rfl rfl rfl (z1m rfl rfl hx16) ?_
 iterate 2 refine sX ?_
 obtain ⟨x17, hx17, h⟩ := obind h
 refine sS rfl rfl rfl (z06 rfl zxq rfl (wkr .nil) ⟨rfl, trivial⟩ (Z1q x16.cls x17 hx17) rfl) ?_
 refine sX ?_
 refine eX ?_
 refine cX h rfl ?_ ?_
 intro hc18 h
 refine bR ?_
 refine eX ?_
 obtain rfl := eI h; exact z05 eK
 intro hc18 h
 refine z2t (ι := Bool) (fun i => zbf x16 i = some r) (fun i => [(11, (ofRecP (a0).asRec)), (65, (BO i))]) (fun i => []) ?_ ?_ ?_
 intro i; exact ⟨lbE rfl, ⟨(z09 (zg9 _)), ⟨(z09 rfl), trivial⟩⟩, trivial⟩
 rintro s19 h; replace h : zbf x16 s19 = some r := h; unfold zbf at h
 change BW _ _ _ ⟨[(11, (ofRecP (a0).asRec)), (65, (BO s19))], [], _⟩ _
 refine cX h rfl ?_ ?_
 intro hc20 h
 refine bR ?_
 refine eX ?_
 obtain rfl := eI h; exact z05 eK
 intro hc20 h
 refine z07 ?_
 refine cBx ?_
 refine bR ?_
 refine sX ?_
 refine sS rfl rfl rfl (z1m rfl rfl hx16) ?_
 iterate 2 refine sX ?_
 obtain ⟨x21, hx21, h⟩ := obind h
 refine sS rfl rfl rfl (z06 rfl zxr rfl (wkr .nil) ⟨(z03 z0r x16.fields), trivial⟩ (Z1v x16.fields x21 hx21) rfl) ?_
 refine eX ?_
 obtain rfl := eI h; exact z05 eK
 refine z0f ?_
 refine sX ?_
 refine sS rfl rfl rfl (z1m rfl rfl hx16) ?_
 iterate 4 refine sX ?_
 refine z0q (t := 71) rfl ?_ ?_
 intro hb22; replace h := z0x hb22 h
 iterate 5 refine nX ?_
 refine sX ?_
 refine sX (z0a ?_)
 exact ⟨rfl, true, h, jN⟩
 intro hb22; replace h := z0y hb22 h
 refine yX ?_
 refine z1q rfl rfl rfl rfl rfl rfl (z1m rfl rfl hx16) ?_
 iterate 3 refine yX ?_
 refine sX ?_
 refine sX (z0a ?_)
 exact ⟨rfl, (decide (x16.ver > 1000)), h, jN⟩
 intro hc14 h
 refine bR ?_
 refine eX ?_
 refine bR ?_
 refine sX ?_
 obtain ⟨x23, hx23, h⟩ := obind h
 refine sS rfl rfl rfl (z06 rfl zvj rfl (wkr .nil) ⟨(ids_V a0), trivial⟩ (ztd a0 x23 hx23) rfl) ?_
 refine eX ?_
 refine cX h rfl ?_ ?_
 intro hc24 h
 refine bR ?_
 refine eX ?_
 obtain rfl := eI h; exact z05 eK
 intro hc24 h
 refine z07 ?_
 exact ⟨rfl, (), h, jN⟩
 refine z0f ?_
 iterate 3 refine sX ?_
 refine z0q (t := 15) rfl ?_ ?_
 intro hb25; replace h := z0x hb25 h
 iterate 2 refine nX ?_
 refine sX (z0a ?_)
 exact ⟨rfl, true, h, jN⟩
 intro hb25; replace h := z0y hb25 h
 iterate 2 refine yX ?_
 refine sX (z0a ?_)
 exact ⟨rfl, (decide (a2 > 64)), h, jN⟩
noncomputable def z5m (r_q0v : S_value_count → V → Int → Option (Bool × S_value_count)) (a1 : (List (Str × V))) (a2 : Int) (g1 : Nat → Int → Int → Int → Option (Bool × S_value_count)) (s1 : Nat) (s2 s3 s4 : Int) : Option (Bool × S_value_count) :=
 bif (decide (((s1 : Nat) : Int) < (((a1).length : Nat) : Int))) then (
 ((a1)[s1]?).bind fun x7 =>
 (r_q0v (S_value_count.mk s2 s3 s4) x7.2 (IntKind.i64.wrap (a2 + 1))).bind fun x8 =>
 bif (!x8.1) then (
 some (false, (x8.2))
 ) else (
 g1 (s1 + 1) ((x8.2).f_n) ((x8.2).f_deep) ((x8.2).f_why)
 )
 ) else (
 some (true, (S_value_count.mk s2 s3 s4))
 )
theorem zao (r_q0v : OF ρ → S_value_count → V → Int → Option (Bool × S_value_count)) (h_r_q0v : ∀ y0 y1 y2, CM (fun G => r_q0v G y0 y1 y2)) (g1 : OF ρ → Nat → Int → Int → Int → Option (Bool × S_value_count)) (h_g1 : ∀ y0 y1 y2 y3, CM (fun G => g1 G y0 y1 y2 y3)) (a1 : (List (Str × V))) (a2 : Int) (s1 : Nat) (s2 s3 s4 : Int) : CM (fun G : OF ρ => z5m (r_q0v G) a1 a2 (g1 G) s1 s2 s3 s4) := by
 simp only [z5m]
 repeat (first | exact z0c | exact h_r_q0v _ _ _ | exact h_g1 _ _ _ _ | refine z11 ?_ ?_ | refine z12 ?_ (fun _ => ?_))
noncomputable def zec (r_q0v : S_value_count → V → Int → Option (Bool × S_value_count)) (a1 : (List (Str × V))) (a2 : Int) (s1 : Nat) (s2 s3 s4 : Int) : Option (Bool × S_value_count) :=
 z2w (ι := (Nat × Int × Int × Int)) (ρ := fun _ => (Bool × S_value_count)) (fun g i => z5m r_q0v a1 a2 (fun s1 s2 s3 s4 => g (s1, s2, s3, s4)) i.1 i.2.1 i.2.2.1 i.2.2.2) (s1, s2, s3, s4)
theorem zhi (r_q0v : S_value_count → V → Int → Option (Bool × S_value_count)) (a1 : (List (Str × V))) (a2 : Int) (s1 : Nat) (s2 s3 s4 : Int) : zec r_q0v a1 a2 s1 s2 s3 s4 = z5m r_q0v a1 a2 (zec r_q0v a1 a2) s1 s2 s3 s4 :=
 z19 (ι := (Nat × Int × Int × Int)) (ρ := fun _ => (Bool × S_value_count)) (Φ := fun g i => z5m r_q0v a1 a2 (fun s1 s2 s3 s4 => g (s1, s2, s3, s4)) i.1 i.2.1 i.2.2.1 i.2.2.2) (fun i => zao (ι := (Nat × Int × Int × Int)) (ρ := fun _ => (Bool × S_value_count)) (fun _ => r_q0v) (fun _ _ _ => z0c) (fun g => (fun s1 s2 s3 s4 => g (s1, s2, s3, s4))) (fun _ _ _ _ => z17) a1 a2 i.1 i.2.1 i.2.2.1 i.2.2.2) (s1, s2, s3, s4)
theorem zpp (r_q0v : OF ρ → S_value_count → V → Int → Option (Bool × S_value_count)) (h_r_q0v : ∀ y0 y1 y2, CM (fun G => r_q0v G y0 y1 y2)) (a1 : (List (Str × V))) (a2 : Int) (s1 : Nat) (s2 s3 s4 : Int) : CM (fun G : OF ρ => zec (r_q0v G) a1 a2 s1 s2 s3 s4) :=
 z40 (κ := (Nat × Int × Int × Int)) (τ := fun _ => (Bool × S_value_count)) (Φ := fun G g i => z5m (r_q0v G) a1 a2 (fun s1 s2 s3 s4 => g (s1, s2, s3, s4)) i.1 i.2.1 i.2.2.1 i.2.2.2) (fun g i => zao r_q0v h_r_q0v (fun _ => (fun s1 s2 s3 s4 => g (s1, s2, s3, s4))) (fun _ _ _ _ => z0c) a1 a2 i.1 i.2.1 i.2.2.1 i.2.2.2) (fun G i => zao (ι := (Nat × Int × Int × Int)) (ρ := fun _ => (Bool × S_value_count)) (fun _ => r_q0v G) (fun _ _ _ => z0c) (fun g => (fun s1 s2 s3 s4 => g (s1, s2, s3, s4))) (fun _ _ _ _ => z17) a1 a2 i.1 i.2.1 i.2.2.1 i.2.2.2) (s1, s2, s3, s4)
noncomputable def zkw (r_q12 : S_value_count → (List (Str × V)) → Int → Option (Bool × S_value_count)) (r_q0v : S_value_count → V → Int → Option (Bool × S_value_count)) (a0 : S_value_count) (a1 : (List (Str × V))) (a2 : Int) : Option (Bool × S_value_count) :=
 zec r_q0v a1 a2 0 a0.f_n a0.f_deep a0.f_why
theorem zwc (r_q12 : OF ρ → S_value_count → (List (Str × V)) → Int → Option (Bool × S_value_count)) (h_r_q12 : ∀ y0 y1 y2, CM (fun G => r_q12 G y0 y1 y2)) (r_q0v : OF ρ → S_value_count → V → Int → Option (Bool × S_value_count)) (h_r_q0v : ∀ y0 y1 y2, CM (fun G => r_q0v G y0 y1 y2)) (a0 : S_value_count) (a1 : (List (Str × V))) (a2 : Int) : CM (fun G : OF ρ => zkw (r_q12 G) (r_q0v G) a0 a1 a2) := by
 simp only [zkw]
 repeat (first | exact z0c | exact h_r_q12 _ _ _ | exact h_r_q0v _ _ _ | apply zpp | refine z11 ?_ ?_ | refine z12 ?_ (fun _ => ?_) | intro _ | assumption)
noncomputable def zee (s3 s4 s5 : Int) : Option (Bool × S_value_count) :=
 some (true, (S_value_count.mk s3 s4 s5))
noncomputable def z5n (r_q0v : S_value_count → V → Int → Option (Bool × S_value_count)) (a1 : V) (a2 : Int) (g1 : Nat → Int → Int → Int → Option (Bool × S_value_count)) (s7 : Nat) (s8 s9 s10 : Int) : Option (Bool × S_value_count) :=
 bif (decide (((s7 : Nat) : Int) < ((((a1).asList).length : Nat) : Int))) then (
 (((a1).asList)[s7]?).bind fun x13 =>
 (r_q0v (S_value_count.mk s8 s9 s10) x13 (IntKind.i64.wrap (a2 + 1))).bind fun x14 =>
 bif (!x14.1) then (
 some (false, (x14.2))
 ) else (
 g1 (s7 + 1) ((x14.2).f_n) ((x14.2).f_deep) ((x14.2).f_why)
 )
 ) else (
 zee s8 s9 s10
 )
theorem zap (r_q0v : OF ρ → S_value_count → V → Int → Option (Bool × S_value_count)) (h_r_q0v : ∀ y0 y1 y2, CM (fun G => r_q0v G y0 y1 y2)) (g1 : OF ρ → Nat → Int → Int → Int → Option (Bool × S_value_count)) (h_g1 : ∀ y0 y1 y2 y3, CM (fun G => g1 G y0 y1 y2 y3)) (a1 : V) (a2 : Int) (s7 : Nat) (s8 s9 s10 : Int) : CM (fun G : OF ρ => z5n (r_q0v G) a1 a2 (g1 G) s7 s8 s9 s10) := by
 simp only [z5n]
 repeat (first | exact z0c | exact h_r_q0v _ _ _ | exact h_g1 _ _ _ _ | apply q0v_j1_cm | refine z11 ?_ ?_ | refine z12 ?_ (fun _ => ?_) | intro _ | assumption)
noncomputable def zed (r_q0v : S_value_count → V → Int → Option (Bool × S_value_count)) (a1 : V) (a2 : Int) (s7 : Nat) (s8 s9 s10 : Int) : Option (Bool × S_value_count) :=
 z2w (ι := (Nat × Int × Int × Int)) (ρ := fun _ => (Bool × S_value_count)) (fun g i => z5n r_q0v a1 a2 (fun s7 s8 s9 s10 => g (s7, s8, s9, s10)) i.1 i.2.1 i.2.2.1 i.2.2.2) (s7, s8, s9, s10)
theorem zhj (r_q0v : S_value_count → V → Int → Option (Bool × S_value_count)) (a1 : V) (a2 : Int) (s7 : Nat) (s8 s9 s10 : Int) : zed r_q0v a1 a2 s7 s8 s9 s10 = z5n r_q0v a1 a2 (zed r_q0v a1 a2) s7 s8 s9 s10 :=
 z19 (ι := (Nat × Int × Int × Int)) (ρ := fun _ => (Bool × S_value_count)) (Φ := fun g i => z5n r_q0v a1 a2 (fun s7 s8 s9 s10 => g (s7, s8, s9, s10)) i.1 i.2.1 i.2.2.1 i.2.2.2) (fun i => zap (ι := (Nat × Int × Int × Int)) (ρ := fun _ => (Bool × S_value_count)) (fun _ => r_q0v) (fun _ _ _ => z0c) (fun g => (fun s7 s8 s9 s10 => g (s7, s8, s9, s10))) (fun _ _ _ _ => z17) a1 a2 i.1 i.2.1 i.2.2.1 i.2.2.2) (s7, s8, s9, s10)
theorem zpq (r_q0v : OF ρ → S_value_count → V → Int → Option (Bool × S_value_count)) (h_r_q0v : ∀ y0 y1 y2, CM (fun G => r_q0v G y0 y1 y2)) (a1 : V) (a2 : Int) (s7 : Nat) (s8 s9 s10 : Int) : CM (fun G : OF ρ => zed (r_q0v G) a1 a2 s7 s8 s9 s10) :=
 z40 (κ := (Nat × Int × Int × Int)) (τ := fun _ => (Bool × S_value_count)) (Φ := fun G g i => z5n (r_q0v G) a1 a2 (fun s7 s8 s9 s10 => g (s7, s8, s9, s10)) i.1 i.2.1 i.2.2.1 i.2.2.2) (fun g i => zap r_q0v h_r_q0v (fun _ => (fun s7 s8 s9 s10 => g (s7, s8, s9, s10))) (fun _ _ _ _ => z0c) a1 a2 i.1 i.2.1 i.2.2.1 i.2.2.2) (fun G i => zap (ι := (Nat × Int × Int × Int)) (ρ := fun _ => (Bool × S_value_count)) (fun _ => r_q0v G) (fun _ _ _ => z0c) (fun g => (fun s7 s8 s9 s10 => g (s7, s8, s9, s10))) (fun _ _ _ _ => z17) a1 a2 i.1 i.2.1 i.2.2.1 i.2.2.2) (s7, s8, s9, s10)
noncomputable def zkx (r_q12 : S_value_count → (List (Str × V)) → Int → Option (Bool × S_value_count)) (r_q0v : S_value_count → V → Int → Option (Bool × S_value_count)) (a0 : S_value_count) (a1 : V) (a2 : Int) : Option (Bool × S_value_count) :=
 (zql a1 a0.f_n a2).bind fun x1 =>
 bif (x1 != 0) then (
 some (false, (S_value_count.mk a0.f_n a0.f_deep x1))
 ) else (
 bif (a1).isList then (
 zed r_q0v a1 a2 0 (IntKind.i64.wrap (a0.f_n + 1)) (if a2 > a0.f_deep then a2 else a0.f_deep) x1
 ) else (
 bif (a1).isDict then (
 (r_q12 (S_value_count.mk (IntKind.i64.wrap (a0.f_n + 1)) (if a2 > a0.f_deep then a2 else a0.f_deep) x1) ((a1).asDict) a2).bind fun x17 =>
 some (x17.1, (x17.2))
 ) else (
 bif (a1).isRec then (
 ((a1).asRec).bind fun x19 =>
 (r_q12 (S_value_count.mk (IntKind.i64.wrap (a0.f_n + 1)) (if a2 > a0.f_deep then a2 else a0.f_deep) x1) x19.fields a2).bind fun x20 =>
 some (x20.1, (x20.2))
 ) else (
 zee (IntKind.i64.wrap (a0.f_n + 1)) (if a2 > a0.f_deep then a2 else a0.f_deep) x1
 )
 )
 )
 )
theorem zwd (r_q12 : OF ρ → S_value_count → (List (Str × V)) → Int → Option (Bool × S_value_count)) (h_r_q12 : ∀ y0 y1 y2, CM (fun G => r_q12 G y0 y1 y2)) (r_q0v : OF ρ → S_value_count → V → Int → Option (Bool × S_value_count)) (h_r_q0v : ∀ y0 y1 y2, CM (fun G => r_q0v G y0 y1 y2)) (a0 : S_value_count) (a1 : V) (a2 : Int) : CM (fun G : OF ρ => zkx (r_q12 G) (r_q0v G) a0 a1 a2) := by
 simp only [zkx]
 repeat (first | exact z0c | exact h_r_q12 _ _ _ | exact h_r_q0v _ _ _ | apply q0v_j1_cm | apply zpq | refine z11 ?_ ?_ | refine z12 ?_ (fun _ => ?_) | intro _ | assumption)
inductive C_q12 where
 | k_q12 (a0 : S_value_count) (a1 : (List (Str × V))) (a2 : Int)
 | k_q0v (a0 : S_value_count) (a1 : V) (a2 : Int)
def C_q12.R : C_q12 → Type
 | .k_q12 _ _ _ => (Bool × S_value_count)
 | .k_q0v _ _ _ => (Bool × S_value_count)
noncomputable def C_q12.F (g : ∀ i : C_q12, Option i.R) : ∀ i : C_q12, Option i.R
 | .k_q12 a0 a1 a2 => zkw (fun a0 a1 a2 => g (.k_q12 a0 a1 a2)) (fun a0 a1 a2 => g (.k_q0v a0 a1 a2)) a0 a1 a2
 | .k_q0v a0 a1 a2 => zkx (fun a0 a1 a2 => g (.k_q12 a0 a1 a2)) (fun a0 a1 a2 => g (.k_q0v a0 a1 a2)) a0 a1 a2
noncomputable def zo2 (a0 : S_value_count) (a1 : (List (Str × V))) (a2 : Int) : Option (Bool × S_value_count) := z2w C_q12.F (.k_q12 a0 a1 a2)
noncomputable def zfr (a0 : S_value_count) (a1 : V) (a2 : Int) : Option (Bool × S_value_count) := z2w C_q12.F (.k_q0v a0 a1 a2)
abbrev gg1 := fun (g : ∀ i : C_q12, Option i.R) a0 a1 a2 => g (.k_q12 a0 a1 a2)
theorem hh1 (a0 a1 a2 : _) : CM (ρ := C_q12.R) (fun g => g (C_q12.k_q12 a0 a1 a2)) := z17
abbrev gg2 := fun (g : ∀ i : C_q12, Option i.R) a0 a1 a2 => g (.k_q0v a0 a1 a2)
theorem hh2 (a0 a1 a2 : _) : CM (ρ := C_q12.R) (fun g => g (C_q12.k_q0v a0 a1 a2)) := z17
theorem C_q12.cm (i : C_q12) : CM (fun g : (∀ i : C_q12, Option i.R) => C_q12.F g i) := by
 cases i with
 | k_q12 a0 a1 a2 => exact zwc gg1 hh1 gg2 hh2 a0 a1 a2
 | k_q0v a0 a1 a2 => exact zwd gg1 hh1 gg2 hh2 a0 a1 a2
theorem Z7z (a0 : S_value_count) (a1 : (List (Str × V))) (a2 : Int) : zo2 a0 a1 a2 = zkw zo2 zfr a0 a1 a2 := z19 C_q12.cm (.k_q12 a0 a1 a2)
theorem Z80 (a0 : S_value_count) (a1 : V) (a2 : Int) : zfr a0 a1 a2 = zkx zo2 zfr a0 a1 a2 := z19 C_q12.cm (.k_q0v a0 a1 a2)
def C_q12.Q : ∀ i : C_q12, i.R → Prop
 | .k_q12 a0 a1 a2 => fun (r : (Bool × S_value_count)) => z8m Tryz.prog 87 [(PV.rf 0 0), (PV.sl none 69 2 (List.map ofFld a1)), (I64 a2)] (.box 109 [(I64 a0.f_n), (I64 a0.f_deep), (I64 a0.f_why)]) (BO r.1) (.box 109 [(I64 ((r.2).f_n)), (I64 ((r.2).f_deep)), (I64 ((r.2).f_why))])
 | .k_q0v a0 a1 a2 => fun (r : (Bool × S_value_count)) => z8m Tryz.prog 50 [(PV.rf 0 0), (ofV a1), (I64 a2)] (.box 109 [(I64 a0.f_n), (I64 a0.f_deep), (I64 a0.f_why)]) (BO r.1) (.box 109 [(I64 ((r.2).f_n)), (I64 ((r.2).f_deep)), (I64 ((r.2).f_why))])
theorem zah (r_q12 : S_value_count → (List (Str × V)) → Int → Option (Bool × S_value_count)) (c_q12 : ∀ (a0 : S_value_count) (a1 : (List (Str × V))) (a2 : Int) r, r_q12 a0 a1 a2 = some r → z8m Tryz.prog 87 [(PV.rf 0 0), (PV.sl none 69 2 (List.map ofFld a1)), (I64 a2)] (.box 109 [(I64 a0.f_n), (I64 a0.f_deep), (I64 a0.f_why)]) (BO r.1) (.box 109 [(I64 ((r.2).f_n)), (I64 ((r.2).f_deep)), (I64 ((r.2).f_why))])) (r_q0v : S_value_count → V → Int → Option (Bool × S_value_count)) (c_q0v : ∀ (a0 : S_value_count) (a1 : V) (a2 : Int) r, r_q0v a0 a1 a2 = some r → z8m Tryz.prog 50 [(PV.rf 0 0), (ofV a1), (I64 a2)] (.box 109 [(I64 a0.f_n), (I64 a0.f_deep), (I64 a0.f_why)]) (BO r.1) (.box 109 [(I64 ((r.2).f_n)), (I64 ((r.2).f_deep)), (I64 ((r.2).f_why))])) (a0 : S_value_count) (a1 : (List (Str × V))) (a2 : Int) (r : (Bool × S_value_count)) (h : zkw r_q12 r_q0v a0 a1 a2 = some r) : z8m Tryz.prog 87 [(PV.rf 0 0), (PV.sl none 69 2 (List.map ofFld a1)), (I64 a2)] (.box 109 [(I64 a0.f_n), (I64 a0.f_deep), (I64 a0.f_why)]) (BO r.1) (.box 109 [(I64 ((r.2).f_n)), (I64 ((r.2).f_deep)), (I64 ((r.2).f_why))]) := by
 unfold zkw at h
 refine z0d Tryz.func87 rfl Tryz.ntmps87 Tryz.results87 rfl (z0g ?_)
 change BW _ _ _ ⟨[(0, (PV.rf 0 0)), (1, (PV.sl none 69 2 (List.map ofFld a1))), (2, (I64 a2))], [.box 109 [(I64 a0.f_n), (I64 a0.f_deep), (I64 a0.f_why)]], _⟩ _
 refine bR ?_
 refine eX ?_
 refine z08 ?_
 refine bR ?_
 iterate 2 refine sX ?_
 refine eX ?_
 refine z0h ?_
 refine cBx ?_
 unfold zec at h
 refine lX (σ := (Nat × Int × Int × Int)) (fun i => [(0, (PV.rf 0 0)), (2, (I64 a2)), (9, (PV.sl none 69 2 (List.map ofFld a1))), (10, (I64 ((((a1).length : Nat) : Int)))), (11, (I64 (((i.1 : Nat) : Int))))]) (fun i => [.box 109 [(I64 i.2.1), (I64 i.2.2.1), (I64 i.2.2.2)]]) (0, a0.f_n, a0.f_deep, a0.f_why) h ?_ ?_
 exact jN
 rintro g1_f ⟨s1, s2, s3, s4⟩ h; replace h : z5m r_q0v a1 a2 (fun y0 y1 y2 y3 => g1_f (y0, y1, y2, y3)) s1 s2 s3 s4 = some r := h; unfold z5m at h
 change BW _ _ _ ⟨[(0, (PV.rf 0 0)), (2, (I64 a2)), (9, (PV.sl none 69 2 (List.map ofFld a1))), (10, (I64 ((((a1).length : Nat) : Int)))), (11, (I64 (((s1 : Nat) : Int))))], [.box 109 [(I64 s2), (I64 s3), (I64 s4)]], _⟩ _
 refine bR ?_
 refine eX ?_
 refine z08 ?_
 refine z3j (t := 9) rfl fun hb6 => ?_
 try rw [List.length_map] at hb6
 refine cX h rfl ?_ ?_
 intro hc5 h
 have hc5_ := of_decide_eq_true hc5
 refine z07 ?_
 refine cBx ?_
 refine z08 ?_
 refine z0h ?_
 refine cBx ?_
 refine bR ?_
 obtain ⟨x7, hx7, h⟩ := obind h
 refine sS rfl rfl rfl (z1r (i := s1) Tryz.underlying71 z0z rfl rfl rfl hx7 rfl) ?_
 refine sX ?_
 refine sS rfl rfl rfl ((z14 z0z rfl).cast (H'' := [.box 109 [(I64 s2), (I64 s3), (I64 s4)], .box 69 [(z0i []), (ofV V.nil)]]) rfl (by simp only [mk_nil]; rfl)) ?_
 refine z0j rfl rfl (z0e z0z rfl rfl rfl rfl rfl rfl (lbE rfl) (by show List.all [(z0i x7.1), (ofV x7.2)] z6n = true; simp only [List.all_cons, List.all_nil, zb5, z3v, Bool.and_true, Bool.true_and]; try rfl)) ?_
 refine z0a ?_
 refine cBx ?_
 refine bR ?_
 iterate 5 refine sX ?_
 obtain ⟨x8, hx8, h⟩ := obind h
 refine sS rfl rfl rfl (z6a 0 rfl zvk rfl (wkr (wkr (wkr .nil))) (.box (.val (ids_V x7.2) (.val rfl .nil))) rfl (z0o rfl (z0o rfl (z0o rfl rfl))) (c_q0v (S_value_count.mk s2 s3 s4) x7.2 (IntKind.i64.wrap (a2 + 1)) x8 hx8) rfl (z0o rfl (z0o rfl (z0o rfl rfl)))) ?_
 refine eX ?_
 refine cX h rfl ?_ ?_
 intro hc9 h
 refine bR ?_
 refine eX ?_
 obtain rfl := eI h; exact z05 ⟨_, rfl, zdn (y := (BO false)) (e := .box 109 [(I64 (((x8.2)).f_n)), (I64 (((x8.2)).f_deep)), (I64 (((x8.2)).f_why))]) (Wk.refl _) rfl rfl (z0o rfl (z0o rfl (z0o rfl rfl))) ⟨rfl, rfl⟩⟩
 intro hc9 h
 refine z07 ?_
 refine cBx ?_
 refine z0f ?_
 refine sS rfl rfl rfl (z27 (k := s1) (c := 1) rfl rfl rfl (by omega)) ?_
 refine sX (z0a ?_)
 exact ⟨rfl, ((s1 + 1), (x8.2).f_n, (x8.2).f_deep, (x8.2).f_why), h, jN⟩
 intro hc5 h
 refine z1z ?_
 refine cBx ?_
 refine bR ?_
 refine eX ?_
 obtain rfl := eI h; exact z05 ⟨_, rfl, zdn (y := (BO true)) (e := .box 109 [(I64 (((S_value_count.mk s2 s3 s4)).f_n)), (I64 (((S_value_count.mk s2 s3 s4)).f_deep)), (I64 (((S_value_count.mk s2 s3 s4)).f_why))]) (Wk.refl _) rfl rfl (z0o rfl (z0o rfl (z0o rfl rfl))) ⟨rfl, rfl⟩⟩
theorem z95 (r_q12 : S_value_count → (List (Str × V)) → Int → Option (Bool × S_value_count)) (c_q12 : ∀ (a0 : S_value_count) (a1 : (List (Str × V))) (a2 : Int) r, r_q12 a0 a1 a2 = some r → z8m Tryz.prog 87 [(PV.rf 0 0), (PV.sl none 69 2 (List.map ofFld a1)), (I64 a2)] (.box 109 [(I64 a0.f_n), (I64 a0.f_deep), (I64 a0.f_why)]) (BO r.1) (.box 109 [(I64 ((r.2).f_n)), (I64 ((r.2).f_deep)), (I64 ((r.2).f_why))])) (r_q0v : S_value_count → V → Int → Option (Bool × S_value_count)) (c_q0v : ∀ (a0 : S_value_count) (a1 : V) (a2 : Int) r, r_q0v a0 a1 a2 = some r → z8m Tryz.prog 50 [(PV.rf 0 0), (ofV a1), (I64 a2)] (.box 109 [(I64 a0.f_n), (I64 a0.f_deep), (I64 a0.f_why)]) (BO r.1) (.box 109 [(I64 ((r.2).f_n)), (I64 ((r.2).f_deep)), (I64 ((r.2).f_why))])) (a0 : S_value_count) (a1 : V) (a2 : Int) (r : (Bool × S_value_count)) (h : zkx r_q12 r_q0v a0 a1 a2 = some r) : z8m Tryz.prog 50 [(PV.rf 0 0), (ofV a1), (I64 a2)] (.box 109 [(I64 a0.f_n), (I64 a0.f_deep), (I64 a0.f_why)]) (BO r.1) (.box 109 [(I64 ((r.2).f_n)), (I64 ((r.2).f_deep)), (I64 ((r.2).f_why))]) := by
 unfold zkx at h
 refine z0d Tryz.func50 rfl Tryz.ntmps50 Tryz.results50 rfl (z0g ?_)
 change BW _ _ _ ⟨[(0, (PV.rf 0 0)), (1, (ofV a1)), (2, (I64 a2))], [.box 109 [(I64 a0.f_n), (I64 a0.f_deep), (I64 a0.f_why)]], _⟩ _
 refine bR ?_
 refine eX ?_
 refine z08 ?_
 refine bR ?_
 iterate 3 refine sX ?_
 refine sS rfl rfl rfl (z73 rfl rfl) ?_
 iterate 3 refine sX ?_
 obtain ⟨x1, hx1, h⟩ := obind h
 refine sS rfl rfl rfl (z06 rfl Z6y rfl (wkr (wkr (wkr .nil))) ⟨(ids_V a1), ⟨rfl, ⟨rfl, trivial⟩⟩⟩ (Z4o a1 a0.f_n a2 x1 hx1) rfl) ?_
 refine sS rfl rfl rfl (z73 rfl rfl) ?_
 refine sX ?_
 refine z0j rfl rfl (z0e z3x rfl rfl rfl rfl rfl rfl (lbE rfl) rfl) ?_
 refine z0a ?_
 refine cBx ?_
 refine bR ?_
 refine sX ?_
 refine sS rfl rfl rfl (z73 rfl rfl) ?_
 iterate 2 refine sX ?_
 refine eX ?_
 refine cX h rfl ?_ ?_
 intro hc2 h
 refine bR ?_
 refine eX ?_
 obtain rfl := eI h; exact z05 ⟨_, rfl, zdn (y := (BO false)) (e := .box 109 [(I64 (((S_value_count.mk a0.f_n a0.f_deep x1)).f_n)), (I64 (((S_value_count.mk a0.f_n a0.f_deep x1)).f_deep)), (I64 (((S_value_count.mk a0.f_n a0.f_deep x1)).f_why))]) (Wk.refl _) rfl rfl (z0o rfl (z0o rfl (z0o rfl rfl))) ⟨rfl, rfl⟩⟩
 intro hc2 h
 refine z07 ?_
 refine cBx ?_
 refine bR ?_
 refine sX ?_
 refine sS rfl rfl rfl (z73 rfl rfl) ?_
 iterate 3 refine sX ?_
 refine sS rfl rfl rfl (z73 rfl rfl) ?_
 refine sX ?_
 refine z0j rfl rfl (z0e z8f rfl rfl rfl rfl rfl rfl (lbE rfl) rfl) ?_
 refine z0a ?_
 refine cBx ?_
 refine bR ?_
 iterate 2 refine sX ?_
 refine sS rfl rfl rfl (z73 rfl rfl) ?_
 iterate 3 refine sX ?_
 refine sS rfl rfl rfl (zum (args := []) rfl rfl rfl) ?_
 refine sS rfl rfl rfl (z73 rfl rfl) ?_
 refine sX ?_
 refine z0j rfl rfl (z0e z8f rfl rfl rfl rfl rfl rfl (lbE rfl) rfl) ?_
 refine z0a ?_
 refine cBx ?_
 refine jX (ι := (Int × Int × Int)) (fun i => zee i.1 i.2.1 i.2.2 = some r) (fun i => [(0, (PV.rf 0 0))]) (fun i => [.box 109 [(I64 i.1), (I64 i.2.1), (I64 i.2.2)]]) ?_ ?_
 rintro ⟨s3, s4, s5⟩ h; replace h : zee s3 s4 s5 = some r := h; unfold zee at h
 change BW _ _ _ ⟨[(0, (PV.rf 0 0))], [.box 109 [(I64 s3), (I64 s4), (I64 s5)]], _⟩ _
 refine bR ?_
 refine eX ?_
 obtain rfl := eI h; exact z05 ⟨_, rfl, zdn (y := (BO true)) (e := .box 109 [(I64 (((S_value_count.mk s3 s4 s5)).f_n)), (I64 (((S_value_count.mk s3 s4 s5)).f_deep)), (I64 (((S_value_count.mk s3 s4 s5)).f_why))]) (Wk.refl _) rfl rfl (z0o rfl (z0o rfl (z0o rfl rfl))) ⟨rfl, rfl⟩⟩
 refine bR ?_
 refine eX ?_
 refine z0h ?_
 refine cBx ?_
 refine bR ?_
 refine sS rfl rfl rfl (z1w rfl rfl) ?_
 refine sX ?_
 refine eX ?_
 refine cX h rfl ?_ ?_
 intro hc6 h
 refine bR ?_
 refine eX ?_
 refine bR ?_
 iterate 2 refine sX ?_
 refine eX ?_
 refine z0h ?_
 refine cBx ?_
 unfold zed at h
 refine lX (σ := (Nat × Int × Int × Int)) (fun i => [(0, (PV.rf 0 0)), (2, (I64 a2)), (47, (PV.sl none 20 1 (List.map ofV (a1).asList))), (48, (I64 (((((a1).asList).length : Nat) : Int)))), (49, (I64 (((i.1 : Nat) : Int))))]) (fun i => [.box 109 [(I64 i.2.1), (I64 i.2.2.1), (I64 i.2.2.2)]]) (0, (IntKind.i64.wrap (a0.f_n + 1)), (if a2 > a0.f_deep then a2 else a0.f_deep), x1) h ?_ ?_
 exact jN
 rintro g1_f ⟨s7, s8, s9, s10⟩ h; replace h : z5n r_q0v a1 a2 (fun y0 y1 y2 y3 => g1_f (y0, y1, y2, y3)) s7 s8 s9 s10 = some r := h; unfold z5n at h
 change BW _ _ _ ⟨[(0, (PV.rf 0 0)), (2, (I64 a2)), (47, (PV.sl none 20 1 (List.map ofV (a1).asList))), (48, (I64 (((((a1).asList).length : Nat) : Int)))), (49, (I64 (((s7 : Nat) : Int))))], [.box 109 [(I64 s8), (I64 s9), (I64 s10)]], _⟩ _
 refine bR ?_
 refine eX ?_
 refine z08 ?_
 refine z3j (t := 47) rfl fun hb12 => ?_
 try rw [List.length_map] at hb12
 refine cX h rfl ?_ ?_
 intro hc11 h
 have hc11_ := of_decide_eq_true hc11
 refine z07 ?_
 refine cBx ?_
 refine z08 ?_
 refine z0h ?_
 refine cBx ?_
 refine bR ?_
 obtain ⟨x13, hx13, h⟩ := obind h
 refine sS rfl rfl rfl (z1r (i := s7) Tryz.underlying67 z1t rfl rfl rfl hx13 rfl) ?_
 refine sS rfl rfl rfl (z1y (y := (ofV x13)) Tryz.underlying20 rfl rfl rfl (by rw [z0t]; rfl)) ?_
 refine eX ?_
 refine bR ?_
 iterate 4 refine sX ?_
 obtain ⟨x14, hx14, h⟩ := obind h
 refine sS rfl rfl rfl (z6a 0 rfl zvk rfl (wkr (wkr (wkr .nil))) (.box (.val (ids_V x13) (.val rfl .nil))) rfl (z0o rfl (z0o rfl (z0o rfl rfl))) (c_q0v (S_value_count.mk s8 s9 s10) x13 (IntKind.i64.wrap (a2 + 1)) x14 hx14) rfl (z0o rfl (z0o rfl (z0o rfl rfl)))) ?_
 refine eX ?_
 refine cX h rfl ?_ ?_
 intro hc15 h
 refine bR ?_
 refine eX ?_
 obtain rfl := eI h; exact z05 ⟨_, rfl, zdn (y := (BO false)) (e := .box 109 [(I64 (((x14.2)).f_n)), (I64 (((x14.2)).f_deep)), (I64 (((x14.2)).f_why))]) (Wk.refl _) rfl rfl (z0o rfl (z0o rfl (z0o rfl rfl))) ⟨rfl, rfl⟩⟩
 intro hc15 h
 refine z07 ?_
 refine cBx ?_
 refine z0f ?_
 refine sS rfl rfl rfl (z27 (k := s7) (c := 1) rfl rfl rfl (by omega)) ?_
 refine sX (z0a ?_)
 exact ⟨rfl, ((s7 + 1), (x14.2).f_n, (x14.2).f_deep, (x14.2).f_why), h, jN⟩
 intro hc11 h
 refine z1z ?_
 exact ⟨rfl, (s8, s9, s10), h, jN⟩
 intro hc6 h
 refine bR ?_
 refine sS rfl rfl rfl (z2r rfl rfl) ?_
 refine sX ?_
 refine eX ?_
 refine cX h rfl ?_ ?_
 intro hc16 h
 refine bR ?_
 refine eX ?_
 refine bR ?_
 iterate 3 refine sX ?_
 obtain ⟨x17, hx17, h⟩ := obind h
 refine sS rfl rfl rfl (z6a 0 rfl Z3j rfl (wkr (wkr (wkr .nil))) (.box (.val (z03 z0r ((a1).asDict)) (.val rfl .nil))) rfl (z0o rfl (z0o rfl (z0o rfl rfl))) (c_q12 (S_value_count.mk (IntKind.i64.wrap (a0.f_n + 1)) (if a2 > a0.f_deep then a2 else a0.f_deep) x1) ((a1).asDict) a2 x17 hx17) rfl (z0o rfl (z0o rfl (z0o rfl rfl)))) ?_
 refine eX ?_
 obtain rfl := eI h; exact z05 ⟨_, rfl, zdn (y := (BO x17.1)) (e := .box 109 [(I64 (((x17.2)).f_n)), (I64 (((x17.2)).f_deep)), (I64 (((x17.2)).f_why))]) (Wk.refl _) rfl rfl (z0o rfl (z0o rfl (z0o rfl rfl))) ⟨rfl, rfl⟩⟩
 intro hc16 h
 refine bR ?_
 refine sS rfl rfl rfl (z35 rfl rfl) ?_
 refine sX ?_
 refine eX ?_
 refine cX h rfl ?_ ?_
 intro hc18 h
 refine bR ?_
 refine eX ?_
 refine bR ?_
 iterate 2 refine sX ?_
 obtain ⟨x19, hx19, h⟩ := obind h
 refine sS rfl rfl rfl (z1m rfl rfl hx19) ?_
 iterate 3 refine sX ?_
 obtain ⟨x20, hx20, h⟩ := obind h
 refine sS rfl rfl rfl (z6a 0 rfl Z3j rfl (wkr (wkr (wkr .nil))) (.box (.val (z03 z0r x19.fields) (.val rfl .nil))) rfl (z0o rfl (z0o rfl (z0o rfl rfl))) (c_q12 (S_value_count.mk (IntKind.i64.wrap (a0.f_n + 1)) (if a2 > a0.f_deep then a2 else a0.f_deep) x1) x19.fields a2 x20 hx20) rfl (z0o rfl (z0o rfl (z0o rfl rfl)))) ?_
 refine eX ?_
 obtain rfl := eI h; exact z05 ⟨_, rfl, zdn (y := (BO x20.1)) (e := .box 109 [(I64 (((x20.2)).f_n)), (I64 (((x20.2)).f_deep)), (I64 (((x20.2)).f_why))]) (Wk.refl _) rfl rfl (z0o rfl (z0o rfl (z0o rfl rfl))) ⟨rfl, rfl⟩⟩
 intro hc18 h
 refine z07 ?_
 exact ⟨rfl, ((IntKind.i64.wrap (a0.f_n + 1)), (if a2 > a0.f_deep then a2 else a0.f_deep), x1), h, jN⟩
theorem C_q12.sound : ∀ (i : C_q12) (r : i.R), z2w C_q12.F i = some r → C_q12.Q i r := by
 refine z3z (Φ := C_q12.F) (Q := C_q12.Q) ?_
 intro g hg i r h
 cases i with
 | k_q12 a0 a1 a2 => exact zah (fun a0 a1 a2 => g (.k_q12 a0 a1 a2)) (fun a0 a1 a2 r hr => hg (.k_q12 a0 a1 a2) r hr) (fun a0 a1 a2 => g (.k_q0v a0 a1 a2)) (fun a0 a1 a2 r hr => hg (.k_q0v a0 a1 a2) r hr) a0 a1 a2 r h
 | k_q0v a0 a1 a2 => exact z95 (fun a0 a1 a2 => g (.k_q12 a0 a1 a2)) (fun a0 a1 a2 r hr => hg (.k_q12 a0 a1 a2) r hr) (fun a0 a1 a2 => g (.k_q0v a0 a1 a2)) (fun a0 a1 a2 r hr => hg (.k_q0v a0 a1 a2) r hr) a0 a1 a2 r h
theorem Z1z (a0 : S_value_count) (a1 : V) (a2 : Int) (r : (Bool × S_value_count)) (h : zfr a0 a1 a2 = some r) : z8m Tryz.prog 50 [(PV.rf 0 0), (ofV a1), (I64 a2)] (.box 109 [(I64 a0.f_n), (I64 a0.f_deep), (I64 a0.f_why)]) (BO r.1) (.box 109 [(I64 ((r.2).f_n)), (I64 ((r.2).f_deep)), (I64 ((r.2).f_why))]) := C_q12.sound (.k_q0v a0 a1 a2) r h
noncomputable def zi4 (a0 : V) : Option (Int × Int) :=
 (zfr (S_value_count.mk 0 0 0) a0 1).bind fun x1 =>
 bif (!x1.1) then (
 some ((x1.2).f_n, (x1.2).f_why)
 ) else (
 some (0, 0)
 )
theorem zte (a0 : V) (r : (Int × Int)) (h : zi4 a0 = some r) : z0m Tryz.prog 37 [(ofV a0)] (PV.tup [(I64 r.1), (I64 r.2)]) := by
 unfold zi4 at h
 refine z0d Tryz.func37 rfl Tryz.ntmps37 Tryz.results37 rfl (z0g ?_)
 change BW _ _ _ ⟨[(0, (ofV a0))], [], _⟩ _
 refine bR ?_
 refine sX ?_
 refine eX ?_
 refine bR ?_
 refine sS rfl rfl rfl (z14 zs1 rfl) (z0a ?_)
 refine cBx ?_
 refine z08 ?_
 refine bR ?_
 refine sX ?_
 obtain ⟨x1, hx1, h⟩ := obind h
 refine sS rfl rfl rfl (z6a 0 rfl zvk rfl (wkr (wkr (wkr .nil))) (.box (.val (ids_V a0) (.val rfl .nil))) rfl (z0o rfl (z0o rfl (z0o rfl rfl))) (Z1z (S_value_count.mk 0 0 0) a0 1 x1 hx1) rfl (z0o rfl (z0o rfl (z0o rfl rfl)))) ?_
 refine eX ?_
 refine cX h rfl ?_ ?_
 intro hc2 h
 refine z08 (z1l 5 [] [0] mo (by kernel_rfl) ?_)
 iterate 5 refine gX ?_
 refine z1u ?_
 change AO _ _ _ _ _
 refine eX ?_
 obtain rfl := eI h; exact z05 eK
 intro hc2 h
 refine z07 ?_
 refine cBx ?_
 refine bR ?_
 refine sX ?_
 refine eX ?_
 obtain rfl := eI h; exact z05 eK
noncomputable def zd3 (a0 : V) : Option (Int × Int) :=
 (zi4 a0).bind fun x1 =>
 some (x1.1, x1.2)
theorem zji (a0 : V) (r : (Int × Int)) (h : zd3 a0 = some r) : z0m Tryz.prog 31 [(ofV a0)] (PV.tup [(I64 r.1), (I64 r.2)]) := by
 unfold zd3 at h
 refine z0d Tryz.func31 rfl Tryz.ntmps31 Tryz.results31 rfl (z0g ?_)
 change BW _ _ _ ⟨[(0, (ofV a0))], [], _⟩ _
 refine bR ?_
 refine sX ?_
 refine eX ?_
 refine bR ?_
 refine sX ?_
 obtain ⟨x1, hx1, h⟩ := obind h
 refine sS rfl rfl rfl (z06 rfl zvn rfl (wkr .nil) ⟨(ids_V a0), trivial⟩ (zte a0 x1 hx1) (z01 rfl (z01 rfl z04))) ?_
 iterate 3 refine sX ?_
 refine eX ?_
 obtain rfl := eI h; exact z05 eK
noncomputable def zbe (s7 : Bool) : Option Int :=
 bif s7 then (
 some 1
 ) else (
 some 0
 )
noncomputable def zco (a0 : S_api_Step) (s5 : Bool) : Option Int :=
 bif s5 then (
 some 8
 ) else (
 bif a0.f_At then (
 bif (decide (a0.f_Index < 0)) then (
 zbe true
 ) else (
 zbe (decide (a0.f_Index ≥ 4096))
 )
 ) else (
 zbe false
 )
 )
noncomputable def zcp (a0 : S_api_Step) (s3 : Bool) : Option Int :=
 bif s3 then (
 some 1
 ) else (
 bif a0.f_At then (
 zco a0 (!(a0.f_Name == ([] : Str)))
 ) else (
 zco a0 false
 )
 )
noncomputable def zcq (a0 : S_api_Step) (s1 : Bool) : Option Int :=
 bif s1 then (
 some 8
 ) else (
 bif (!a0.f_At) then (
 zcp a0 (a0.f_Index != 0)
 ) else (
 zcp a0 false
 )
 )
noncomputable def zqj (a0 : S_api_Step) : Option Int :=
 bif (!a0.f_At) then (
 (zju a0.f_Name).bind fun x14 =>
 zcq a0 (!x14)
 ) else (
 zcq a0 false
 )
theorem Z4j (a0 : S_api_Step) (r : Int) (h : zqj a0 = some r) : z0m Tryz.prog 71 [(z00 a0)] (I64 r) := by
 unfold zqj at h
 refine z0d Tryz.func71 rfl Tryz.ntmps71 Tryz.results71 rfl (z0g ?_)
 change BW _ _ _ ⟨[(0, (z00 a0))], [], _⟩ _
 refine bR ?_
 refine sX ?_
 refine eX ?_
 refine z08 ?_
 refine z0h ?_
 refine cBx ?_
 refine jX (ι := Bool) (fun i => zcq a0 i = some r) (fun i => [(1, (PV.rf 0 0)), (3, (BO i))]) (fun i => [.box 83 [(z0i a0.f_Name), (BO a0.f_At), (I64 a0.f_Index)]]) ?_ ?_
 rintro s1 h; replace h : zcq a0 s1 = some r := h; unfold zcq at h
 change BW _ _ _ ⟨[(1, (PV.rf 0 0)), (3, (BO s1))], [.box 83 [(z0i a0.f_Name), (BO a0.f_At), (I64 a0.f_Index)]], _⟩ _
 refine cX h rfl ?_ ?_
 intro hc2 h
 refine bR ?_
 refine eX ?_
 obtain rfl := eI h; exact z05 eK
 intro hc2 h
 refine jX (ι := Bool) (fun i => zcp a0 i = some r) (fun i => [(1, (PV.rf 0 0)), (13, (BO i))]) (fun i => [.box 83 [(z0i a0.f_Name), (BO a0.f_At), (I64 a0.f_Index)]]) ?_ ?_
 rintro s3 h; replace h : zcp a0 s3 = some r := h; unfold zcp at h
 change BW _ _ _ ⟨[(1, (PV.rf 0 0)), (13, (BO s3))], [.box 83 [(z0i a0.f_Name), (BO a0.f_At), (I64 a0.f_Index)]], _⟩ _
 refine cX h rfl ?_ ?_
 intro hc4 h
 refine bR ?_
 refine eX ?_
 obtain rfl := eI h; exact z05 eK
 intro hc4 h
 refine jX (ι := Bool) (fun i => zco a0 i = some r) (fun i => [(1, (PV.rf 0 0)), (22, (BO i))]) (fun i => [.box 83 [(z0i a0.f_Name), (BO a0.f_At), (I64 a0.f_Index)]]) ?_ ?_
 rintro s5 h; replace h : zco a0 s5 = some r := h; unfold zco at h
 change BW _ _ _ ⟨[(1, (PV.rf 0 0)), (22, (BO s5))], [.box 83 [(z0i a0.f_Name), (BO a0.f_At), (I64 a0.f_Index)]], _⟩ _
 refine cX h rfl ?_ ?_
 intro hc6 h
 refine bR ?_
 refine eX ?_
 obtain rfl := eI h; exact z05 eK
 intro hc6 h
 refine jX (ι := Bool) (fun i => zbe i = some r) (fun i => [(30, (BO i))]) (fun i => []) ?_ ?_
 rintro s7 h; replace h : zbe s7 = some r := h; unfold zbe at h
 change BW _ _ _ ⟨[(30, (BO s7))], [], _⟩ _
 refine cX h rfl ?_ ?_
 intro hc8 h
 refine bR ?_
 refine eX ?_
 obtain rfl := eI h; exact z05 eK
 intro hc8 h
 refine z07 ?_
 refine cBx ?_
 refine bR ?_
 refine eX ?_
 obtain rfl := eI h; exact z05 eK
 refine z0f ?_
 iterate 3 refine sX ?_
 refine z0q (t := 33) rfl ?_ ?_
 intro hb9; replace h := z0x hb9 h
 iterate 4 refine yX ?_
 refine z0q (t := 37) rfl ?_ ?_
 intro hb10; replace h := z0x hb10 h
 iterate 3 refine nX ?_
 refine yX ?_
 refine sX ?_
 refine sX (z0a ?_)
 exact ⟨rfl, true, h, jN⟩
 intro hb10; replace h := z0y hb10 h
 iterate 4 refine yX ?_
 refine sX ?_
 refine sX (z0a ?_)
 exact ⟨rfl, (decide (a0.f_Index ≥ 4096)), h, jN⟩
 intro hb9; replace h := z0y hb9 h
 iterate 8 refine nX ?_
 refine sX ?_
 refine sX (z0a ?_)
 exact ⟨rfl, false, h, jN⟩
 refine z0f ?_
 iterate 3 refine sX ?_
 refine z0q (t := 25) rfl ?_ ?_
 intro hb11; replace h := z0x hb11 h
 iterate 2 refine yX ?_
 refine z1q rfl rfl rfl rfl rfl rfl ((z2p (a := a0.f_Name) (b := ([] : Str)) rfl rfl rfl rfl).cast (y := (BO ((!(a0.f_Name == ([] : Str)))))) rfl rfl) ?_
 refine sX ?_
 refine sX (z0a ?_)
 exact ⟨rfl, (!(a0.f_Name == ([] : Str))), h, jN⟩
 intro hb11; replace h := z0y hb11 h
 iterate 3 refine nX ?_
 refine sX ?_
 refine sX (z0a ?_)
 exact ⟨rfl, false, h, jN⟩
 refine z0f ?_
 iterate 4 refine sX ?_
 refine z0q (t := 17) rfl ?_ ?_
 intro hb12; replace h := z0x hb12 h
 iterate 3 refine yX ?_
 refine sX ?_
 refine sX (z0a ?_)
 exact ⟨rfl, (a0.f_Index != 0), h, jN⟩
 intro hb12; replace h := z0y hb12 h
 iterate 3 refine nX ?_
 refine sX ?_
 refine sX (z0a ?_)
 exact ⟨rfl, false, h, jN⟩
 refine z0f ?_
 iterate 4 refine sX ?_
 refine z0q (t := 7) rfl ?_ ?_
 intro hb13; replace h := z0x hb13 h
 iterate 2 refine yX ?_
 obtain ⟨x14, hx14, h⟩ := obind h
 refine z1q rfl rfl rfl rfl rfl rfl (z06 rfl Z3l rfl (wkr .nil) ⟨rfl, trivial⟩ (Z1r a0.f_Name x14 hx14) rfl) ?_
 refine yX ?_
 refine sX ?_
 refine sX (z0a ?_)
 exact ⟨rfl, (!x14), h, jN⟩
 intro hb13; replace h := z0y hb13 h
 iterate 4 refine nX ?_
 refine sX ?_
 refine sX (z0a ?_)
 exact ⟨rfl, false, h, jN⟩
noncomputable def z6u (a0 : (List S_api_Step)) (g1 : Nat → Option Int) (s2 : Nat) : Option Int :=
 bif (decide (((s2 : Nat) : Int) < (((a0).length : Nat) : Int))) then (
 ((a0)[s2]?).bind fun x5 =>
 (zqj x5).bind fun x6 =>
 bif (x6 != 0) then (
 some x6
 ) else (
 g1 (s2 + 1)
 )
 ) else (
 some 0
 )
theorem znn (g1 : OF ρ → Nat → Option Int) (h_g1 : ∀ y0, CM (fun G => g1 G y0)) (a0 : (List S_api_Step)) (s2 : Nat) : CM (fun G : OF ρ => z6u a0 (g1 G) s2) := by
 simp only [z6u]
 repeat (first | exact z0c | exact h_g1 _ | refine z11 ?_ ?_ | refine z12 ?_ (fun _ => ?_))
noncomputable def zhc (a0 : (List S_api_Step)) (s2 : Nat) : Option Int :=
 z2w (ι := Nat) (ρ := fun _ => Int) (fun g i => z6u a0 (fun s2 => g s2) i) s2
theorem zhb (a0 : (List S_api_Step)) (s2 : Nat) : zhc a0 s2 = z6u a0 (zhc a0) s2 :=
 z19 (ι := Nat) (ρ := fun _ => Int) (Φ := fun g i => z6u a0 (fun s2 => g s2) i) (fun i => znn (ι := Nat) (ρ := fun _ => Int) (fun g => (fun s2 => g s2)) (fun _ => z17) a0 i) s2
noncomputable def zqn (a0 : (List S_api_Step)) : Option Int :=
 bif (decide ((((a0).length : Nat) : Int) > 64)) then (
 some 2
 ) else (
 zhc a0 0
 )
theorem Z4u (a0 : (List S_api_Step)) (r : Int) (h : zqn a0 = some r) : z0m Tryz.prog 39 [(PV.sl none 83 3 (List.map z00 a0))] (I64 r) := by
 unfold zqn at h
 refine z0d Tryz.func39 rfl Tryz.ntmps39 Tryz.results39 rfl (z0g ?_)
 change BW _ _ _ ⟨[(0, (PV.sl none 83 3 (List.map z00 a0)))], [], _⟩ _
 refine bR ?_
 refine eX ?_
 refine z08 ?_
 refine bR ?_
 iterate 2 refine sX ?_
 refine eX ?_
 refine cX h rfl ?_ ?_
 intro hc1 h
 refine bR ?_
 refine eX ?_
 obtain rfl := eI h; exact z05 eK
 intro hc1 h
 refine z07 ?_
 refine cBx ?_
 refine z08 ?_
 refine bR ?_
 iterate 2 refine sX ?_
 refine eX ?_
 refine z0h ?_
 refine cBx ?_
 unfold zhc at h
 refine z2u (σ := Nat) (fun i => [(9, (PV.sl none 83 3 (List.map z00 a0))), (10, (I64 ((((a0).length : Nat) : Int)))), (11, (I64 (((i : Nat) : Int))))]) (fun i => []) 0 h ?_ ?_ ?_
 intro i; exact ⟨lbE rfl, ⟨(z09 (z03 z02 _)), ⟨(z09 rfl), ⟨(z09 rfl), trivial⟩⟩⟩, trivial⟩
 exact jN
 rintro g1_f s2 h; replace h : z6u a0 (fun y0 => g1_f y0) s2 = some r := h; unfold z6u at h
 change BW _ _ _ ⟨[(9, (PV.sl none 83 3 (List.map z00 a0))), (10, (I64 ((((a0).length : Nat) : Int)))), (11, (I64 (((s2 : Nat) : Int))))], [], _⟩ _
 refine bR ?_
 refine eX ?_
 refine z08 ?_
 refine z3j (t := 9) rfl fun hb4 => ?_
 try rw [List.length_map] at hb4
 refine cX h rfl ?_ ?_
 intro hc3 h
 have hc3_ := of_decide_eq_true hc3
 refine z07 ?_
 refine cBx ?_
 refine z08 ?_
 refine z0h ?_
 refine cBx ?_
 refine bR ?_
 obtain ⟨x5, hx5, h⟩ := obind h
 refine sS rfl rfl rfl (z1r (i := s2) Tryz.underlying30 z1h rfl rfl rfl hx5 rfl) ?_
 refine sX ?_
 refine sS rfl rfl rfl (z14 z1h rfl) ?_
 refine z0j rfl rfl (z0e z1h rfl rfl rfl rfl rfl rfl (lbE rfl) rfl) ?_
 refine z0a ?_
 refine cBx ?_
 refine bR ?_
 refine sX ?_
 obtain ⟨x6, hx6, h⟩ := obind h
 refine sS rfl rfl rfl (z06 rfl Z71 rfl (wkr .nil) ⟨(z02 x5), trivial⟩ (Z4j x5 x6 hx6) rfl) ?_
 refine eX ?_
 refine bR ?_
 refine sX ?_
 refine eX ?_
 refine cX h rfl ?_ ?_
 intro hc7 h
 refine bR ?_
 refine sX ?_
 refine eX ?_
 obtain rfl := eI h; exact z05 eK
 intro hc7 h
 refine z07 ?_
 refine cBx ?_
 refine z0f ?_
 refine sS rfl rfl rfl (z27 (k := s2) (c := 1) rfl rfl rfl (by omega)) ?_
 refine sX (z0a ?_)
 exact ⟨rfl, (s2 + 1), h, jN⟩
 intro hc3 h
 refine z1z ?_
 refine cBx ?_
 refine bR ?_
 refine eX ?_
 obtain rfl := eI h; exact z05 eK
noncomputable def zjr (a0 : V) (a1 : (List S_api_Step)) : Option Int :=
 (zd3 a0).bind fun x1 =>
 bif (x1.2 != 0) then (
 some x1.2
 ) else (
 (zqn a1).bind fun x3 =>
 some x3
 )
theorem zye (a0 : V) (a1 : (List S_api_Step)) (r : Int) (h : zjr a0 a1 = some r) : z0m Tryz.prog 30 [(ofV a0), (PV.sl none 83 3 (List.map z00 a1))] (I64 r) := by
 unfold zjr at h
 refine z0d Tryz.func30 rfl Tryz.ntmps30 Tryz.results30 rfl (z0g ?_)
 change BW _ _ _ ⟨[(0, (ofV a0)), (1, (PV.sl none 83 3 (List.map z00 a1)))], [], _⟩ _
 refine bR ?_
 refine eX ?_
 refine z08 ?_
 refine bR ?_
 refine sX ?_
 obtain ⟨x1, hx1, h⟩ := obind h
 refine sS rfl rfl rfl (z06 rfl zki rfl (wkr .nil) ⟨(ids_V a0), trivial⟩ (zji a0 x1 hx1) (z01 rfl (z01 rfl z04))) ?_
 iterate 4 refine sX ?_
 refine eX ?_
 refine bR ?_
 refine sX ?_
 refine eX ?_
 refine cX h rfl ?_ ?_
 intro hc2 h
 refine bR ?_
 refine sX ?_
 refine eX ?_
 obtain rfl := eI h; exact z05 eK
 intro hc2 h
 refine z07 ?_
 refine cBx ?_
 refine bR ?_
 refine sX ?_
 obtain ⟨x3, hx3, h⟩ := obind h
 refine sS rfl rfl rfl (z06 rfl Z7b rfl (wkr .nil) ⟨(z03 z02 a1), trivial⟩ (Z4u a1 x3 hx3) rfl) ?_
 refine eX ?_
 obtain rfl := eI h; exact z05 eK
noncomputable def zfq (a0 : V) : Option ((List (Str × V)) × Bool) :=
 bif (a0).isDict then (
 some ((a0).asDict, true)
 ) else (
 bif (a0).isRec then (
 ((a0).asRec).bind fun x3 =>
 some (x3.fields, true)
 ) else (
 some ([], false)
 )
 )
theorem ztf (a0 : V) (r : ((List (Str × V)) × Bool)) (h : zfq a0 = some r) : z0m Tryz.prog 97 [(ofV a0)] (PV.tup [(PV.sl none 69 2 (List.map ofFld r.1)), (BO r.2)]) := by
 unfold zfq at h
 refine z0d Tryz.func97 rfl Tryz.ntmps97 Tryz.results97 rfl (z0g ?_)
 change BW _ _ _ ⟨[(0, (ofV a0))], [], _⟩ _
 refine bR ?_
 refine sX ?_
 refine eX ?_
 refine z08 ?_
 refine bR ?_
 refine eX ?_
 refine z0h ?_
 refine cBx ?_
 refine bR ?_
 refine sS rfl rfl rfl (z2r rfl rfl) ?_
 refine sX ?_
 refine eX ?_
 refine cX h rfl ?_ ?_
 intro hc1 h
 refine bR ?_
 refine eX ?_
 refine bR ?_
 iterate 2 refine sX ?_
 refine eX ?_
 obtain rfl := eI h; exact z05 ⟨_, rfl, z0p (y := (PV.tup [(PV.sl none 69 2 (List.map ofFld (a0).asDict)), (BO true)])) (Wk.refl _) (z01 (z03 z0r ((a0).asDict)) (z01 rfl z04)) ⟨rfl, rfl⟩⟩
 intro hc1 h
 refine bR ?_
 refine sS rfl rfl rfl (z35 rfl rfl) ?_
 refine sX ?_
 refine eX ?_
 refine cX h rfl ?_ ?_
 intro hc2 h
 refine bR ?_
 refine eX ?_
 refine bR ?_
 refine sX ?_
 obtain ⟨x3, hx3, h⟩ := obind h
 refine sS rfl rfl rfl (z1m rfl rfl hx3) ?_
 iterate 3 refine sX ?_
 refine eX ?_
 obtain rfl := eI h; exact z05 ⟨_, rfl, z0p (y := (PV.tup [(PV.sl none 69 2 (List.map ofFld x3.fields)), (BO true)])) (Wk.refl _) (z01 (z03 z0r x3.fields) (z01 rfl z04)) ⟨rfl, rfl⟩⟩
 intro hc2 h
 refine z07 ?_
 refine cBx ?_
 refine bR ?_
 refine sX ?_
 refine eX ?_
 obtain rfl := eI h; exact z05 ⟨_, rfl, z0p (y := (PV.tup [(PV.sl none 69 2 (List.map ofFld [])), (BO false)])) (Wk.tup (.cons Wk.nil (wkr .nil))) (z01 (z03 z0r ([])) (z01 rfl z04)) ⟨rfl, rfl⟩⟩
noncomputable def znx (a0 : (Str × V)) (a1 : Str) : Option Int :=
 bif (Op.bytesLess a0.1 a1) then (
 some (-1)
 ) else (
 bif (!(Op.bytesLess a0.1 a1 || a0.1 == a1)) then (
 some 1
 ) else (
 some 0
 )
 )
theorem Z1t (a0 : (Str × V)) (a1 : Str) (r : Int) (h : znx a0 a1 = some r) : z0m Tryz.prog 112 [(ofFld a0), (z0i a1)] (I64 r) := by
 unfold znx at h
 refine z0d Tryz.func112 rfl Tryz.ntmps112 Tryz.results112 rfl (z0g ?_)
 change BW _ _ _ ⟨[(0, (ofFld a0)), (1, (z0i a1))], [], _⟩ _
 refine bR ?_
 refine sX ?_
 refine eX ?_
 refine z08 ?_
 refine z0h ?_
 refine cBx ?_
 refine bR ?_
 iterate 3 refine sX ?_
 refine sS rfl rfl rfl ((z2p (a := a0.1) (b := a1) rfl rfl rfl rfl).cast (y := (BO ((Op.bytesLess a0.1 a1)))) rfl rfl) ?_
 refine eX ?_
 refine cX h rfl ?_ ?_
 intro hc1 h
 refine bR ?_
 refine eX ?_
 obtain rfl := eI h; exact z05 eK
 intro hc1 h
 refine bR ?_
 iterate 3 refine sX ?_
 refine sS rfl rfl rfl ((z2p (a := a0.1) (b := a1) rfl rfl rfl rfl).cast (y := (BO ((!(Op.bytesLess a0.1 a1 || a0.1 == a1))))) rfl rfl) ?_
 refine eX ?_
 refine cX h rfl ?_ ?_
 intro hc2 h
 refine bR ?_
 refine eX ?_
 obtain rfl := eI h; exact z05 eK
 intro hc2 h
 refine z07 ?_
 refine cBx ?_
 refine bR ?_
 refine eX ?_
 obtain rfl := eI h; exact z05 eK
noncomputable def z6x (a0 : (List (Str × V))) (a1 : Str) (g1 : Int → Int → Option (Int × Bool)) (s1 s2 : Int) : Option (Int × Bool) :=
 bif (decide (s1 < s2)) then (
 (z7g a0 (IntKind.i64.wrap (znc .u64 (IntKind.u64.wrap (IntKind.i64.wrap (s1 + s2))) 1))).bind fun x4 =>
 (znx x4 a1).bind fun x5 =>
 bif (decide (x5 < 0)) then (
 g1 (IntKind.i64.wrap ((IntKind.i64.wrap (znc .u64 (IntKind.u64.wrap (IntKind.i64.wrap (s1 + s2))) 1)) + 1)) s2
 ) else (
 g1 s1 (IntKind.i64.wrap (znc .u64 (IntKind.u64.wrap (IntKind.i64.wrap (s1 + s2))) 1))
 )
 ) else (
 bif (decide (s1 < (((a0).length : Nat) : Int))) then (
 (z7g a0 s1).bind fun x8 =>
 (znx x8 a1).bind fun x9 =>
 some (s1, (x9 == 0))
 ) else (
 some (s1, false)
 )
 )
theorem zns (g1 : OF ρ → Int → Int → Option (Int × Bool)) (h_g1 : ∀ y0 y1, CM (fun G => g1 G y0 y1)) (a0 : (List (Str × V))) (a1 : Str) (s1 s2 : Int) : CM (fun G : OF ρ => z6x a0 a1 (g1 G) s1 s2) := by
 simp only [z6x]
 repeat (first | exact z0c | exact h_g1 _ _ | refine z11 ?_ ?_ | refine z12 ?_ (fun _ => ?_))
noncomputable def zhz (a0 : (List (Str × V))) (a1 : Str) (s1 s2 : Int) : Option (Int × Bool) :=
 z2w (ι := (Int × Int)) (ρ := fun _ => (Int × Bool)) (fun g i => z6x a0 a1 (fun s1 s2 => g (s1, s2)) i.1 i.2) (s1, s2)
theorem zhy (a0 : (List (Str × V))) (a1 : Str) (s1 s2 : Int) : zhz a0 a1 s1 s2 = z6x a0 a1 (zhz a0 a1) s1 s2 :=
 z19 (ι := (Int × Int)) (ρ := fun _ => (Int × Bool)) (Φ := fun g i => z6x a0 a1 (fun s1 s2 => g (s1, s2)) i.1 i.2) (fun i => zns (ι := (Int × Int)) (ρ := fun _ => (Int × Bool)) (fun g => (fun s1 s2 => g (s1, s2))) (fun _ _ => z17) a0 a1 i.1 i.2) (s1, s2)
noncomputable def zub (a0 : (List (Str × V))) (a1 : Str) : Option (Int × Bool) :=
 zhz a0 a1 0 (((a0).length : Nat) : Int)
theorem Z5r (a0 : (List (Str × V))) (a1 : Str) (r : (Int × Bool)) (h : zub a0 a1 = some r) : z0m Tryz.prog 111 [(PV.sl none 69 2 (List.map ofFld a0)), (z0i a1), (PV.fn (.func 112) [] [])] (PV.tup [(I64 r.1), (BO r.2)]) := by
 unfold zub at h
 refine z0d Tryz.func111 rfl Tryz.ntmps111 Tryz.results111 rfl (z0g ?_)
 change BW _ _ _ ⟨[(0, (PV.sl none 69 2 (List.map ofFld a0))), (1, (z0i a1)), (2, (PV.fn (.func 112) [] []))], [], _⟩ _
 refine bR ?_
 refine sX ?_
 refine eX ?_
 refine bR ?_
 iterate 2 refine sX ?_
 refine eX ?_
 refine bR ?_
 iterate 2 refine sX ?_
 refine eX ?_
 refine z08 ?_
 refine z0h ?_
 refine cBx ?_
 unfold zhz at h
 refine lX (σ := (Int × Int)) (fun i => [(0, (PV.sl none 69 2 (List.map ofFld a0))), (1, (z0i a1)), (2, (PV.fn (.func 112) [] [])), (8, (I64 ((((a0).length : Nat) : Int)))), (9, (I64 i.1)), (10, (I64 i.2))]) (fun i => []) (0, (((a0).length : Nat) : Int)) h ?_ ?_
 exact jN
 rintro g1_f ⟨s1, s2⟩ h; replace h : z6x a0 a1 (fun y0 y1 => g1_f (y0, y1)) s1 s2 = some r := h; unfold z6x at h
 change BW _ _ _ ⟨[(0, (PV.sl none 69 2 (List.map ofFld a0))), (1, (z0i a1)), (2, (PV.fn (.func 112) [] [])), (8, (I64 ((((a0).length : Nat) : Int)))), (9, (I64 s1)), (10, (I64 s2))], [], _⟩ _
 refine z08 ?_
 refine bR ?_
 iterate 2 refine sX ?_
 refine eX ?_
 refine cX h rfl ?_ ?_
 intro hc3 h
 refine z07 ?_
 refine cBx ?_
 refine z0h ?_
 refine cBx ?_
 refine bR ?_
 iterate 3 refine sX ?_
 refine sS rfl rfl rfl (zib Tryz.underlying3 Tryz.underlying160 rfl rfl) ?_
 refine sS rfl rfl rfl ((zr5 rfl rfl rfl (by decide)).cast (y := (PV.v (.int .u64 (znc .u64 (IntKind.u64.wrap (IntKind.i64.wrap (s1 + s2))) 1)))) rfl rfl) ?_
 refine sS rfl rfl rfl (zib Tryz.underlying160 Tryz.underlying3 rfl rfl) ?_
 refine eX ?_
 refine bR ?_
 iterate 3 refine sX ?_
 obtain ⟨x4, hx4, h⟩ := obind h
 refine sS rfl rfl rfl (z2h Tryz.underlying71 z0z rfl rfl rfl hx4 rfl) ?_
 iterate 2 refine sX ?_
 obtain ⟨x5, hx5, h⟩ := obind h
 refine sS rfl rfl rfl (z4o rfl rfl zxo rfl (wkr (wkr .nil)) ⟨(z0r x4), ⟨rfl, trivial⟩⟩ (Z1t x4 a1 x5 hx5) rfl) ?_
 refine eX ?_
 refine cX h rfl ?_ ?_
 intro hc6 h
 refine z0f ?_
 iterate 2 refine sX ?_
 refine sX (z0a ?_)
 exact ⟨rfl, ((IntKind.i64.wrap ((IntKind.i64.wrap (znc .u64 (IntKind.u64.wrap (IntKind.i64.wrap (s1 + s2))) 1)) + 1)), s2), h, jN⟩
 intro hc6 h
 refine z0f ?_
 refine sX ?_
 refine sX (z0a ?_)
 exact ⟨rfl, (s1, (IntKind.i64.wrap (znc .u64 (IntKind.u64.wrap (IntKind.i64.wrap (s1 + s2))) 1))), h, jN⟩
 intro hc3 h
 refine z1z ?_
 refine cBx ?_
 refine bR ?_
 iterate 5 refine sX ?_
 refine z0q (t := 39) rfl ?_ ?_
 intro hb7; replace h := z0x hb7 h
 iterate 3 refine yX ?_
 obtain ⟨x8, hx8, h⟩ := obind h
 refine z1q rfl rfl rfl rfl rfl rfl (z2h Tryz.underlying71 z0z rfl rfl rfl hx8 rfl) ?_
 iterate 2 refine yX ?_
 obtain ⟨x9, hx9, h⟩ := obind h
 refine z1q rfl rfl rfl rfl rfl rfl (z4o rfl rfl zxo rfl (wkr (wkr .nil)) ⟨(z0r x8), ⟨rfl, trivial⟩⟩ (Z1t x8 a1 x9 hx9) rfl) ?_
 refine yX ?_
 iterate 2 refine sX ?_
 refine eX ?_
 obtain rfl := eI h; exact z05 eK
 intro hb7; replace h := z0y hb7 h
 iterate 8 refine nX ?_
 iterate 2 refine sX ?_
 refine eX ?_
 obtain rfl := eI h; exact z05 eK
noncomputable def zjo (a0 : (List (Str × V))) (a1 : Str) : Option (Int × Bool) :=
 (zub a0 a1).bind fun x1 =>
 some (x1.1, x1.2)
theorem zyb (a0 : (List (Str × V))) (a1 : Str) (r : (Int × Bool)) (h : zjo a0 a1 = some r) : z0m Tryz.prog 92 [(PV.sl none 69 2 (List.map ofFld a0)), (z0i a1)] (PV.tup [(I64 r.1), (BO r.2)]) := by
 unfold zjo at h
 refine z0d Tryz.func92 rfl Tryz.ntmps92 Tryz.results92 rfl (z0g ?_)
 change BW _ _ _ ⟨[(0, (PV.sl none 69 2 (List.map ofFld a0))), (1, (z0i a1))], [], _⟩ _
 refine bR ?_
 refine sX ?_
 refine eX ?_
 refine bR ?_
 iterate 2 refine sX ?_
 obtain ⟨x1, hx1, h⟩ := obind h
 refine sS rfl rfl rfl (z06 rfl Z3u rfl (wkr (wkr (wkr .nil))) ⟨(z03 z0r a0), ⟨rfl, ⟨rfl, trivial⟩⟩⟩ (Z5r a0 a1 x1 hx1) (z01 rfl (z01 rfl z04))) ?_
 iterate 3 refine sX ?_
 refine eX ?_
 obtain rfl := eI h; exact z05 eK
end Go.Proofs.YthidgpcbnieleaaGreatDoor
