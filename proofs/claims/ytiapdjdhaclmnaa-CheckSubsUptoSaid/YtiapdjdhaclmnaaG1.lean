/- Pure functions, and that calls answer as they say. -/
import Derived.Test.YtiapdjdhaclmnaaG0
namespace Go.Proofs.Ytiapdjdhaclmnaa
open Go Aw
set_option linter.unusedVariables false
set_option maxRecDepth 20000
set_option maxHeartbeats 2000000
variable {ι : Type} {ρ : ι → Type}
noncomputable def zda : Option Int :=
 some 0
noncomputable def zd9 (x16 : Rec) (s19 : Bool) : Option Int :=
 bif s19 then (
 some 1
 ) else (
 (znb x16.fields).bind fun x21 =>
 some x21
 )
noncomputable def z9k (a0 : V) (s1 : Bool) : Option Int :=
 bif s1 then (
 (zj8 a0).bind fun x3 =>
 bif (x3 == 11) then (
 some 7
 ) else (
 bif (x3 == 0) then (
 some 6
 ) else (
 some 2
 )
 )
 ) else (
 bif (a0).isText then (
 bif (decide (((((a0).asText).length : Nat) : Int) > 65536)) then (
 some 2
 ) else (
 zda
 )
 ) else (
 bif (a0).isBytes then (
 bif (decide (((((a0).asBytes).length : Nat) : Int) > 65536)) then (
 some 2
 ) else (
 zda
 )
 ) else (
 bif (a0).isList then (
 bif (decide (((((a0).asList).length : Nat) : Int) > 4096)) then (
 some 2
 ) else (
 zda
 )
 ) else (
 bif (a0).isDict then (
 (znb ((a0).asDict)).bind fun x13 =>
 some x13
 ) else (
 bif (a0).isRec then (
 bif ((a0).asRec).isNone then (
 some 7
 ) else (
 ((a0).asRec).bind fun x16 =>
 (zn8 x16.cls).bind fun x17 =>
 bif (!x17) then (
 some 8
 ) else (
 bif (decide (x16.ver < 1)) then (
 zd9 x16 true
 ) else (
 zd9 x16 (decide (x16.ver > 1000))
 )
 )
 )
 ) else (
 (zj8 a0).bind fun x23 =>
 bif (x23 == 0) then (
 some 6
 ) else (
 zda
 )
 )
 )
 )
 )
 )
 )
noncomputable def zvs (a0 : V) (a1 a2 : Int) : Option Int :=
 bif (decide (a1 ≥ 16384)) then (
 z9k a0 true
 ) else (
 z9k a0 (decide (a2 > 64))
 )
theorem Zao (a0 : V) (a1 a2 r : Int) (h : zvs a0 a1 a2 = some r) : z08 Try.prog 117 [(ofV a0), (I64 a1), (I64 a2)] (I64 r) := by
 unfold zvs at h
 refine z0g Try.func117 rfl Try.ntmps117 Try.results117 rfl (z0q ?_)
 change BW _ _ _ ⟨[(0, (ofV a0)), (1, (I64 a1)), (2, (I64 a2))], [], _⟩ _
 refine bR ?_
 refine eX ?_
 refine z09 ?_
 refine z37 (ι := Bool) (fun i => z9k a0 i = some r) (fun i => [(0, (ofV a0)), (18, (BO i))]) (fun i => []) ?_ ?_ ?_
 intro i; exact ⟨lbE rfl, ⟨(z00 (ids_V _)), ⟨(z00 rfl), trivial⟩⟩, trivial⟩
 rintro s1 h; replace h : z9k a0 s1 = some r := h; unfold z9k at h
 change BW _ _ _ ⟨[(0, (ofV a0)), (18, (BO s1))], [], _⟩ _
 refine cX h rfl ?_ ?_
 intro hc2 h
 refine z09 ?_
 refine bR ?_
 refine sX ?_
 obtain ⟨x3, hx3, h⟩ := obind h
 refine sS rfl rfl rfl (z04 rfl zsf rfl (wkr .nil) ⟨(ids_V a0), trivial⟩ (zr4 a0 x3 hx3) rfl) (z06 ?_)
 refine cBx ?_
 refine z0e ?_
 refine cBx ?_
 refine bR ?_
 refine sX ?_
 refine eX ?_
 refine cX h rfl ?_ ?_
 intro hc4 h
 refine bR ?_
 refine eX ?_
 obtain rfl := eI h; exact z05 eK
 intro hc4 h
 refine bR ?_
 refine sX ?_
 refine eX ?_
 refine cX h rfl ?_ ?_
 intro hc5 h
 refine bR ?_
 refine eX ?_
 obtain rfl := eI h; exact z05 eK
 intro hc5 h
 refine z07 ?_
 refine cBx ?_
 refine bR ?_
 refine eX ?_
 obtain rfl := eI h; exact z05 eK
 intro hc2 h
 refine z07 ?_
 refine cBx ?_
 refine jX (ι := Unit) (fun i => zda = some r) (fun i => []) (fun i => []) ?_ ?_
 rintro ⟨⟩ h; replace h : zda = some r := h; unfold zda at h
 change BW _ _ _ ⟨[], [], _⟩ _
 refine bR ?_
 refine eX ?_
 obtain rfl := eI h; exact z05 eK
 refine bR ?_
 refine eX ?_
 refine z0e ?_
 refine cBx ?_
 refine bR ?_
 refine sS rfl rfl rfl (z94 rfl rfl) ?_
 refine sX ?_
 refine eX ?_
 refine cX h rfl ?_ ?_
 intro hc6 h
 refine bR ?_
 refine eX ?_
 refine bR ?_
 refine sX ?_
 refine sS rfl rfl rfl (z97 (s := ((a0).asText)) Try.underlying9 rfl rfl) ?_
 refine eX ?_
 refine cX h rfl ?_ ?_
 intro hc7 h
 refine bR ?_
 refine eX ?_
 obtain rfl := eI h; exact z05 eK
 intro hc7 h
 refine z07 ?_
 exact ⟨rfl, (), h, jN⟩
 intro hc6 h
 refine bR ?_
 refine sS rfl rfl rfl (z7w rfl rfl) ?_
 refine sX ?_
 refine eX ?_
 refine cX h rfl ?_ ?_
 intro hc8 h
 refine bR ?_
 refine eX ?_
 refine bR ?_
 iterate 2 refine sX ?_
 refine eX ?_
 refine cX h rfl ?_ ?_
 intro hc9 h
 refine bR ?_
 refine eX ?_
 obtain rfl := eI h; exact z05 eK
 intro hc9 h
 refine z07 ?_
 exact ⟨rfl, (), h, jN⟩
 intro hc8 h
 refine bR ?_
 refine sS rfl rfl rfl (z4x rfl rfl) ?_
 refine sX ?_
 refine eX ?_
 refine cX h rfl ?_ ?_
 intro hc10 h
 refine bR ?_
 refine eX ?_
 refine bR ?_
 iterate 2 refine sX ?_
 refine eX ?_
 refine cX h rfl ?_ ?_
 intro hc11 h
 refine bR ?_
 refine eX ?_
 obtain rfl := eI h; exact z05 eK
 intro hc11 h
 refine z07 ?_
 exact ⟨rfl, (), h, jN⟩
 intro hc10 h
 refine bR ?_
 refine sS rfl rfl rfl (z4y rfl rfl) ?_
 refine sX ?_
 refine eX ?_
 refine cX h rfl ?_ ?_
 intro hc12 h
 refine bR ?_
 refine eX ?_
 refine bR ?_
 refine sX ?_
 obtain ⟨x13, hx13, h⟩ := obind h
 refine sS rfl rfl rfl (z04 rfl Z3o rfl (wkr .nil) ⟨(z0c z2i ((a0).asDict)), trivial⟩ (Z7g ((a0).asDict) x13 hx13) rfl) ?_
 refine eX ?_
 obtain rfl := eI h; exact z05 eK
 intro hc12 h
 refine bR ?_
 refine sS rfl rfl rfl (z75 rfl rfl) ?_
 refine sX ?_
 refine eX ?_
 refine cX h rfl ?_ ?_
 intro hc14 h
 refine bR ?_
 refine eX ?_
 refine z09 ?_
 refine z0e ?_
 refine cBx ?_
 refine bR ?_
 refine sX ?_
 refine sS rfl rfl rfl (zi1 Try.underlying70 rfl rfl) ?_
 refine eX ?_
 refine cX h rfl ?_ ?_
 intro hc15 h
 refine bR ?_
 refine eX ?_
 obtain rfl := eI h; exact z05 eK
 intro hc15 h
 refine bR ?_
 refine sX ?_
 obtain ⟨x16, hx16, h⟩ := obind h
 refine sS rfl rfl rfl (z35 rfl rfl hx16) ?_
 iterate 2 refine sX ?_
 obtain ⟨x17, hx17, h⟩ := obind h
 refine sS rfl rfl rfl (z04 rfl Z3n rfl (wkr .nil) ⟨rfl, trivial⟩ (Z75 x16.cls x17 hx17) rfl) ?_
 refine sX ?_
 refine eX ?_
 refine cX h rfl ?_ ?_
 intro hc18 h
 refine bR ?_
 refine eX ?_
 obtain rfl := eI h; exact z05 eK
 intro hc18 h
 refine z37 (ι := Bool) (fun i => zd9 x16 i = some r) (fun i => [(11, (ofRecP (a0).asRec)), (65, (BO i))]) (fun i => []) ?_ ?_ ?_
 intro i; exact ⟨lbE rfl, ⟨(z00 (zzz _)), ⟨(z00 rfl), trivial⟩⟩, trivial⟩
 rintro s19 h; replace h : zd9 x16 s19 = some r := h; unfold zd9 at h
 change BW _ _ _ ⟨[(11, (ofRecP (a0).asRec)), (65, (BO s19))], [], _⟩ _
 refine cX h rfl ?_ ?_
 intro hc20 h
 refine bR ?_
 refine eX ?_
 obtain rfl := eI h; exact z05 eK
 intro hc20 h
 refine z07 ?_
 refine cBx ?_
 refine bR ?_
 refine sX ?_
 refine sS rfl rfl rfl (z35 rfl rfl hx16) ?_
 iterate 2 refine sX ?_
 obtain ⟨x21, hx21, h⟩ := obind h
 refine sS rfl rfl rfl (z04 rfl Z3o rfl (wkr .nil) ⟨(z0c z2i x16.fields), trivial⟩ (Z7g x16.fields x21 hx21) rfl) ?_
 refine eX ?_
 obtain rfl := eI h; exact z05 eK
 refine z0a ?_
 refine sX ?_
 refine sS rfl rfl rfl (z35 rfl rfl hx16) ?_
 iterate 4 refine sX ?_
 refine z0n (t := 71) rfl ?_ ?_
 intro hb22; replace h := z0j hb22 h
 iterate 5 refine nX ?_
 refine sX ?_
 refine sX (z06 ?_)
 exact ⟨rfl, true, h, jN⟩
 intro hb22; replace h := z0k hb22 h
 refine yX ?_
 refine z1g rfl rfl rfl rfl rfl rfl (z35 rfl rfl hx16) ?_
 iterate 3 refine yX ?_
 refine sX ?_
 refine sX (z06 ?_)
 exact ⟨rfl, (decide (x16.ver > 1000)), h, jN⟩
 intro hc14 h
 refine bR ?_
 refine eX ?_
 refine bR ?_
 refine sX ?_
 obtain ⟨x23, hx23, h⟩ := obind h
 refine sS rfl rfl rfl (z04 rfl zsf rfl (wkr .nil) ⟨(ids_V a0), trivial⟩ (zr4 a0 x23 hx23) rfl) ?_
 refine eX ?_
 refine cX h rfl ?_ ?_
 intro hc24 h
 refine bR ?_
 refine eX ?_
 obtain rfl := eI h; exact z05 eK
 intro hc24 h
 refine z07 ?_
 exact ⟨rfl, (), h, jN⟩
 refine z0a ?_
 iterate 3 refine sX ?_
 refine z0n (t := 15) rfl ?_ ?_
 intro hb25; replace h := z0j hb25 h
 iterate 2 refine nX ?_
 refine sX (z06 ?_)
 exact ⟨rfl, true, h, jN⟩
 intro hb25; replace h := z0k hb25 h
 iterate 2 refine yX ?_
 refine sX (z06 ?_)
 exact ⟨rfl, (decide (a2 > 64)), h, jN⟩
noncomputable def z6j (r_q0f : S_value_count → V → Int → Option (Bool × S_value_count)) (a1 : (List (Str × V))) (a2 : Int) (g1 : Nat → Int → Int → Int → Option (Bool × S_value_count)) (s1 : Nat) (s2 s3 s4 : Int) : Option (Bool × S_value_count) :=
 bif (decide (((s1 : Nat) : Int) < (((a1).length : Nat) : Int))) then (
 ((a1)[s1]?).bind fun x7 =>
 (r_q0f (S_value_count.mk s2 s3 s4) x7.2 (IntKind.i64.wrap (a2 + 1))).bind fun x8 =>
 bif (!x8.1) then (
 some (false, (x8.2))
 ) else (
 g1 (s1 + 1) ((x8.2).f_n) ((x8.2).f_deep) ((x8.2).f_why)
 )
 ) else (
 some (true, (S_value_count.mk s2 s3 s4))
 )
theorem zcp (r_q0f : OF ρ → S_value_count → V → Int → Option (Bool × S_value_count)) (h_r_q0f : ∀ y0 y1 y2, CM (fun G => r_q0f G y0 y1 y2)) (g1 : OF ρ → Nat → Int → Int → Int → Option (Bool × S_value_count)) (h_g1 : ∀ y0 y1 y2 y3, CM (fun G => g1 G y0 y1 y2 y3)) (a1 : (List (Str × V))) (a2 : Int) (s1 : Nat) (s2 s3 s4 : Int) : CM (fun G : OF ρ => z6j (r_q0f G) a1 a2 (g1 G) s1 s2 s3 s4) := by
 simp only [z6j]
 repeat (first | exact z01 | exact h_r_q0f _ _ _ | exact h_g1 _ _ _ _ | refine z0h ?_ ?_ | refine z0i ?_ (fun _ => ?_))
noncomputable def zhs (r_q0f : S_value_count → V → Int → Option (Bool × S_value_count)) (a1 : (List (Str × V))) (a2 : Int) (s1 : Nat) (s2 s3 s4 : Int) : Option (Bool × S_value_count) :=
 z22 (ι := (Nat × Int × Int × Int)) (ρ := fun _ => (Bool × S_value_count)) (fun g i => z6j r_q0f a1 a2 (fun s1 s2 s3 s4 => g (s1, s2, s3, s4)) i.1 i.2.1 i.2.2.1 i.2.2.2) (s1, s2, s3, s4)
theorem zlc (r_q0f : S_value_count → V → Int → Option (Bool × S_value_count)) (a1 : (List (Str × V))) (a2 : Int) (s1 : Nat) (s2 s3 s4 : Int) : zhs r_q0f a1 a2 s1 s2 s3 s4 = z6j r_q0f a1 a2 (zhs r_q0f a1 a2) s1 s2 s3 s4 :=
 z0t (ι := (Nat × Int × Int × Int)) (ρ := fun _ => (Bool × S_value_count)) (Φ := fun g i => z6j r_q0f a1 a2 (fun s1 s2 s3 s4 => g (s1, s2, s3, s4)) i.1 i.2.1 i.2.2.1 i.2.2.2) (fun i => zcp (ι := (Nat × Int × Int × Int)) (ρ := fun _ => (Bool × S_value_count)) (fun _ => r_q0f) (fun _ _ _ => z01) (fun g => (fun s1 s2 s3 s4 => g (s1, s2, s3, s4))) (fun _ _ _ _ => z0s) a1 a2 i.1 i.2.1 i.2.2.1 i.2.2.2) (s1, s2, s3, s4)
theorem zv9 (r_q0f : OF ρ → S_value_count → V → Int → Option (Bool × S_value_count)) (h_r_q0f : ∀ y0 y1 y2, CM (fun G => r_q0f G y0 y1 y2)) (a1 : (List (Str × V))) (a2 : Int) (s1 : Nat) (s2 s3 s4 : Int) : CM (fun G : OF ρ => zhs (r_q0f G) a1 a2 s1 s2 s3 s4) :=
 z28 (κ := (Nat × Int × Int × Int)) (τ := fun _ => (Bool × S_value_count)) (Φ := fun G g i => z6j (r_q0f G) a1 a2 (fun s1 s2 s3 s4 => g (s1, s2, s3, s4)) i.1 i.2.1 i.2.2.1 i.2.2.2) (fun g i => zcp r_q0f h_r_q0f (fun _ => (fun s1 s2 s3 s4 => g (s1, s2, s3, s4))) (fun _ _ _ _ => z01) a1 a2 i.1 i.2.1 i.2.2.1 i.2.2.2) (fun G i => zcp (ι := (Nat × Int × Int × Int)) (ρ := fun _ => (Bool × S_value_count)) (fun _ => r_q0f G) (fun _ _ _ => z01) (fun g => (fun s1 s2 s3 s4 => g (s1, s2, s3, s4))) (fun _ _ _ _ => z0s) a1 a2 i.1 i.2.1 i.2.2.1 i.2.2.2) (s1, s2, s3, s4)
noncomputable def zov (r_q0k : S_value_count → (List (Str × V)) → Int → Option (Bool × S_value_count)) (r_q0f : S_value_count → V → Int → Option (Bool × S_value_count)) (a0 : S_value_count) (a1 : (List (Str × V))) (a2 : Int) : Option (Bool × S_value_count) :=
 zhs r_q0f a1 a2 0 a0.f_n a0.f_deep a0.f_why
theorem Z1y (r_q0k : OF ρ → S_value_count → (List (Str × V)) → Int → Option (Bool × S_value_count)) (h_r_q0k : ∀ y0 y1 y2, CM (fun G => r_q0k G y0 y1 y2)) (r_q0f : OF ρ → S_value_count → V → Int → Option (Bool × S_value_count)) (h_r_q0f : ∀ y0 y1 y2, CM (fun G => r_q0f G y0 y1 y2)) (a0 : S_value_count) (a1 : (List (Str × V))) (a2 : Int) : CM (fun G : OF ρ => zov (r_q0k G) (r_q0f G) a0 a1 a2) := by
 simp only [zov]
 repeat (first | exact z01 | exact h_r_q0k _ _ _ | exact h_r_q0f _ _ _ | apply zv9 | refine z0h ?_ ?_ | refine z0i ?_ (fun _ => ?_) | intro _ | assumption)
noncomputable def zhu (s3 s4 s5 : Int) : Option (Bool × S_value_count) :=
 some (true, (S_value_count.mk s3 s4 s5))
noncomputable def z6l (r_q0f : S_value_count → V → Int → Option (Bool × S_value_count)) (a1 : V) (a2 : Int) (g1 : Nat → Int → Int → Int → Option (Bool × S_value_count)) (s7 : Nat) (s8 s9 s10 : Int) : Option (Bool × S_value_count) :=
 bif (decide (((s7 : Nat) : Int) < ((((a1).asList).length : Nat) : Int))) then (
 (((a1).asList)[s7]?).bind fun x13 =>
 (r_q0f (S_value_count.mk s8 s9 s10) x13 (IntKind.i64.wrap (a2 + 1))).bind fun x14 =>
 bif (!x14.1) then (
 some (false, (x14.2))
 ) else (
 g1 (s7 + 1) ((x14.2).f_n) ((x14.2).f_deep) ((x14.2).f_why)
 )
 ) else (
 zhu s8 s9 s10
 )
theorem zcr (r_q0f : OF ρ → S_value_count → V → Int → Option (Bool × S_value_count)) (h_r_q0f : ∀ y0 y1 y2, CM (fun G => r_q0f G y0 y1 y2)) (g1 : OF ρ → Nat → Int → Int → Int → Option (Bool × S_value_count)) (h_g1 : ∀ y0 y1 y2 y3, CM (fun G => g1 G y0 y1 y2 y3)) (a1 : V) (a2 : Int) (s7 : Nat) (s8 s9 s10 : Int) : CM (fun G : OF ρ => z6l (r_q0f G) a1 a2 (g1 G) s7 s8 s9 s10) := by
 simp only [z6l]
 repeat (first | exact z01 | exact h_r_q0f _ _ _ | exact h_g1 _ _ _ _ | apply q0f_j1_cm | refine z0h ?_ ?_ | refine z0i ?_ (fun _ => ?_) | intro _ | assumption)
noncomputable def zht (r_q0f : S_value_count → V → Int → Option (Bool × S_value_count)) (a1 : V) (a2 : Int) (s7 : Nat) (s8 s9 s10 : Int) : Option (Bool × S_value_count) :=
 z22 (ι := (Nat × Int × Int × Int)) (ρ := fun _ => (Bool × S_value_count)) (fun g i => z6l r_q0f a1 a2 (fun s7 s8 s9 s10 => g (s7, s8, s9, s10)) i.1 i.2.1 i.2.2.1 i.2.2.2) (s7, s8, s9, s10)
theorem zle (r_q0f : S_value_count → V → Int → Option (Bool × S_value_count)) (a1 : V) (a2 : Int) (s7 : Nat) (s8 s9 s10 : Int) : zht r_q0f a1 a2 s7 s8 s9 s10 = z6l r_q0f a1 a2 (zht r_q0f a1 a2) s7 s8 s9 s10 :=
 z0t (ι := (Nat × Int × Int × Int)) (ρ := fun _ => (Bool × S_value_count)) (Φ := fun g i => z6l r_q0f a1 a2 (fun s7 s8 s9 s10 => g (s7, s8, s9, s10)) i.1 i.2.1 i.2.2.1 i.2.2.2) (fun i => zcr (ι := (Nat × Int × Int × Int)) (ρ := fun _ => (Bool × S_value_count)) (fun _ => r_q0f) (fun _ _ _ => z01) (fun g => (fun s7 s8 s9 s10 => g (s7, s8, s9, s10))) (fun _ _ _ _ => z0s) a1 a2 i.1 i.2.1 i.2.2.1 i.2.2.2) (s7, s8, s9, s10)
theorem zvc (r_q0f : OF ρ → S_value_count → V → Int → Option (Bool × S_value_count)) (h_r_q0f : ∀ y0 y1 y2, CM (fun G => r_q0f G y0 y1 y2)) (a1 : V) (a2 : Int) (s7 : Nat) (s8 s9 s10 : Int) : CM (fun G : OF ρ => zht (r_q0f G) a1 a2 s7 s8 s9 s10) :=
 z28 (κ := (Nat × Int × Int × Int)) (τ := fun _ => (Bool × S_value_count)) (Φ := fun G g i => z6l (r_q0f G) a1 a2 (fun s7 s8 s9 s10 => g (s7, s8, s9, s10)) i.1 i.2.1 i.2.2.1 i.2.2.2) (fun g i => zcr r_q0f h_r_q0f (fun _ => (fun s7 s8 s9 s10 => g (s7, s8, s9, s10))) (fun _ _ _ _ => z01) a1 a2 i.1 i.2.1 i.2.2.1 i.2.2.2) (fun G i => zcr (ι := (Nat × Int × Int × Int)) (ρ := fun _ => (Bool × S_value_count)) (fun _ => r_q0f G) (fun _ _ _ => z01) (fun g => (fun s7 s8 s9 s10 => g (s7, s8, s9, s10))) (fun _ _ _ _ => z0s) a1 a2 i.1 i.2.1 i.2.2.1 i.2.2.2) (s7, s8, s9, s10)
noncomputable def zox (r_q0k : S_value_count → (List (Str × V)) → Int → Option (Bool × S_value_count)) (r_q0f : S_value_count → V → Int → Option (Bool × S_value_count)) (a0 : S_value_count) (a1 : V) (a2 : Int) : Option (Bool × S_value_count) :=
 (zvs a1 a0.f_n a2).bind fun x1 =>
 bif (x1 != 0) then (
 some (false, (S_value_count.mk a0.f_n a0.f_deep x1))
 ) else (
 bif (a1).isList then (
 zht r_q0f a1 a2 0 (IntKind.i64.wrap (a0.f_n + 1)) (if a2 > a0.f_deep then a2 else a0.f_deep) x1
 ) else (
 bif (a1).isDict then (
 (r_q0k (S_value_count.mk (IntKind.i64.wrap (a0.f_n + 1)) (if a2 > a0.f_deep then a2 else a0.f_deep) x1) ((a1).asDict) a2).bind fun x17 =>
 some (x17.1, (x17.2))
 ) else (
 bif (a1).isRec then (
 ((a1).asRec).bind fun x19 =>
 (r_q0k (S_value_count.mk (IntKind.i64.wrap (a0.f_n + 1)) (if a2 > a0.f_deep then a2 else a0.f_deep) x1) x19.fields a2).bind fun x20 =>
 some (x20.1, (x20.2))
 ) else (
 zhu (IntKind.i64.wrap (a0.f_n + 1)) (if a2 > a0.f_deep then a2 else a0.f_deep) x1
 )
 )
 )
 )
theorem Z20 (r_q0k : OF ρ → S_value_count → (List (Str × V)) → Int → Option (Bool × S_value_count)) (h_r_q0k : ∀ y0 y1 y2, CM (fun G => r_q0k G y0 y1 y2)) (r_q0f : OF ρ → S_value_count → V → Int → Option (Bool × S_value_count)) (h_r_q0f : ∀ y0 y1 y2, CM (fun G => r_q0f G y0 y1 y2)) (a0 : S_value_count) (a1 : V) (a2 : Int) : CM (fun G : OF ρ => zox (r_q0k G) (r_q0f G) a0 a1 a2) := by
 simp only [zox]
 repeat (first | exact z01 | exact h_r_q0k _ _ _ | exact h_r_q0f _ _ _ | apply q0f_j1_cm | apply zvc | refine z0h ?_ ?_ | refine z0i ?_ (fun _ => ?_) | intro _ | assumption)
inductive C_q0k where
 | k_q0k (a0 : S_value_count) (a1 : (List (Str × V))) (a2 : Int)
 | k_q0f (a0 : S_value_count) (a1 : V) (a2 : Int)
def C_q0k.R : C_q0k → Type
 | .k_q0k _ _ _ => (Bool × S_value_count)
 | .k_q0f _ _ _ => (Bool × S_value_count)
noncomputable def C_q0k.F (g : ∀ i : C_q0k, Option i.R) : ∀ i : C_q0k, Option i.R
 | .k_q0k a0 a1 a2 => zov (fun a0 a1 a2 => g (.k_q0k a0 a1 a2)) (fun a0 a1 a2 => g (.k_q0f a0 a1 a2)) a0 a1 a2
 | .k_q0f a0 a1 a2 => zox (fun a0 a1 a2 => g (.k_q0k a0 a1 a2)) (fun a0 a1 a2 => g (.k_q0f a0 a1 a2)) a0 a1 a2
noncomputable def zs0 (a0 : S_value_count) (a1 : (List (Str × V))) (a2 : Int) : Option (Bool × S_value_count) := z22 C_q0k.F (.k_q0k a0 a1 a2)
noncomputable def zjc (a0 : S_value_count) (a1 : V) (a2 : Int) : Option (Bool × S_value_count) := z22 C_q0k.F (.k_q0f a0 a1 a2)
abbrev gg3 := fun (g : ∀ i : C_q0k, Option i.R) a0 a1 a2 => g (.k_q0k a0 a1 a2)
theorem hh3 (a0 a1 a2 : _) : CM (ρ := C_q0k.R) (fun g => g (C_q0k.k_q0k a0 a1 a2)) := z0s
abbrev gg4 := fun (g : ∀ i : C_q0k, Option i.R) a0 a1 a2 => g (.k_q0f a0 a1 a2)
theorem hh4 (a0 a1 a2 : _) : CM (ρ := C_q0k.R) (fun g => g (C_q0k.k_q0f a0 a1 a2)) := z0s
theorem C_q0k.cm (i : C_q0k) : CM (fun g : (∀ i : C_q0k, Option i.R) => C_q0k.F g i) := by
 cases i with
 | k_q0k a0 a1 a2 => exact Z1y gg3 hh3 gg4 hh4 a0 a1 a2
 | k_q0f a0 a1 a2 => exact Z20 gg3 hh3 gg4 hh4 a0 a1 a2
theorem Zdk (a0 : S_value_count) (a1 : (List (Str × V))) (a2 : Int) : zs0 a0 a1 a2 = zov zs0 zjc a0 a1 a2 := z0t C_q0k.cm (.k_q0k a0 a1 a2)
theorem Zdm (a0 : S_value_count) (a1 : V) (a2 : Int) : zjc a0 a1 a2 = zox zs0 zjc a0 a1 a2 := z0t C_q0k.cm (.k_q0f a0 a1 a2)
def C_q0k.Q : ∀ i : C_q0k, i.R → Prop
 | .k_q0k a0 a1 a2 => fun (r : (Bool × S_value_count)) => z49 Try.prog 118 [(PV.rf 0 0), (PV.sl none 43 2 (List.map ofFld a1)), (I64 a2)] (.box 148 [(I64 a0.f_n), (I64 a0.f_deep), (I64 a0.f_why)]) (BO r.1) (.box 148 [(I64 ((r.2).f_n)), (I64 ((r.2).f_deep)), (I64 ((r.2).f_why))])
 | .k_q0f a0 a1 a2 => fun (r : (Bool × S_value_count)) => z49 Try.prog 98 [(PV.rf 0 0), (ofV a1), (I64 a2)] (.box 148 [(I64 a0.f_n), (I64 a0.f_deep), (I64 a0.f_why)]) (BO r.1) (.box 148 [(I64 ((r.2).f_n)), (I64 ((r.2).f_deep)), (I64 ((r.2).f_why))])
theorem zbp (r_q0k : S_value_count → (List (Str × V)) → Int → Option (Bool × S_value_count)) (c_q0k : ∀ (a0 : S_value_count) (a1 : (List (Str × V))) (a2 : Int) r, r_q0k a0 a1 a2 = some r → z49 Try.prog 118 [(PV.rf 0 0), (PV.sl none 43 2 (List.map ofFld a1)), (I64 a2)] (.box 148 [(I64 a0.f_n), (I64 a0.f_deep), (I64 a0.f_why)]) (BO r.1) (.box 148 [(I64 ((r.2).f_n)), (I64 ((r.2).f_deep)), (I64 ((r.2).f_why))])) (r_q0f : S_value_count → V → Int → Option (Bool × S_value_count)) (c_q0f : ∀ (a0 : S_value_count) (a1 : V) (a2 : Int) r, r_q0f a0 a1 a2 = some r → z49 Try.prog 98 [(PV.rf 0 0), (ofV a1), (I64 a2)] (.box 148 [(I64 a0.f_n), (I64 a0.f_deep), (I64 a0.f_why)]) (BO r.1) (.box 148 [(I64 ((r.2).f_n)), (I64 ((r.2).f_deep)), (I64 ((r.2).f_why))])) (a0 : S_value_count) (a1 : (List (Str × V))) (a2 : Int) (r : (Bool × S_value_count)) (h : zov r_q0k r_q0f a0 a1 a2 = some r) : z49 Try.prog 118 [(PV.rf 0 0), (PV.sl none 43 2 (List.map ofFld a1)), (I64 a2)] (.box 148 [(I64 a0.f_n), (I64 a0.f_deep), (I64 a0.f_why)]) (BO r.1) (.box 148 [(I64 ((r.2).f_n)), (I64 ((r.2).f_deep)), (I64 ((r.2).f_why))]) := by
 unfold zov at h
 refine z0g Try.func118 rfl Try.ntmps118 Try.results118 rfl (z0q ?_)
 change BW _ _ _ ⟨[(0, (PV.rf 0 0)), (1, (PV.sl none 43 2 (List.map ofFld a1))), (2, (I64 a2))], [.box 148 [(I64 a0.f_n), (I64 a0.f_deep), (I64 a0.f_why)]], _⟩ _
 refine bR ?_
 refine eX ?_
 refine z09 ?_
 refine bR ?_
 iterate 2 refine sX ?_
 refine eX ?_
 refine z0e ?_
 refine cBx ?_
 unfold zhs at h
 refine lX (σ := (Nat × Int × Int × Int)) (fun i => [(0, (PV.rf 0 0)), (2, (I64 a2)), (9, (PV.sl none 43 2 (List.map ofFld a1))), (10, (I64 ((((a1).length : Nat) : Int)))), (11, (I64 (((i.1 : Nat) : Int))))]) (fun i => [.box 148 [(I64 i.2.1), (I64 i.2.2.1), (I64 i.2.2.2)]]) (0, a0.f_n, a0.f_deep, a0.f_why) h ?_ ?_
 exact jN
 rintro g1_f ⟨s1, s2, s3, s4⟩ h; replace h : z6j r_q0f a1 a2 (fun y0 y1 y2 y3 => g1_f (y0, y1, y2, y3)) s1 s2 s3 s4 = some r := h; unfold z6j at h
 change BW _ _ _ ⟨[(0, (PV.rf 0 0)), (2, (I64 a2)), (9, (PV.sl none 43 2 (List.map ofFld a1))), (10, (I64 ((((a1).length : Nat) : Int)))), (11, (I64 (((s1 : Nat) : Int))))], [.box 148 [(I64 s2), (I64 s3), (I64 s4)]], _⟩ _
 refine bR ?_
 refine eX ?_
 refine z09 ?_
 refine z2f (t := 9) rfl fun hb6 => ?_
 try rw [List.length_map] at hb6
 refine cX h rfl ?_ ?_
 intro hc5 h
 have hc5_ := of_decide_eq_true hc5
 refine z07 ?_
 refine cBx ?_
 refine z09 ?_
 refine z0e ?_
 refine cBx ?_
 refine bR ?_
 obtain ⟨x7, hx7, h⟩ := obind h
 refine sS rfl rfl rfl (z0w (i := s1) Try.underlying45 z2z rfl rfl rfl hx7 rfl) ?_
 refine sX ?_
 refine sS rfl rfl rfl ((z16 z2z rfl).cast (H'' := [.box 148 [(I64 s2), (I64 s3), (I64 s4)], .box 43 [(ofStr []), (ofV V.nil)]]) rfl (by simp only [mk_nil]; rfl)) ?_
 refine z0m rfl rfl (z0d z2z rfl rfl rfl rfl rfl rfl (lbE rfl) (by show List.all [(ofStr x7.1), (ofV x7.2)] z9g = true; simp only [List.all_cons, List.all_nil, zm0, z99, Bool.and_true, Bool.true_and]; try rfl)) ?_
 refine z06 ?_
 refine cBx ?_
 refine bR ?_
 iterate 5 refine sX ?_
 obtain ⟨x8, hx8, h⟩ := obind h
 refine sS rfl rfl rfl (z3g 0 rfl Z0o rfl (wkr (wkr (wkr .nil))) (.box (.val (ids_V x7.2) (.val rfl .nil))) rfl (z0l rfl (z0l rfl (z0l rfl rfl))) (c_q0f (S_value_count.mk s2 s3 s4) x7.2 (IntKind.i64.wrap (a2 + 1)) x8 hx8) rfl (z0l rfl (z0l rfl (z0l rfl rfl)))) ?_
 refine eX ?_
 refine cX h rfl ?_ ?_
 intro hc9 h
 refine bR ?_
 refine eX ?_
 obtain rfl := eI h; exact z05 ⟨_, rfl, z3j (y := (BO false)) (e := .box 148 [(I64 (((x8.2)).f_n)), (I64 (((x8.2)).f_deep)), (I64 (((x8.2)).f_why))]) (Wk.refl _) rfl rfl (z0l rfl (z0l rfl (z0l rfl rfl))) ⟨rfl, rfl⟩⟩
 intro hc9 h
 refine z07 ?_
 refine cBx ?_
 refine z0a ?_
 refine sS rfl rfl rfl (z1b (k := s1) (c := 1) rfl rfl rfl (by omega)) ?_
 refine sX (z06 ?_)
 exact ⟨rfl, ((s1 + 1), (x8.2).f_n, (x8.2).f_deep, (x8.2).f_why), h, jN⟩
 intro hc5 h
 refine z1a ?_
 refine cBx ?_
 refine bR ?_
 refine eX ?_
 obtain rfl := eI h; exact z05 ⟨_, rfl, z3j (y := (BO true)) (e := .box 148 [(I64 (((S_value_count.mk s2 s3 s4)).f_n)), (I64 (((S_value_count.mk s2 s3 s4)).f_deep)), (I64 (((S_value_count.mk s2 s3 s4)).f_why))]) (Wk.refl _) rfl rfl (z0l rfl (z0l rfl (z0l rfl rfl))) ⟨rfl, rfl⟩⟩
theorem za8 (r_q0k : S_value_count → (List (Str × V)) → Int → Option (Bool × S_value_count)) (c_q0k : ∀ (a0 : S_value_count) (a1 : (List (Str × V))) (a2 : Int) r, r_q0k a0 a1 a2 = some r → z49 Try.prog 118 [(PV.rf 0 0), (PV.sl none 43 2 (List.map ofFld a1)), (I64 a2)] (.box 148 [(I64 a0.f_n), (I64 a0.f_deep), (I64 a0.f_why)]) (BO r.1) (.box 148 [(I64 ((r.2).f_n)), (I64 ((r.2).f_deep)), (I64 ((r.2).f_why))])) (r_q0f : S_value_count → V → Int → Option (Bool × S_value_count)) (c_q0f : ∀ (a0 : S_value_count) (a1 : V) (a2 : Int) r, r_q0f a0 a1 a2 = some r → z49 Try.prog 98 [(PV.rf 0 0), (ofV a1), (I64 a2)] (.box 148 [(I64 a0.f_n), (I64 a0.f_deep), (I64 a0.f_why)]) (BO r.1) (.box 148 [(I64 ((r.2).f_n)), (I64 ((r.2).f_deep)), (I64 ((r.2).f_why))])) (a0 : S_value_count) (a1 : V) (a2 : Int) (r : (Bool × S_value_count)) (h : zox r_q0k r_q0f a0 a1 a2 = some r) : z49 Try.prog 98 [(PV.rf 0 0), (ofV a1), (I64 a2)] (.box 148 [(I64 a0.f_n), (I64 a0.f_deep), (I64 a0.f_why)]) (BO r.1) (.box 148 [(I64 ((r.2).f_n)), (I64 ((r.2).f_deep)), (I64 ((r.2).f_why))]) := by
 unfold zox at h
 refine z0g Try.func98 rfl Try.ntmps98 Try.results98 rfl (z0q ?_)
 change BW _ _ _ ⟨[(0, (PV.rf 0 0)), (1, (ofV a1)), (2, (I64 a2))], [.box 148 [(I64 a0.f_n), (I64 a0.f_deep), (I64 a0.f_why)]], _⟩ _
 refine bR ?_
 refine eX ?_
 refine z09 ?_
 refine bR ?_
 iterate 3 refine sX ?_
 refine sS rfl rfl rfl (z4h rfl rfl) ?_
 iterate 3 refine sX ?_
 obtain ⟨x1, hx1, h⟩ := obind h
 refine sS rfl rfl rfl (z04 rfl Z9o rfl (wkr (wkr (wkr .nil))) ⟨(ids_V a1), ⟨rfl, ⟨rfl, trivial⟩⟩⟩ (Zao a1 a0.f_n a2 x1 hx1) rfl) ?_
 refine sS rfl rfl rfl (z4h rfl rfl) ?_
 refine sX ?_
 refine z0m rfl rfl (z0d Z3b rfl rfl rfl rfl rfl rfl (lbE rfl) rfl) ?_
 refine z06 ?_
 refine cBx ?_
 refine bR ?_
 refine sX ?_
 refine sS rfl rfl rfl (z4h rfl rfl) ?_
 iterate 2 refine sX ?_
 refine eX ?_
 refine cX h rfl ?_ ?_
 intro hc2 h
 refine bR ?_
 refine eX ?_
 obtain rfl := eI h; exact z05 ⟨_, rfl, z3j (y := (BO false)) (e := .box 148 [(I64 (((S_value_count.mk a0.f_n a0.f_deep x1)).f_n)), (I64 (((S_value_count.mk a0.f_n a0.f_deep x1)).f_deep)), (I64 (((S_value_count.mk a0.f_n a0.f_deep x1)).f_why))]) (Wk.refl _) rfl rfl (z0l rfl (z0l rfl (z0l rfl rfl))) ⟨rfl, rfl⟩⟩
 intro hc2 h
 refine z07 ?_
 refine cBx ?_
 refine bR ?_
 refine sX ?_
 refine sS rfl rfl rfl (z4h rfl rfl) ?_
 iterate 3 refine sX ?_
 refine sS rfl rfl rfl (z4h rfl rfl) ?_
 refine sX ?_
 refine z0m rfl rfl (z0d zfw rfl rfl rfl rfl rfl rfl (lbE rfl) rfl) ?_
 refine z06 ?_
 refine cBx ?_
 refine bR ?_
 iterate 2 refine sX ?_
 refine sS rfl rfl rfl (z4h rfl rfl) ?_
 iterate 3 refine sX ?_
 refine sS rfl rfl rfl (zzf (args := []) rfl rfl rfl) ?_
 refine sS rfl rfl rfl (z4h rfl rfl) ?_
 refine sX ?_
 refine z0m rfl rfl (z0d zfw rfl rfl rfl rfl rfl rfl (lbE rfl) rfl) ?_
 refine z06 ?_
 refine cBx ?_
 refine jX (ι := (Int × Int × Int)) (fun i => zhu i.1 i.2.1 i.2.2 = some r) (fun i => [(0, (PV.rf 0 0))]) (fun i => [.box 148 [(I64 i.1), (I64 i.2.1), (I64 i.2.2)]]) ?_ ?_
 rintro ⟨s3, s4, s5⟩ h; replace h : zhu s3 s4 s5 = some r := h; unfold zhu at h
 change BW _ _ _ ⟨[(0, (PV.rf 0 0))], [.box 148 [(I64 s3), (I64 s4), (I64 s5)]], _⟩ _
 refine bR ?_
 refine eX ?_
 obtain rfl := eI h; exact z05 ⟨_, rfl, z3j (y := (BO true)) (e := .box 148 [(I64 (((S_value_count.mk s3 s4 s5)).f_n)), (I64 (((S_value_count.mk s3 s4 s5)).f_deep)), (I64 (((S_value_count.mk s3 s4 s5)).f_why))]) (Wk.refl _) rfl rfl (z0l rfl (z0l rfl (z0l rfl rfl))) ⟨rfl, rfl⟩⟩
 refine bR ?_
 refine eX ?_
 refine z0e ?_
 refine cBx ?_
 refine bR ?_
 refine sS rfl rfl rfl (z4x rfl rfl) ?_
 refine sX ?_
 refine eX ?_
 refine cX h rfl ?_ ?_
 intro hc6 h
 refine bR ?_
 refine eX ?_
 refine bR ?_
 iterate 2 refine sX ?_
 refine eX ?_
 refine z0e ?_
 refine cBx ?_
 unfold zht at h
 refine lX (σ := (Nat × Int × Int × Int)) (fun i => [(0, (PV.rf 0 0)), (2, (I64 a2)), (47, (PV.sl none 20 1 (List.map ofV (a1).asList))), (48, (I64 (((((a1).asList).length : Nat) : Int)))), (49, (I64 (((i.1 : Nat) : Int))))]) (fun i => [.box 148 [(I64 i.2.1), (I64 i.2.2.1), (I64 i.2.2.2)]]) (0, (IntKind.i64.wrap (a0.f_n + 1)), (if a2 > a0.f_deep then a2 else a0.f_deep), x1) h ?_ ?_
 exact jN
 rintro g1_f ⟨s7, s8, s9, s10⟩ h; replace h : z6l r_q0f a1 a2 (fun y0 y1 y2 y3 => g1_f (y0, y1, y2, y3)) s7 s8 s9 s10 = some r := h; unfold z6l at h
 change BW _ _ _ ⟨[(0, (PV.rf 0 0)), (2, (I64 a2)), (47, (PV.sl none 20 1 (List.map ofV (a1).asList))), (48, (I64 (((((a1).asList).length : Nat) : Int)))), (49, (I64 (((s7 : Nat) : Int))))], [.box 148 [(I64 s8), (I64 s9), (I64 s10)]], _⟩ _
 refine bR ?_
 refine eX ?_
 refine z09 ?_
 refine z2f (t := 47) rfl fun hb12 => ?_
 try rw [List.length_map] at hb12
 refine cX h rfl ?_ ?_
 intro hc11 h
 have hc11_ := of_decide_eq_true hc11
 refine z07 ?_
 refine cBx ?_
 refine z09 ?_
 refine z0e ?_
 refine cBx ?_
 refine bR ?_
 obtain ⟨x13, hx13, h⟩ := obind h
 refine sS rfl rfl rfl (z0w (i := s7) Try.underlying37 zbe rfl rfl rfl hx13 rfl) ?_
 refine sS rfl rfl rfl (z7y (y := (ofV x13)) Try.underlying20 rfl rfl rfl (by rw [z47]; rfl)) ?_
 refine eX ?_
 refine bR ?_
 iterate 4 refine sX ?_
 obtain ⟨x14, hx14, h⟩ := obind h
 refine sS rfl rfl rfl (z3g 0 rfl Z0o rfl (wkr (wkr (wkr .nil))) (.box (.val (ids_V x13) (.val rfl .nil))) rfl (z0l rfl (z0l rfl (z0l rfl rfl))) (c_q0f (S_value_count.mk s8 s9 s10) x13 (IntKind.i64.wrap (a2 + 1)) x14 hx14) rfl (z0l rfl (z0l rfl (z0l rfl rfl)))) ?_
 refine eX ?_
 refine cX h rfl ?_ ?_
 intro hc15 h
 refine bR ?_
 refine eX ?_
 obtain rfl := eI h; exact z05 ⟨_, rfl, z3j (y := (BO false)) (e := .box 148 [(I64 (((x14.2)).f_n)), (I64 (((x14.2)).f_deep)), (I64 (((x14.2)).f_why))]) (Wk.refl _) rfl rfl (z0l rfl (z0l rfl (z0l rfl rfl))) ⟨rfl, rfl⟩⟩
 intro hc15 h
 refine z07 ?_
 refine cBx ?_
 refine z0a ?_
 refine sS rfl rfl rfl (z1b (k := s7) (c := 1) rfl rfl rfl (by omega)) ?_
 refine sX (z06 ?_)
 exact ⟨rfl, ((s7 + 1), (x14.2).f_n, (x14.2).f_deep, (x14.2).f_why), h, jN⟩
 intro hc11 h
 refine z1a ?_
 exact ⟨rfl, (s8, s9, s10), h, jN⟩
 intro hc6 h
 refine bR ?_
 refine sS rfl rfl rfl (z4y rfl rfl) ?_
 refine sX ?_
 refine eX ?_
 refine cX h rfl ?_ ?_
 intro hc16 h
 refine bR ?_
 refine eX ?_
 refine bR ?_
 iterate 3 refine sX ?_
 obtain ⟨x17, hx17, h⟩ := obind h
 refine sS rfl rfl rfl (z3g 0 rfl Z3q rfl (wkr (wkr (wkr .nil))) (.box (.val (z0c z2i ((a1).asDict)) (.val rfl .nil))) rfl (z0l rfl (z0l rfl (z0l rfl rfl))) (c_q0k (S_value_count.mk (IntKind.i64.wrap (a0.f_n + 1)) (if a2 > a0.f_deep then a2 else a0.f_deep) x1) ((a1).asDict) a2 x17 hx17) rfl (z0l rfl (z0l rfl (z0l rfl rfl)))) ?_
 refine eX ?_
 obtain rfl := eI h; exact z05 ⟨_, rfl, z3j (y := (BO x17.1)) (e := .box 148 [(I64 (((x17.2)).f_n)), (I64 (((x17.2)).f_deep)), (I64 (((x17.2)).f_why))]) (Wk.refl _) rfl rfl (z0l rfl (z0l rfl (z0l rfl rfl))) ⟨rfl, rfl⟩⟩
 intro hc16 h
 refine bR ?_
 refine sS rfl rfl rfl (z75 rfl rfl) ?_
 refine sX ?_
 refine eX ?_
 refine cX h rfl ?_ ?_
 intro hc18 h
 refine bR ?_
 refine eX ?_
 refine bR ?_
 iterate 2 refine sX ?_
 obtain ⟨x19, hx19, h⟩ := obind h
 refine sS rfl rfl rfl (z35 rfl rfl hx19) ?_
 iterate 3 refine sX ?_
 obtain ⟨x20, hx20, h⟩ := obind h
 refine sS rfl rfl rfl (z3g 0 rfl Z3q rfl (wkr (wkr (wkr .nil))) (.box (.val (z0c z2i x19.fields) (.val rfl .nil))) rfl (z0l rfl (z0l rfl (z0l rfl rfl))) (c_q0k (S_value_count.mk (IntKind.i64.wrap (a0.f_n + 1)) (if a2 > a0.f_deep then a2 else a0.f_deep) x1) x19.fields a2 x20 hx20) rfl (z0l rfl (z0l rfl (z0l rfl rfl)))) ?_
 refine eX ?_
 obtain rfl := eI h; exact z05 ⟨_, rfl, z3j (y := (BO x20.1)) (e := .box 148 [(I64 (((x20.2)).f_n)), (I64 (((x20.2)).f_deep)), (I64 (((x20.2)).f_why))]) (Wk.refl _) rfl rfl (z0l rfl (z0l rfl (z0l rfl rfl))) ⟨rfl, rfl⟩⟩
 intro hc18 h
 refine z07 ?_
 exact ⟨rfl, ((IntKind.i64.wrap (a0.f_n + 1)), (if a2 > a0.f_deep then a2 else a0.f_deep), x1), h, jN⟩
theorem C_q0k.sound : ∀ (i : C_q0k) (r : i.R), z22 C_q0k.F i = some r → C_q0k.Q i r := by
 refine z2r (Φ := C_q0k.F) (Q := C_q0k.Q) ?_
 intro g hg i r h
 cases i with
 | k_q0k a0 a1 a2 => exact zbp (fun a0 a1 a2 => g (.k_q0k a0 a1 a2)) (fun a0 a1 a2 r hr => hg (.k_q0k a0 a1 a2) r hr) (fun a0 a1 a2 => g (.k_q0f a0 a1 a2)) (fun a0 a1 a2 r hr => hg (.k_q0f a0 a1 a2) r hr) a0 a1 a2 r h
 | k_q0f a0 a1 a2 => exact za8 (fun a0 a1 a2 => g (.k_q0k a0 a1 a2)) (fun a0 a1 a2 r hr => hg (.k_q0k a0 a1 a2) r hr) (fun a0 a1 a2 => g (.k_q0f a0 a1 a2)) (fun a0 a1 a2 r hr => hg (.k_q0f a0 a1 a2) r hr) a0 a1 a2 r h
theorem Z7m (a0 : S_value_count) (a1 : V) (a2 : Int) (r : (Bool × S_value_count)) (h : zjc a0 a1 a2 = some r) : z49 Try.prog 98 [(PV.rf 0 0), (ofV a1), (I64 a2)] (.box 148 [(I64 a0.f_n), (I64 a0.f_deep), (I64 a0.f_why)]) (BO r.1) (.box 148 [(I64 ((r.2).f_n)), (I64 ((r.2).f_deep)), (I64 ((r.2).f_why))]) := C_q0k.sound (.k_q0f a0 a1 a2) r h
noncomputable def zjb (a0 : V) : Option (Int × Int) :=
 (zjc (S_value_count.mk 0 0 0) a0 1).bind fun x1 =>
 bif (!x1.1) then (
 some ((x1.2).f_n, (x1.2).f_why)
 ) else (
 some (0, 0)
 )
theorem zt5 (a0 : V) (r : (Int × Int)) (h : zjb a0 = some r) : z08 Try.prog 68 [(ofV a0)] (PV.tup [(I64 r.1), (I64 r.2)]) := by
 unfold zjb at h
 refine z0g Try.func68 rfl Try.ntmps68 Try.results68 rfl (z0q ?_)
 change BW _ _ _ ⟨[(0, (ofV a0))], [], _⟩ _
 refine bR ?_
 refine sX ?_
 refine eX ?_
 refine bR ?_
 refine sS rfl rfl rfl (z16 zxb rfl) (z06 ?_)
 refine cBx ?_
 refine z09 ?_
 refine bR ?_
 refine sX ?_
 obtain ⟨x1, hx1, h⟩ := obind h
 refine sS rfl rfl rfl (z3g 0 rfl Z0o rfl (wkr (wkr (wkr .nil))) (.box (.val (ids_V a0) (.val rfl .nil))) rfl (z0l rfl (z0l rfl (z0l rfl rfl))) (Z7m (S_value_count.mk 0 0 0) a0 1 x1 hx1) rfl (z0l rfl (z0l rfl (z0l rfl rfl)))) ?_
 refine eX ?_
 refine cX h rfl ?_ ?_
 intro hc2 h
 refine z09 (z13 5 [] [0] mo (by kernel_rfl) ?_)
 iterate 5 refine gX ?_
 refine z11 ?_
 change AO _ _ _ _ _
 refine eX ?_
 obtain rfl := eI h; exact z05 eK
 intro hc2 h
 refine z07 ?_
 refine cBx ?_
 refine bR ?_
 refine sX ?_
 refine eX ?_
 obtain rfl := eI h; exact z05 eK
noncomputable def zgh (a0 : Term) : Option (V × Int) :=
 (z8c a0).bind fun x1 =>
 (zjb x1).bind fun x2 =>
 bif (x2.2 != 0) then (
 some (V.nil, x2.2)
 ) else (
 some (x1, 0)
 )
theorem zys (a0 : Term) (r : (V × Int)) (h : zgh a0 = some r) : z08 Try.prog 53 [(PV.old (z0v a0))] (PV.tup [(ofV r.1), (I64 r.2)]) := by
 unfold zgh at h
 refine z0g Try.func53 rfl Try.ntmps53 Try.results53 rfl (z0q ?_)
 change BW _ _ _ ⟨[(0, (PV.old (z0v a0)))], [], _⟩ _
 refine zy3 0 rfl (Wk.opened (cs := (cc0 a0)) (wko (wko (wko (wko (wko (wkr (wko (wkr (wkr (wko (wko .nil)))))))))))) ?_
 refine bR ?_
 iterate 2 refine sX ?_
 refine eX ?_
 refine bR ?_
 refine sX ?_
 obtain ⟨x1, hx1, h⟩ := obind h
 refine sS rfl rfl rfl (z04 rfl Z5r rfl (.cons (Wk.aggOld (ys := (cc0 a0)) (.cons (Wk.toOld Pl.v) (.cons (Wk.toOld Pl.v) (.cons (Wk.toOld Pl.v) (.cons (Wk.toOld Pl.v) (.cons (Wk.toOld Pl.v) (wkr (.cons (Wk.toOld Pl.v) (wkr (wkr (.cons (Wk.toOld Pl.v) (.cons (Wk.toOld Pl.v) .nil)))))))))))) .nil) ⟨(z1e (z10 a0)), trivial⟩ (Zax a0 x1 hx1) (ids_V x1)) ?_
 refine eX ?_
 refine z09 ?_
 refine bR ?_
 refine sX ?_
 obtain ⟨x2, hx2, h⟩ := obind h
 refine sS rfl rfl rfl (z04 rfl zxp rfl (wkr .nil) ⟨(ids_V x1), trivial⟩ (zt5 x1 x2 hx2) (z03 rfl (z03 rfl z0o))) ?_
 iterate 4 refine sX ?_
 refine eX ?_
 refine bR ?_
 refine sX ?_
 refine eX ?_
 refine cX h rfl ?_ ?_
 intro hc3 h
 refine bR ?_
 iterate 2 refine sX ?_
 refine eX ?_
 obtain rfl := eI h; exact z05 ⟨_, rfl, z1f (y := (PV.tup [(ofV V.nil), (I64 x2.2)])) (Wk.tup (.cons (Wk.eq mk_nil.symm) (wkr .nil))) (z03 (ids_V V.nil) (z03 rfl z0o)) ⟨rfl, rfl⟩⟩
 intro hc3 h
 refine z07 ?_
 refine cBx ?_
 refine bR ?_
 iterate 2 refine sX ?_
 refine eX ?_
 obtain rfl := eI h; exact z05 ⟨_, rfl, z1f (y := (PV.tup [(ofV x1), (I64 0)])) (Wk.refl _) (z03 (ids_V x1) (z03 rfl z0o)) ⟨rfl, rfl⟩⟩
noncomputable def zvu (a0 : V) : Option Int :=
 (zj8 a0).bind fun x1 =>
 some x1
theorem Zar (a0 : V) (r : Int) (h : zvu a0 = some r) : z08 Try.prog 52 [(ofV a0)] (I64 r) := by
 unfold zvu at h
 refine z0g Try.func52 rfl Try.ntmps52 Try.results52 rfl (z0q ?_)
 change BW _ _ _ ⟨[(0, (ofV a0))], [], _⟩ _
 refine bR ?_
 refine eX ?_
 refine bR ?_
 refine sX ?_
 obtain ⟨x1, hx1, h⟩ := obind h
 refine sS rfl rfl rfl (z04 rfl zsf rfl (wkr .nil) ⟨(ids_V a0), trivial⟩ (zr4 a0 x1 hx1) rfl) ?_
 refine eX ?_
 obtain rfl := eI h; exact z05 eK
noncomputable def zrv (a0 a1 : Int) : Option Int :=
 bif (decide (a0 < a1)) then (
 some (-1)
 ) else (
 bif (decide (a0 > a1)) then (
 some 1
 ) else (
 some 0
 )
 )
theorem Z4i (a0 a1 r : Int) (h : zrv a0 a1 = some r) : z08 Try.prog 104 [(I64 a0), (I64 a1)] (I64 r) := by
 unfold zrv at h
 refine z0g Try.func104 rfl Try.ntmps104 Try.results104 rfl (z0q ?_)
 change BW _ _ _ ⟨[(0, (I64 a0)), (1, (I64 a1))], [], _⟩ _
 refine bR ?_
 refine eX ?_
 refine z09 ?_
 refine z0e ?_
 refine cBx ?_
 refine bR ?_
 iterate 3 refine sX ?_
 refine eX ?_
 refine cX h rfl ?_ ?_
 intro hc1 h
 refine bR ?_
 refine eX ?_
 obtain rfl := eI h; exact z05 eK
 intro hc1 h
 refine bR ?_
 iterate 3 refine sX ?_
 refine eX ?_
 refine cX h rfl ?_ ?_
 intro hc2 h
 refine bR ?_
 refine eX ?_
 obtain rfl := eI h; exact z05 eK
 intro hc2 h
 refine z07 ?_
 refine cBx ?_
 refine bR ?_
 refine eX ?_
 obtain rfl := eI h; exact z05 eK
noncomputable def zw0 (a0 : Bool) : Option Int :=
 bif a0 then (
 some 1
 ) else (
 some 0
 )
theorem Z7f (a0 : Bool) (r : Int) (h : zw0 a0 = some r) : z08 Try.prog 105 [(BO a0)] (I64 r) := by
 unfold zw0 at h
 refine z0g Try.func105 rfl Try.ntmps105 Try.results105 rfl (z0q ?_)
 change BW _ _ _ ⟨[(0, (BO a0))], [], _⟩ _
 refine bR ?_
 refine eX ?_
 refine z09 ?_
 refine bR ?_
 refine eX ?_
 refine cX h rfl ?_ ?_
 intro hc1 h
 refine bR ?_
 refine eX ?_
 obtain rfl := eI h; exact z05 eK
 intro hc1 h
 refine z07 ?_
 refine cBx ?_
 refine bR ?_
 refine eX ?_
 obtain rfl := eI h; exact z05 eK
noncomputable def zz7 (a0 a1 : Int) : Option Int :=
 bif (decide (a0 < a1)) then (
 some (-1)
 ) else (
 bif (decide (a0 > a1)) then (
 some 1
 ) else (
 some 0
 )
 )
theorem Zb5 (a0 a1 r : Int) (h : zz7 a0 a1 = some r) : z08 Try.prog 106 [(I64 a0), (I64 a1)] (I64 r) := by
 unfold zz7 at h
 refine z0g Try.func106 rfl Try.ntmps106 Try.results106 rfl (z0q ?_)
 change BW _ _ _ ⟨[(0, (I64 a0)), (1, (I64 a1))], [], _⟩ _
 refine bR ?_
 refine eX ?_
 refine z09 ?_
 refine z0e ?_
 refine cBx ?_
 refine bR ?_
 iterate 3 refine sX ?_
 refine eX ?_
 refine cX h rfl ?_ ?_
 intro hc1 h
 refine bR ?_
 refine eX ?_
 obtain rfl := eI h; exact z05 eK
 intro hc1 h
 refine bR ?_
 iterate 3 refine sX ?_
 refine eX ?_
 refine cX h rfl ?_ ?_
 intro hc2 h
 refine bR ?_
 refine eX ?_
 obtain rfl := eI h; exact z05 eK
 intro hc2 h
 refine z07 ?_
 refine cBx ?_
 refine bR ?_
 refine eX ?_
 obtain rfl := eI h; exact z05 eK
noncomputable def zrq (a0 : Nat) : Option Int :=
 bif ((Z6f .u64 ((a0 : Nat) : Int) 63) == 1) then (
 some (Zbr .u64 ((a0 : Nat) : Int))
 ) else (
 some (orK .u64 ((a0 : Nat) : Int) 9223372036854775808)
 )
theorem Z7d (a0 : Nat) (r : Int) (h : zrq a0 = some r) : z08 Try.prog 108 [(PV.v (.float .f64 a0))] (PV.v (.int .u64 r)) := by
 unfold zrq at h
 refine z0g Try.func108 rfl Try.ntmps108 Try.results108 rfl (z0q ?_)
 change BW _ _ _ ⟨[(0, (PV.v (.float .f64 a0)))], [], _⟩ _
 refine bR ?_
 refine eX ?_
 refine bR ?_
 refine sX ?_
 refine sS rfl rfl rfl (zfm rfl rfl) ?_
 refine eX ?_
 refine z09 ?_
 refine bR ?_
 refine sX ?_
 refine sS rfl rfl rfl ((Z4y rfl rfl rfl (by decide)).cast (y := (PV.v (.int .u64 (Z6f .u64 ((a0 : Nat) : Int) 63)))) rfl rfl) ?_
 refine eX ?_
 refine cX h rfl ?_ ?_
 intro hc1 h
 refine bR ?_
 refine sX ?_
 refine sS rfl rfl rfl (zpo rfl rfl) ?_
 refine eX ?_
 obtain rfl := eI h; exact z05 eK
 intro hc1 h
 refine z07 ?_
 refine cBx ?_
 refine bR ?_
 refine sX ?_
 refine sS rfl rfl rfl ((Z4z rfl rfl rfl).cast (y := (PV.v (.int .u64 (orK .u64 ((a0 : Nat) : Int) 9223372036854775808)))) rfl rfl) ?_
 refine eX ?_
 obtain rfl := eI h; exact z05 eK
noncomputable def zz9 (a0 a1 : Int) : Option Int :=
 bif (decide (a0 < a1)) then (
 some (-1)
 ) else (
 bif (decide (a0 > a1)) then (
 some 1
 ) else (
 some 0
 )
 )
theorem Zb9 (a0 a1 r : Int) (h : zz9 a0 a1 = some r) : z08 Try.prog 107 [(PV.v (.int .u64 a0)), (PV.v (.int .u64 a1))] (I64 r) := by
 unfold zz9 at h
 refine z0g Try.func107 rfl Try.ntmps107 Try.results107 rfl (z0q ?_)
 change BW _ _ _ ⟨[(0, (PV.v (.int .u64 a0))), (1, (PV.v (.int .u64 a1)))], [], _⟩ _
 refine bR ?_
 refine eX ?_
 refine z09 ?_
 refine z0e ?_
 refine cBx ?_
 refine bR ?_
 iterate 3 refine sX ?_
 refine eX ?_
 refine cX h rfl ?_ ?_
 intro hc1 h
 refine bR ?_
 refine eX ?_
 obtain rfl := eI h; exact z05 eK
 intro hc1 h
 refine bR ?_
 iterate 3 refine sX ?_
 refine eX ?_
 refine cX h rfl ?_ ?_
 intro hc2 h
 refine bR ?_
 refine eX ?_
 obtain rfl := eI h; exact z05 eK
 intro hc2 h
 refine z07 ?_
 refine cBx ?_
 refine bR ?_
 refine eX ?_
 obtain rfl := eI h; exact z05 eK
noncomputable def znd (a0 a1 : Str) : Option Int :=
 bif (Op.bytesLess a0 a1) then (
 some (-1)
 ) else (
 bif (!(Op.bytesLess a0 a1 || a0 == a1)) then (
 some 1
 ) else (
 some 0
 )
 )
theorem Z4j (a0 a1 : Str) (r : Int) (h : znd a0 a1 = some r) : z08 Try.prog 109 [(ofStr a0), (ofStr a1)] (I64 r) := by
 unfold znd at h
 refine z0g Try.func109 rfl Try.ntmps109 Try.results109 rfl (z0q ?_)
 change BW _ _ _ ⟨[(0, (ofStr a0)), (1, (ofStr a1))], [], _⟩ _
 refine bR ?_
 refine eX ?_
 refine z09 ?_
 refine z0e ?_
 refine cBx ?_
 refine bR ?_
 iterate 2 refine sX ?_
 refine sS rfl rfl rfl ((z21 (a := a0) (b := a1) rfl rfl rfl rfl).cast (y := (BO ((Op.bytesLess a0 a1)))) rfl rfl) ?_
 refine eX ?_
 refine cX h rfl ?_ ?_
 intro hc1 h
 refine bR ?_
 refine eX ?_
 obtain rfl := eI h; exact z05 eK
 intro hc1 h
 refine bR ?_
 iterate 2 refine sX ?_
 refine sS rfl rfl rfl ((z21 (a := a0) (b := a1) rfl rfl rfl rfl).cast (y := (BO ((!(Op.bytesLess a0 a1 || a0 == a1))))) rfl rfl) ?_
 refine eX ?_
 refine cX h rfl ?_ ?_
 intro hc2 h
 refine bR ?_
 refine eX ?_
 obtain rfl := eI h; exact z05 eK
 intro hc2 h
 refine z07 ?_
 refine cBx ?_
 refine bR ?_
 refine eX ?_
 obtain rfl := eI h; exact z05 eK
noncomputable def zry (a0 : UInt8) : Option Bool :=
 some (((a0).toNat : Int) != ((a0).toNat : Int))
theorem Z7l (a0 : UInt8) (r : Bool) (h : zry a0 = some r) : z08 Try.prog 123 [(ofB a0)] (BO r) := by
 unfold zry at h
 refine z0g Try.func123 rfl Try.ntmps123 Try.results123 rfl (z0q ?_)
 change BW _ _ _ ⟨[(0, (ofB a0))], [], _⟩ _
 refine bR ?_
 refine eX ?_
 refine bR ?_
 iterate 3 refine sX ?_
 refine eX ?_
 obtain rfl := eI h; exact z05 eK
noncomputable def zw6 (a0 a1 : UInt8) : Option Int :=
 (zry a0).bind fun x1 =>
 (zry a1).bind fun x2 =>
 bif x1 then (
 bif x2 then (
 some 0
 ) else (
 some (-1)
 )
 ) else (
 bif x2 then (
 some 1
 ) else (
 bif (decide (((a0).toNat : Int) < ((a1).toNat : Int))) then (
 some (-1)
 ) else (
 bif (decide (((a0).toNat : Int) > ((a1).toNat : Int))) then (
 some 1
 ) else (
 some 0
 )
 )
 )
 )
theorem Zba (a0 a1 : UInt8) (r : Int) (h : zw6 a0 a1 = some r) : z08 Try.prog 120 [(ofB a0), (ofB a1)] (I64 r) := by
 unfold zw6 at h
 refine z0g Try.func120 rfl Try.ntmps120 Try.results120 rfl (z0q ?_)
 change BW _ _ _ ⟨[(0, (ofB a0)), (1, (ofB a1))], [], _⟩ _
 refine bR ?_
 refine eX ?_
 refine bR ?_
 refine sX ?_
 obtain ⟨x1, hx1, h⟩ := obind h
 refine sS rfl rfl rfl (z04 rfl Z3m rfl (wkr .nil) ⟨rfl, trivial⟩ (Z7l a0 x1 hx1) rfl) ?_
 refine eX ?_
 refine bR ?_
 refine sX ?_
 obtain ⟨x2, hx2, h⟩ := obind h
 refine sS rfl rfl rfl (z04 rfl Z3m rfl (wkr .nil) ⟨rfl, trivial⟩ (Z7l a1 x2 hx2) rfl) ?_
 refine eX ?_
 refine z09 ?_
 refine bR ?_
 refine eX ?_
 refine cX h rfl ?_ ?_
 intro hc3 h
 refine z09 ?_
 refine bR ?_
 refine eX ?_
 refine cX h rfl ?_ ?_
 intro hc4 h
 refine bR ?_
 refine eX ?_
 obtain rfl := eI h; exact z05 eK
 intro hc4 h
 refine z07 ?_
 refine cBx ?_
 refine bR ?_
 refine eX ?_
 obtain rfl := eI h; exact z05 eK
 intro hc3 h
 refine z07 ?_
 refine cBx ?_
 refine z09 ?_
 refine bR ?_
 refine eX ?_
 refine cX h rfl ?_ ?_
 intro hc5 h
 refine bR ?_
 refine eX ?_
 obtain rfl := eI h; exact z05 eK
 intro hc5 h
 refine z07 ?_
 refine cBx ?_
 refine z09 ?_
 refine bR ?_
 iterate 2 refine sX ?_
 refine eX ?_
 refine cX h rfl ?_ ?_
 intro hc6 h
 refine bR ?_
 refine eX ?_
 obtain rfl := eI h; exact z05 eK
 intro hc6 h
 refine z07 ?_
 refine cBx ?_
 refine z09 ?_
 refine bR ?_
 iterate 2 refine sX ?_
 refine eX ?_
 refine cX h rfl ?_ ?_
 intro hc7 h
 refine bR ?_
 refine eX ?_
 obtain rfl := eI h; exact z05 eK
 intro hc7 h
 refine z07 ?_
 refine cBx ?_
 refine bR ?_
 refine eX ?_
 obtain rfl := eI h; exact z05 eK
noncomputable def z7p (a0 a1 : Str) (g1 : Nat → Option Int) (s1 : Nat) : Option Int :=
 bif (decide (((s1 : Nat) : Int) < (((a0).length : Nat) : Int))) then (
 ((a0)[s1]?).bind fun x4 =>
 bif (decide (((s1 : Nat) : Int) ≥ (((a1).length : Nat) : Int))) then (
 some 1
 ) else (
 ((a1)[s1]?).bind fun x6 =>
 (zw6 x4 x6).bind fun x7 =>
 bif (x7 != 0) then (
 some x7
 ) else (
 g1 (s1 + 1)
 )
 )
 ) else (
 bif (decide ((((a0).length : Nat) : Int) < (((a1).length : Nat) : Int))) then (
 some (-1)
 ) else (
 some 0
 )
 )
theorem zrf (g1 : OF ρ → Nat → Option Int) (h_g1 : ∀ y0, CM (fun G => g1 G y0)) (a0 a1 : Str) (s1 : Nat) : CM (fun G : OF ρ => z7p a0 a1 (g1 G) s1) := by
 simp only [z7p]
 repeat (first | exact z01 | exact h_g1 _ | refine z0h ?_ ?_ | refine z0i ?_ (fun _ => ?_))
noncomputable def zlg (a0 a1 : Str) (s1 : Nat) : Option Int :=
 z22 (ι := Nat) (ρ := fun _ => Int) (fun g i => z7p a0 a1 (fun s1 => g s1) i) s1
theorem zlf (a0 a1 : Str) (s1 : Nat) : zlg a0 a1 s1 = z7p a0 a1 (zlg a0 a1) s1 :=
 z0t (ι := Nat) (ρ := fun _ => Int) (Φ := fun g i => z7p a0 a1 (fun s1 => g s1) i) (fun i => zrf (ι := Nat) (ρ := fun _ => Int) (fun g => (fun s1 => g s1)) (fun _ => z0s) a0 a1 i) s1
noncomputable def zzb (a0 a1 : Str) : Option Int :=
 zlg a0 a1 0
theorem Zbd (a0 a1 : Str) (r : Int) (h : zzb a0 a1 = some r) : z08 Try.prog 110 [(PV.sl none 5 1 (List.map ofB a0)), (PV.sl none 5 1 (List.map ofB a1))] (I64 r) := by
 unfold zzb at h
 refine z0g Try.func110 rfl Try.ntmps110 Try.results110 rfl (z0q ?_)
 change BW _ _ _ ⟨[(0, (PV.sl none 5 1 (List.map ofB a0))), (1, (PV.sl none 5 1 (List.map ofB a1)))], [], _⟩ _
 refine bR ?_
 refine eX ?_
 refine z09 ?_
 refine bR ?_
 iterate 2 refine sX ?_
 refine eX ?_
 refine z0e ?_
 refine cBx ?_
 unfold zlg at h
 refine lX (σ := Nat) (fun i => [(0, (PV.sl none 5 1 (List.map ofB a0))), (1, (PV.sl none 5 1 (List.map ofB a1))), (9, (PV.sl none 5 1 (List.map ofB a0))), (10, (I64 ((((a0).length : Nat) : Int)))), (11, (I64 (((i : Nat) : Int))))]) (fun i => []) 0 h ?_ ?_
 exact jN
 rintro g1_f s1 h; replace h : z7p a0 a1 (fun y0 => g1_f y0) s1 = some r := h; unfold z7p at h
 change BW _ _ _ ⟨[(0, (PV.sl none 5 1 (List.map ofB a0))), (1, (PV.sl none 5 1 (List.map ofB a1))), (9, (PV.sl none 5 1 (List.map ofB a0))), (10, (I64 ((((a0).length : Nat) : Int)))), (11, (I64 (((s1 : Nat) : Int))))], [], _⟩ _
 refine bR ?_
 refine eX ?_
 refine z09 ?_
 refine z2f (t := 9) rfl fun hb3 => ?_
 try rw [List.length_map] at hb3
 refine cX h rfl ?_ ?_
 intro hc2 h
 have hc2_ := of_decide_eq_true hc2
 refine z07 ?_
 refine cBx ?_
 refine z09 ?_
 refine z0e ?_
 refine cBx ?_
 refine bR ?_
 refine sX ?_
 obtain ⟨x4, hx4, h⟩ := obind h
 refine sS rfl rfl rfl (z0w (i := s1) Try.underlying23 inf_5 rfl rfl rfl hx4 rfl) ?_
 iterate 2 refine sX ?_
 refine eX ?_
 refine z09 ?_
 refine bR ?_
 iterate 3 refine sX ?_
 refine eX ?_
 refine cX h rfl ?_ ?_
 intro hc5 h
 refine bR ?_
 refine eX ?_
 obtain rfl := eI h; exact z05 eK
 intro hc5 h
 refine z07 ?_
 refine cBx ?_
 refine bR ?_
 iterate 2 refine sX ?_
 obtain ⟨x6, hx6, h⟩ := obind h
 refine sS rfl rfl rfl (z0w (i := s1) Try.underlying23 inf_5 rfl rfl rfl hx6 rfl) ?_
 refine sX ?_
 refine eX ?_
 refine bR ?_
 iterate 2 refine sX ?_
 obtain ⟨x7, hx7, h⟩ := obind h
 refine sS rfl rfl rfl (z04 rfl Z9n rfl (wkr (wkr .nil)) ⟨rfl, ⟨rfl, trivial⟩⟩ (Zba x4 x6 x7 hx7) rfl) ?_
 refine eX ?_
 refine bR ?_
 refine sX ?_
 refine eX ?_
 refine cX h rfl ?_ ?_
 intro hc8 h
 refine bR ?_
 refine sX ?_
 refine eX ?_
 obtain rfl := eI h; exact z05 eK
 intro hc8 h
 refine z07 ?_
 refine cBx ?_
 refine z0a ?_
 refine sS rfl rfl rfl (z1b (k := s1) (c := 1) rfl rfl rfl (by omega)) ?_
 refine sX (z06 ?_)
 exact ⟨rfl, (s1 + 1), h, jN⟩
 intro hc2 h
 refine z1a ?_
 refine cBx ?_
 refine z09 ?_
 refine bR ?_
 iterate 4 refine sX ?_
 refine eX ?_
 refine cX h rfl ?_ ?_
 intro hc9 h
 refine bR ?_
 refine eX ?_
 obtain rfl := eI h; exact z05 eK
 intro hc9 h
 refine z07 ?_
 refine cBx ?_
 refine bR ?_
 refine eX ?_
 obtain rfl := eI h; exact z05 eK
noncomputable def zza (a0 a1 : Int) : Option Int :=
 bif (decide (a0 < a1)) then (
 some (-1)
 ) else (
 bif (decide (a0 > a1)) then (
 some 1
 ) else (
 some 0
 )
 )
theorem Zbb (a0 a1 r : Int) (h : zza a0 a1 = some r) : z08 Try.prog 111 [(PV.v (.int .u64 a0)), (PV.v (.int .u64 a1))] (I64 r) := by
 unfold zza at h
 refine z0g Try.func111 rfl Try.ntmps111 Try.results111 rfl (z0q ?_)
 change BW _ _ _ ⟨[(0, (PV.v (.int .u64 a0))), (1, (PV.v (.int .u64 a1)))], [], _⟩ _
 refine bR ?_
 refine eX ?_
 refine z09 ?_
 refine z0e ?_
 refine cBx ?_
 refine bR ?_
 iterate 3 refine sX ?_
 refine eX ?_
 refine cX h rfl ?_ ?_
 intro hc1 h
 refine bR ?_
 refine eX ?_
 obtain rfl := eI h; exact z05 eK
 intro hc1 h
 refine bR ?_
 iterate 3 refine sX ?_
 refine eX ?_
 refine cX h rfl ?_ ?_
 intro hc2 h
 refine bR ?_
 refine eX ?_
 obtain rfl := eI h; exact z05 eK
 intro hc2 h
 refine z07 ?_
 refine cBx ?_
 refine bR ?_
 refine eX ?_
 obtain rfl := eI h; exact z05 eK
end Go.Proofs.Ytiapdjdhaclmnaa
