/- Pure functions, and that calls answer as they say. -/
import Derived.Test.YthidgpcbnieleaaGreatDoorG0
namespace Go.Proofs.YthidgpcbnieleaaGreatDoor
open Go Aw
set_option linter.unusedVariables false
set_option linter.unusedSimpArgs false
set_option maxRecDepth 20000
set_option maxHeartbeats 2000000
variable {ι : Type} {ρ : ι → Type}
noncomputable def za8 : Option Int :=
 some 0
noncomputable def za7 (x16 : Rec) (s19 : Bool) : Option Int :=
 bif s19 then (
 some 1
 ) else (
 (zi6 x16.fields).bind fun x21 =>
 some x21
 )
noncomputable def z7q (a0 : V) (s1 : Bool) : Option Int :=
 bif s1 then (
 (zi1 a0).bind fun x3 =>
 bif (x3 == 11) then (
 some 7
 ) else (
 bif (x3 == 0) then (
 some 6
 ) else (
 some 2
 )
 )
 ) else (
 bif (a0).isText then (
 bif (decide (((((a0).asText).length : Nat) : Int) > 65536)) then (
 some 2
 ) else (
 za8
 )
 ) else (
 bif (a0).isBytes then (
 bif (decide (((((a0).asBytes).length : Nat) : Int) > 65536)) then (
 some 2
 ) else (
 za8
 )
 ) else (
 bif (a0).isList then (
 bif (decide (((((a0).asList).length : Nat) : Int) > 4096)) then (
 some 2
 ) else (
 za8
 )
 ) else (
 bif (a0).isDict then (
 (zi6 ((a0).asDict)).bind fun x13 =>
 some x13
 ) else (
 bif (a0).isRec then (
 bif ((a0).asRec).isNone then (
 some 7
 ) else (
 ((a0).asRec).bind fun x16 =>
 (zi3 x16.cls).bind fun x17 =>
 bif (!x17) then (
 some 8
 ) else (
 bif (decide (x16.ver < 1)) then (
 za7 x16 true
 ) else (
 za7 x16 (decide (x16.ver > 1000))
 )
 )
 )
 ) else (
 (zi1 a0).bind fun x23 =>
 bif (x23 == 0) then (
 some 6
 ) else (
 za8
 )
 )
 )
 )
 )
 )
 )
noncomputable def zod (a0 : V) (a1 a2 : Int) : Option Int :=
 bif (decide (a1 ≥ 16384)) then (
 z7q a0 true
 ) else (
 z7q a0 (decide (a2 > 64))
 )
theorem Z0u (a0 : V) (a1 a2 r : Int) (h : zod a0 a1 a2 = some r) : z0l Tryz.prog 86 [(ofV a0), (I64 a1), (I64 a2)] (I64 r) := by
 unfold zod at h
 refine z0c Tryz.func86 rfl Tryz.ntmps86 Tryz.results86 rfl (z0i ?_)
 change BW _ _ _ ⟨[(0, (ofV a0)), (1, (I64 a1)), (2, (I64 a2))], [], _⟩ _
 refine bR ?_
 refine eX ?_
 refine z09 ?_
 refine z2h (ι := Bool) (fun i => z7q a0 i = some r) (fun i => [(0, (ofV a0)), (18, (BO i))]) (fun i => []) ?_ ?_ ?_
 intro i; exact ⟨lbE rfl, ⟨(z0a (ids_V _)), ⟨(z0a rfl), trivial⟩⟩, trivial⟩
 rintro s1 h; replace h : z7q a0 s1 = some r := h; unfold z7q at h
 change BW _ _ _ ⟨[(0, (ofV a0)), (18, (BO s1))], [], _⟩ _
 refine cX h rfl ?_ ?_
 intro hc2 h
 refine z09 ?_
 refine bR ?_
 refine sX ?_
 obtain ⟨x3, hx3, h⟩ := obind h
 refine sS rfl rfl rfl (z05 rfl zst rfl (wkr .nil) ⟨(ids_V a0), trivial⟩ (zqs a0 x3 hx3) rfl) (z0b ?_)
 refine cBx ?_
 refine z0j ?_
 refine cBx ?_
 refine bR ?_
 refine sX ?_
 refine eX ?_
 refine cX h rfl ?_ ?_
 intro hc4 h
 refine bR ?_
 refine eX ?_
 obtain rfl := eI h; exact z04 eK
 intro hc4 h
 refine bR ?_
 refine sX ?_
 refine eX ?_
 refine cX h rfl ?_ ?_
 intro hc5 h
 refine bR ?_
 refine eX ?_
 obtain rfl := eI h; exact z04 eK
 intro hc5 h
 refine z08 ?_
 refine cBx ?_
 refine bR ?_
 refine eX ?_
 obtain rfl := eI h; exact z04 eK
 intro hc2 h
 refine z08 ?_
 refine cBx ?_
 refine jX (ι := Unit) (fun i => za8 = some r) (fun i => []) (fun i => []) ?_ ?_
 rintro ⟨⟩ h; replace h : za8 = some r := h; unfold za8 at h
 change BW _ _ _ ⟨[], [], _⟩ _
 refine bR ?_
 refine eX ?_
 obtain rfl := eI h; exact z04 eK
 refine bR ?_
 refine eX ?_
 refine z0j ?_
 refine cBx ?_
 refine bR ?_
 refine sS rfl rfl rfl (z9y rfl rfl) ?_
 refine sX ?_
 refine eX ?_
 refine cX h rfl ?_ ?_
 intro hc6 h
 refine bR ?_
 refine eX ?_
 refine bR ?_
 refine sX ?_
 refine sS rfl rfl rfl (z42 (s := ((a0).asText)) Tryz.underlying9 rfl rfl) ?_
 refine eX ?_
 refine cX h rfl ?_ ?_
 intro hc7 h
 refine bR ?_
 refine eX ?_
 obtain rfl := eI h; exact z04 eK
 intro hc7 h
 refine z08 ?_
 exact ⟨rfl, (), h, jN⟩
 intro hc6 h
 refine bR ?_
 refine sS rfl rfl rfl (z64 rfl rfl) ?_
 refine sX ?_
 refine eX ?_
 refine cX h rfl ?_ ?_
 intro hc8 h
 refine bR ?_
 refine eX ?_
 refine bR ?_
 iterate 2 refine sX ?_
 refine eX ?_
 refine cX h rfl ?_ ?_
 intro hc9 h
 refine bR ?_
 refine eX ?_
 obtain rfl := eI h; exact z04 eK
 intro hc9 h
 refine z08 ?_
 exact ⟨rfl, (), h, jN⟩
 intro hc8 h
 refine bR ?_
 refine sS rfl rfl rfl (z27 rfl rfl) ?_
 refine sX ?_
 refine eX ?_
 refine cX h rfl ?_ ?_
 intro hc10 h
 refine bR ?_
 refine eX ?_
 refine bR ?_
 iterate 2 refine sX ?_
 refine eX ?_
 refine cX h rfl ?_ ?_
 intro hc11 h
 refine bR ?_
 refine eX ?_
 obtain rfl := eI h; exact z04 eK
 intro hc11 h
 refine z08 ?_
 exact ⟨rfl, (), h, jN⟩
 intro hc10 h
 refine bR ?_
 refine sS rfl rfl rfl (z2m rfl rfl) ?_
 refine sX ?_
 refine eX ?_
 refine cX h rfl ?_ ?_
 intro hc12 h
 refine bR ?_
 refine eX ?_
 refine bR ?_
 refine sX ?_
 obtain ⟨x13, hx13, h⟩ := obind h
 refine sS rfl rfl rfl (z05 rfl zum rfl (wkr .nil) ⟨(z06 z0q ((a0).asDict)), trivial⟩ (zye ((a0).asDict) x13 hx13) rfl) ?_
 refine eX ?_
 obtain rfl := eI h; exact z04 eK
 intro hc12 h
 refine bR ?_
 refine sS rfl rfl rfl (z32 rfl rfl) ?_
 refine sX ?_
 refine eX ?_
 refine cX h rfl ?_ ?_
 intro hc14 h
 refine bR ?_
 refine eX ?_
 refine z09 ?_
 refine z0j ?_
 refine cBx ?_
 refine bR ?_
 refine sX ?_
 refine sS rfl rfl rfl (zdh Tryz.underlying73 rfl rfl) ?_
 refine eX ?_
 refine cX h rfl ?_ ?_
 intro hc15 h
 refine bR ?_
 refine eX ?_
 obtain rfl := eI h; exact z04 eK
 intro hc15 h
 refine bR ?_
 refine sX ?_
 obtain ⟨x16, hx16, h⟩ := obind h
 refine sS rfl rfl rfl (z1e rfl rfl hx16) ?_
 iterate 2 refine sX ?_
 obtain ⟨x17, hx17, h⟩ := obind h
 refine sS rfl rfl rfl (z05 rfl zul rfl (wkr .nil) ⟨rfl, trivial⟩ (zy9 x16.cls x17 hx17) rfl) ?_
 refine sX ?_
 refine eX ?_
 refine cX h rfl ?_ ?_
 intro hc18 h
 refine bR ?_
 refine eX ?_
 obtain rfl := eI h; exact z04 eK
 intro hc18 h
 refine z2h (ι := Bool) (fun i => za7 x16 i = some r) (fun i => [(11, (ofRecP (a0).asRec)), (65, (BO i))]) (fun i => []) ?_ ?_ ?_
 intro i; exact ⟨lbE rfl, ⟨(z0a (zew _)), ⟨(z0a rfl), trivial⟩⟩, trivial⟩
 rintro s19 h; replace h : za7 x16 s19 = some r := h; unfold za7 at h
 change BW _ _ _ ⟨[(11, (ofRecP (a0).asRec)), (65, (BO s19))], [], _⟩ _
 refine cX h rfl ?_ ?_
 intro hc20 h
 refine bR ?_
 refine eX ?_
 obtain rfl := eI h; exact z04 eK
 intro hc20 h
 refine z08 ?_
 refine cBx ?_
 refine bR ?_
 refine sX ?_
 refine sS rfl rfl rfl (z1e rfl rfl hx16) ?_
 iterate 2 refine sX ?_
 obtain ⟨x21, hx21, h⟩ := obind h
 refine sS rfl rfl rfl (z05 rfl zum rfl (wkr .nil) ⟨(z06 z0q x16.fields), trivial⟩ (zye x16.fields x21 hx21) rfl) ?_
 refine eX ?_
 obtain rfl := eI h; exact z04 eK
 refine z0f ?_
 refine sX ?_
 refine sS rfl rfl rfl (z1e rfl rfl hx16) ?_
 iterate 4 refine sX ?_
 refine z0p (t := 71) rfl ?_ ?_
 intro hb22; replace h := z0r hb22 h
 iterate 5 refine nX ?_
 refine sX ?_
 refine sX (z0b ?_)
 exact ⟨rfl, true, h, jN⟩
 intro hb22; replace h := z0s hb22 h
 refine yX ?_
 refine z1i rfl rfl rfl rfl rfl rfl (z1e rfl rfl hx16) ?_
 iterate 3 refine yX ?_
 refine sX ?_
 refine sX (z0b ?_)
 exact ⟨rfl, (decide (x16.ver > 1000)), h, jN⟩
 intro hc14 h
 refine bR ?_
 refine eX ?_
 refine bR ?_
 refine sX ?_
 obtain ⟨x23, hx23, h⟩ := obind h
 refine sS rfl rfl rfl (z05 rfl zst rfl (wkr .nil) ⟨(ids_V a0), trivial⟩ (zqs a0 x23 hx23) rfl) ?_
 refine eX ?_
 refine cX h rfl ?_ ?_
 intro hc24 h
 refine bR ?_
 refine eX ?_
 obtain rfl := eI h; exact z04 eK
 intro hc24 h
 refine z08 ?_
 exact ⟨rfl, (), h, jN⟩
 refine z0f ?_
 iterate 3 refine sX ?_
 refine z0p (t := 15) rfl ?_ ?_
 intro hb25; replace h := z0r hb25 h
 iterate 2 refine nX ?_
 refine sX (z0b ?_)
 exact ⟨rfl, true, h, jN⟩
 intro hb25; replace h := z0s hb25 h
 iterate 2 refine yX ?_
 refine sX (z0b ?_)
 exact ⟨rfl, (decide (a2 > 64)), h, jN⟩
noncomputable def z50 (r_q0e : S_value_count → V → Int → Option (Bool × S_value_count)) (a1 : (List (Str × V))) (a2 : Int) (g1 : Nat → Int → Int → Int → Option (Bool × S_value_count)) (s1 : Nat) (s2 s3 s4 : Int) : Option (Bool × S_value_count) :=
 bif (decide (((s1 : Nat) : Int) < (((a1).length : Nat) : Int))) then (
 ((a1)[s1]?).bind fun x7 =>
 (r_q0e (S_value_count.mk s2 s3 s4) x7.2 (IntKind.i64.wrap (a2 + 1))).bind fun x8 =>
 bif (!x8.1) then (
 some (false, (x8.2))
 ) else (
 g1 (s1 + 1) ((x8.2).f_n) ((x8.2).f_deep) ((x8.2).f_why)
 )
 ) else (
 some (true, (S_value_count.mk s2 s3 s4))
 )
theorem z9p (r_q0e : OF ρ → S_value_count → V → Int → Option (Bool × S_value_count)) (h_r_q0e : ∀ y0 y1 y2, CM (fun G => r_q0e G y0 y1 y2)) (g1 : OF ρ → Nat → Int → Int → Int → Option (Bool × S_value_count)) (h_g1 : ∀ y0 y1 y2 y3, CM (fun G => g1 G y0 y1 y2 y3)) (a1 : (List (Str × V))) (a2 : Int) (s1 : Nat) (s2 s3 s4 : Int) : CM (fun G : OF ρ => z50 (r_q0e G) a1 a2 (g1 G) s1 s2 s3 s4) := by
 simp only [z50]
 repeat (first | exact z0e | exact h_r_q0e _ _ _ | exact h_g1 _ _ _ _ | refine z13 ?_ ?_ | refine z14 ?_ (fun _ => ?_))
noncomputable def zd8 (r_q0e : S_value_count → V → Int → Option (Bool × S_value_count)) (a1 : (List (Str × V))) (a2 : Int) (s1 : Nat) (s2 s3 s4 : Int) : Option (Bool × S_value_count) :=
 z3r (ι := (Nat × Int × Int × Int)) (ρ := fun _ => (Bool × S_value_count)) (fun g i => z50 r_q0e a1 a2 (fun s1 s2 s3 s4 => g (s1, s2, s3, s4)) i.1 i.2.1 i.2.2.1 i.2.2.2) (s1, s2, s3, s4)
theorem zg3 (r_q0e : S_value_count → V → Int → Option (Bool × S_value_count)) (a1 : (List (Str × V))) (a2 : Int) (s1 : Nat) (s2 s3 s4 : Int) : zd8 r_q0e a1 a2 s1 s2 s3 s4 = z50 r_q0e a1 a2 (zd8 r_q0e a1 a2) s1 s2 s3 s4 :=
 z1f (ι := (Nat × Int × Int × Int)) (ρ := fun _ => (Bool × S_value_count)) (Φ := fun g i => z50 r_q0e a1 a2 (fun s1 s2 s3 s4 => g (s1, s2, s3, s4)) i.1 i.2.1 i.2.2.1 i.2.2.2) (fun i => z9p (ι := (Nat × Int × Int × Int)) (ρ := fun _ => (Bool × S_value_count)) (fun _ => r_q0e) (fun _ _ _ => z0e) (fun g => (fun s1 s2 s3 s4 => g (s1, s2, s3, s4))) (fun _ _ _ _ => z1h) a1 a2 i.1 i.2.1 i.2.2.1 i.2.2.2) (s1, s2, s3, s4)
theorem znp (r_q0e : OF ρ → S_value_count → V → Int → Option (Bool × S_value_count)) (h_r_q0e : ∀ y0 y1 y2, CM (fun G => r_q0e G y0 y1 y2)) (a1 : (List (Str × V))) (a2 : Int) (s1 : Nat) (s2 s3 s4 : Int) : CM (fun G : OF ρ => zd8 (r_q0e G) a1 a2 s1 s2 s3 s4) :=
 z7r (κ := (Nat × Int × Int × Int)) (τ := fun _ => (Bool × S_value_count)) (Φ := fun G g i => z50 (r_q0e G) a1 a2 (fun s1 s2 s3 s4 => g (s1, s2, s3, s4)) i.1 i.2.1 i.2.2.1 i.2.2.2) (fun g i => z9p r_q0e h_r_q0e (fun _ => (fun s1 s2 s3 s4 => g (s1, s2, s3, s4))) (fun _ _ _ _ => z0e) a1 a2 i.1 i.2.1 i.2.2.1 i.2.2.2) (fun G i => z9p (ι := (Nat × Int × Int × Int)) (ρ := fun _ => (Bool × S_value_count)) (fun _ => r_q0e G) (fun _ _ _ => z0e) (fun g => (fun s1 s2 s3 s4 => g (s1, s2, s3, s4))) (fun _ _ _ _ => z1h) a1 a2 i.1 i.2.1 i.2.2.1 i.2.2.2) (s1, s2, s3, s4)
noncomputable def ziv (r_q0k : S_value_count → (List (Str × V)) → Int → Option (Bool × S_value_count)) (r_q0e : S_value_count → V → Int → Option (Bool × S_value_count)) (a0 : S_value_count) (a1 : (List (Str × V))) (a2 : Int) : Option (Bool × S_value_count) :=
 zd8 r_q0e a1 a2 0 a0.f_n a0.f_deep a0.f_why
theorem ztj (r_q0k : OF ρ → S_value_count → (List (Str × V)) → Int → Option (Bool × S_value_count)) (h_r_q0k : ∀ y0 y1 y2, CM (fun G => r_q0k G y0 y1 y2)) (r_q0e : OF ρ → S_value_count → V → Int → Option (Bool × S_value_count)) (h_r_q0e : ∀ y0 y1 y2, CM (fun G => r_q0e G y0 y1 y2)) (a0 : S_value_count) (a1 : (List (Str × V))) (a2 : Int) : CM (fun G : OF ρ => ziv (r_q0k G) (r_q0e G) a0 a1 a2) := by
 simp only [ziv]
 repeat (first | exact z0e | exact h_r_q0k _ _ _ | exact h_r_q0e _ _ _ | apply znp | refine z13 ?_ ?_ | refine z14 ?_ (fun _ => ?_) | intro _ | assumption)
noncomputable def zdb (s3 s4 s5 : Int) : Option (Bool × S_value_count) :=
 some (true, (S_value_count.mk s3 s4 s5))
noncomputable def z54 (r_q0e : S_value_count → V → Int → Option (Bool × S_value_count)) (a1 : V) (a2 : Int) (g1 : Nat → Int → Int → Int → Option (Bool × S_value_count)) (s7 : Nat) (s8 s9 s10 : Int) : Option (Bool × S_value_count) :=
 bif (decide (((s7 : Nat) : Int) < ((((a1).asList).length : Nat) : Int))) then (
 (((a1).asList)[s7]?).bind fun x13 =>
 (r_q0e (S_value_count.mk s8 s9 s10) x13 (IntKind.i64.wrap (a2 + 1))).bind fun x14 =>
 bif (!x14.1) then (
 some (false, (x14.2))
 ) else (
 g1 (s7 + 1) ((x14.2).f_n) ((x14.2).f_deep) ((x14.2).f_why)
 )
 ) else (
 zdb s8 s9 s10
 )
theorem z9r (r_q0e : OF ρ → S_value_count → V → Int → Option (Bool × S_value_count)) (h_r_q0e : ∀ y0 y1 y2, CM (fun G => r_q0e G y0 y1 y2)) (g1 : OF ρ → Nat → Int → Int → Int → Option (Bool × S_value_count)) (h_g1 : ∀ y0 y1 y2 y3, CM (fun G => g1 G y0 y1 y2 y3)) (a1 : V) (a2 : Int) (s7 : Nat) (s8 s9 s10 : Int) : CM (fun G : OF ρ => z54 (r_q0e G) a1 a2 (g1 G) s7 s8 s9 s10) := by
 simp only [z54]
 repeat (first | exact z0e | exact h_r_q0e _ _ _ | exact h_g1 _ _ _ _ | apply q0e_j1_cm | refine z13 ?_ ?_ | refine z14 ?_ (fun _ => ?_) | intro _ | assumption)
noncomputable def zda (r_q0e : S_value_count → V → Int → Option (Bool × S_value_count)) (a1 : V) (a2 : Int) (s7 : Nat) (s8 s9 s10 : Int) : Option (Bool × S_value_count) :=
 z3r (ι := (Nat × Int × Int × Int)) (ρ := fun _ => (Bool × S_value_count)) (fun g i => z54 r_q0e a1 a2 (fun s7 s8 s9 s10 => g (s7, s8, s9, s10)) i.1 i.2.1 i.2.2.1 i.2.2.2) (s7, s8, s9, s10)
theorem zg5 (r_q0e : S_value_count → V → Int → Option (Bool × S_value_count)) (a1 : V) (a2 : Int) (s7 : Nat) (s8 s9 s10 : Int) : zda r_q0e a1 a2 s7 s8 s9 s10 = z54 r_q0e a1 a2 (zda r_q0e a1 a2) s7 s8 s9 s10 :=
 z1f (ι := (Nat × Int × Int × Int)) (ρ := fun _ => (Bool × S_value_count)) (Φ := fun g i => z54 r_q0e a1 a2 (fun s7 s8 s9 s10 => g (s7, s8, s9, s10)) i.1 i.2.1 i.2.2.1 i.2.2.2) (fun i => z9r (ι := (Nat × Int × Int × Int)) (ρ := fun _ => (Bool × S_value_count)) (fun _ => r_q0e) (fun _ _ _ => z0e) (fun g => (fun s7 s8 s9 s10 => g (s7, s8, s9, s10))) (fun _ _ _ _ => z1h) a1 a2 i.1 i.2.1 i.2.2.1 i.2.2.2) (s7, s8, s9, s10)
theorem zns (r_q0e : OF ρ → S_value_count → V → Int → Option (Bool × S_value_count)) (h_r_q0e : ∀ y0 y1 y2, CM (fun G => r_q0e G y0 y1 y2)) (a1 : V) (a2 : Int) (s7 : Nat) (s8 s9 s10 : Int) : CM (fun G : OF ρ => zda (r_q0e G) a1 a2 s7 s8 s9 s10) :=
 z7r (κ := (Nat × Int × Int × Int)) (τ := fun _ => (Bool × S_value_count)) (Φ := fun G g i => z54 (r_q0e G) a1 a2 (fun s7 s8 s9 s10 => g (s7, s8, s9, s10)) i.1 i.2.1 i.2.2.1 i.2.2.2) (fun g i => z9r r_q0e h_r_q0e (fun _ => (fun s7 s8 s9 s10 => g (s7, s8, s9, s10))) (fun _ _ _ _ => z0e) a1 a2 i.1 i.2.1 i.2.2.1 i.2.2.2) (fun G i => z9r (ι := (Nat × Int × Int × Int)) (ρ := fun _ => (Bool × S_value_count)) (fun _ => r_q0e G) (fun _ _ _ => z0e) (fun g => (fun s7 s8 s9 s10 => g (s7, s8, s9, s10))) (fun _ _ _ _ => z1h) a1 a2 i.1 i.2.1 i.2.2.1 i.2.2.2) (s7, s8, s9, s10)
noncomputable def zix (r_q0k : S_value_count → (List (Str × V)) → Int → Option (Bool × S_value_count)) (r_q0e : S_value_count → V → Int → Option (Bool × S_value_count)) (a0 : S_value_count) (a1 : V) (a2 : Int) : Option (Bool × S_value_count) :=
 (zod a1 a0.f_n a2).bind fun x1 =>
 bif (x1 != 0) then (
 some (false, (S_value_count.mk a0.f_n a0.f_deep x1))
 ) else (
 bif (a1).isList then (
 zda r_q0e a1 a2 0 (IntKind.i64.wrap (a0.f_n + 1)) (if a2 > a0.f_deep then a2 else a0.f_deep) x1
 ) else (
 bif (a1).isDict then (
 (r_q0k (S_value_count.mk (IntKind.i64.wrap (a0.f_n + 1)) (if a2 > a0.f_deep then a2 else a0.f_deep) x1) ((a1).asDict) a2).bind fun x17 =>
 some (x17.1, (x17.2))
 ) else (
 bif (a1).isRec then (
 ((a1).asRec).bind fun x19 =>
 (r_q0k (S_value_count.mk (IntKind.i64.wrap (a0.f_n + 1)) (if a2 > a0.f_deep then a2 else a0.f_deep) x1) x19.fields a2).bind fun x20 =>
 some (x20.1, (x20.2))
 ) else (
 zdb (IntKind.i64.wrap (a0.f_n + 1)) (if a2 > a0.f_deep then a2 else a0.f_deep) x1
 )
 )
 )
 )
theorem ztl (r_q0k : OF ρ → S_value_count → (List (Str × V)) → Int → Option (Bool × S_value_count)) (h_r_q0k : ∀ y0 y1 y2, CM (fun G => r_q0k G y0 y1 y2)) (r_q0e : OF ρ → S_value_count → V → Int → Option (Bool × S_value_count)) (h_r_q0e : ∀ y0 y1 y2, CM (fun G => r_q0e G y0 y1 y2)) (a0 : S_value_count) (a1 : V) (a2 : Int) : CM (fun G : OF ρ => zix (r_q0k G) (r_q0e G) a0 a1 a2) := by
 simp only [zix]
 repeat (first | exact z0e | exact h_r_q0k _ _ _ | exact h_r_q0e _ _ _ | apply q0e_j1_cm | apply zns | refine z13 ?_ ?_ | refine z14 ?_ (fun _ => ?_) | intro _ | assumption)
inductive C_q0k where
 | k_q0k (a0 : S_value_count) (a1 : (List (Str × V))) (a2 : Int)
 | k_q0e (a0 : S_value_count) (a1 : V) (a2 : Int)
def C_q0k.R : C_q0k → Type
 | .k_q0k _ _ _ => (Bool × S_value_count)
 | .k_q0e _ _ _ => (Bool × S_value_count)
noncomputable def C_q0k.F (g : ∀ i : C_q0k, Option i.R) : ∀ i : C_q0k, Option i.R
 | .k_q0k a0 a1 a2 => ziv (fun a0 a1 a2 => g (.k_q0k a0 a1 a2)) (fun a0 a1 a2 => g (.k_q0e a0 a1 a2)) a0 a1 a2
 | .k_q0e a0 a1 a2 => zix (fun a0 a1 a2 => g (.k_q0k a0 a1 a2)) (fun a0 a1 a2 => g (.k_q0e a0 a1 a2)) a0 a1 a2
noncomputable def zls (a0 : S_value_count) (a1 : (List (Str × V))) (a2 : Int) : Option (Bool × S_value_count) := z3r C_q0k.F (.k_q0k a0 a1 a2)
noncomputable def zgk (a0 : S_value_count) (a1 : V) (a2 : Int) : Option (Bool × S_value_count) := z3r C_q0k.F (.k_q0e a0 a1 a2)
abbrev gg1 := fun (g : ∀ i : C_q0k, Option i.R) a0 a1 a2 => g (.k_q0k a0 a1 a2)
theorem hh1 (a0 a1 a2 : _) : CM (ρ := C_q0k.R) (fun g => g (C_q0k.k_q0k a0 a1 a2)) := z1h
abbrev gg2 := fun (g : ∀ i : C_q0k, Option i.R) a0 a1 a2 => g (.k_q0e a0 a1 a2)
theorem hh2 (a0 a1 a2 : _) : CM (ρ := C_q0k.R) (fun g => g (C_q0k.k_q0e a0 a1 a2)) := z1h
theorem C_q0k.cm (i : C_q0k) : CM (fun g : (∀ i : C_q0k, Option i.R) => C_q0k.F g i) := by
 cases i with
 | k_q0k a0 a1 a2 => exact ztj gg1 hh1 gg2 hh2 a0 a1 a2
 | k_q0e a0 a1 a2 => exact ztl gg1 hh1 gg2 hh2 a0 a1 a2
theorem Z2z (a0 : S_value_count) (a1 : (List (Str × V))) (a2 : Int) : zls a0 a1 a2 = ziv zls zgk a0 a1 a2 := z1f C_q0k.cm (.k_q0k a0 a1 a2)
theorem Z31 (a0 : S_value_count) (a1 : V) (a2 : Int) : zgk a0 a1 a2 = zix zls zgk a0 a1 a2 := z1f C_q0k.cm (.k_q0e a0 a1 a2)
def C_q0k.Q : ∀ i : C_q0k, i.R → Prop
 | .k_q0k a0 a1 a2 => fun (r : (Bool × S_value_count)) => z7t Tryz.prog 87 [(PV.rf 0 0), (PV.sl none 69 2 (List.map ofFld a1)), (I64 a2)] (.box 109 [(I64 a0.f_n), (I64 a0.f_deep), (I64 a0.f_why)]) (BO r.1) (.box 109 [(I64 ((r.2).f_n)), (I64 ((r.2).f_deep)), (I64 ((r.2).f_why))])
 | .k_q0e a0 a1 a2 => fun (r : (Bool × S_value_count)) => z7t Tryz.prog 50 [(PV.rf 0 0), (ofV a1), (I64 a2)] (.box 109 [(I64 a0.f_n), (I64 a0.f_deep), (I64 a0.f_why)]) (BO r.1) (.box 109 [(I64 ((r.2).f_n)), (I64 ((r.2).f_deep)), (I64 ((r.2).f_why))])
theorem z9j (r_q0k : S_value_count → (List (Str × V)) → Int → Option (Bool × S_value_count)) (c_q0k : ∀ (a0 : S_value_count) (a1 : (List (Str × V))) (a2 : Int) r, r_q0k a0 a1 a2 = some r → z7t Tryz.prog 87 [(PV.rf 0 0), (PV.sl none 69 2 (List.map ofFld a1)), (I64 a2)] (.box 109 [(I64 a0.f_n), (I64 a0.f_deep), (I64 a0.f_why)]) (BO r.1) (.box 109 [(I64 ((r.2).f_n)), (I64 ((r.2).f_deep)), (I64 ((r.2).f_why))])) (r_q0e : S_value_count → V → Int → Option (Bool × S_value_count)) (c_q0e : ∀ (a0 : S_value_count) (a1 : V) (a2 : Int) r, r_q0e a0 a1 a2 = some r → z7t Tryz.prog 50 [(PV.rf 0 0), (ofV a1), (I64 a2)] (.box 109 [(I64 a0.f_n), (I64 a0.f_deep), (I64 a0.f_why)]) (BO r.1) (.box 109 [(I64 ((r.2).f_n)), (I64 ((r.2).f_deep)), (I64 ((r.2).f_why))])) (a0 : S_value_count) (a1 : (List (Str × V))) (a2 : Int) (r : (Bool × S_value_count)) (h : ziv r_q0k r_q0e a0 a1 a2 = some r) : z7t Tryz.prog 87 [(PV.rf 0 0), (PV.sl none 69 2 (List.map ofFld a1)), (I64 a2)] (.box 109 [(I64 a0.f_n), (I64 a0.f_deep), (I64 a0.f_why)]) (BO r.1) (.box 109 [(I64 ((r.2).f_n)), (I64 ((r.2).f_deep)), (I64 ((r.2).f_why))]) := by
 unfold ziv at h
 refine z0c Tryz.func87 rfl Tryz.ntmps87 Tryz.results87 rfl (z0i ?_)
 change BW _ _ _ ⟨[(0, (PV.rf 0 0)), (1, (PV.sl none 69 2 (List.map ofFld a1))), (2, (I64 a2))], [.box 109 [(I64 a0.f_n), (I64 a0.f_deep), (I64 a0.f_why)]], _⟩ _
 refine bR ?_
 refine eX ?_
 refine z09 ?_
 refine bR ?_
 iterate 2 refine sX ?_
 refine eX ?_
 refine z0j ?_
 refine cBx ?_
 unfold zd8 at h
 refine lX (σ := (Nat × Int × Int × Int)) (fun i => [(0, (PV.rf 0 0)), (2, (I64 a2)), (9, (PV.sl none 69 2 (List.map ofFld a1))), (10, (I64 ((((a1).length : Nat) : Int)))), (11, (I64 (((i.1 : Nat) : Int))))]) (fun i => [.box 109 [(I64 i.2.1), (I64 i.2.2.1), (I64 i.2.2.2)]]) (0, a0.f_n, a0.f_deep, a0.f_why) h ?_ ?_
 exact jN
 rintro g1_f ⟨s1, s2, s3, s4⟩ h; replace h : z50 r_q0e a1 a2 (fun y0 y1 y2 y3 => g1_f (y0, y1, y2, y3)) s1 s2 s3 s4 = some r := h; unfold z50 at h
 change BW _ _ _ ⟨[(0, (PV.rf 0 0)), (2, (I64 a2)), (9, (PV.sl none 69 2 (List.map ofFld a1))), (10, (I64 ((((a1).length : Nat) : Int)))), (11, (I64 (((s1 : Nat) : Int))))], [.box 109 [(I64 s2), (I64 s3), (I64 s4)]], _⟩ _
 refine bR ?_
 refine eX ?_
 refine z09 ?_
 refine z5r (t := 9) rfl fun hb6 => ?_
 try rw [List.length_map] at hb6
 refine cX h rfl ?_ ?_
 intro hc5 h
 have hc5_ := of_decide_eq_true hc5
 refine z08 ?_
 refine cBx ?_
 refine z09 ?_
 refine z0j ?_
 refine cBx ?_
 refine bR ?_
 obtain ⟨x7, hx7, h⟩ := obind h
 refine sS rfl rfl rfl (z1v (i := s1) Tryz.underlying71 z0w rfl rfl rfl hx7 rfl) ?_
 refine sX ?_
 refine sS rfl rfl rfl ((z28 z0w rfl).cast (H'' := [.box 109 [(I64 s2), (I64 s3), (I64 s4)], .box 69 [(z0k []), (ofV V.nil)]]) rfl (by simp only [mk_nil]; rfl)) ?_
 refine z1l rfl rfl (z1b z0w rfl rfl rfl rfl rfl rfl (lbE rfl) (by show List.all [(z0k x7.1), (ofV x7.2)] z6h = true; simp only [List.all_cons, List.all_nil, zeo, z68, Bool.and_true, Bool.true_and]; try rfl)) ?_
 refine z0b ?_
 refine cBx ?_
 refine bR ?_
 iterate 5 refine sX ?_
 obtain ⟨x8, hx8, h⟩ := obind h
 refine sS rfl rfl rfl (z6t 0 rfl zwy rfl (wkr (wkr (wkr .nil))) (.box (.val (ids_V x7.2) (.val rfl .nil))) rfl (z0m rfl (z0m rfl (z0m rfl rfl))) (c_q0e (S_value_count.mk s2 s3 s4) x7.2 (IntKind.i64.wrap (a2 + 1)) x8 hx8) rfl (z0m rfl (z0m rfl (z0m rfl rfl)))) ?_
 refine eX ?_
 refine cX h rfl ?_ ?_
 intro hc9 h
 refine bR ?_
 refine eX ?_
 obtain rfl := eI h; exact z04 ⟨_, rfl, zce (y := (BO false)) (e := .box 109 [(I64 (((x8.2)).f_n)), (I64 (((x8.2)).f_deep)), (I64 (((x8.2)).f_why))]) (Wk.refl _) rfl rfl (z0m rfl (z0m rfl (z0m rfl rfl))) ⟨rfl, rfl⟩⟩
 intro hc9 h
 refine z08 ?_
 refine cBx ?_
 refine z0f ?_
 refine sS rfl rfl rfl (z2v (k := s1) (c := 1) rfl rfl rfl (by omega)) ?_
 refine sX (z0b ?_)
 exact ⟨rfl, ((s1 + 1), (x8.2).f_n, (x8.2).f_deep, (x8.2).f_why), h, jN⟩
 intro hc5 h
 refine z2b ?_
 refine cBx ?_
 refine bR ?_
 refine eX ?_
 obtain rfl := eI h; exact z04 ⟨_, rfl, zce (y := (BO true)) (e := .box 109 [(I64 (((S_value_count.mk s2 s3 s4)).f_n)), (I64 (((S_value_count.mk s2 s3 s4)).f_deep)), (I64 (((S_value_count.mk s2 s3 s4)).f_why))]) (Wk.refl _) rfl rfl (z0m rfl (z0m rfl (z0m rfl rfl))) ⟨rfl, rfl⟩⟩
theorem z8e (r_q0k : S_value_count → (List (Str × V)) → Int → Option (Bool × S_value_count)) (c_q0k : ∀ (a0 : S_value_count) (a1 : (List (Str × V))) (a2 : Int) r, r_q0k a0 a1 a2 = some r → z7t Tryz.prog 87 [(PV.rf 0 0), (PV.sl none 69 2 (List.map ofFld a1)), (I64 a2)] (.box 109 [(I64 a0.f_n), (I64 a0.f_deep), (I64 a0.f_why)]) (BO r.1) (.box 109 [(I64 ((r.2).f_n)), (I64 ((r.2).f_deep)), (I64 ((r.2).f_why))])) (r_q0e : S_value_count → V → Int → Option (Bool × S_value_count)) (c_q0e : ∀ (a0 : S_value_count) (a1 : V) (a2 : Int) r, r_q0e a0 a1 a2 = some r → z7t Tryz.prog 50 [(PV.rf 0 0), (ofV a1), (I64 a2)] (.box 109 [(I64 a0.f_n), (I64 a0.f_deep), (I64 a0.f_why)]) (BO r.1) (.box 109 [(I64 ((r.2).f_n)), (I64 ((r.2).f_deep)), (I64 ((r.2).f_why))])) (a0 : S_value_count) (a1 : V) (a2 : Int) (r : (Bool × S_value_count)) (h : zix r_q0k r_q0e a0 a1 a2 = some r) : z7t Tryz.prog 50 [(PV.rf 0 0), (ofV a1), (I64 a2)] (.box 109 [(I64 a0.f_n), (I64 a0.f_deep), (I64 a0.f_why)]) (BO r.1) (.box 109 [(I64 ((r.2).f_n)), (I64 ((r.2).f_deep)), (I64 ((r.2).f_why))]) := by
 unfold zix at h
 refine z0c Tryz.func50 rfl Tryz.ntmps50 Tryz.results50 rfl (z0i ?_)
 change BW _ _ _ ⟨[(0, (PV.rf 0 0)), (1, (ofV a1)), (2, (I64 a2))], [.box 109 [(I64 a0.f_n), (I64 a0.f_deep), (I64 a0.f_why)]], _⟩ _
 refine bR ?_
 refine eX ?_
 refine z09 ?_
 refine bR ?_
 iterate 3 refine sX ?_
 refine sS rfl rfl rfl (z66 rfl rfl) ?_
 iterate 3 refine sX ?_
 obtain ⟨x1, hx1, h⟩ := obind h
 refine sS rfl rfl rfl (z05 rfl Z27 rfl (wkr (wkr (wkr .nil))) ⟨(ids_V a1), ⟨rfl, ⟨rfl, trivial⟩⟩⟩ (Z0u a1 a0.f_n a2 x1 hx1) rfl) ?_
 refine sS rfl rfl rfl (z66 rfl rfl) ?_
 refine sX ?_
 refine z1l rfl rfl (z1b zzf rfl rfl rfl rfl rfl rfl (lbE rfl) rfl) ?_
 refine z0b ?_
 refine cBx ?_
 refine bR ?_
 refine sX ?_
 refine sS rfl rfl rfl (z66 rfl rfl) ?_
 iterate 2 refine sX ?_
 refine eX ?_
 refine cX h rfl ?_ ?_
 intro hc2 h
 refine bR ?_
 refine eX ?_
 obtain rfl := eI h; exact z04 ⟨_, rfl, zce (y := (BO false)) (e := .box 109 [(I64 (((S_value_count.mk a0.f_n a0.f_deep x1)).f_n)), (I64 (((S_value_count.mk a0.f_n a0.f_deep x1)).f_deep)), (I64 (((S_value_count.mk a0.f_n a0.f_deep x1)).f_why))]) (Wk.refl _) rfl rfl (z0m rfl (z0m rfl (z0m rfl rfl))) ⟨rfl, rfl⟩⟩
 intro hc2 h
 refine z08 ?_
 refine cBx ?_
 refine bR ?_
 refine sX ?_
 refine sS rfl rfl rfl (z66 rfl rfl) ?_
 iterate 3 refine sX ?_
 refine sS rfl rfl rfl (z66 rfl rfl) ?_
 refine sX ?_
 refine z1l rfl rfl (z1b zsl rfl rfl rfl rfl rfl rfl (lbE rfl) rfl) ?_
 refine z0b ?_
 refine cBx ?_
 refine bR ?_
 iterate 2 refine sX ?_
 refine sS rfl rfl rfl (z66 rfl rfl) ?_
 iterate 3 refine sX ?_
 refine sS rfl rfl rfl (zrv (args := []) rfl rfl rfl) ?_
 refine sS rfl rfl rfl (z66 rfl rfl) ?_
 refine sX ?_
 refine z1l rfl rfl (z1b zsl rfl rfl rfl rfl rfl rfl (lbE rfl) rfl) ?_
 refine z0b ?_
 refine cBx ?_
 refine jX (ι := (Int × Int × Int)) (fun i => zdb i.1 i.2.1 i.2.2 = some r) (fun i => [(0, (PV.rf 0 0))]) (fun i => [.box 109 [(I64 i.1), (I64 i.2.1), (I64 i.2.2)]]) ?_ ?_
 rintro ⟨s3, s4, s5⟩ h; replace h : zdb s3 s4 s5 = some r := h; unfold zdb at h
 change BW _ _ _ ⟨[(0, (PV.rf 0 0))], [.box 109 [(I64 s3), (I64 s4), (I64 s5)]], _⟩ _
 refine bR ?_
 refine eX ?_
 obtain rfl := eI h; exact z04 ⟨_, rfl, zce (y := (BO true)) (e := .box 109 [(I64 (((S_value_count.mk s3 s4 s5)).f_n)), (I64 (((S_value_count.mk s3 s4 s5)).f_deep)), (I64 (((S_value_count.mk s3 s4 s5)).f_why))]) (Wk.refl _) rfl rfl (z0m rfl (z0m rfl (z0m rfl rfl))) ⟨rfl, rfl⟩⟩
 refine bR ?_
 refine eX ?_
 refine z0j ?_
 refine cBx ?_
 refine bR ?_
 refine sS rfl rfl rfl (z27 rfl rfl) ?_
 refine sX ?_
 refine eX ?_
 refine cX h rfl ?_ ?_
 intro hc6 h
 refine bR ?_
 refine eX ?_
 refine bR ?_
 iterate 2 refine sX ?_
 refine eX ?_
 refine z0j ?_
 refine cBx ?_
 unfold zda at h
 refine lX (σ := (Nat × Int × Int × Int)) (fun i => [(0, (PV.rf 0 0)), (2, (I64 a2)), (47, (PV.sl none 20 1 (List.map ofV (a1).asList))), (48, (I64 (((((a1).asList).length : Nat) : Int)))), (49, (I64 (((i.1 : Nat) : Int))))]) (fun i => [.box 109 [(I64 i.2.1), (I64 i.2.2.1), (I64 i.2.2.2)]]) (0, (IntKind.i64.wrap (a0.f_n + 1)), (if a2 > a0.f_deep then a2 else a0.f_deep), x1) h ?_ ?_
 exact jN
 rintro g1_f ⟨s7, s8, s9, s10⟩ h; replace h : z54 r_q0e a1 a2 (fun y0 y1 y2 y3 => g1_f (y0, y1, y2, y3)) s7 s8 s9 s10 = some r := h; unfold z54 at h
 change BW _ _ _ ⟨[(0, (PV.rf 0 0)), (2, (I64 a2)), (47, (PV.sl none 20 1 (List.map ofV (a1).asList))), (48, (I64 (((((a1).asList).length : Nat) : Int)))), (49, (I64 (((s7 : Nat) : Int))))], [.box 109 [(I64 s8), (I64 s9), (I64 s10)]], _⟩ _
 refine bR ?_
 refine eX ?_
 refine z09 ?_
 refine z5r (t := 47) rfl fun hb12 => ?_
 try rw [List.length_map] at hb12
 refine cX h rfl ?_ ?_
 intro hc11 h
 have hc11_ := of_decide_eq_true hc11
 refine z08 ?_
 refine cBx ?_
 refine z09 ?_
 refine z0j ?_
 refine cBx ?_
 refine bR ?_
 obtain ⟨x13, hx13, h⟩ := obind h
 refine sS rfl rfl rfl (z1v (i := s7) Tryz.underlying67 z23 rfl rfl rfl hx13 rfl) ?_
 refine sS rfl rfl rfl (z3x (y := (ofV x13)) Tryz.underlying20 rfl rfl rfl (by rw [z11]; rfl)) ?_
 refine eX ?_
 refine bR ?_
 iterate 4 refine sX ?_
 obtain ⟨x14, hx14, h⟩ := obind h
 refine sS rfl rfl rfl (z6t 0 rfl zwy rfl (wkr (wkr (wkr .nil))) (.box (.val (ids_V x13) (.val rfl .nil))) rfl (z0m rfl (z0m rfl (z0m rfl rfl))) (c_q0e (S_value_count.mk s8 s9 s10) x13 (IntKind.i64.wrap (a2 + 1)) x14 hx14) rfl (z0m rfl (z0m rfl (z0m rfl rfl)))) ?_
 refine eX ?_
 refine cX h rfl ?_ ?_
 intro hc15 h
 refine bR ?_
 refine eX ?_
 obtain rfl := eI h; exact z04 ⟨_, rfl, zce (y := (BO false)) (e := .box 109 [(I64 (((x14.2)).f_n)), (I64 (((x14.2)).f_deep)), (I64 (((x14.2)).f_why))]) (Wk.refl _) rfl rfl (z0m rfl (z0m rfl (z0m rfl rfl))) ⟨rfl, rfl⟩⟩
 intro hc15 h
 refine z08 ?_
 refine cBx ?_
 refine z0f ?_
 refine sS rfl rfl rfl (z2v (k := s7) (c := 1) rfl rfl rfl (by omega)) ?_
 refine sX (z0b ?_)
 exact ⟨rfl, ((s7 + 1), (x14.2).f_n, (x14.2).f_deep, (x14.2).f_why), h, jN⟩
 intro hc11 h
 refine z2b ?_
 exact ⟨rfl, (s8, s9, s10), h, jN⟩
 intro hc6 h
 refine bR ?_
 refine sS rfl rfl rfl (z2m rfl rfl) ?_
 refine sX ?_
 refine eX ?_
 refine cX h rfl ?_ ?_
 intro hc16 h
 refine bR ?_
 refine eX ?_
 refine bR ?_
 iterate 3 refine sX ?_
 obtain ⟨x17, hx17, h⟩ := obind h
 refine sS rfl rfl rfl (z6t 0 rfl zzz rfl (wkr (wkr (wkr .nil))) (.box (.val (z06 z0q ((a1).asDict)) (.val rfl .nil))) rfl (z0m rfl (z0m rfl (z0m rfl rfl))) (c_q0k (S_value_count.mk (IntKind.i64.wrap (a0.f_n + 1)) (if a2 > a0.f_deep then a2 else a0.f_deep) x1) ((a1).asDict) a2 x17 hx17) rfl (z0m rfl (z0m rfl (z0m rfl rfl)))) ?_
 refine eX ?_
 obtain rfl := eI h; exact z04 ⟨_, rfl, zce (y := (BO x17.1)) (e := .box 109 [(I64 (((x17.2)).f_n)), (I64 (((x17.2)).f_deep)), (I64 (((x17.2)).f_why))]) (Wk.refl _) rfl rfl (z0m rfl (z0m rfl (z0m rfl rfl))) ⟨rfl, rfl⟩⟩
 intro hc16 h
 refine bR ?_
 refine sS rfl rfl rfl (z32 rfl rfl) ?_
 refine sX ?_
 refine eX ?_
 refine cX h rfl ?_ ?_
 intro hc18 h
 refine bR ?_
 refine eX ?_
 refine bR ?_
 iterate 2 refine sX ?_
 obtain ⟨x19, hx19, h⟩ := obind h
 refine sS rfl rfl rfl (z1e rfl rfl hx19) ?_
 iterate 3 refine sX ?_
 obtain ⟨x20, hx20, h⟩ := obind h
 refine sS rfl rfl rfl (z6t 0 rfl zzz rfl (wkr (wkr (wkr .nil))) (.box (.val (z06 z0q x19.fields) (.val rfl .nil))) rfl (z0m rfl (z0m rfl (z0m rfl rfl))) (c_q0k (S_value_count.mk (IntKind.i64.wrap (a0.f_n + 1)) (if a2 > a0.f_deep then a2 else a0.f_deep) x1) x19.fields a2 x20 hx20) rfl (z0m rfl (z0m rfl (z0m rfl rfl)))) ?_
 refine eX ?_
 obtain rfl := eI h; exact z04 ⟨_, rfl, zce (y := (BO x20.1)) (e := .box 109 [(I64 (((x20.2)).f_n)), (I64 (((x20.2)).f_deep)), (I64 (((x20.2)).f_why))]) (Wk.refl _) rfl rfl (z0m rfl (z0m rfl (z0m rfl rfl))) ⟨rfl, rfl⟩⟩
 intro hc18 h
 refine z08 ?_
 exact ⟨rfl, ((IntKind.i64.wrap (a0.f_n + 1)), (if a2 > a0.f_deep then a2 else a0.f_deep), x1), h, jN⟩
theorem C_q0k.sound : ∀ (i : C_q0k) (r : i.R), z3r C_q0k.F i = some r → C_q0k.Q i r := by
 refine z6a (Φ := C_q0k.F) (Q := C_q0k.Q) ?_
 intro g hg i r h
 cases i with
 | k_q0k a0 a1 a2 => exact z9j (fun a0 a1 a2 => g (.k_q0k a0 a1 a2)) (fun a0 a1 a2 r hr => hg (.k_q0k a0 a1 a2) r hr) (fun a0 a1 a2 => g (.k_q0e a0 a1 a2)) (fun a0 a1 a2 r hr => hg (.k_q0e a0 a1 a2) r hr) a0 a1 a2 r h
 | k_q0e a0 a1 a2 => exact z8e (fun a0 a1 a2 => g (.k_q0k a0 a1 a2)) (fun a0 a1 a2 r hr => hg (.k_q0k a0 a1 a2) r hr) (fun a0 a1 a2 => g (.k_q0e a0 a1 a2)) (fun a0 a1 a2 r hr => hg (.k_q0e a0 a1 a2) r hr) a0 a1 a2 r h
theorem Z1c (a0 : S_value_count) (a1 : V) (a2 : Int) (r : (Bool × S_value_count)) (h : zgk a0 a1 a2 = some r) : z7t Tryz.prog 50 [(PV.rf 0 0), (ofV a1), (I64 a2)] (.box 109 [(I64 a0.f_n), (I64 a0.f_deep), (I64 a0.f_why)]) (BO r.1) (.box 109 [(I64 ((r.2).f_n)), (I64 ((r.2).f_deep)), (I64 ((r.2).f_why))]) := C_q0k.sound (.k_q0e a0 a1 a2) r h
noncomputable def zgh (a0 : V) : Option (Int × Int) :=
 (zgk (S_value_count.mk 0 0 0) a0 1).bind fun x1 =>
 bif (!x1.1) then (
 some ((x1.2).f_n, (x1.2).f_why)
 ) else (
 some (0, 0)
 )
theorem zqt (a0 : V) (r : (Int × Int)) (h : zgh a0 = some r) : z0l Tryz.prog 37 [(ofV a0)] (PV.tup [(I64 r.1), (I64 r.2)]) := by
 unfold zgh at h
 refine z0c Tryz.func37 rfl Tryz.ntmps37 Tryz.results37 rfl (z0i ?_)
 change BW _ _ _ ⟨[(0, (ofV a0))], [], _⟩ _
 refine bR ?_
 refine sX ?_
 refine eX ?_
 refine bR ?_
 refine sS rfl rfl rfl (z28 zwj rfl) (z0b ?_)
 refine cBx ?_
 refine z09 ?_
 refine bR ?_
 refine sX ?_
 obtain ⟨x1, hx1, h⟩ := obind h
 refine sS rfl rfl rfl (z6t 0 rfl zwy rfl (wkr (wkr (wkr .nil))) (.box (.val (ids_V a0) (.val rfl .nil))) rfl (z0m rfl (z0m rfl (z0m rfl rfl))) (Z1c (S_value_count.mk 0 0 0) a0 1 x1 hx1) rfl (z0m rfl (z0m rfl (z0m rfl rfl)))) ?_
 refine eX ?_
 refine cX h rfl ?_ ?_
 intro hc2 h
 refine z09 (z1t 5 [] [0] mo (by kernel_rfl) ?_)
 iterate 5 refine gX ?_
 refine z1y ?_
 change AO _ _ _ _ _
 refine eX ?_
 obtain rfl := eI h; exact z04 eK
 intro hc2 h
 refine z08 ?_
 refine cBx ?_
 refine bR ?_
 refine sX ?_
 refine eX ?_
 obtain rfl := eI h; exact z04 eK
noncomputable def zgi (a0 : V) : Option (Int × Int) :=
 (zgh a0).bind fun x1 =>
 some (x1.1, x1.2)
theorem zqu (a0 : V) (r : (Int × Int)) (h : zgi a0 = some r) : z0l Tryz.prog 31 [(ofV a0)] (PV.tup [(I64 r.1), (I64 r.2)]) := by
 unfold zgi at h
 refine z0c Tryz.func31 rfl Tryz.ntmps31 Tryz.results31 rfl (z0i ?_)
 change BW _ _ _ ⟨[(0, (ofV a0))], [], _⟩ _
 refine bR ?_
 refine sX ?_
 refine eX ?_
 refine bR ?_
 refine sX ?_
 obtain ⟨x1, hx1, h⟩ := obind h
 refine sS rfl rfl rfl (z05 rfl zsu rfl (wkr .nil) ⟨(ids_V a0), trivial⟩ (zqt a0 x1 hx1) (z00 rfl (z00 rfl z03))) ?_
 iterate 3 refine sX ?_
 refine eX ?_
 obtain rfl := eI h; exact z04 eK
noncomputable def za5 (s7 : Bool) : Option Int :=
 bif s7 then (
 some 1
 ) else (
 some 0
 )
noncomputable def zbd (a0 : S_api_Step) (s5 : Bool) : Option Int :=
 bif s5 then (
 some 8
 ) else (
 bif a0.f_At then (
 bif (decide (a0.f_Index < 0)) then (
 za5 true
 ) else (
 za5 (decide (a0.f_Index ≥ 4096))
 )
 ) else (
 za5 false
 )
 )
noncomputable def zbe (a0 : S_api_Step) (s3 : Bool) : Option Int :=
 bif s3 then (
 some 1
 ) else (
 bif a0.f_At then (
 zbd a0 (!(a0.f_Name == ([] : Str)))
 ) else (
 zbd a0 false
 )
 )
noncomputable def zbf (a0 : S_api_Step) (s1 : Bool) : Option Int :=
 bif s1 then (
 some 8
 ) else (
 bif (!a0.f_At) then (
 zbe a0 (a0.f_Index != 0)
 ) else (
 zbe a0 false
 )
 )
noncomputable def zoc (a0 : S_api_Step) : Option Int :=
 bif (!a0.f_At) then (
 (zi4 a0.f_Name).bind fun x14 =>
 zbf a0 (!x14)
 ) else (
 zbf a0 false
 )
theorem Z0r (a0 : S_api_Step) (r : Int) (h : zoc a0 = some r) : z0l Tryz.prog 71 [(z02 a0)] (I64 r) := by
 unfold zoc at h
 refine z0c Tryz.func71 rfl Tryz.ntmps71 Tryz.results71 rfl (z0i ?_)
 change BW _ _ _ ⟨[(0, (z02 a0))], [], _⟩ _
 refine bR ?_
 refine sX ?_
 refine eX ?_
 refine z09 ?_
 refine z0j ?_
 refine cBx ?_
 refine jX (ι := Bool) (fun i => zbf a0 i = some r) (fun i => [(1, (PV.rf 0 0)), (3, (BO i))]) (fun i => [.box 83 [(z0k a0.f_Name), (BO a0.f_At), (I64 a0.f_Index)]]) ?_ ?_
 rintro s1 h; replace h : zbf a0 s1 = some r := h; unfold zbf at h
 change BW _ _ _ ⟨[(1, (PV.rf 0 0)), (3, (BO s1))], [.box 83 [(z0k a0.f_Name), (BO a0.f_At), (I64 a0.f_Index)]], _⟩ _
 refine cX h rfl ?_ ?_
 intro hc2 h
 refine bR ?_
 refine eX ?_
 obtain rfl := eI h; exact z04 eK
 intro hc2 h
 refine jX (ι := Bool) (fun i => zbe a0 i = some r) (fun i => [(1, (PV.rf 0 0)), (13, (BO i))]) (fun i => [.box 83 [(z0k a0.f_Name), (BO a0.f_At), (I64 a0.f_Index)]]) ?_ ?_
 rintro s3 h; replace h : zbe a0 s3 = some r := h; unfold zbe at h
 change BW _ _ _ ⟨[(1, (PV.rf 0 0)), (13, (BO s3))], [.box 83 [(z0k a0.f_Name), (BO a0.f_At), (I64 a0.f_Index)]], _⟩ _
 refine cX h rfl ?_ ?_
 intro hc4 h
 refine bR ?_
 refine eX ?_
 obtain rfl := eI h; exact z04 eK
 intro hc4 h
 refine jX (ι := Bool) (fun i => zbd a0 i = some r) (fun i => [(1, (PV.rf 0 0)), (22, (BO i))]) (fun i => [.box 83 [(z0k a0.f_Name), (BO a0.f_At), (I64 a0.f_Index)]]) ?_ ?_
 rintro s5 h; replace h : zbd a0 s5 = some r := h; unfold zbd at h
 change BW _ _ _ ⟨[(1, (PV.rf 0 0)), (22, (BO s5))], [.box 83 [(z0k a0.f_Name), (BO a0.f_At), (I64 a0.f_Index)]], _⟩ _
 refine cX h rfl ?_ ?_
 intro hc6 h
 refine bR ?_
 refine eX ?_
 obtain rfl := eI h; exact z04 eK
 intro hc6 h
 refine jX (ι := Bool) (fun i => za5 i = some r) (fun i => [(30, (BO i))]) (fun i => []) ?_ ?_
 rintro s7 h; replace h : za5 s7 = some r := h; unfold za5 at h
 change BW _ _ _ ⟨[(30, (BO s7))], [], _⟩ _
 refine cX h rfl ?_ ?_
 intro hc8 h
 refine bR ?_
 refine eX ?_
 obtain rfl := eI h; exact z04 eK
 intro hc8 h
 refine z08 ?_
 refine cBx ?_
 refine bR ?_
 refine eX ?_
 obtain rfl := eI h; exact z04 eK
 refine z0f ?_
 iterate 3 refine sX ?_
 refine z0p (t := 33) rfl ?_ ?_
 intro hb9; replace h := z0r hb9 h
 iterate 4 refine yX ?_
 refine z0p (t := 37) rfl ?_ ?_
 intro hb10; replace h := z0r hb10 h
 iterate 3 refine nX ?_
 refine yX ?_
 refine sX ?_
 refine sX (z0b ?_)
 exact ⟨rfl, true, h, jN⟩
 intro hb10; replace h := z0s hb10 h
 iterate 4 refine yX ?_
 refine sX ?_
 refine sX (z0b ?_)
 exact ⟨rfl, (decide (a0.f_Index ≥ 4096)), h, jN⟩
 intro hb9; replace h := z0s hb9 h
 iterate 8 refine nX ?_
 refine sX ?_
 refine sX (z0b ?_)
 exact ⟨rfl, false, h, jN⟩
 refine z0f ?_
 iterate 3 refine sX ?_
 refine z0p (t := 25) rfl ?_ ?_
 intro hb11; replace h := z0r hb11 h
 iterate 2 refine yX ?_
 refine z1i rfl rfl rfl rfl rfl rfl ((z2e (a := a0.f_Name) (b := ([] : Str)) rfl rfl rfl rfl).cast (y := (BO ((!(a0.f_Name == ([] : Str)))))) rfl rfl) ?_
 refine sX ?_
 refine sX (z0b ?_)
 exact ⟨rfl, (!(a0.f_Name == ([] : Str))), h, jN⟩
 intro hb11; replace h := z0s hb11 h
 iterate 3 refine nX ?_
 refine sX ?_
 refine sX (z0b ?_)
 exact ⟨rfl, false, h, jN⟩
 refine z0f ?_
 iterate 4 refine sX ?_
 refine z0p (t := 17) rfl ?_ ?_
 intro hb12; replace h := z0r hb12 h
 iterate 3 refine yX ?_
 refine sX ?_
 refine sX (z0b ?_)
 exact ⟨rfl, (a0.f_Index != 0), h, jN⟩
 intro hb12; replace h := z0s hb12 h
 iterate 3 refine nX ?_
 refine sX ?_
 refine sX (z0b ?_)
 exact ⟨rfl, false, h, jN⟩
 refine z0f ?_
 iterate 4 refine sX ?_
 refine z0p (t := 7) rfl ?_ ?_
 intro hb13; replace h := z0r hb13 h
 iterate 2 refine yX ?_
 obtain ⟨x14, hx14, h⟩ := obind h
 refine z1i rfl rfl rfl rfl rfl rfl (z05 rfl Z00 rfl (wkr .nil) ⟨rfl, trivial⟩ (zya a0.f_Name x14 hx14) rfl) ?_
 refine yX ?_
 refine sX ?_
 refine sX (z0b ?_)
 exact ⟨rfl, (!x14), h, jN⟩
 intro hb13; replace h := z0s hb13 h
 iterate 4 refine nX ?_
 refine sX ?_
 refine sX (z0b ?_)
 exact ⟨rfl, false, h, jN⟩
noncomputable def z5x (a0 : (List S_api_Step)) (g1 : Nat → Option Int) (s2 : Nat) : Option Int :=
 bif (decide (((s2 : Nat) : Int) < (((a0).length : Nat) : Int))) then (
 ((a0)[s2]?).bind fun x5 =>
 (zoc x5).bind fun x6 =>
 bif (x6 != 0) then (
 some x6
 ) else (
 g1 (s2 + 1)
 )
 ) else (
 some 0
 )
theorem zlc (g1 : OF ρ → Nat → Option Int) (h_g1 : ∀ y0, CM (fun G => g1 G y0)) (a0 : (List S_api_Step)) (s2 : Nat) : CM (fun G : OF ρ => z5x a0 (g1 G) s2) := by
 simp only [z5x]
 repeat (first | exact z0e | exact h_g1 _ | refine z13 ?_ ?_ | refine z14 ?_ (fun _ => ?_))
noncomputable def zfu (a0 : (List S_api_Step)) (s2 : Nat) : Option Int :=
 z3r (ι := Nat) (ρ := fun _ => Int) (fun g i => z5x a0 (fun s2 => g s2) i) s2
theorem zft (a0 : (List S_api_Step)) (s2 : Nat) : zfu a0 s2 = z5x a0 (zfu a0) s2 :=
 z1f (ι := Nat) (ρ := fun _ => Int) (Φ := fun g i => z5x a0 (fun s2 => g s2) i) (fun i => zlc (ι := Nat) (ρ := fun _ => Int) (fun g => (fun s2 => g s2)) (fun _ => z1h) a0 i) s2
noncomputable def zog (a0 : (List S_api_Step)) : Option Int :=
 bif (decide ((((a0).length : Nat) : Int) > 64)) then (
 some 2
 ) else (
 zfu a0 0
 )
theorem Z0x (a0 : (List S_api_Step)) (r : Int) (h : zog a0 = some r) : z0l Tryz.prog 39 [(PV.sl none 83 3 (List.map z02 a0))] (I64 r) := by
 unfold zog at h
 refine z0c Tryz.func39 rfl Tryz.ntmps39 Tryz.results39 rfl (z0i ?_)
 change BW _ _ _ ⟨[(0, (PV.sl none 83 3 (List.map z02 a0)))], [], _⟩ _
 refine bR ?_
 refine eX ?_
 refine z09 ?_
 refine bR ?_
 iterate 2 refine sX ?_
 refine eX ?_
 refine cX h rfl ?_ ?_
 intro hc1 h
 refine bR ?_
 refine eX ?_
 obtain rfl := eI h; exact z04 eK
 intro hc1 h
 refine z08 ?_
 refine cBx ?_
 refine z09 ?_
 refine bR ?_
 iterate 2 refine sX ?_
 refine eX ?_
 refine z0j ?_
 refine cBx ?_
 unfold zfu at h
 refine z3n (σ := Nat) (fun i => [(9, (PV.sl none 83 3 (List.map z02 a0))), (10, (I64 ((((a0).length : Nat) : Int)))), (11, (I64 (((i : Nat) : Int))))]) (fun i => []) 0 h ?_ ?_ ?_
 intro i; exact ⟨lbE rfl, ⟨(z0a (z06 z01 _)), ⟨(z0a rfl), ⟨(z0a rfl), trivial⟩⟩⟩, trivial⟩
 exact jN
 rintro g1_f s2 h; replace h : z5x a0 (fun y0 => g1_f y0) s2 = some r := h; unfold z5x at h
 change BW _ _ _ ⟨[(9, (PV.sl none 83 3 (List.map z02 a0))), (10, (I64 ((((a0).length : Nat) : Int)))), (11, (I64 (((s2 : Nat) : Int))))], [], _⟩ _
 refine bR ?_
 refine eX ?_
 refine z09 ?_
 refine z5r (t := 9) rfl fun hb4 => ?_
 try rw [List.length_map] at hb4
 refine cX h rfl ?_ ?_
 intro hc3 h
 have hc3_ := of_decide_eq_true hc3
 refine z08 ?_
 refine cBx ?_
 refine z09 ?_
 refine z0j ?_
 refine cBx ?_
 refine bR ?_
 obtain ⟨x5, hx5, h⟩ := obind h
 refine sS rfl rfl rfl (z1v (i := s2) Tryz.underlying30 z19 rfl rfl rfl hx5 rfl) ?_
 refine sX ?_
 refine sS rfl rfl rfl (z28 z19 rfl) ?_
 refine z1l rfl rfl (z1b z19 rfl rfl rfl rfl rfl rfl (lbE rfl) rfl) ?_
 refine z0b ?_
 refine cBx ?_
 refine bR ?_
 refine sX ?_
 obtain ⟨x6, hx6, h⟩ := obind h
 refine sS rfl rfl rfl (z05 rfl Z2b rfl (wkr .nil) ⟨(z01 x5), trivial⟩ (Z0r x5 x6 hx6) rfl) ?_
 refine eX ?_
 refine bR ?_
 refine sX ?_
 refine eX ?_
 refine cX h rfl ?_ ?_
 intro hc7 h
 refine bR ?_
 refine sX ?_
 refine eX ?_
 obtain rfl := eI h; exact z04 eK
 intro hc7 h
 refine z08 ?_
 refine cBx ?_
 refine z0f ?_
 refine sS rfl rfl rfl (z2v (k := s2) (c := 1) rfl rfl rfl (by omega)) ?_
 refine sX (z0b ?_)
 exact ⟨rfl, (s2 + 1), h, jN⟩
 intro hc3 h
 refine z2b ?_
 refine cBx ?_
 refine bR ?_
 refine eX ?_
 obtain rfl := eI h; exact z04 eK
noncomputable def zi2 (a0 : V) (a1 : (List S_api_Step)) : Option Int :=
 (zgi a0).bind fun x1 =>
 bif (x1.2 != 0) then (
 some x1.2
 ) else (
 (zog a1).bind fun x3 =>
 some x3
 )
theorem zvc (a0 : V) (a1 : (List S_api_Step)) (r : Int) (h : zi2 a0 a1 = some r) : z0l Tryz.prog 30 [(ofV a0), (PV.sl none 83 3 (List.map z02 a1))] (I64 r) := by
 unfold zi2 at h
 refine z0c Tryz.func30 rfl Tryz.ntmps30 Tryz.results30 rfl (z0i ?_)
 change BW _ _ _ ⟨[(0, (ofV a0)), (1, (PV.sl none 83 3 (List.map z02 a1)))], [], _⟩ _
 refine bR ?_
 refine eX ?_
 refine z09 ?_
 refine bR ?_
 refine sX ?_
 obtain ⟨x1, hx1, h⟩ := obind h
 refine sS rfl rfl rfl (z05 rfl zsw rfl (wkr .nil) ⟨(ids_V a0), trivial⟩ (zqu a0 x1 hx1) (z00 rfl (z00 rfl z03))) ?_
 iterate 4 refine sX ?_
 refine eX ?_
 refine bR ?_
 refine sX ?_
 refine eX ?_
 refine cX h rfl ?_ ?_
 intro hc2 h
 refine bR ?_
 refine sX ?_
 refine eX ?_
 obtain rfl := eI h; exact z04 eK
 intro hc2 h
 refine z08 ?_
 refine cBx ?_
 refine bR ?_
 refine sX ?_
 obtain ⟨x3, hx3, h⟩ := obind h
 refine sS rfl rfl rfl (z05 rfl Z2m rfl (wkr .nil) ⟨(z06 z01 a1), trivial⟩ (Z0x a1 x3 hx3) rfl) ?_
 refine eX ?_
 obtain rfl := eI h; exact z04 eK
noncomputable def zrc (a0 : V) : Option ((List (Str × V)) × Bool) :=
 bif (a0).isDict then (
 some ((a0).asDict, true)
 ) else (
 bif (a0).isRec then (
 ((a0).asRec).bind fun x3 =>
 some (x3.fields, true)
 ) else (
 some ([], false)
 )
 )
theorem Z18 (a0 : V) (r : ((List (Str × V)) × Bool)) (h : zrc a0 = some r) : z0l Tryz.prog 97 [(ofV a0)] (PV.tup [(PV.sl none 69 2 (List.map ofFld r.1)), (BO r.2)]) := by
 unfold zrc at h
 refine z0c Tryz.func97 rfl Tryz.ntmps97 Tryz.results97 rfl (z0i ?_)
 change BW _ _ _ ⟨[(0, (ofV a0))], [], _⟩ _
 refine bR ?_
 refine sX ?_
 refine eX ?_
 refine z09 ?_
 refine bR ?_
 refine eX ?_
 refine z0j ?_
 refine cBx ?_
 refine bR ?_
 refine sS rfl rfl rfl (z2m rfl rfl) ?_
 refine sX ?_
 refine eX ?_
 refine cX h rfl ?_ ?_
 intro hc1 h
 refine bR ?_
 refine eX ?_
 refine bR ?_
 iterate 2 refine sX ?_
 refine eX ?_
 obtain rfl := eI h; exact z04 ⟨_, rfl, z0n (y := (PV.tup [(PV.sl none 69 2 (List.map ofFld (a0).asDict)), (BO true)])) (Wk.refl _) (z00 (z06 z0q ((a0).asDict)) (z00 rfl z03)) ⟨rfl, rfl⟩⟩
 intro hc1 h
 refine bR ?_
 refine sS rfl rfl rfl (z32 rfl rfl) ?_
 refine sX ?_
 refine eX ?_
 refine cX h rfl ?_ ?_
 intro hc2 h
 refine bR ?_
 refine eX ?_
 refine bR ?_
 refine sX ?_
 obtain ⟨x3, hx3, h⟩ := obind h
 refine sS rfl rfl rfl (z1e rfl rfl hx3) ?_
 iterate 3 refine sX ?_
 refine eX ?_
 obtain rfl := eI h; exact z04 ⟨_, rfl, z0n (y := (PV.tup [(PV.sl none 69 2 (List.map ofFld x3.fields)), (BO true)])) (Wk.refl _) (z00 (z06 z0q x3.fields) (z00 rfl z03)) ⟨rfl, rfl⟩⟩
 intro hc2 h
 refine z08 ?_
 refine cBx ?_
 refine bR ?_
 refine sX ?_
 refine eX ?_
 obtain rfl := eI h; exact z04 ⟨_, rfl, z0n (y := (PV.tup [(PV.sl none 69 2 (List.map ofFld [])), (BO false)])) (Wk.tup (.cons Wk.nil (wkr .nil))) (z00 (z06 z0q ([])) (z00 rfl z03)) ⟨rfl, rfl⟩⟩
noncomputable def zln (a0 : (Str × V)) (a1 : Str) : Option Int :=
 bif (Op.bytesLess a0.1 a1) then (
 some (-1)
 ) else (
 bif (!(Op.bytesLess a0.1 a1 || a0.1 == a1)) then (
 some 1
 ) else (
 some 0
 )
 )
theorem zyc (a0 : (Str × V)) (a1 : Str) (r : Int) (h : zln a0 a1 = some r) : z0l Tryz.prog 112 [(ofFld a0), (z0k a1)] (I64 r) := by
 unfold zln at h
 refine z0c Tryz.func112 rfl Tryz.ntmps112 Tryz.results112 rfl (z0i ?_)
 change BW _ _ _ ⟨[(0, (ofFld a0)), (1, (z0k a1))], [], _⟩ _
 refine bR ?_
 refine sX ?_
 refine eX ?_
 refine z09 ?_
 refine z0j ?_
 refine cBx ?_
 refine bR ?_
 iterate 3 refine sX ?_
 refine sS rfl rfl rfl ((z2e (a := a0.1) (b := a1) rfl rfl rfl rfl).cast (y := (BO ((Op.bytesLess a0.1 a1)))) rfl rfl) ?_
 refine eX ?_
 refine cX h rfl ?_ ?_
 intro hc1 h
 refine bR ?_
 refine eX ?_
 obtain rfl := eI h; exact z04 eK
 intro hc1 h
 refine bR ?_
 iterate 3 refine sX ?_
 refine sS rfl rfl rfl ((z2e (a := a0.1) (b := a1) rfl rfl rfl rfl).cast (y := (BO ((!(Op.bytesLess a0.1 a1 || a0.1 == a1))))) rfl rfl) ?_
 refine eX ?_
 refine cX h rfl ?_ ?_
 intro hc2 h
 refine bR ?_
 refine eX ?_
 obtain rfl := eI h; exact z04 eK
 intro hc2 h
 refine z08 ?_
 refine cBx ?_
 refine bR ?_
 refine eX ?_
 obtain rfl := eI h; exact z04 eK
noncomputable def z61 (a0 : (List (Str × V))) (a1 : Str) (g1 : Int → Int → Option (Int × Bool)) (s1 s2 : Int) : Option (Int × Bool) :=
 bif (decide (s1 < s2)) then (
 (z5s a0 (IntKind.i64.wrap (zl1 .u64 (IntKind.u64.wrap (IntKind.i64.wrap (s1 + s2))) 1))).bind fun x4 =>
 (zln x4 a1).bind fun x5 =>
 bif (decide (x5 < 0)) then (
 g1 (IntKind.i64.wrap ((IntKind.i64.wrap (zl1 .u64 (IntKind.u64.wrap (IntKind.i64.wrap (s1 + s2))) 1)) + 1)) s2
 ) else (
 g1 s1 (IntKind.i64.wrap (zl1 .u64 (IntKind.u64.wrap (IntKind.i64.wrap (s1 + s2))) 1))
 )
 ) else (
 bif (decide (s1 < (((a0).length : Nat) : Int))) then (
 (z5s a0 s1).bind fun x8 =>
 (zln x8 a1).bind fun x9 =>
 some (s1, (x9 == 0))
 ) else (
 some (s1, false)
 )
 )
theorem zlj (g1 : OF ρ → Int → Int → Option (Int × Bool)) (h_g1 : ∀ y0 y1, CM (fun G => g1 G y0 y1)) (a0 : (List (Str × V))) (a1 : Str) (s1 s2 : Int) : CM (fun G : OF ρ => z61 a0 a1 (g1 G) s1 s2) := by
 simp only [z61]
 repeat (first | exact z0e | exact h_g1 _ _ | refine z13 ?_ ?_ | refine z14 ?_ (fun _ => ?_))
noncomputable def zgd (a0 : (List (Str × V))) (a1 : Str) (s1 s2 : Int) : Option (Int × Bool) :=
 z3r (ι := (Int × Int)) (ρ := fun _ => (Int × Bool)) (fun g i => z61 a0 a1 (fun s1 s2 => g (s1, s2)) i.1 i.2) (s1, s2)
theorem zgc (a0 : (List (Str × V))) (a1 : Str) (s1 s2 : Int) : zgd a0 a1 s1 s2 = z61 a0 a1 (zgd a0 a1) s1 s2 :=
 z1f (ι := (Int × Int)) (ρ := fun _ => (Int × Bool)) (Φ := fun g i => z61 a0 a1 (fun s1 s2 => g (s1, s2)) i.1 i.2) (fun i => zlj (ι := (Int × Int)) (ρ := fun _ => (Int × Bool)) (fun g => (fun s1 s2 => g (s1, s2))) (fun _ _ => z1h) a0 a1 i.1 i.2) (s1, s2)
noncomputable def zrk (a0 : (List (Str × V))) (a1 : Str) : Option (Int × Bool) :=
 zgd a0 a1 0 (((a0).length : Nat) : Int)
theorem Z1l (a0 : (List (Str × V))) (a1 : Str) (r : (Int × Bool)) (h : zrk a0 a1 = some r) : z0l Tryz.prog 111 [(PV.sl none 69 2 (List.map ofFld a0)), (z0k a1), (PV.fn (.func 112) [] [])] (PV.tup [(I64 r.1), (BO r.2)]) := by
 unfold zrk at h
 refine z0c Tryz.func111 rfl Tryz.ntmps111 Tryz.results111 rfl (z0i ?_)
 change BW _ _ _ ⟨[(0, (PV.sl none 69 2 (List.map ofFld a0))), (1, (z0k a1)), (2, (PV.fn (.func 112) [] []))], [], _⟩ _
 refine bR ?_
 refine sX ?_
 refine eX ?_
 refine bR ?_
 iterate 2 refine sX ?_
 refine eX ?_
 refine bR ?_
 iterate 2 refine sX ?_
 refine eX ?_
 refine z09 ?_
 refine z0j ?_
 refine cBx ?_
 unfold zgd at h
 refine lX (σ := (Int × Int)) (fun i => [(0, (PV.sl none 69 2 (List.map ofFld a0))), (1, (z0k a1)), (2, (PV.fn (.func 112) [] [])), (8, (I64 ((((a0).length : Nat) : Int)))), (9, (I64 i.1)), (10, (I64 i.2))]) (fun i => []) (0, (((a0).length : Nat) : Int)) h ?_ ?_
 exact jN
 rintro g1_f ⟨s1, s2⟩ h; replace h : z61 a0 a1 (fun y0 y1 => g1_f (y0, y1)) s1 s2 = some r := h; unfold z61 at h
 change BW _ _ _ ⟨[(0, (PV.sl none 69 2 (List.map ofFld a0))), (1, (z0k a1)), (2, (PV.fn (.func 112) [] [])), (8, (I64 ((((a0).length : Nat) : Int)))), (9, (I64 s1)), (10, (I64 s2))], [], _⟩ _
 refine z09 ?_
 refine bR ?_
 iterate 2 refine sX ?_
 refine eX ?_
 refine cX h rfl ?_ ?_
 intro hc3 h
 refine z08 ?_
 refine cBx ?_
 refine z0j ?_
 refine cBx ?_
 refine bR ?_
 iterate 3 refine sX ?_
 refine sS rfl rfl rfl (zgp Tryz.underlying3 Tryz.underlying160 rfl rfl) ?_
 refine sS rfl rfl rfl ((zos rfl rfl rfl (by decide)).cast (y := (PV.v (.int .u64 (zl1 .u64 (IntKind.u64.wrap (IntKind.i64.wrap (s1 + s2))) 1)))) rfl rfl) ?_
 refine sS rfl rfl rfl (zgp Tryz.underlying160 Tryz.underlying3 rfl rfl) ?_
 refine eX ?_
 refine bR ?_
 iterate 3 refine sX ?_
 obtain ⟨x4, hx4, h⟩ := obind h
 refine sS rfl rfl rfl (z1w Tryz.underlying71 z0w rfl rfl rfl hx4 rfl) ?_
 iterate 2 refine sX ?_
 obtain ⟨x5, hx5, h⟩ := obind h
 refine sS rfl rfl rfl (z5j rfl rfl zuk rfl (wkr (wkr .nil)) ⟨(z0q x4), ⟨rfl, trivial⟩⟩ (zyc x4 a1 x5 hx5) rfl) ?_
 refine eX ?_
 refine cX h rfl ?_ ?_
 intro hc6 h
 refine z0f ?_
 iterate 2 refine sX ?_
 refine sX (z0b ?_)
 exact ⟨rfl, ((IntKind.i64.wrap ((IntKind.i64.wrap (zl1 .u64 (IntKind.u64.wrap (IntKind.i64.wrap (s1 + s2))) 1)) + 1)), s2), h, jN⟩
 intro hc6 h
 refine z0f ?_
 refine sX ?_
 refine sX (z0b ?_)
 exact ⟨rfl, (s1, (IntKind.i64.wrap (zl1 .u64 (IntKind.u64.wrap (IntKind.i64.wrap (s1 + s2))) 1))), h, jN⟩
 intro hc3 h
 refine z2b ?_
 refine cBx ?_
 refine bR ?_
 iterate 5 refine sX ?_
 refine z0p (t := 39) rfl ?_ ?_
 intro hb7; replace h := z0r hb7 h
 iterate 3 refine yX ?_
 obtain ⟨x8, hx8, h⟩ := obind h
 refine z1i rfl rfl rfl rfl rfl rfl (z1w Tryz.underlying71 z0w rfl rfl rfl hx8 rfl) ?_
 iterate 2 refine yX ?_
 obtain ⟨x9, hx9, h⟩ := obind h
 refine z1i rfl rfl rfl rfl rfl rfl (z5j rfl rfl zuk rfl (wkr (wkr .nil)) ⟨(z0q x8), ⟨rfl, trivial⟩⟩ (zyc x8 a1 x9 hx9) rfl) ?_
 refine yX ?_
 iterate 2 refine sX ?_
 refine eX ?_
 obtain rfl := eI h; exact z04 eK
 intro hb7; replace h := z0s hb7 h
 iterate 8 refine nX ?_
 iterate 2 refine sX ?_
 refine eX ?_
 obtain rfl := eI h; exact z04 eK
noncomputable def zi0 (a0 : (List (Str × V))) (a1 : Str) : Option (Int × Bool) :=
 (zrk a0 a1).bind fun x1 =>
 some (x1.1, x1.2)
theorem zv9 (a0 : (List (Str × V))) (a1 : Str) (r : (Int × Bool)) (h : zi0 a0 a1 = some r) : z0l Tryz.prog 92 [(PV.sl none 69 2 (List.map ofFld a0)), (z0k a1)] (PV.tup [(I64 r.1), (BO r.2)]) := by
 unfold zi0 at h
 refine z0c Tryz.func92 rfl Tryz.ntmps92 Tryz.results92 rfl (z0i ?_)
 change BW _ _ _ ⟨[(0, (PV.sl none 69 2 (List.map ofFld a0))), (1, (z0k a1))], [], _⟩ _
 refine bR ?_
 refine sX ?_
 refine eX ?_
 refine bR ?_
 iterate 2 refine sX ?_
 obtain ⟨x1, hx1, h⟩ := obind h
 refine sS rfl rfl rfl (z05 rfl Z08 rfl (wkr (wkr (wkr .nil))) ⟨(z06 z0q a0), ⟨rfl, ⟨rfl, trivial⟩⟩⟩ (Z1l a0 a1 x1 hx1) (z00 rfl (z00 rfl z03))) ?_
 iterate 3 refine sX ?_
 refine eX ?_
 obtain rfl := eI h; exact z04 eK
end Go.Proofs.YthidgpcbnieleaaGreatDoor
