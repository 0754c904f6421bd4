/- Pure functions, and that calls answer as they say. -/
import Derived.Test.YthidgpcbnieleaaGreatDoorG0
namespace Go.Proofs.YthidgpcbnieleaaGreatDoor
open Go Aw
set_option linter.unusedVariables false
set_option linter.unusedSimpArgs false
set_option maxRecDepth 20000
set_option maxHeartbeats 2000000
variable {ι : Type} {ρ : ι → Type}
noncomputable def zan : Option Int :=
 some 0
noncomputable def zam (x16 : Rec) (s19 : Bool) : Option Int :=
 bif s19 then (
 some 1
 ) else (
 (zit x16.fields).bind fun x21 =>
 some x21
 )
noncomputable def z86 (a0 : V) (s1 : Bool) : Option Int :=
 bif s1 then (
 (zio a0).bind fun x3 =>
 bif (x3 == 11) then (
 some 7
 ) else (
 bif (x3 == 0) then (
 some 6
 ) else (
 some 2
 )
 )
 ) else (
 bif (a0).isText then (
 bif (decide (((((a0).asText).length : Nat) : Int) > 65536)) then (
 some 2
 ) else (
 zan
 )
 ) else (
 bif (a0).isBytes then (
 bif (decide (((((a0).asBytes).length : Nat) : Int) > 65536)) then (
 some 2
 ) else (
 zan
 )
 ) else (
 bif (a0).isList then (
 bif (decide (((((a0).asList).length : Nat) : Int) > 4096)) then (
 some 2
 ) else (
 zan
 )
 ) else (
 bif (a0).isDict then (
 (zit ((a0).asDict)).bind fun x13 =>
 some x13
 ) else (
 bif (a0).isRec then (
 bif ((a0).asRec).isNone then (
 some 7
 ) else (
 ((a0).asRec).bind fun x16 =>
 (ziq x16.cls).bind fun x17 =>
 bif (!x17) then (
 some 8
 ) else (
 bif (decide (x16.ver < 1)) then (
 zam x16 true
 ) else (
 zam x16 (decide (x16.ver > 1000))
 )
 )
 )
 ) else (
 (zio a0).bind fun x23 =>
 bif (x23 == 0) then (
 some 6
 ) else (
 zan
 )
 )
 )
 )
 )
 )
 )
noncomputable def zp2 (a0 : V) (a1 a2 : Int) : Option Int :=
 bif (decide (a1 ≥ 16384)) then (
 z86 a0 true
 ) else (
 z86 a0 (decide (a2 > 64))
 )
theorem Z1z (a0 : V) (a1 a2 r : Int) (h : zp2 a0 a1 a2 = some r) : z0k Tryz.prog 86 [(ofV a0), (I64 a1), (I64 a2)] (I64 r) := by
 unfold zp2 at h
 refine z0e Tryz.func86 rfl Tryz.ntmps86 Tryz.results86 rfl (z0i ?_)
 change BW _ _ _ ⟨[(0, (ofV a0)), (1, (I64 a1)), (2, (I64 a2))], [], _⟩ _
 refine bR ?_
 refine eX ?_
 refine z0b ?_
 refine z2b (ι := Bool) (fun i => z86 a0 i = some r) (fun i => [(0, (ofV a0)), (18, (BO i))]) (fun i => []) ?_ ?_ ?_
 intro i; exact ⟨lbE rfl, ⟨(z0c (ids_V _)), ⟨(z0c rfl), trivial⟩⟩, trivial⟩
 rintro s1 h; replace h : z86 a0 s1 = some r := h; unfold z86 at h
 change BW _ _ _ ⟨[(0, (ofV a0)), (18, (BO s1))], [], _⟩ _
 refine cX h rfl ?_ ?_
 intro hc2 h
 refine z0b ?_
 refine bR ?_
 refine sX ?_
 obtain ⟨x3, hx3, h⟩ := obind h
 refine sS rfl rfl rfl (z05 rfl ztp rfl (wkr .nil) ⟨(ids_V a0), trivial⟩ (zrn a0 x3 hx3) rfl) (z0d ?_)
 refine cBx ?_
 refine z0m ?_
 refine cBx ?_
 refine bR ?_
 refine sX ?_
 refine eX ?_
 refine cX h rfl ?_ ?_
 intro hc4 h
 refine bR ?_
 refine eX ?_
 obtain rfl := eI h; exact z04 eK
 intro hc4 h
 refine bR ?_
 refine sX ?_
 refine eX ?_
 refine cX h rfl ?_ ?_
 intro hc5 h
 refine bR ?_
 refine eX ?_
 obtain rfl := eI h; exact z04 eK
 intro hc5 h
 refine z09 ?_
 refine cBx ?_
 refine bR ?_
 refine eX ?_
 obtain rfl := eI h; exact z04 eK
 intro hc2 h
 refine z09 ?_
 refine cBx ?_
 refine jX (ι := Unit) (fun i => zan = some r) (fun i => []) (fun i => []) ?_ ?_
 rintro ⟨⟩ h; replace h : zan = some r := h; unfold zan at h
 change BW _ _ _ ⟨[], [], _⟩ _
 refine bR ?_
 refine eX ?_
 obtain rfl := eI h; exact z04 eK
 refine bR ?_
 refine eX ?_
 refine z0m ?_
 refine cBx ?_
 refine bR ?_
 refine sS rfl rfl rfl (zaa rfl rfl) ?_
 refine sX ?_
 refine eX ?_
 refine cX h rfl ?_ ?_
 intro hc6 h
 refine bR ?_
 refine eX ?_
 refine bR ?_
 refine sX ?_
 refine sS rfl rfl rfl (z48 (s := ((a0).asText)) Tryz.underlying9 rfl rfl) ?_
 refine eX ?_
 refine cX h rfl ?_ ?_
 intro hc7 h
 refine bR ?_
 refine eX ?_
 obtain rfl := eI h; exact z04 eK
 intro hc7 h
 refine z09 ?_
 exact ⟨rfl, (), h, jN⟩
 intro hc6 h
 refine bR ?_
 refine sS rfl rfl rfl (z6i rfl rfl) ?_
 refine sX ?_
 refine eX ?_
 refine cX h rfl ?_ ?_
 intro hc8 h
 refine bR ?_
 refine eX ?_
 refine bR ?_
 iterate 2 refine sX ?_
 refine eX ?_
 refine cX h rfl ?_ ?_
 intro hc9 h
 refine bR ?_
 refine eX ?_
 obtain rfl := eI h; exact z04 eK
 intro hc9 h
 refine z09 ?_
 exact ⟨rfl, (), h, jN⟩
 intro hc8 h
 refine bR ?_
 refine sS rfl rfl rfl (z1u rfl rfl) ?_
 refine sX ?_
 refine eX ?_
 refine cX h rfl ?_ ?_
 intro hc10 h
 refine bR ?_
 refine eX ?_
 refine bR ?_
 iterate 2 refine sX ?_
 refine eX ?_
 refine cX h rfl ?_ ?_
 intro hc11 h
 refine bR ?_
 refine eX ?_
 obtain rfl := eI h; exact z04 eK
 intro hc11 h
 refine z09 ?_
 exact ⟨rfl, (), h, jN⟩
 intro hc10 h
 refine bR ?_
 refine sS rfl rfl rfl (z2r rfl rfl) ?_
 refine sX ?_
 refine eX ?_
 refine cX h rfl ?_ ?_
 intro hc12 h
 refine bR ?_
 refine eX ?_
 refine bR ?_
 refine sX ?_
 obtain ⟨x13, hx13, h⟩ := obind h
 refine sS rfl rfl rfl (z05 rfl zvn rfl (wkr .nil) ⟨(z07 z0s ((a0).asDict)), trivial⟩ (zz9 ((a0).asDict) x13 hx13) rfl) ?_
 refine eX ?_
 obtain rfl := eI h; exact z04 eK
 intro hc12 h
 refine bR ?_
 refine sS rfl rfl rfl (z39 rfl rfl) ?_
 refine sX ?_
 refine eX ?_
 refine cX h rfl ?_ ?_
 intro hc14 h
 refine bR ?_
 refine eX ?_
 refine z0b ?_
 refine z0m ?_
 refine cBx ?_
 refine bR ?_
 refine sX ?_
 refine sS rfl rfl rfl (zdu Tryz.underlying73 rfl rfl) ?_
 refine eX ?_
 refine cX h rfl ?_ ?_
 intro hc15 h
 refine bR ?_
 refine eX ?_
 obtain rfl := eI h; exact z04 eK
 intro hc15 h
 refine bR ?_
 refine sX ?_
 obtain ⟨x16, hx16, h⟩ := obind h
 refine sS rfl rfl rfl (z1k rfl rfl hx16) ?_
 iterate 2 refine sX ?_
 obtain ⟨x17, hx17, h⟩ := obind h
 refine sS rfl rfl rfl (z05 rfl zvm rfl (wkr .nil) ⟨rfl, trivial⟩ (zz4 x16.cls x17 hx17) rfl) ?_
 refine sX ?_
 refine eX ?_
 refine cX h rfl ?_ ?_
 intro hc18 h
 refine bR ?_
 refine eX ?_
 obtain rfl := eI h; exact z04 eK
 intro hc18 h
 refine z2b (ι := Bool) (fun i => zam x16 i = some r) (fun i => [(11, (ofRecP (a0).asRec)), (65, (BO i))]) (fun i => []) ?_ ?_ ?_
 intro i; exact ⟨lbE rfl, ⟨(z0c (zf6 _)), ⟨(z0c rfl), trivial⟩⟩, trivial⟩
 rintro s19 h; replace h : zam x16 s19 = some r := h; unfold zam at h
 change BW _ _ _ ⟨[(11, (ofRecP (a0).asRec)), (65, (BO s19))], [], _⟩ _
 refine cX h rfl ?_ ?_
 intro hc20 h
 refine bR ?_
 refine eX ?_
 obtain rfl := eI h; exact z04 eK
 intro hc20 h
 refine z09 ?_
 refine cBx ?_
 refine bR ?_
 refine sX ?_
 refine sS rfl rfl rfl (z1k rfl rfl hx16) ?_
 iterate 2 refine sX ?_
 obtain ⟨x21, hx21, h⟩ := obind h
 refine sS rfl rfl rfl (z05 rfl zvn rfl (wkr .nil) ⟨(z07 z0s x16.fields), trivial⟩ (zz9 x16.fields x21 hx21) rfl) ?_
 refine eX ?_
 obtain rfl := eI h; exact z04 eK
 refine z0g ?_
 refine sX ?_
 refine sS rfl rfl rfl (z1k rfl rfl hx16) ?_
 iterate 4 refine sX ?_
 refine z0j (t := 71) rfl ?_ ?_
 intro hb22; replace h := z0o hb22 h
 iterate 5 refine nX ?_
 refine sX ?_
 refine sX (z0d ?_)
 exact ⟨rfl, true, h, jN⟩
 intro hb22; replace h := z0p hb22 h
 refine yX ?_
 refine z1h rfl rfl rfl rfl rfl rfl (z1k rfl rfl hx16) ?_
 iterate 3 refine yX ?_
 refine sX ?_
 refine sX (z0d ?_)
 exact ⟨rfl, (decide (x16.ver > 1000)), h, jN⟩
 intro hc14 h
 refine bR ?_
 refine eX ?_
 refine bR ?_
 refine sX ?_
 obtain ⟨x23, hx23, h⟩ := obind h
 refine sS rfl rfl rfl (z05 rfl ztp rfl (wkr .nil) ⟨(ids_V a0), trivial⟩ (zrn a0 x23 hx23) rfl) ?_
 refine eX ?_
 refine cX h rfl ?_ ?_
 intro hc24 h
 refine bR ?_
 refine eX ?_
 obtain rfl := eI h; exact z04 eK
 intro hc24 h
 refine z09 ?_
 exact ⟨rfl, (), h, jN⟩
 refine z0g ?_
 iterate 3 refine sX ?_
 refine z0j (t := 15) rfl ?_ ?_
 intro hb25; replace h := z0o hb25 h
 iterate 2 refine nX ?_
 refine sX (z0d ?_)
 exact ⟨rfl, true, h, jN⟩
 intro hb25; replace h := z0p hb25 h
 iterate 2 refine yX ?_
 refine sX (z0d ?_)
 exact ⟨rfl, (decide (a2 > 64)), h, jN⟩
noncomputable def z5f (r_q0h : S_value_count → V → Int → Option (Bool × S_value_count)) (a1 : (List (Str × V))) (a2 : Int) (g1 : Nat → Int → Int → Int → Option (Bool × S_value_count)) (s1 : Nat) (s2 s3 s4 : Int) : Option (Bool × S_value_count) :=
 bif (decide (((s1 : Nat) : Int) < (((a1).length : Nat) : Int))) then (
 ((a1)[s1]?).bind fun x7 =>
 (r_q0h (S_value_count.mk s2 s3 s4) x7.2 (IntKind.i64.wrap (a2 + 1))).bind fun x8 =>
 bif (!x8.1) then (
 some (false, (x8.2))
 ) else (
 g1 (s1 + 1) ((x8.2).f_n) ((x8.2).f_deep) ((x8.2).f_why)
 )
 ) else (
 some (true, (S_value_count.mk s2 s3 s4))
 )
theorem za2 (r_q0h : OF ρ → S_value_count → V → Int → Option (Bool × S_value_count)) (h_r_q0h : ∀ y0 y1 y2, CM (fun G => r_q0h G y0 y1 y2)) (g1 : OF ρ → Nat → Int → Int → Int → Option (Bool × S_value_count)) (h_g1 : ∀ y0 y1 y2 y3, CM (fun G => g1 G y0 y1 y2 y3)) (a1 : (List (Str × V))) (a2 : Int) (s1 : Nat) (s2 s3 s4 : Int) : CM (fun G : OF ρ => z5f (r_q0h G) a1 a2 (g1 G) s1 s2 s3 s4) := by
 simp only [z5f]
 repeat (first | exact z0h | exact h_r_q0h _ _ _ | exact h_g1 _ _ _ _ | refine z14 ?_ ?_ | refine z15 ?_ (fun _ => ?_))
noncomputable def zdl (r_q0h : S_value_count → V → Int → Option (Bool × S_value_count)) (a1 : (List (Str × V))) (a2 : Int) (s1 : Nat) (s2 s3 s4 : Int) : Option (Bool × S_value_count) :=
 z3n (ι := (Nat × Int × Int × Int)) (ρ := fun _ => (Bool × S_value_count)) (fun g i => z5f r_q0h a1 a2 (fun s1 s2 s3 s4 => g (s1, s2, s3, s4)) i.1 i.2.1 i.2.2.1 i.2.2.2) (s1, s2, s3, s4)
theorem zgh (r_q0h : S_value_count → V → Int → Option (Bool × S_value_count)) (a1 : (List (Str × V))) (a2 : Int) (s1 : Nat) (s2 s3 s4 : Int) : zdl r_q0h a1 a2 s1 s2 s3 s4 = z5f r_q0h a1 a2 (zdl r_q0h a1 a2) s1 s2 s3 s4 :=
 z1f (ι := (Nat × Int × Int × Int)) (ρ := fun _ => (Bool × S_value_count)) (Φ := fun g i => z5f r_q0h a1 a2 (fun s1 s2 s3 s4 => g (s1, s2, s3, s4)) i.1 i.2.1 i.2.2.1 i.2.2.2) (fun i => za2 (ι := (Nat × Int × Int × Int)) (ρ := fun _ => (Bool × S_value_count)) (fun _ => r_q0h) (fun _ _ _ => z0h) (fun g => (fun s1 s2 s3 s4 => g (s1, s2, s3, s4))) (fun _ _ _ _ => z1j) a1 a2 i.1 i.2.1 i.2.2.1 i.2.2.2) (s1, s2, s3, s4)
theorem zob (r_q0h : OF ρ → S_value_count → V → Int → Option (Bool × S_value_count)) (h_r_q0h : ∀ y0 y1 y2, CM (fun G => r_q0h G y0 y1 y2)) (a1 : (List (Str × V))) (a2 : Int) (s1 : Nat) (s2 s3 s4 : Int) : CM (fun G : OF ρ => zdl (r_q0h G) a1 a2 s1 s2 s3 s4) :=
 z87 (κ := (Nat × Int × Int × Int)) (τ := fun _ => (Bool × S_value_count)) (Φ := fun G g i => z5f (r_q0h G) a1 a2 (fun s1 s2 s3 s4 => g (s1, s2, s3, s4)) i.1 i.2.1 i.2.2.1 i.2.2.2) (fun g i => za2 r_q0h h_r_q0h (fun _ => (fun s1 s2 s3 s4 => g (s1, s2, s3, s4))) (fun _ _ _ _ => z0h) a1 a2 i.1 i.2.1 i.2.2.1 i.2.2.2) (fun G i => za2 (ι := (Nat × Int × Int × Int)) (ρ := fun _ => (Bool × S_value_count)) (fun _ => r_q0h G) (fun _ _ _ => z0h) (fun g => (fun s1 s2 s3 s4 => g (s1, s2, s3, s4))) (fun _ _ _ _ => z1j) a1 a2 i.1 i.2.1 i.2.2.1 i.2.2.2) (s1, s2, s3, s4)
noncomputable def zji (r_q0n : S_value_count → (List (Str × V)) → Int → Option (Bool × S_value_count)) (r_q0h : S_value_count → V → Int → Option (Bool × S_value_count)) (a0 : S_value_count) (a1 : (List (Str × V))) (a2 : Int) : Option (Bool × S_value_count) :=
 zdl r_q0h a1 a2 0 a0.f_n a0.f_deep a0.f_why
theorem zud (r_q0n : OF ρ → S_value_count → (List (Str × V)) → Int → Option (Bool × S_value_count)) (h_r_q0n : ∀ y0 y1 y2, CM (fun G => r_q0n G y0 y1 y2)) (r_q0h : OF ρ → S_value_count → V → Int → Option (Bool × S_value_count)) (h_r_q0h : ∀ y0 y1 y2, CM (fun G => r_q0h G y0 y1 y2)) (a0 : S_value_count) (a1 : (List (Str × V))) (a2 : Int) : CM (fun G : OF ρ => zji (r_q0n G) (r_q0h G) a0 a1 a2) := by
 simp only [zji]
 repeat (first | exact z0h | exact h_r_q0n _ _ _ | exact h_r_q0h _ _ _ | apply zob | refine z14 ?_ ?_ | refine z15 ?_ (fun _ => ?_) | intro _ | assumption)
noncomputable def zdn (s3 s4 s5 : Int) : Option (Bool × S_value_count) :=
 some (true, (S_value_count.mk s3 s4 s5))
noncomputable def z5g (r_q0h : S_value_count → V → Int → Option (Bool × S_value_count)) (a1 : V) (a2 : Int) (g1 : Nat → Int → Int → Int → Option (Bool × S_value_count)) (s7 : Nat) (s8 s9 s10 : Int) : Option (Bool × S_value_count) :=
 bif (decide (((s7 : Nat) : Int) < ((((a1).asList).length : Nat) : Int))) then (
 (((a1).asList)[s7]?).bind fun x13 =>
 (r_q0h (S_value_count.mk s8 s9 s10) x13 (IntKind.i64.wrap (a2 + 1))).bind fun x14 =>
 bif (!x14.1) then (
 some (false, (x14.2))
 ) else (
 g1 (s7 + 1) ((x14.2).f_n) ((x14.2).f_deep) ((x14.2).f_why)
 )
 ) else (
 zdn s8 s9 s10
 )
theorem za3 (r_q0h : OF ρ → S_value_count → V → Int → Option (Bool × S_value_count)) (h_r_q0h : ∀ y0 y1 y2, CM (fun G => r_q0h G y0 y1 y2)) (g1 : OF ρ → Nat → Int → Int → Int → Option (Bool × S_value_count)) (h_g1 : ∀ y0 y1 y2 y3, CM (fun G => g1 G y0 y1 y2 y3)) (a1 : V) (a2 : Int) (s7 : Nat) (s8 s9 s10 : Int) : CM (fun G : OF ρ => z5g (r_q0h G) a1 a2 (g1 G) s7 s8 s9 s10) := by
 simp only [z5g]
 repeat (first | exact z0h | exact h_r_q0h _ _ _ | exact h_g1 _ _ _ _ | apply q0h_j1_cm | refine z14 ?_ ?_ | refine z15 ?_ (fun _ => ?_) | intro _ | assumption)
noncomputable def zdm (r_q0h : S_value_count → V → Int → Option (Bool × S_value_count)) (a1 : V) (a2 : Int) (s7 : Nat) (s8 s9 s10 : Int) : Option (Bool × S_value_count) :=
 z3n (ι := (Nat × Int × Int × Int)) (ρ := fun _ => (Bool × S_value_count)) (fun g i => z5g r_q0h a1 a2 (fun s7 s8 s9 s10 => g (s7, s8, s9, s10)) i.1 i.2.1 i.2.2.1 i.2.2.2) (s7, s8, s9, s10)
theorem zgi (r_q0h : S_value_count → V → Int → Option (Bool × S_value_count)) (a1 : V) (a2 : Int) (s7 : Nat) (s8 s9 s10 : Int) : zdm r_q0h a1 a2 s7 s8 s9 s10 = z5g r_q0h a1 a2 (zdm r_q0h a1 a2) s7 s8 s9 s10 :=
 z1f (ι := (Nat × Int × Int × Int)) (ρ := fun _ => (Bool × S_value_count)) (Φ := fun g i => z5g r_q0h a1 a2 (fun s7 s8 s9 s10 => g (s7, s8, s9, s10)) i.1 i.2.1 i.2.2.1 i.2.2.2) (fun i => za3 (ι := (Nat × Int × Int × Int)) (ρ := fun _ => (Bool × S_value_count)) (fun _ => r_q0h) (fun _ _ _ => z0h) (fun g => (fun s7 s8 s9 s10 => g (s7, s8, s9, s10))) (fun _ _ _ _ => z1j) a1 a2 i.1 i.2.1 i.2.2.1 i.2.2.2) (s7, s8, s9, s10)
theorem zod (r_q0h : OF ρ → S_value_count → V → Int → Option (Bool × S_value_count)) (h_r_q0h : ∀ y0 y1 y2, CM (fun G => r_q0h G y0 y1 y2)) (a1 : V) (a2 : Int) (s7 : Nat) (s8 s9 s10 : Int) : CM (fun G : OF ρ => zdm (r_q0h G) a1 a2 s7 s8 s9 s10) :=
 z87 (κ := (Nat × Int × Int × Int)) (τ := fun _ => (Bool × S_value_count)) (Φ := fun G g i => z5g (r_q0h G) a1 a2 (fun s7 s8 s9 s10 => g (s7, s8, s9, s10)) i.1 i.2.1 i.2.2.1 i.2.2.2) (fun g i => za3 r_q0h h_r_q0h (fun _ => (fun s7 s8 s9 s10 => g (s7, s8, s9, s10))) (fun _ _ _ _ => z0h) a1 a2 i.1 i.2.1 i.2.2.1 i.2.2.2) (fun G i => za3 (ι := (Nat × Int × Int × Int)) (ρ := fun _ => (Bool × S_value_count)) (fun _ => r_q0h G) (fun _ _ _ => z0h) (fun g => (fun s7 s8 s9 s10 => g (s7, s8, s9, s10))) (fun _ _ _ _ => z1j) a1 a2 i.1 i.2.1 i.2.2.1 i.2.2.2) (s7, s8, s9, s10)
noncomputable def zjj (r_q0n : S_value_count → (List (Str × V)) → Int → Option (Bool × S_value_count)) (r_q0h : S_value_count → V → Int → Option (Bool × S_value_count)) (a0 : S_value_count) (a1 : V) (a2 : Int) : Option (Bool × S_value_count) :=
 (zp2 a1 a0.f_n a2).bind fun x1 =>
 bif (x1 != 0) then (
 some (false, (S_value_count.mk a0.f_n a0.f_deep x1))
 ) else (
 bif (a1).isList then (
 zdm r_q0h a1 a2 0 (IntKind.i64.wrap (a0.f_n + 1)) (if a2 > a0.f_deep then a2 else a0.f_deep) x1
 ) else (
 bif (a1).isDict then (
 (r_q0n (S_value_count.mk (IntKind.i64.wrap (a0.f_n + 1)) (if a2 > a0.f_deep then a2 else a0.f_deep) x1) ((a1).asDict) a2).bind fun x17 =>
 some (x17.1, (x17.2))
 ) else (
 bif (a1).isRec then (
 ((a1).asRec).bind fun x19 =>
 (r_q0n (S_value_count.mk (IntKind.i64.wrap (a0.f_n + 1)) (if a2 > a0.f_deep then a2 else a0.f_deep) x1) x19.fields a2).bind fun x20 =>
 some (x20.1, (x20.2))
 ) else (
 zdn (IntKind.i64.wrap (a0.f_n + 1)) (if a2 > a0.f_deep then a2 else a0.f_deep) x1
 )
 )
 )
 )
theorem zue (r_q0n : OF ρ → S_value_count → (List (Str × V)) → Int → Option (Bool × S_value_count)) (h_r_q0n : ∀ y0 y1 y2, CM (fun G => r_q0n G y0 y1 y2)) (r_q0h : OF ρ → S_value_count → V → Int → Option (Bool × S_value_count)) (h_r_q0h : ∀ y0 y1 y2, CM (fun G => r_q0h G y0 y1 y2)) (a0 : S_value_count) (a1 : V) (a2 : Int) : CM (fun G : OF ρ => zjj (r_q0n G) (r_q0h G) a0 a1 a2) := by
 simp only [zjj]
 repeat (first | exact z0h | exact h_r_q0n _ _ _ | exact h_r_q0h _ _ _ | apply q0h_j1_cm | apply zod | refine z14 ?_ ?_ | refine z15 ?_ (fun _ => ?_) | intro _ | assumption)
inductive C_q0n where
 | k_q0n (a0 : S_value_count) (a1 : (List (Str × V))) (a2 : Int)
 | k_q0h (a0 : S_value_count) (a1 : V) (a2 : Int)
def C_q0n.R : C_q0n → Type
 | .k_q0n _ _ _ => (Bool × S_value_count)
 | .k_q0h _ _ _ => (Bool × S_value_count)
noncomputable def C_q0n.F (g : ∀ i : C_q0n, Option i.R) : ∀ i : C_q0n, Option i.R
 | .k_q0n a0 a1 a2 => zji (fun a0 a1 a2 => g (.k_q0n a0 a1 a2)) (fun a0 a1 a2 => g (.k_q0h a0 a1 a2)) a0 a1 a2
 | .k_q0h a0 a1 a2 => zjj (fun a0 a1 a2 => g (.k_q0n a0 a1 a2)) (fun a0 a1 a2 => g (.k_q0h a0 a1 a2)) a0 a1 a2
noncomputable def zmk (a0 : S_value_count) (a1 : (List (Str × V))) (a2 : Int) : Option (Bool × S_value_count) := z3n C_q0n.F (.k_q0n a0 a1 a2)
noncomputable def zh0 (a0 : S_value_count) (a1 : V) (a2 : Int) : Option (Bool × S_value_count) := z3n C_q0n.F (.k_q0h a0 a1 a2)
abbrev gg1 := fun (g : ∀ i : C_q0n, Option i.R) a0 a1 a2 => g (.k_q0n a0 a1 a2)
theorem hh1 (a0 a1 a2 : _) : CM (ρ := C_q0n.R) (fun g => g (C_q0n.k_q0n a0 a1 a2)) := z1j
abbrev gg2 := fun (g : ∀ i : C_q0n, Option i.R) a0 a1 a2 => g (.k_q0h a0 a1 a2)
theorem hh2 (a0 a1 a2 : _) : CM (ρ := C_q0n.R) (fun g => g (C_q0n.k_q0h a0 a1 a2)) := z1j
theorem C_q0n.cm (i : C_q0n) : CM (fun g : (∀ i : C_q0n, Option i.R) => C_q0n.F g i) := by
 cases i with
 | k_q0n a0 a1 a2 => exact zud gg1 hh1 gg2 hh2 a0 a1 a2
 | k_q0h a0 a1 a2 => exact zue gg1 hh1 gg2 hh2 a0 a1 a2
theorem Z48 (a0 : S_value_count) (a1 : (List (Str × V))) (a2 : Int) : zmk a0 a1 a2 = zji zmk zh0 a0 a1 a2 := z1f C_q0n.cm (.k_q0n a0 a1 a2)
theorem Z49 (a0 : S_value_count) (a1 : V) (a2 : Int) : zh0 a0 a1 a2 = zjj zmk zh0 a0 a1 a2 := z1f C_q0n.cm (.k_q0h a0 a1 a2)
def C_q0n.Q : ∀ i : C_q0n, i.R → Prop
 | .k_q0n a0 a1 a2 => fun (r : (Bool × S_value_count)) => z89 Tryz.prog 87 [(PV.rf 0 0), (PV.sl none 69 2 (List.map ofFld a1)), (I64 a2)] (.box 109 [(I64 a0.f_n), (I64 a0.f_deep), (I64 a0.f_why)]) (BO r.1) (.box 109 [(I64 ((r.2).f_n)), (I64 ((r.2).f_deep)), (I64 ((r.2).f_why))])
 | .k_q0h a0 a1 a2 => fun (r : (Bool × S_value_count)) => z89 Tryz.prog 50 [(PV.rf 0 0), (ofV a1), (I64 a2)] (.box 109 [(I64 a0.f_n), (I64 a0.f_deep), (I64 a0.f_why)]) (BO r.1) (.box 109 [(I64 ((r.2).f_n)), (I64 ((r.2).f_deep)), (I64 ((r.2).f_why))])
theorem z9w (r_q0n : S_value_count → (List (Str × V)) → Int → Option (Bool × S_value_count)) (c_q0n : ∀ (a0 : S_value_count) (a1 : (List (Str × V))) (a2 : Int) r, r_q0n a0 a1 a2 = some r → z89 Tryz.prog 87 [(PV.rf 0 0), (PV.sl none 69 2 (List.map ofFld a1)), (I64 a2)] (.box 109 [(I64 a0.f_n), (I64 a0.f_deep), (I64 a0.f_why)]) (BO r.1) (.box 109 [(I64 ((r.2).f_n)), (I64 ((r.2).f_deep)), (I64 ((r.2).f_why))])) (r_q0h : S_value_count → V → Int → Option (Bool × S_value_count)) (c_q0h : ∀ (a0 : S_value_count) (a1 : V) (a2 : Int) r, r_q0h a0 a1 a2 = some r → z89 Tryz.prog 50 [(PV.rf 0 0), (ofV a1), (I64 a2)] (.box 109 [(I64 a0.f_n), (I64 a0.f_deep), (I64 a0.f_why)]) (BO r.1) (.box 109 [(I64 ((r.2).f_n)), (I64 ((r.2).f_deep)), (I64 ((r.2).f_why))])) (a0 : S_value_count) (a1 : (List (Str × V))) (a2 : Int) (r : (Bool × S_value_count)) (h : zji r_q0n r_q0h a0 a1 a2 = some r) : z89 Tryz.prog 87 [(PV.rf 0 0), (PV.sl none 69 2 (List.map ofFld a1)), (I64 a2)] (.box 109 [(I64 a0.f_n), (I64 a0.f_deep), (I64 a0.f_why)]) (BO r.1) (.box 109 [(I64 ((r.2).f_n)), (I64 ((r.2).f_deep)), (I64 ((r.2).f_why))]) := by
 unfold zji at h
 refine z0e Tryz.func87 rfl Tryz.ntmps87 Tryz.results87 rfl (z0i ?_)
 change BW _ _ _ ⟨[(0, (PV.rf 0 0)), (1, (PV.sl none 69 2 (List.map ofFld a1))), (2, (I64 a2))], [.box 109 [(I64 a0.f_n), (I64 a0.f_deep), (I64 a0.f_why)]], _⟩ _
 refine bR ?_
 refine eX ?_
 refine z0b ?_
 refine bR ?_
 iterate 2 refine sX ?_
 refine eX ?_
 refine z0m ?_
 refine cBx ?_
 unfold zdl at h
 refine lX (σ := (Nat × Int × Int × Int)) (fun i => [(0, (PV.rf 0 0)), (2, (I64 a2)), (9, (PV.sl none 69 2 (List.map ofFld a1))), (10, (I64 ((((a1).length : Nat) : Int)))), (11, (I64 (((i.1 : Nat) : Int))))]) (fun i => [.box 109 [(I64 i.2.1), (I64 i.2.2.1), (I64 i.2.2.2)]]) (0, a0.f_n, a0.f_deep, a0.f_why) h ?_ ?_
 exact jN
 rintro g1_f ⟨s1, s2, s3, s4⟩ h; replace h : z5f r_q0h a1 a2 (fun y0 y1 y2 y3 => g1_f (y0, y1, y2, y3)) s1 s2 s3 s4 = some r := h; unfold z5f at h
 change BW _ _ _ ⟨[(0, (PV.rf 0 0)), (2, (I64 a2)), (9, (PV.sl none 69 2 (List.map ofFld a1))), (10, (I64 ((((a1).length : Nat) : Int)))), (11, (I64 (((s1 : Nat) : Int))))], [.box 109 [(I64 s2), (I64 s3), (I64 s4)]], _⟩ _
 refine bR ?_
 refine eX ?_
 refine z0b ?_
 refine z4u (t := 9) rfl fun hb6 => ?_
 try rw [List.length_map] at hb6
 refine cX h rfl ?_ ?_
 intro hc5 h
 have hc5_ := of_decide_eq_true hc5
 refine z09 ?_
 refine cBx ?_
 refine z0b ?_
 refine z0m ?_
 refine cBx ?_
 refine bR ?_
 obtain ⟨x7, hx7, h⟩ := obind h
 refine sS rfl rfl rfl (z1m (i := s1) Tryz.underlying71 z0v rfl rfl rfl hx7 rfl) ?_
 refine sX ?_
 refine sS rfl rfl rfl ((z1t z0v rfl).cast (H'' := [.box 109 [(I64 s2), (I64 s3), (I64 s4)], .box 69 [(z0n []), (ofV V.nil)]]) rfl (by simp only [mk_nil]; rfl)) ?_
 refine z1g rfl rfl (z18 z0v rfl rfl rfl rfl rfl rfl (lbE rfl) (by show List.all [(z0n x7.1), (ofV x7.2)] z6u = true; simp only [List.all_cons, List.all_nil, zd6, z52, Bool.and_true, Bool.true_and]; try rfl)) ?_
 refine z0d ?_
 refine cBx ?_
 refine bR ?_
 iterate 5 refine sX ?_
 obtain ⟨x8, hx8, h⟩ := obind h
 refine sS rfl rfl rfl (z79 0 rfl zxu rfl (wkr (wkr (wkr .nil))) (.box (.val (ids_V x7.2) (.val rfl .nil))) rfl (z0q rfl (z0q rfl (z0q rfl rfl))) (c_q0h (S_value_count.mk s2 s3 s4) x7.2 (IntKind.i64.wrap (a2 + 1)) x8 hx8) rfl (z0q rfl (z0q rfl (z0q rfl rfl)))) ?_
 refine eX ?_
 refine cX h rfl ?_ ?_
 intro hc9 h
 refine bR ?_
 refine eX ?_
 obtain rfl := eI h; exact z04 ⟨_, rfl, zcx (y := (BO false)) (e := .box 109 [(I64 (((x8.2)).f_n)), (I64 (((x8.2)).f_deep)), (I64 (((x8.2)).f_why))]) (Wk.refl _) rfl rfl (z0q rfl (z0q rfl (z0q rfl rfl))) ⟨rfl, rfl⟩⟩
 intro hc9 h
 refine z09 ?_
 refine cBx ?_
 refine z0g ?_
 refine sS rfl rfl rfl (z2p (k := s1) (c := 1) rfl rfl rfl (by omega)) ?_
 refine sX (z0d ?_)
 exact ⟨rfl, ((s1 + 1), (x8.2).f_n, (x8.2).f_deep, (x8.2).f_why), h, jN⟩
 intro hc5 h
 refine z2c ?_
 refine cBx ?_
 refine bR ?_
 refine eX ?_
 obtain rfl := eI h; exact z04 ⟨_, rfl, zcx (y := (BO true)) (e := .box 109 [(I64 (((S_value_count.mk s2 s3 s4)).f_n)), (I64 (((S_value_count.mk s2 s3 s4)).f_deep)), (I64 (((S_value_count.mk s2 s3 s4)).f_why))]) (Wk.refl _) rfl rfl (z0q rfl (z0q rfl (z0q rfl rfl))) ⟨rfl, rfl⟩⟩
theorem z8r (r_q0n : S_value_count → (List (Str × V)) → Int → Option (Bool × S_value_count)) (c_q0n : ∀ (a0 : S_value_count) (a1 : (List (Str × V))) (a2 : Int) r, r_q0n a0 a1 a2 = some r → z89 Tryz.prog 87 [(PV.rf 0 0), (PV.sl none 69 2 (List.map ofFld a1)), (I64 a2)] (.box 109 [(I64 a0.f_n), (I64 a0.f_deep), (I64 a0.f_why)]) (BO r.1) (.box 109 [(I64 ((r.2).f_n)), (I64 ((r.2).f_deep)), (I64 ((r.2).f_why))])) (r_q0h : S_value_count → V → Int → Option (Bool × S_value_count)) (c_q0h : ∀ (a0 : S_value_count) (a1 : V) (a2 : Int) r, r_q0h a0 a1 a2 = some r → z89 Tryz.prog 50 [(PV.rf 0 0), (ofV a1), (I64 a2)] (.box 109 [(I64 a0.f_n), (I64 a0.f_deep), (I64 a0.f_why)]) (BO r.1) (.box 109 [(I64 ((r.2).f_n)), (I64 ((r.2).f_deep)), (I64 ((r.2).f_why))])) (a0 : S_value_count) (a1 : V) (a2 : Int) (r : (Bool × S_value_count)) (h : zjj r_q0n r_q0h a0 a1 a2 = some r) : z89 Tryz.prog 50 [(PV.rf 0 0), (ofV a1), (I64 a2)] (.box 109 [(I64 a0.f_n), (I64 a0.f_deep), (I64 a0.f_why)]) (BO r.1) (.box 109 [(I64 ((r.2).f_n)), (I64 ((r.2).f_deep)), (I64 ((r.2).f_why))]) := by
 unfold zjj at h
 refine z0e Tryz.func50 rfl Tryz.ntmps50 Tryz.results50 rfl (z0i ?_)
 change BW _ _ _ ⟨[(0, (PV.rf 0 0)), (1, (ofV a1)), (2, (I64 a2))], [.box 109 [(I64 a0.f_n), (I64 a0.f_deep), (I64 a0.f_why)]], _⟩ _
 refine bR ?_
 refine eX ?_
 refine z0b ?_
 refine bR ?_
 iterate 3 refine sX ?_
 refine sS rfl rfl rfl (z6k rfl rfl) ?_
 iterate 3 refine sX ?_
 obtain ⟨x1, hx1, h⟩ := obind h
 refine sS rfl rfl rfl (z05 rfl Z3d rfl (wkr (wkr (wkr .nil))) ⟨(ids_V a1), ⟨rfl, ⟨rfl, trivial⟩⟩⟩ (Z1z a1 a0.f_n a2 x1 hx1) rfl) ?_
 refine sS rfl rfl rfl (z6k rfl rfl) ?_
 refine sX ?_
 refine z1g rfl rfl (z18 Z0b rfl rfl rfl rfl rfl rfl (lbE rfl) rfl) ?_
 refine z0d ?_
 refine cBx ?_
 refine bR ?_
 refine sX ?_
 refine sS rfl rfl rfl (z6k rfl rfl) ?_
 iterate 2 refine sX ?_
 refine eX ?_
 refine cX h rfl ?_ ?_
 intro hc2 h
 refine bR ?_
 refine eX ?_
 obtain rfl := eI h; exact z04 ⟨_, rfl, zcx (y := (BO false)) (e := .box 109 [(I64 (((S_value_count.mk a0.f_n a0.f_deep x1)).f_n)), (I64 (((S_value_count.mk a0.f_n a0.f_deep x1)).f_deep)), (I64 (((S_value_count.mk a0.f_n a0.f_deep x1)).f_why))]) (Wk.refl _) rfl rfl (z0q rfl (z0q rfl (z0q rfl rfl))) ⟨rfl, rfl⟩⟩
 intro hc2 h
 refine z09 ?_
 refine cBx ?_
 refine bR ?_
 refine sX ?_
 refine sS rfl rfl rfl (z6k rfl rfl) ?_
 iterate 3 refine sX ?_
 refine sS rfl rfl rfl (z6k rfl rfl) ?_
 refine sX ?_
 refine z1g rfl rfl (z18 ztj rfl rfl rfl rfl rfl rfl (lbE rfl) rfl) ?_
 refine z0d ?_
 refine cBx ?_
 refine bR ?_
 iterate 2 refine sX ?_
 refine sS rfl rfl rfl (z6k rfl rfl) ?_
 iterate 3 refine sX ?_
 refine sS rfl rfl rfl (zss (args := []) rfl rfl rfl) ?_
 refine sS rfl rfl rfl (z6k rfl rfl) ?_
 refine sX ?_
 refine z1g rfl rfl (z18 ztj rfl rfl rfl rfl rfl rfl (lbE rfl) rfl) ?_
 refine z0d ?_
 refine cBx ?_
 refine jX (ι := (Int × Int × Int)) (fun i => zdn i.1 i.2.1 i.2.2 = some r) (fun i => [(0, (PV.rf 0 0))]) (fun i => [.box 109 [(I64 i.1), (I64 i.2.1), (I64 i.2.2)]]) ?_ ?_
 rintro ⟨s3, s4, s5⟩ h; replace h : zdn s3 s4 s5 = some r := h; unfold zdn at h
 change BW _ _ _ ⟨[(0, (PV.rf 0 0))], [.box 109 [(I64 s3), (I64 s4), (I64 s5)]], _⟩ _
 refine bR ?_
 refine eX ?_
 obtain rfl := eI h; exact z04 ⟨_, rfl, zcx (y := (BO true)) (e := .box 109 [(I64 (((S_value_count.mk s3 s4 s5)).f_n)), (I64 (((S_value_count.mk s3 s4 s5)).f_deep)), (I64 (((S_value_count.mk s3 s4 s5)).f_why))]) (Wk.refl _) rfl rfl (z0q rfl (z0q rfl (z0q rfl rfl))) ⟨rfl, rfl⟩⟩
 refine bR ?_
 refine eX ?_
 refine z0m ?_
 refine cBx ?_
 refine bR ?_
 refine sS rfl rfl rfl (z1u rfl rfl) ?_
 refine sX ?_
 refine eX ?_
 refine cX h rfl ?_ ?_
 intro hc6 h
 refine bR ?_
 refine eX ?_
 refine bR ?_
 iterate 2 refine sX ?_
 refine eX ?_
 refine z0m ?_
 refine cBx ?_
 unfold zdm at h
 refine lX (σ := (Nat × Int × Int × Int)) (fun i => [(0, (PV.rf 0 0)), (2, (I64 a2)), (47, (PV.sl none 20 1 (List.map ofV (a1).asList))), (48, (I64 (((((a1).asList).length : Nat) : Int)))), (49, (I64 (((i.1 : Nat) : Int))))]) (fun i => [.box 109 [(I64 i.2.1), (I64 i.2.2.1), (I64 i.2.2.2)]]) (0, (IntKind.i64.wrap (a0.f_n + 1)), (if a2 > a0.f_deep then a2 else a0.f_deep), x1) h ?_ ?_
 exact jN
 rintro g1_f ⟨s7, s8, s9, s10⟩ h; replace h : z5g r_q0h a1 a2 (fun y0 y1 y2 y3 => g1_f (y0, y1, y2, y3)) s7 s8 s9 s10 = some r := h; unfold z5g at h
 change BW _ _ _ ⟨[(0, (PV.rf 0 0)), (2, (I64 a2)), (47, (PV.sl none 20 1 (List.map ofV (a1).asList))), (48, (I64 (((((a1).asList).length : Nat) : Int)))), (49, (I64 (((s7 : Nat) : Int))))], [.box 109 [(I64 s8), (I64 s9), (I64 s10)]], _⟩ _
 refine bR ?_
 refine eX ?_
 refine z0b ?_
 refine z4u (t := 47) rfl fun hb12 => ?_
 try rw [List.length_map] at hb12
 refine cX h rfl ?_ ?_
 intro hc11 h
 have hc11_ := of_decide_eq_true hc11
 refine z09 ?_
 refine cBx ?_
 refine z0b ?_
 refine z0m ?_
 refine cBx ?_
 refine bR ?_
 obtain ⟨x13, hx13, h⟩ := obind h
 refine sS rfl rfl rfl (z1m (i := s7) Tryz.underlying67 z29 rfl rfl rfl hx13 rfl) ?_
 refine sS rfl rfl rfl (z44 (y := (ofV x13)) Tryz.underlying20 rfl rfl rfl (by rw [z0x]; rfl)) ?_
 refine eX ?_
 refine bR ?_
 iterate 4 refine sX ?_
 obtain ⟨x14, hx14, h⟩ := obind h
 refine sS rfl rfl rfl (z79 0 rfl zxu rfl (wkr (wkr (wkr .nil))) (.box (.val (ids_V x13) (.val rfl .nil))) rfl (z0q rfl (z0q rfl (z0q rfl rfl))) (c_q0h (S_value_count.mk s8 s9 s10) x13 (IntKind.i64.wrap (a2 + 1)) x14 hx14) rfl (z0q rfl (z0q rfl (z0q rfl rfl)))) ?_
 refine eX ?_
 refine cX h rfl ?_ ?_
 intro hc15 h
 refine bR ?_
 refine eX ?_
 obtain rfl := eI h; exact z04 ⟨_, rfl, zcx (y := (BO false)) (e := .box 109 [(I64 (((x14.2)).f_n)), (I64 (((x14.2)).f_deep)), (I64 (((x14.2)).f_why))]) (Wk.refl _) rfl rfl (z0q rfl (z0q rfl (z0q rfl rfl))) ⟨rfl, rfl⟩⟩
 intro hc15 h
 refine z09 ?_
 refine cBx ?_
 refine z0g ?_
 refine sS rfl rfl rfl (z2p (k := s7) (c := 1) rfl rfl rfl (by omega)) ?_
 refine sX (z0d ?_)
 exact ⟨rfl, ((s7 + 1), (x14.2).f_n, (x14.2).f_deep, (x14.2).f_why), h, jN⟩
 intro hc11 h
 refine z2c ?_
 exact ⟨rfl, (s8, s9, s10), h, jN⟩
 intro hc6 h
 refine bR ?_
 refine sS rfl rfl rfl (z2r rfl rfl) ?_
 refine sX ?_
 refine eX ?_
 refine cX h rfl ?_ ?_
 intro hc16 h
 refine bR ?_
 refine eX ?_
 refine bR ?_
 iterate 3 refine sX ?_
 obtain ⟨x17, hx17, h⟩ := obind h
 refine sS rfl rfl rfl (z79 0 rfl Z0v rfl (wkr (wkr (wkr .nil))) (.box (.val (z07 z0s ((a1).asDict)) (.val rfl .nil))) rfl (z0q rfl (z0q rfl (z0q rfl rfl))) (c_q0n (S_value_count.mk (IntKind.i64.wrap (a0.f_n + 1)) (if a2 > a0.f_deep then a2 else a0.f_deep) x1) ((a1).asDict) a2 x17 hx17) rfl (z0q rfl (z0q rfl (z0q rfl rfl)))) ?_
 refine eX ?_
 obtain rfl := eI h; exact z04 ⟨_, rfl, zcx (y := (BO x17.1)) (e := .box 109 [(I64 (((x17.2)).f_n)), (I64 (((x17.2)).f_deep)), (I64 (((x17.2)).f_why))]) (Wk.refl _) rfl rfl (z0q rfl (z0q rfl (z0q rfl rfl))) ⟨rfl, rfl⟩⟩
 intro hc16 h
 refine bR ?_
 refine sS rfl rfl rfl (z39 rfl rfl) ?_
 refine sX ?_
 refine eX ?_
 refine cX h rfl ?_ ?_
 intro hc18 h
 refine bR ?_
 refine eX ?_
 refine bR ?_
 iterate 2 refine sX ?_
 obtain ⟨x19, hx19, h⟩ := obind h
 refine sS rfl rfl rfl (z1k rfl rfl hx19) ?_
 iterate 3 refine sX ?_
 obtain ⟨x20, hx20, h⟩ := obind h
 refine sS rfl rfl rfl (z79 0 rfl Z0v rfl (wkr (wkr (wkr .nil))) (.box (.val (z07 z0s x19.fields) (.val rfl .nil))) rfl (z0q rfl (z0q rfl (z0q rfl rfl))) (c_q0n (S_value_count.mk (IntKind.i64.wrap (a0.f_n + 1)) (if a2 > a0.f_deep then a2 else a0.f_deep) x1) x19.fields a2 x20 hx20) rfl (z0q rfl (z0q rfl (z0q rfl rfl)))) ?_
 refine eX ?_
 obtain rfl := eI h; exact z04 ⟨_, rfl, zcx (y := (BO x20.1)) (e := .box 109 [(I64 (((x20.2)).f_n)), (I64 (((x20.2)).f_deep)), (I64 (((x20.2)).f_why))]) (Wk.refl _) rfl rfl (z0q rfl (z0q rfl (z0q rfl rfl))) ⟨rfl, rfl⟩⟩
 intro hc18 h
 refine z09 ?_
 exact ⟨rfl, ((IntKind.i64.wrap (a0.f_n + 1)), (if a2 > a0.f_deep then a2 else a0.f_deep), x1), h, jN⟩
theorem C_q0n.sound : ∀ (i : C_q0n) (r : i.R), z3n C_q0n.F i = some r → C_q0n.Q i r := by
 refine z4b (Φ := C_q0n.F) (Q := C_q0n.Q) ?_
 intro g hg i r h
 cases i with
 | k_q0n a0 a1 a2 => exact z9w (fun a0 a1 a2 => g (.k_q0n a0 a1 a2)) (fun a0 a1 a2 r hr => hg (.k_q0n a0 a1 a2) r hr) (fun a0 a1 a2 => g (.k_q0h a0 a1 a2)) (fun a0 a1 a2 r hr => hg (.k_q0h a0 a1 a2) r hr) a0 a1 a2 r h
 | k_q0h a0 a1 a2 => exact z8r (fun a0 a1 a2 => g (.k_q0n a0 a1 a2)) (fun a0 a1 a2 r hr => hg (.k_q0n a0 a1 a2) r hr) (fun a0 a1 a2 => g (.k_q0h a0 a1 a2)) (fun a0 a1 a2 r hr => hg (.k_q0h a0 a1 a2) r hr) a0 a1 a2 r h
theorem Z2i (a0 : S_value_count) (a1 : V) (a2 : Int) (r : (Bool × S_value_count)) (h : zh0 a0 a1 a2 = some r) : z89 Tryz.prog 50 [(PV.rf 0 0), (ofV a1), (I64 a2)] (.box 109 [(I64 a0.f_n), (I64 a0.f_deep), (I64 a0.f_why)]) (BO r.1) (.box 109 [(I64 ((r.2).f_n)), (I64 ((r.2).f_deep)), (I64 ((r.2).f_why))]) := C_q0n.sound (.k_q0h a0 a1 a2) r h
noncomputable def zgy (a0 : V) : Option (Int × Int) :=
 (zh0 (S_value_count.mk 0 0 0) a0 1).bind fun x1 =>
 bif (!x1.1) then (
 some ((x1.2).f_n, (x1.2).f_why)
 ) else (
 some (0, 0)
 )
theorem zrp (a0 : V) (r : (Int × Int)) (h : zgy a0 = some r) : z0k Tryz.prog 37 [(ofV a0)] (PV.tup [(I64 r.1), (I64 r.2)]) := by
 unfold zgy at h
 refine z0e Tryz.func37 rfl Tryz.ntmps37 Tryz.results37 rfl (z0i ?_)
 change BW _ _ _ ⟨[(0, (ofV a0))], [], _⟩ _
 refine bR ?_
 refine sX ?_
 refine eX ?_
 refine bR ?_
 refine sS rfl rfl rfl (z1t zxh rfl) (z0d ?_)
 refine cBx ?_
 refine z0b ?_
 refine bR ?_
 refine sX ?_
 obtain ⟨x1, hx1, h⟩ := obind h
 refine sS rfl rfl rfl (z79 0 rfl zxu rfl (wkr (wkr (wkr .nil))) (.box (.val (ids_V a0) (.val rfl .nil))) rfl (z0q rfl (z0q rfl (z0q rfl rfl))) (Z2i (S_value_count.mk 0 0 0) a0 1 x1 hx1) rfl (z0q rfl (z0q rfl (z0q rfl rfl)))) ?_
 refine eX ?_
 refine cX h rfl ?_ ?_
 intro hc2 h
 refine z0b (z1z 5 [] [0] mo (by kernel_rfl) ?_)
 iterate 5 refine gX ?_
 refine z24 ?_
 change AO _ _ _ _ _
 refine eX ?_
 obtain rfl := eI h; exact z04 eK
 intro hc2 h
 refine z09 ?_
 refine cBx ?_
 refine bR ?_
 refine sX ?_
 refine eX ?_
 obtain rfl := eI h; exact z04 eK
noncomputable def zd5 (a0 : V) : Option (Int × Int) :=
 (zgy a0).bind fun x1 =>
 some (x1.1, x1.2)
theorem zlr (a0 : V) (r : (Int × Int)) (h : zd5 a0 = some r) : z0k Tryz.prog 31 [(ofV a0)] (PV.tup [(I64 r.1), (I64 r.2)]) := by
 unfold zd5 at h
 refine z0e Tryz.func31 rfl Tryz.ntmps31 Tryz.results31 rfl (z0i ?_)
 change BW _ _ _ ⟨[(0, (ofV a0))], [], _⟩ _
 refine bR ?_
 refine sX ?_
 refine eX ?_
 refine bR ?_
 refine sX ?_
 obtain ⟨x1, hx1, h⟩ := obind h
 refine sS rfl rfl rfl (z05 rfl ztq rfl (wkr .nil) ⟨(ids_V a0), trivial⟩ (zrp a0 x1 hx1) (z00 rfl (z00 rfl z02))) ?_
 iterate 3 refine sX ?_
 refine eX ?_
 obtain rfl := eI h; exact z04 eK
noncomputable def zak (s7 : Bool) : Option Int :=
 bif s7 then (
 some 1
 ) else (
 some 0
 )
noncomputable def zbs (a0 : S_api_Step) (s5 : Bool) : Option Int :=
 bif s5 then (
 some 8
 ) else (
 bif a0.f_At then (
 bif (decide (a0.f_Index < 0)) then (
 zak true
 ) else (
 zak (decide (a0.f_Index ≥ 4096))
 )
 ) else (
 zak false
 )
 )
noncomputable def zbt (a0 : S_api_Step) (s3 : Bool) : Option Int :=
 bif s3 then (
 some 1
 ) else (
 bif a0.f_At then (
 zbs a0 (!(a0.f_Name == ([] : Str)))
 ) else (
 zbs a0 false
 )
 )
noncomputable def zbu (a0 : S_api_Step) (s1 : Bool) : Option Int :=
 bif s1 then (
 some 8
 ) else (
 bif (!a0.f_At) then (
 zbt a0 (a0.f_Index != 0)
 ) else (
 zbt a0 false
 )
 )
noncomputable def zp0 (a0 : S_api_Step) : Option Int :=
 bif (!a0.f_At) then (
 (zis a0.f_Name).bind fun x14 =>
 zbu a0 (!x14)
 ) else (
 zbu a0 false
 )
theorem Z1v (a0 : S_api_Step) (r : Int) (h : zp0 a0 = some r) : z0k Tryz.prog 71 [(z03 a0)] (I64 r) := by
 unfold zp0 at h
 refine z0e Tryz.func71 rfl Tryz.ntmps71 Tryz.results71 rfl (z0i ?_)
 change BW _ _ _ ⟨[(0, (z03 a0))], [], _⟩ _
 refine bR ?_
 refine sX ?_
 refine eX ?_
 refine z0b ?_
 refine z0m ?_
 refine cBx ?_
 refine jX (ι := Bool) (fun i => zbu a0 i = some r) (fun i => [(1, (PV.rf 0 0)), (3, (BO i))]) (fun i => [.box 83 [(z0n a0.f_Name), (BO a0.f_At), (I64 a0.f_Index)]]) ?_ ?_
 rintro s1 h; replace h : zbu a0 s1 = some r := h; unfold zbu at h
 change BW _ _ _ ⟨[(1, (PV.rf 0 0)), (3, (BO s1))], [.box 83 [(z0n a0.f_Name), (BO a0.f_At), (I64 a0.f_Index)]], _⟩ _
 refine cX h rfl ?_ ?_
 intro hc2 h
 refine bR ?_
 refine eX ?_
 obtain rfl := eI h; exact z04 eK
 intro hc2 h
 refine jX (ι := Bool) (fun i => zbt a0 i = some r) (fun i => [(1, (PV.rf 0 0)), (13, (BO i))]) (fun i => [.box 83 [(z0n a0.f_Name), (BO a0.f_At), (I64 a0.f_Index)]]) ?_ ?_
 rintro s3 h; replace h : zbt a0 s3 = some r := h; unfold zbt at h
 change BW _ _ _ ⟨[(1, (PV.rf 0 0)), (13, (BO s3))], [.box 83 [(z0n a0.f_Name), (BO a0.f_At), (I64 a0.f_Index)]], _⟩ _
 refine cX h rfl ?_ ?_
 intro hc4 h
 refine bR ?_
 refine eX ?_
 obtain rfl := eI h; exact z04 eK
 intro hc4 h
 refine jX (ι := Bool) (fun i => zbs a0 i = some r) (fun i => [(1, (PV.rf 0 0)), (22, (BO i))]) (fun i => [.box 83 [(z0n a0.f_Name), (BO a0.f_At), (I64 a0.f_Index)]]) ?_ ?_
 rintro s5 h; replace h : zbs a0 s5 = some r := h; unfold zbs at h
 change BW _ _ _ ⟨[(1, (PV.rf 0 0)), (22, (BO s5))], [.box 83 [(z0n a0.f_Name), (BO a0.f_At), (I64 a0.f_Index)]], _⟩ _
 refine cX h rfl ?_ ?_
 intro hc6 h
 refine bR ?_
 refine eX ?_
 obtain rfl := eI h; exact z04 eK
 intro hc6 h
 refine jX (ι := Bool) (fun i => zak i = some r) (fun i => [(30, (BO i))]) (fun i => []) ?_ ?_
 rintro s7 h; replace h : zak s7 = some r := h; unfold zak at h
 change BW _ _ _ ⟨[(30, (BO s7))], [], _⟩ _
 refine cX h rfl ?_ ?_
 intro hc8 h
 refine bR ?_
 refine eX ?_
 obtain rfl := eI h; exact z04 eK
 intro hc8 h
 refine z09 ?_
 refine cBx ?_
 refine bR ?_
 refine eX ?_
 obtain rfl := eI h; exact z04 eK
 refine z0g ?_
 iterate 3 refine sX ?_
 refine z0j (t := 33) rfl ?_ ?_
 intro hb9; replace h := z0o hb9 h
 iterate 4 refine yX ?_
 refine z0j (t := 37) rfl ?_ ?_
 intro hb10; replace h := z0o hb10 h
 iterate 3 refine nX ?_
 refine yX ?_
 refine sX ?_
 refine sX (z0d ?_)
 exact ⟨rfl, true, h, jN⟩
 intro hb10; replace h := z0p hb10 h
 iterate 4 refine yX ?_
 refine sX ?_
 refine sX (z0d ?_)
 exact ⟨rfl, (decide (a0.f_Index ≥ 4096)), h, jN⟩
 intro hb9; replace h := z0p hb9 h
 iterate 8 refine nX ?_
 refine sX ?_
 refine sX (z0d ?_)
 exact ⟨rfl, false, h, jN⟩
 refine z0g ?_
 iterate 3 refine sX ?_
 refine z0j (t := 25) rfl ?_ ?_
 intro hb11; replace h := z0o hb11 h
 iterate 2 refine yX ?_
 refine z1h rfl rfl rfl rfl rfl rfl ((z2h (a := a0.f_Name) (b := ([] : Str)) rfl rfl rfl rfl).cast (y := (BO ((!(a0.f_Name == ([] : Str)))))) rfl rfl) ?_
 refine sX ?_
 refine sX (z0d ?_)
 exact ⟨rfl, (!(a0.f_Name == ([] : Str))), h, jN⟩
 intro hb11; replace h := z0p hb11 h
 iterate 3 refine nX ?_
 refine sX ?_
 refine sX (z0d ?_)
 exact ⟨rfl, false, h, jN⟩
 refine z0g ?_
 iterate 4 refine sX ?_
 refine z0j (t := 17) rfl ?_ ?_
 intro hb12; replace h := z0o hb12 h
 iterate 3 refine yX ?_
 refine sX ?_
 refine sX (z0d ?_)
 exact ⟨rfl, (a0.f_Index != 0), h, jN⟩
 intro hb12; replace h := z0p hb12 h
 iterate 3 refine nX ?_
 refine sX ?_
 refine sX (z0d ?_)
 exact ⟨rfl, false, h, jN⟩
 refine z0g ?_
 iterate 4 refine sX ?_
 refine z0j (t := 7) rfl ?_ ?_
 intro hb13; replace h := z0o hb13 h
 iterate 2 refine yX ?_
 obtain ⟨x14, hx14, h⟩ := obind h
 refine z1h rfl rfl rfl rfl rfl rfl (z05 rfl Z0w rfl (wkr .nil) ⟨rfl, trivial⟩ (zz8 a0.f_Name x14 hx14) rfl) ?_
 refine yX ?_
 refine sX ?_
 refine sX (z0d ?_)
 exact ⟨rfl, (!x14), h, jN⟩
 intro hb13; replace h := z0p hb13 h
 iterate 4 refine nX ?_
 refine sX ?_
 refine sX (z0d ?_)
 exact ⟨rfl, false, h, jN⟩
noncomputable def z69 (a0 : (List S_api_Step)) (g1 : Nat → Option Int) (s2 : Nat) : Option Int :=
 bif (decide (((s2 : Nat) : Int) < (((a0).length : Nat) : Int))) then (
 ((a0)[s2]?).bind fun x5 =>
 (zp0 x5).bind fun x6 =>
 bif (x6 != 0) then (
 some x6
 ) else (
 g1 (s2 + 1)
 )
 ) else (
 some 0
 )
theorem zm0 (g1 : OF ρ → Nat → Option Int) (h_g1 : ∀ y0, CM (fun G => g1 G y0)) (a0 : (List S_api_Step)) (s2 : Nat) : CM (fun G : OF ρ => z69 a0 (g1 G) s2) := by
 simp only [z69]
 repeat (first | exact z0h | exact h_g1 _ | refine z14 ?_ ?_ | refine z15 ?_ (fun _ => ?_))
noncomputable def zg7 (a0 : (List S_api_Step)) (s2 : Nat) : Option Int :=
 z3n (ι := Nat) (ρ := fun _ => Int) (fun g i => z69 a0 (fun s2 => g s2) i) s2
theorem zg6 (a0 : (List S_api_Step)) (s2 : Nat) : zg7 a0 s2 = z69 a0 (zg7 a0) s2 :=
 z1f (ι := Nat) (ρ := fun _ => Int) (Φ := fun g i => z69 a0 (fun s2 => g s2) i) (fun i => zm0 (ι := Nat) (ρ := fun _ => Int) (fun g => (fun s2 => g s2)) (fun _ => z1j) a0 i) s2
noncomputable def zmd (a0 : (List S_api_Step)) : Option Int :=
 bif (decide ((((a0).length : Nat) : Int) > 64)) then (
 some 2
 ) else (
 zg7 a0 0
 )
theorem zz3 (a0 : (List S_api_Step)) (r : Int) (h : zmd a0 = some r) : z0k Tryz.prog 39 [(PV.sl none 83 3 (List.map z03 a0))] (I64 r) := by
 unfold zmd at h
 refine z0e Tryz.func39 rfl Tryz.ntmps39 Tryz.results39 rfl (z0i ?_)
 change BW _ _ _ ⟨[(0, (PV.sl none 83 3 (List.map z03 a0)))], [], _⟩ _
 refine bR ?_
 refine eX ?_
 refine z0b ?_
 refine bR ?_
 iterate 2 refine sX ?_
 refine eX ?_
 refine cX h rfl ?_ ?_
 intro hc1 h
 refine bR ?_
 refine eX ?_
 obtain rfl := eI h; exact z04 eK
 intro hc1 h
 refine z09 ?_
 refine cBx ?_
 refine z0b ?_
 refine bR ?_
 iterate 2 refine sX ?_
 refine eX ?_
 refine z0m ?_
 refine cBx ?_
 unfold zg7 at h
 refine z3o (σ := Nat) (fun i => [(9, (PV.sl none 83 3 (List.map z03 a0))), (10, (I64 ((((a0).length : Nat) : Int)))), (11, (I64 (((i : Nat) : Int))))]) (fun i => []) 0 h ?_ ?_ ?_
 intro i; exact ⟨lbE rfl, ⟨(z0c (z07 z01 _)), ⟨(z0c rfl), ⟨(z0c rfl), trivial⟩⟩⟩, trivial⟩
 exact jN
 rintro g1_f s2 h; replace h : z69 a0 (fun y0 => g1_f y0) s2 = some r := h; unfold z69 at h
 change BW _ _ _ ⟨[(9, (PV.sl none 83 3 (List.map z03 a0))), (10, (I64 ((((a0).length : Nat) : Int)))), (11, (I64 (((s2 : Nat) : Int))))], [], _⟩ _
 refine bR ?_
 refine eX ?_
 refine z0b ?_
 refine z4u (t := 9) rfl fun hb4 => ?_
 try rw [List.length_map] at hb4
 refine cX h rfl ?_ ?_
 intro hc3 h
 have hc3_ := of_decide_eq_true hc3
 refine z09 ?_
 refine cBx ?_
 refine z0b ?_
 refine z0m ?_
 refine cBx ?_
 refine bR ?_
 obtain ⟨x5, hx5, h⟩ := obind h
 refine sS rfl rfl rfl (z1m (i := s2) Tryz.underlying30 z13 rfl rfl rfl hx5 rfl) ?_
 refine sX ?_
 refine sS rfl rfl rfl (z1t z13 rfl) ?_
 refine z1g rfl rfl (z18 z13 rfl rfl rfl rfl rfl rfl (lbE rfl) rfl) ?_
 refine z0d ?_
 refine cBx ?_
 refine bR ?_
 refine sX ?_
 obtain ⟨x6, hx6, h⟩ := obind h
 refine sS rfl rfl rfl (z05 rfl Z3j rfl (wkr .nil) ⟨(z01 x5), trivial⟩ (Z1v x5 x6 hx6) rfl) ?_
 refine eX ?_
 refine bR ?_
 refine sX ?_
 refine eX ?_
 refine cX h rfl ?_ ?_
 intro hc7 h
 refine bR ?_
 refine sX ?_
 refine eX ?_
 obtain rfl := eI h; exact z04 eK
 intro hc7 h
 refine z09 ?_
 refine cBx ?_
 refine z0g ?_
 refine sS rfl rfl rfl (z2p (k := s2) (c := 1) rfl rfl rfl (by omega)) ?_
 refine sX (z0d ?_)
 exact ⟨rfl, (s2 + 1), h, jN⟩
 intro hc3 h
 refine z2c ?_
 refine cBx ?_
 refine bR ?_
 refine eX ?_
 obtain rfl := eI h; exact z04 eK
noncomputable def zip (a0 : V) (a1 : (List S_api_Step)) : Option Int :=
 (zd5 a0).bind fun x1 =>
 bif (x1.2 != 0) then (
 some x1.2
 ) else (
 (zmd a1).bind fun x3 =>
 some x3
 )
theorem zw8 (a0 : V) (a1 : (List S_api_Step)) (r : Int) (h : zip a0 a1 = some r) : z0k Tryz.prog 30 [(ofV a0), (PV.sl none 83 3 (List.map z03 a1))] (I64 r) := by
 unfold zip at h
 refine z0e Tryz.func30 rfl Tryz.ntmps30 Tryz.results30 rfl (z0i ?_)
 change BW _ _ _ ⟨[(0, (ofV a0)), (1, (PV.sl none 83 3 (List.map z03 a1)))], [], _⟩ _
 refine bR ?_
 refine eX ?_
 refine z0b ?_
 refine bR ?_
 refine sX ?_
 obtain ⟨x1, hx1, h⟩ := obind h
 refine sS rfl rfl rfl (z05 rfl zn8 rfl (wkr .nil) ⟨(ids_V a0), trivial⟩ (zlr a0 x1 hx1) (z00 rfl (z00 rfl z02))) ?_
 iterate 4 refine sX ?_
 refine eX ?_
 refine bR ?_
 refine sX ?_
 refine eX ?_
 refine cX h rfl ?_ ?_
 intro hc2 h
 refine bR ?_
 refine sX ?_
 refine eX ?_
 obtain rfl := eI h; exact z04 eK
 intro hc2 h
 refine z09 ?_
 refine cBx ?_
 refine bR ?_
 refine sX ?_
 obtain ⟨x3, hx3, h⟩ := obind h
 refine sS rfl rfl rfl (z05 rfl Z12 rfl (wkr .nil) ⟨(z07 z01 a1), trivial⟩ (zz3 a1 x3 hx3) rfl) ?_
 refine eX ?_
 obtain rfl := eI h; exact z04 eK
noncomputable def zs8 (a0 : V) : Option ((List (Str × V)) × Bool) :=
 bif (a0).isDict then (
 some ((a0).asDict, true)
 ) else (
 bif (a0).isRec then (
 ((a0).asRec).bind fun x3 =>
 some (x3.fields, true)
 ) else (
 some ([], false)
 )
 )
theorem Z2d (a0 : V) (r : ((List (Str × V)) × Bool)) (h : zs8 a0 = some r) : z0k Tryz.prog 97 [(ofV a0)] (PV.tup [(PV.sl none 69 2 (List.map ofFld r.1)), (BO r.2)]) := by
 unfold zs8 at h
 refine z0e Tryz.func97 rfl Tryz.ntmps97 Tryz.results97 rfl (z0i ?_)
 change BW _ _ _ ⟨[(0, (ofV a0))], [], _⟩ _
 refine bR ?_
 refine sX ?_
 refine eX ?_
 refine z0b ?_
 refine bR ?_
 refine eX ?_
 refine z0m ?_
 refine cBx ?_
 refine bR ?_
 refine sS rfl rfl rfl (z2r rfl rfl) ?_
 refine sX ?_
 refine eX ?_
 refine cX h rfl ?_ ?_
 intro hc1 h
 refine bR ?_
 refine eX ?_
 refine bR ?_
 iterate 2 refine sX ?_
 refine eX ?_
 obtain rfl := eI h; exact z04 ⟨_, rfl, z0f (y := (PV.tup [(PV.sl none 69 2 (List.map ofFld (a0).asDict)), (BO true)])) (Wk.refl _) (z00 (z07 z0s ((a0).asDict)) (z00 rfl z02)) ⟨rfl, rfl⟩⟩
 intro hc1 h
 refine bR ?_
 refine sS rfl rfl rfl (z39 rfl rfl) ?_
 refine sX ?_
 refine eX ?_
 refine cX h rfl ?_ ?_
 intro hc2 h
 refine bR ?_
 refine eX ?_
 refine bR ?_
 refine sX ?_
 obtain ⟨x3, hx3, h⟩ := obind h
 refine sS rfl rfl rfl (z1k rfl rfl hx3) ?_
 iterate 3 refine sX ?_
 refine eX ?_
 obtain rfl := eI h; exact z04 ⟨_, rfl, z0f (y := (PV.tup [(PV.sl none 69 2 (List.map ofFld x3.fields)), (BO true)])) (Wk.refl _) (z00 (z07 z0s x3.fields) (z00 rfl z02)) ⟨rfl, rfl⟩⟩
 intro hc2 h
 refine z09 ?_
 refine cBx ?_
 refine bR ?_
 refine sX ?_
 refine eX ?_
 obtain rfl := eI h; exact z04 ⟨_, rfl, z0f (y := (PV.tup [(PV.sl none 69 2 (List.map ofFld [])), (BO false)])) (Wk.tup (.cons Wk.nil (wkr .nil))) (z00 (z07 z0s ([])) (z00 rfl z02)) ⟨rfl, rfl⟩⟩
noncomputable def zmf (a0 : (Str × V)) (a1 : Str) : Option Int :=
 bif (Op.bytesLess a0.1 a1) then (
 some (-1)
 ) else (
 bif (!(Op.bytesLess a0.1 a1 || a0.1 == a1)) then (
 some 1
 ) else (
 some 0
 )
 )
theorem zz7 (a0 : (Str × V)) (a1 : Str) (r : Int) (h : zmf a0 a1 = some r) : z0k Tryz.prog 112 [(ofFld a0), (z0n a1)] (I64 r) := by
 unfold zmf at h
 refine z0e Tryz.func112 rfl Tryz.ntmps112 Tryz.results112 rfl (z0i ?_)
 change BW _ _ _ ⟨[(0, (ofFld a0)), (1, (z0n a1))], [], _⟩ _
 refine bR ?_
 refine sX ?_
 refine eX ?_
 refine z0b ?_
 refine z0m ?_
 refine cBx ?_
 refine bR ?_
 iterate 3 refine sX ?_
 refine sS rfl rfl rfl ((z2h (a := a0.1) (b := a1) rfl rfl rfl rfl).cast (y := (BO ((Op.bytesLess a0.1 a1)))) rfl rfl) ?_
 refine eX ?_
 refine cX h rfl ?_ ?_
 intro hc1 h
 refine bR ?_
 refine eX ?_
 obtain rfl := eI h; exact z04 eK
 intro hc1 h
 refine bR ?_
 iterate 3 refine sX ?_
 refine sS rfl rfl rfl ((z2h (a := a0.1) (b := a1) rfl rfl rfl rfl).cast (y := (BO ((!(Op.bytesLess a0.1 a1 || a0.1 == a1))))) rfl rfl) ?_
 refine eX ?_
 refine cX h rfl ?_ ?_
 intro hc2 h
 refine bR ?_
 refine eX ?_
 obtain rfl := eI h; exact z04 eK
 intro hc2 h
 refine z09 ?_
 refine cBx ?_
 refine bR ?_
 refine eX ?_
 obtain rfl := eI h; exact z04 eK
noncomputable def z6e (a0 : (List (Str × V))) (a1 : Str) (g1 : Int → Int → Option (Int × Bool)) (s1 s2 : Int) : Option (Int × Bool) :=
 bif (decide (s1 < s2)) then (
 (z6n a0 (IntKind.i64.wrap (zlp .u64 (IntKind.u64.wrap (IntKind.i64.wrap (s1 + s2))) 1))).bind fun x4 =>
 (zmf x4 a1).bind fun x5 =>
 bif (decide (x5 < 0)) then (
 g1 (IntKind.i64.wrap ((IntKind.i64.wrap (zlp .u64 (IntKind.u64.wrap (IntKind.i64.wrap (s1 + s2))) 1)) + 1)) s2
 ) else (
 g1 s1 (IntKind.i64.wrap (zlp .u64 (IntKind.u64.wrap (IntKind.i64.wrap (s1 + s2))) 1))
 )
 ) else (
 bif (decide (s1 < (((a0).length : Nat) : Int))) then (
 (z6n a0 s1).bind fun x8 =>
 (zmf x8 a1).bind fun x9 =>
 some (s1, (x9 == 0))
 ) else (
 some (s1, false)
 )
 )
theorem zm9 (g1 : OF ρ → Int → Int → Option (Int × Bool)) (h_g1 : ∀ y0 y1, CM (fun G => g1 G y0 y1)) (a0 : (List (Str × V))) (a1 : Str) (s1 s2 : Int) : CM (fun G : OF ρ => z6e a0 a1 (g1 G) s1 s2) := by
 simp only [z6e]
 repeat (first | exact z0h | exact h_g1 _ _ | refine z14 ?_ ?_ | refine z15 ?_ (fun _ => ?_))
noncomputable def zgt (a0 : (List (Str × V))) (a1 : Str) (s1 s2 : Int) : Option (Int × Bool) :=
 z3n (ι := (Int × Int)) (ρ := fun _ => (Int × Bool)) (fun g i => z6e a0 a1 (fun s1 s2 => g (s1, s2)) i.1 i.2) (s1, s2)
theorem zgs (a0 : (List (Str × V))) (a1 : Str) (s1 s2 : Int) : zgt a0 a1 s1 s2 = z6e a0 a1 (zgt a0 a1) s1 s2 :=
 z1f (ι := (Int × Int)) (ρ := fun _ => (Int × Bool)) (Φ := fun g i => z6e a0 a1 (fun s1 s2 => g (s1, s2)) i.1 i.2) (fun i => zm9 (ι := (Int × Int)) (ρ := fun _ => (Int × Bool)) (fun g => (fun s1 s2 => g (s1, s2))) (fun _ _ => z1j) a0 a1 i.1 i.2) (s1, s2)
noncomputable def zsh (a0 : (List (Str × V))) (a1 : Str) : Option (Int × Bool) :=
 zgt a0 a1 0 (((a0).length : Nat) : Int)
theorem Z2s (a0 : (List (Str × V))) (a1 : Str) (r : (Int × Bool)) (h : zsh a0 a1 = some r) : z0k Tryz.prog 111 [(PV.sl none 69 2 (List.map ofFld a0)), (z0n a1), (PV.fn (.func 112) [] [])] (PV.tup [(I64 r.1), (BO r.2)]) := by
 unfold zsh at h
 refine z0e Tryz.func111 rfl Tryz.ntmps111 Tryz.results111 rfl (z0i ?_)
 change BW _ _ _ ⟨[(0, (PV.sl none 69 2 (List.map ofFld a0))), (1, (z0n a1)), (2, (PV.fn (.func 112) [] []))], [], _⟩ _
 refine bR ?_
 refine sX ?_
 refine eX ?_
 refine bR ?_
 iterate 2 refine sX ?_
 refine eX ?_
 refine bR ?_
 iterate 2 refine sX ?_
 refine eX ?_
 refine z0b ?_
 refine z0m ?_
 refine cBx ?_
 unfold zgt at h
 refine lX (σ := (Int × Int)) (fun i => [(0, (PV.sl none 69 2 (List.map ofFld a0))), (1, (z0n a1)), (2, (PV.fn (.func 112) [] [])), (8, (I64 ((((a0).length : Nat) : Int)))), (9, (I64 i.1)), (10, (I64 i.2))]) (fun i => []) (0, (((a0).length : Nat) : Int)) h ?_ ?_
 exact jN
 rintro g1_f ⟨s1, s2⟩ h; replace h : z6e a0 a1 (fun y0 y1 => g1_f (y0, y1)) s1 s2 = some r := h; unfold z6e at h
 change BW _ _ _ ⟨[(0, (PV.sl none 69 2 (List.map ofFld a0))), (1, (z0n a1)), (2, (PV.fn (.func 112) [] [])), (8, (I64 ((((a0).length : Nat) : Int)))), (9, (I64 s1)), (10, (I64 s2))], [], _⟩ _
 refine z0b ?_
 refine bR ?_
 iterate 2 refine sX ?_
 refine eX ?_
 refine cX h rfl ?_ ?_
 intro hc3 h
 refine z09 ?_
 refine cBx ?_
 refine z0m ?_
 refine cBx ?_
 refine bR ?_
 iterate 3 refine sX ?_
 refine sS rfl rfl rfl (zh5 Tryz.underlying3 Tryz.underlying160 rfl rfl) ?_
 refine sS rfl rfl rfl ((zpf rfl rfl rfl (by decide)).cast (y := (PV.v (.int .u64 (zlp .u64 (IntKind.u64.wrap (IntKind.i64.wrap (s1 + s2))) 1)))) rfl rfl) ?_
 refine sS rfl rfl rfl (zh5 Tryz.underlying160 Tryz.underlying3 rfl rfl) ?_
 refine eX ?_
 refine bR ?_
 iterate 3 refine sX ?_
 obtain ⟨x4, hx4, h⟩ := obind h
 refine sS rfl rfl rfl (z26 Tryz.underlying71 z0v rfl rfl rfl hx4 rfl) ?_
 iterate 2 refine sX ?_
 obtain ⟨x5, hx5, h⟩ := obind h
 refine sS rfl rfl rfl (z5w rfl rfl zvl rfl (wkr (wkr .nil)) ⟨(z0s x4), ⟨rfl, trivial⟩⟩ (zz7 x4 a1 x5 hx5) rfl) ?_
 refine eX ?_
 refine cX h rfl ?_ ?_
 intro hc6 h
 refine z0g ?_
 iterate 2 refine sX ?_
 refine sX (z0d ?_)
 exact ⟨rfl, ((IntKind.i64.wrap ((IntKind.i64.wrap (zlp .u64 (IntKind.u64.wrap (IntKind.i64.wrap (s1 + s2))) 1)) + 1)), s2), h, jN⟩
 intro hc6 h
 refine z0g ?_
 refine sX ?_
 refine sX (z0d ?_)
 exact ⟨rfl, (s1, (IntKind.i64.wrap (zlp .u64 (IntKind.u64.wrap (IntKind.i64.wrap (s1 + s2))) 1))), h, jN⟩
 intro hc3 h
 refine z2c ?_
 refine cBx ?_
 refine bR ?_
 iterate 5 refine sX ?_
 refine z0j (t := 39) rfl ?_ ?_
 intro hb7; replace h := z0o hb7 h
 iterate 3 refine yX ?_
 obtain ⟨x8, hx8, h⟩ := obind h
 refine z1h rfl rfl rfl rfl rfl rfl (z26 Tryz.underlying71 z0v rfl rfl rfl hx8 rfl) ?_
 iterate 2 refine yX ?_
 obtain ⟨x9, hx9, h⟩ := obind h
 refine z1h rfl rfl rfl rfl rfl rfl (z5w rfl rfl zvl rfl (wkr (wkr .nil)) ⟨(z0s x8), ⟨rfl, trivial⟩⟩ (zz7 x8 a1 x9 hx9) rfl) ?_
 refine yX ?_
 iterate 2 refine sX ?_
 refine eX ?_
 obtain rfl := eI h; exact z04 eK
 intro hb7; replace h := z0p hb7 h
 iterate 8 refine nX ?_
 iterate 2 refine sX ?_
 refine eX ?_
 obtain rfl := eI h; exact z04 eK
noncomputable def zin (a0 : (List (Str × V))) (a1 : Str) : Option (Int × Bool) :=
 (zsh a0 a1).bind fun x1 =>
 some (x1.1, x1.2)
theorem zw6 (a0 : (List (Str × V))) (a1 : Str) (r : (Int × Bool)) (h : zin a0 a1 = some r) : z0k Tryz.prog 92 [(PV.sl none 69 2 (List.map ofFld a0)), (z0n a1)] (PV.tup [(I64 r.1), (BO r.2)]) := by
 unfold zin at h
 refine z0e Tryz.func92 rfl Tryz.ntmps92 Tryz.results92 rfl (z0i ?_)
 change BW _ _ _ ⟨[(0, (PV.sl none 69 2 (List.map ofFld a0))), (1, (z0n a1))], [], _⟩ _
 refine bR ?_
 refine sX ?_
 refine eX ?_
 refine bR ?_
 iterate 2 refine sX ?_
 obtain ⟨x1, hx1, h⟩ := obind h
 refine sS rfl rfl rfl (z05 rfl Z15 rfl (wkr (wkr (wkr .nil))) ⟨(z07 z0s a0), ⟨rfl, ⟨rfl, trivial⟩⟩⟩ (Z2s a0 a1 x1 hx1) (z00 rfl (z00 rfl z02))) ?_
 iterate 3 refine sX ?_
 refine eX ?_
 obtain rfl := eI h; exact z04 eK
end Go.Proofs.YthidgpcbnieleaaGreatDoor
