/- Pure functions, and that calls answer as they say. -/
import Derived.Test.YthidgpcbnieleaaG2
namespace Go.Proofs.Ythidgpcbnieleaa
open Go Aw
set_option linter.unusedVariables false
set_option linter.unusedSimpArgs false
set_option maxRecDepth 20000
set_option maxHeartbeats 2000000
variable {ι : Type} {ρ : ι → Type}
noncomputable def z98 (g1 : Nat → Option Int) (s17 : Nat) (s20 : Bool) : Option Int :=
 bif s20 then (
 some 8
 ) else (
 g1 (s17 + 1)
 )
theorem zp9 (g1 : OF ρ → Nat → Option Int) (h_g1 : ∀ y0, CM (fun G => g1 G y0)) (s17 : Nat) (s20 : Bool) : CM (fun G : OF ρ => z98 (g1 G) s17 s20) := by
 simp only [z98]
 repeat (first | exact z0h | exact h_g1 _ | refine z10 ?_ ?_ | refine z11 ?_ (fun _ => ?_))
noncomputable def z63 (a0 : Term) (g1 : Nat → Option Int) (s17 : Nat) : Option Int :=
 bif (decide (((s17 : Nat) : Int) < (((a0.fields).length : Nat) : Int))) then (
 ((a0.fields)[s17]?).bind fun x22 =>
 (zib x22.1).bind fun x23 =>
 bif (!x23) then (
 z98 g1 s17 true
 ) else (
 bif (decide (((s17 : Nat) : Int) > 0)) then (
 ((a0.fields)[s17]?).bind fun x26 =>
 (z8x a0.fields (IntKind.i64.wrap (((s17 : Nat) : Int) - 1))).bind fun x27 =>
 z98 g1 s17 (Op.bytesLess x26.1 x27.1 || x26.1 == x27.1)
 ) else (
 z98 g1 s17 false
 )
 )
 ) else (
 some 0
 )
theorem zn0 (g1 : OF ρ → Nat → Option Int) (h_g1 : ∀ y0, CM (fun G => g1 G y0)) (a0 : Term) (s17 : Nat) : CM (fun G : OF ρ => z63 a0 (g1 G) s17) := by
 simp only [z63]
 repeat (first | exact z0h | exact h_g1 _ | apply zp9 | refine z10 ?_ ?_ | refine z11 ?_ (fun _ => ?_) | intro _ | assumption)
noncomputable def zeg (a0 : Term) (s17 : Nat) : Option Int :=
 z3b (ι := Nat) (ρ := fun _ => Int) (fun g i => z63 a0 (fun s17 => g s17) i) s17
theorem zhe (a0 : Term) (s17 : Nat) : zeg a0 s17 = z63 a0 (zeg a0) s17 :=
 z1f (ι := Nat) (ρ := fun _ => Int) (Φ := fun g i => z63 a0 (fun s17 => g s17) i) (fun i => zn0 (ι := Nat) (ρ := fun _ => Int) (fun g => (fun s17 => g s17)) (fun _ => z1i) a0 i) s17
noncomputable def z87 (a0 : Term) (s14 : Bool) : Option Int :=
 bif s14 then (
 some 0
 ) else (
 bif (decide ((((a0.fields).length : Nat) : Int) > 4096)) then (
 some 2
 ) else (
 zeg a0 0
 )
 )
noncomputable def z5o (a0 : Term) (s12 : Bool) : Option Int :=
 bif s12 then (
 some 2
 ) else (
 bif (a0.kind != 9) then (
 z87 a0 (a0.kind != 10)
 ) else (
 z87 a0 false
 )
 )
noncomputable def z3e (a0 : Term) (s10 : Bool) : Option Int :=
 bif s10 then (
 some 2
 ) else (
 bif (a0.kind == 8) then (
 z5o a0 (decide ((((a0.list).length : Nat) : Int) > 4096))
 ) else (
 z5o a0 false
 )
 )
noncomputable def z5p (a0 : Term) (s8 : Bool) : Option Int :=
 bif s8 then (
 some 1
 ) else (
 bif (a0.kind == 5) then (
 bif (decide ((((a0.text).length : Nat) : Int) > 65536)) then (
 z3e a0 true
 ) else (
 bif (a0.kind == 6) then (
 z3e a0 (decide ((((a0.bytes).length : Nat) : Int) > 65536))
 ) else (
 z3e a0 false
 )
 )
 ) else (
 bif (a0.kind == 6) then (
 z3e a0 (decide ((((a0.bytes).length : Nat) : Int) > 65536))
 ) else (
 z3e a0 false
 )
 )
 )
noncomputable def z74 (a0 : Term) (s6 : Bool) : Option Int :=
 bif s6 then (
 some 8
 ) else (
 bif (a0.kind == 10) then (
 bif (decide (a0.ver < 1)) then (
 z5p a0 true
 ) else (
 z5p a0 (decide (a0.ver > 1000))
 )
 ) else (
 z5p a0 false
 )
 )
noncomputable def z4b (a0 : Term) (s4 : Bool) : Option Int :=
 bif s4 then (
 some 2
 ) else (
 bif (a0.kind == 10) then (
 (zib a0.cls).bind fun x37 =>
 z74 a0 (!x37)
 ) else (
 z74 a0 false
 )
 )
noncomputable def zb5 (a0 : Term) (a1 a2 : Int) (s2 : Bool) : Option Int :=
 bif s2 then (
 some 6
 ) else (
 bif (decide (a1 ≥ 16384)) then (
 z4b a0 true
 ) else (
 z4b a0 (decide (a2 > 64))
 )
 )
noncomputable def zdz (a0 : Term) (a1 a2 : Int) : Option Int :=
 bif (a0.kind == 11) then (
 some 7
 ) else (
 bif (decide (a0.kind < 1)) then (
 zb5 a0 a1 a2 true
 ) else (
 zb5 a0 a1 a2 (decide (a0.kind > 10))
 )
 )
theorem Z34 (a0 : Term) (a1 a2 r : Int) (h : zdz a0 a1 a2 = some r) : z0o Try.prog 64 [(z0b a0), (I64 a1), (I64 a2)] (I64 r) := by
 unfold zdz at h
 refine z0j Try.func64 rfl Try.ntmps64 Try.results64 rfl (z0q ?_)
 change BW _ _ _ ⟨[(0, (z0b a0)), (1, (I64 a1)), (2, (I64 a2))], [], _⟩ _
 refine bR ?_
 refine sX ?_
 refine eX ?_
 refine z0d ?_
 refine bR ?_
 iterate 2 refine sX ?_
 refine eX ?_
 refine cX h rfl ?_ ?_
 intro hc1 h
 refine bR ?_
 refine eX ?_
 obtain rfl := eI h; exact z04 eK
 intro hc1 h
 refine z0c ?_
 refine cBx ?_
 refine z0d ?_
 refine jX (ι := Bool) (fun i => zb5 a0 a1 a2 i = some r) (fun i => [(1, (I64 a1)), (2, (I64 a2)), (3, (PV.rf 0 0)), (18, (BO i))]) (fun i => [.box 29 (z1r a0)]) ?_ ?_
 rintro s2 h; replace h : zb5 a0 a1 a2 s2 = some r := h; unfold zb5 at h
 change BW _ _ _ ⟨[(1, (I64 a1)), (2, (I64 a2)), (3, (PV.rf 0 0)), (18, (BO s2))], [.box 29 (z1r a0)], _⟩ _
 refine cX h rfl ?_ ?_
 intro hc3 h
 refine bR ?_
 refine eX ?_
 obtain rfl := eI h; exact z04 eK
 intro hc3 h
 refine z0c ?_
 refine cBx ?_
 refine z0d ?_
 refine jX (ι := Bool) (fun i => z4b a0 i = some r) (fun i => [(3, (PV.rf 0 0)), (24, (BO i))]) (fun i => [.box 29 (z1r a0)]) ?_ ?_
 rintro s4 h; replace h : z4b a0 s4 = some r := h; unfold z4b at h
 change BW _ _ _ ⟨[(3, (PV.rf 0 0)), (24, (BO s4))], [.box 29 (z1r a0)], _⟩ _
 refine cX h rfl ?_ ?_
 intro hc5 h
 refine bR ?_
 refine eX ?_
 obtain rfl := eI h; exact z04 eK
 intro hc5 h
 refine z0c ?_
 refine cBx ?_
 refine z0d ?_
 refine jX (ι := Bool) (fun i => z74 a0 i = some r) (fun i => [(3, (PV.rf 0 0)), (33, (BO i))]) (fun i => [.box 29 (z1r a0)]) ?_ ?_
 rintro s6 h; replace h : z74 a0 s6 = some r := h; unfold z74 at h
 change BW _ _ _ ⟨[(3, (PV.rf 0 0)), (33, (BO s6))], [.box 29 (z1r a0)], _⟩ _
 refine cX h rfl ?_ ?_
 intro hc7 h
 refine bR ?_
 refine eX ?_
 obtain rfl := eI h; exact z04 eK
 intro hc7 h
 refine z0c ?_
 refine cBx ?_
 refine z0d ?_
 refine jX (ι := Bool) (fun i => z5p a0 i = some r) (fun i => [(3, (PV.rf 0 0)), (46, (BO i))]) (fun i => [.box 29 (z1r a0)]) ?_ ?_
 rintro s8 h; replace h : z5p a0 s8 = some r := h; unfold z5p at h
 change BW _ _ _ ⟨[(3, (PV.rf 0 0)), (46, (BO s8))], [.box 29 (z1r a0)], _⟩ _
 refine cX h rfl ?_ ?_
 intro hc9 h
 refine bR ?_
 refine eX ?_
 obtain rfl := eI h; exact z04 eK
 intro hc9 h
 refine z0c ?_
 refine cBx ?_
 refine z0d ?_
 refine jX (ι := Bool) (fun i => z3e a0 i = some r) (fun i => [(3, (PV.rf 0 0)), (66, (BO i))]) (fun i => [.box 29 (z1r a0)]) ?_ ?_
 rintro s10 h; replace h : z3e a0 s10 = some r := h; unfold z3e at h
 change BW _ _ _ ⟨[(3, (PV.rf 0 0)), (66, (BO s10))], [.box 29 (z1r a0)], _⟩ _
 refine cX h rfl ?_ ?_
 intro hc11 h
 refine bR ?_
 refine eX ?_
 obtain rfl := eI h; exact z04 eK
 intro hc11 h
 refine z0c ?_
 refine cBx ?_
 refine z0d ?_
 refine jX (ι := Bool) (fun i => z5o a0 i = some r) (fun i => [(3, (PV.rf 0 0)), (75, (BO i))]) (fun i => [.box 29 (z1r a0)]) ?_ ?_
 rintro s12 h; replace h : z5o a0 s12 = some r := h; unfold z5o at h
 change BW _ _ _ ⟨[(3, (PV.rf 0 0)), (75, (BO s12))], [.box 29 (z1r a0)], _⟩ _
 refine cX h rfl ?_ ?_
 intro hc13 h
 refine bR ?_
 refine eX ?_
 obtain rfl := eI h; exact z04 eK
 intro hc13 h
 refine z0c ?_
 refine cBx ?_
 refine z0d ?_
 refine jX (ι := Bool) (fun i => z87 a0 i = some r) (fun i => [(3, (PV.rf 0 0)), (83, (BO i))]) (fun i => [.box 29 (z1r a0)]) ?_ ?_
 rintro s14 h; replace h : z87 a0 s14 = some r := h; unfold z87 at h
 change BW _ _ _ ⟨[(3, (PV.rf 0 0)), (83, (BO s14))], [.box 29 (z1r a0)], _⟩ _
 refine cX h rfl ?_ ?_
 intro hc15 h
 refine bR ?_
 refine eX ?_
 obtain rfl := eI h; exact z04 eK
 intro hc15 h
 refine z0c ?_
 refine cBx ?_
 refine z0d ?_
 refine bR ?_
 iterate 3 refine sX ?_
 refine eX ?_
 refine cX h rfl ?_ ?_
 intro hc16 h
 refine bR ?_
 refine eX ?_
 obtain rfl := eI h; exact z04 eK
 intro hc16 h
 refine z0c ?_
 refine cBx ?_
 refine z0d ?_
 refine bR ?_
 refine eX ?_
 refine z0r ?_
 refine cBx ?_
 unfold zeg at h
 refine lX (σ := Nat) (fun i => [(3, (PV.rf 0 0)), (7, (I64 (((i : Nat) : Int))))]) (fun i => [.box 29 (z1r a0)]) 0 h ?_ ?_
 exact jN
 rintro g1_f s17 h; replace h : z63 a0 (fun y0 => g1_f y0) s17 = some r := h; unfold z63 at h
 change BW _ _ _ ⟨[(3, (PV.rf 0 0)), (7, (I64 (((s17 : Nat) : Int))))], [.box 29 (z1r a0)], _⟩ _
 refine z0d ?_
 refine bR ?_
 iterate 4 refine sX ?_
 refine eX ?_
 refine z3p (t := 90) rfl fun hb19 => ?_
 try rw [List.length_map] at hb19
 refine cX h rfl ?_ ?_
 intro hc18 h
 have hc18_ := of_decide_eq_true hc18
 refine z0c ?_
 refine cBx ?_
 refine z0d ?_
 refine z0r ?_
 refine cBx ?_
 refine jX (ι := Bool) (fun i => z98 (fun y0 => g1_f y0) s17 i = some r) (fun i => [(3, (PV.rf 0 0)), (7, (I64 (((s17 : Nat) : Int)))), (122, (BO i))]) (fun i => [.box 29 (z1r a0)]) ?_ ?_
 rintro s20 h; replace h : z98 (fun y0 => g1_f y0) s17 s20 = some r := h; unfold z98 at h
 change BW _ _ _ ⟨[(3, (PV.rf 0 0)), (7, (I64 (((s17 : Nat) : Int)))), (122, (BO s20))], [.box 29 (z1r a0)], _⟩ _
 refine cX h rfl ?_ ?_
 intro hc21 h
 refine bR ?_
 refine eX ?_
 obtain rfl := eI h; exact z04 eK
 intro hc21 h
 refine z0c ?_
 refine cBx ?_
 refine z0e ?_
 refine sX ?_
 refine sS rfl rfl rfl (z20 (k := s17) (c := 1) rfl rfl rfl (by omega)) ?_
 refine sX (z08 ?_)
 exact ⟨rfl, (s17 + 1), h, jN⟩
 refine z1y 25 [] [0] mo (by kernel_rfl) ?_
 iterate 3 refine gX ?_
 obtain ⟨x22, hx22, h⟩ := obind h
 refine z1v rfl rfl rfl rfl (fun H hp => z1d (i := s17) Try.underlying27 z22 rfl rfl rfl hx22 (z1o _)) ?_
 iterate 2 refine gX ?_
 obtain ⟨x23, hx23, h⟩ := obind h
 refine z1v rfl rfl rfl rfl (fun H hp => z03 rfl zui rfl (wkr .nil) ⟨rfl, trivial⟩ (zta x22.1 x23 hx23) rfl) ?_
 iterate 2 refine gX ?_
 refine z7z 103 rfl ?_ ?_
 intro hb24; replace h := z0t hb24 h
 iterate 16 refine mX ?_
 refine z23 ?_
 change AO _ _ _ _ _
 iterate 2 refine nX ?_
 refine sX (z08 ?_)
 exact ⟨rfl, true, h, jN⟩
 intro hb24; replace h := z0u hb24 h
 iterate 3 refine wX ?_
 refine z7z 106 rfl ?_ ?_
 intro hb25; replace h := z0t hb25 h
 iterate 3 refine wX ?_
 obtain ⟨x26, hx26, h⟩ := obind h
 refine z8b rfl rfl rfl rfl rfl rfl rfl (fun H hp => z1d (i := s17) Try.underlying27 z22 rfl rfl rfl hx26 (z1o _)) ?_
 iterate 5 refine wX ?_
 refine z8b rfl rfl rfl rfl rfl rfl rfl (fun H hp => zlb rfl rfl rfl) ?_
 obtain ⟨x27, hx27, h⟩ := obind h
 refine z8b rfl rfl rfl rfl rfl rfl rfl (fun H hp => z41 Try.underlying27 z22 rfl rfl rfl hx27 (z1o _)) ?_
 iterate 2 refine wX ?_
 refine z23 ?_
 change AO _ _ _ _ _
 refine z1t rfl rfl rfl rfl rfl rfl ((z2p (a := x26.1) (b := x27.1) rfl rfl rfl rfl).cast (y := (BO ((Op.bytesLess x26.1 x27.1 || x26.1 == x27.1)))) rfl rfl) ?_
 refine yX ?_
 refine sX (z08 ?_)
 exact ⟨rfl, (Op.bytesLess x26.1 x27.1 || x26.1 == x27.1), h, jN⟩
 intro hb25; replace h := z0u hb25 h
 iterate 13 refine mX ?_
 refine z23 ?_
 change AO _ _ _ _ _
 refine nX ?_
 refine yX ?_
 refine sX (z08 ?_)
 exact ⟨rfl, false, h, jN⟩
 intro hc18 h
 refine z1z ?_
 refine cBx ?_
 refine bR ?_
 refine eX ?_
 obtain rfl := eI h; exact z04 eK
 refine z0e ?_
 iterate 4 refine sX ?_
 refine z0n (t := 79) rfl ?_ ?_
 intro hb28; replace h := z0t hb28 h
 iterate 3 refine yX ?_
 refine sX (z08 ?_)
 exact ⟨rfl, (a0.kind != 10), h, jN⟩
 intro hb28; replace h := z0u hb28 h
 iterate 3 refine nX ?_
 refine sX (z08 ?_)
 exact ⟨rfl, false, h, jN⟩
 refine z0e ?_
 iterate 4 refine sX ?_
 refine z0n (t := 70) rfl ?_ ?_
 intro hb29; replace h := z0t hb29 h
 iterate 4 refine yX ?_
 refine sX (z08 ?_)
 exact ⟨rfl, (decide ((((a0.list).length : Nat) : Int) > 4096)), h, jN⟩
 intro hb29; replace h := z0u hb29 h
 iterate 4 refine nX ?_
 refine sX (z08 ?_)
 exact ⟨rfl, false, h, jN⟩
 refine z0e ?_
 iterate 4 refine sX ?_
 refine z0n (t := 50) rfl ?_ ?_
 intro hb30; replace h := z0t hb30 h
 iterate 2 refine yX ?_
 refine z1t rfl rfl rfl rfl rfl rfl (z4w (s := a0.text) Try.underlying9 rfl rfl) ?_
 refine yX ?_
 iterate 2 refine sX ?_
 refine z0n (t := 56) rfl ?_ ?_
 intro hb31; replace h := z0t hb31 h
 iterate 9 refine nX ?_
 refine sX (z08 ?_)
 exact ⟨rfl, true, h, jN⟩
 intro hb31; replace h := z0u hb31 h
 iterate 4 refine yX ?_
 refine z0n (t := 60) rfl ?_ ?_
 intro hb32; replace h := z0t hb32 h
 iterate 5 refine yX ?_
 refine sX (z08 ?_)
 exact ⟨rfl, (decide ((((a0.bytes).length : Nat) : Int) > 65536)), h, jN⟩
 intro hb32; replace h := z0u hb32 h
 iterate 4 refine nX ?_
 refine yX ?_
 refine sX (z08 ?_)
 exact ⟨rfl, false, h, jN⟩
 intro hb30; replace h := z0u hb30 h
 iterate 4 refine nX ?_
 iterate 2 refine sX ?_
 iterate 4 refine yX ?_
 refine z0n (t := 60) rfl ?_ ?_
 intro hb33; replace h := z0t hb33 h
 iterate 5 refine yX ?_
 refine sX (z08 ?_)
 exact ⟨rfl, (decide ((((a0.bytes).length : Nat) : Int) > 65536)), h, jN⟩
 intro hb33; replace h := z0u hb33 h
 iterate 4 refine nX ?_
 refine yX ?_
 refine sX (z08 ?_)
 exact ⟨rfl, false, h, jN⟩
 refine z0e ?_
 iterate 4 refine sX ?_
 refine z0n (t := 37) rfl ?_ ?_
 intro hb34; replace h := z0t hb34 h
 iterate 4 refine yX ?_
 refine z0n (t := 41) rfl ?_ ?_
 intro hb35; replace h := z0t hb35 h
 iterate 3 refine nX ?_
 refine yX ?_
 refine sX (z08 ?_)
 exact ⟨rfl, true, h, jN⟩
 intro hb35; replace h := z0u hb35 h
 iterate 4 refine yX ?_
 refine sX (z08 ?_)
 exact ⟨rfl, (decide (a0.ver > 1000)), h, jN⟩
 intro hb34; replace h := z0u hb34 h
 iterate 8 refine nX ?_
 refine sX (z08 ?_)
 exact ⟨rfl, false, h, jN⟩
 refine z0e ?_
 iterate 4 refine sX ?_
 refine z0n (t := 28) rfl ?_ ?_
 intro hb36; replace h := z0t hb36 h
 iterate 2 refine yX ?_
 obtain ⟨x37, hx37, h⟩ := obind h
 refine z1t rfl rfl rfl rfl rfl rfl (z03 rfl zui rfl (wkr .nil) ⟨rfl, trivial⟩ (zta a0.cls x37 hx37) rfl) ?_
 refine yX ?_
 refine sX (z08 ?_)
 exact ⟨rfl, (!x37), h, jN⟩
 intro hb36; replace h := z0u hb36 h
 iterate 4 refine nX ?_
 refine sX (z08 ?_)
 exact ⟨rfl, false, h, jN⟩
 refine z0e ?_
 iterate 3 refine sX ?_
 refine z0n (t := 21) rfl ?_ ?_
 intro hb38; replace h := z0t hb38 h
 iterate 2 refine nX ?_
 refine sX (z08 ?_)
 exact ⟨rfl, true, h, jN⟩
 intro hb38; replace h := z0u hb38 h
 iterate 2 refine yX ?_
 refine sX (z08 ?_)
 exact ⟨rfl, (decide (a2 > 64)), h, jN⟩
 refine z0e ?_
 iterate 4 refine sX ?_
 refine z0n (t := 14) rfl ?_ ?_
 intro hb39; replace h := z0t hb39 h
 iterate 3 refine nX ?_
 refine sX (z08 ?_)
 exact ⟨rfl, true, h, jN⟩
 intro hb39; replace h := z0u hb39 h
 iterate 3 refine yX ?_
 refine sX (z08 ?_)
 exact ⟨rfl, (decide (a0.kind > 10)), h, jN⟩
noncomputable def zem (s2 : (List Term)) : Option (List Term) :=
 some s2
noncomputable def z69 (a0 : Term) (g1 : (List Term) → Nat → Option (List Term)) (s5 : (List Term)) (s6 : Nat) : Option (List Term) :=
 bif (decide (((s6 : Nat) : Int) < (((a0.fields).length : Nat) : Int))) then (
 ((a0.fields)[s6]?).bind fun x9 =>
 (z6x 152 s5 ([(x9.2)] : (List Term))).bind fun x10 =>
 g1 x10 (s6 + 1)
 ) else (
 zem s5
 )
theorem zn8 (g1 : OF ρ → (List Term) → Nat → Option (List Term)) (h_g1 : ∀ y0 y1, CM (fun G => g1 G y0 y1)) (a0 : Term) (s5 : (List Term)) (s6 : Nat) : CM (fun G : OF ρ => z69 a0 (g1 G) s5 s6) := by
 simp only [z69]
 repeat (first | exact z0h | exact h_g1 _ _ | apply q0l_j1_cm | refine z10 ?_ ?_ | refine z11 ?_ (fun _ => ?_) | intro _ | assumption)
noncomputable def zhw (a0 : Term) (s5 : (List Term)) (s6 : Nat) : Option (List Term) :=
 z3b (ι := ((List Term) × Nat)) (ρ := fun _ => (List Term)) (fun g i => z69 a0 (fun s5 s6 => g (s5, s6)) i.1 i.2) (s5, s6)
theorem zhv (a0 : Term) (s5 : (List Term)) (s6 : Nat) : zhw a0 s5 s6 = z69 a0 (zhw a0) s5 s6 :=
 z1f (ι := ((List Term) × Nat)) (ρ := fun _ => (List Term)) (Φ := fun g i => z69 a0 (fun s5 s6 => g (s5, s6)) i.1 i.2) (fun i => zn8 (ι := ((List Term) × Nat)) (ρ := fun _ => (List Term)) (fun g => (fun s5 s6 => g (s5, s6))) (fun _ _ => z1i) a0 i.1 i.2) (s5, s6)
noncomputable def zel (a0 : Term) (s3 : Bool) : Option (List Term) :=
 bif s3 then (
 zhw a0 ([] : (List Term)) 0
 ) else (
 zem ([] : (List Term))
 )
noncomputable def zqo (a0 : Term) : Option (List Term) :=
 bif (a0.kind == 8) then (
 some a0.list
 ) else (
 bif (a0.kind == 9) then (
 zel a0 true
 ) else (
 zel a0 (a0.kind == 10)
 )
 )
theorem Z3d (a0 : Term) (r : (List Term)) (h : zqo a0 = some r) : z0o Try.prog 65 [(z0b a0)] (PV.sl none 29 11 (List.map z15 r)) := by
 unfold zqo at h
 refine z0j Try.func65 rfl Try.ntmps65 Try.results65 rfl (z0q ?_)
 change BW _ _ _ ⟨[(0, (z0b a0))], [], _⟩ _
 refine bR ?_
 refine sX ?_
 refine eX ?_
 refine z0d ?_
 refine bR ?_
 iterate 2 refine sX ?_
 refine eX ?_
 refine cX h rfl ?_ ?_
 intro hc1 h
 refine bR ?_
 iterate 2 refine sX ?_
 refine eX ?_
 obtain rfl := eI h; exact z04 ⟨_, rfl, z0p (y := (PV.sl none 29 11 (List.map z15 a0.list))) (Wk.refl _) (z0f z2e a0.list) ⟨rfl, rfl⟩⟩
 intro hc1 h
 refine z0c ?_
 refine cBx ?_
 refine bR ?_
 refine sS rfl rfl rfl ((z16 (xs := []) Try.underlying26 z0v rfl rfl rfl rfl rfl rfl ⟨lbE rfl, lbE rfl⟩ rfl).cast (y := (PV.sl (some 1) 29 11 (List.map z15 ([] : (List Term))))) rfl rfl) ?_
 refine eX ?_
 refine z2l (ι := (List Term)) (fun i => zem i = some r) (fun i => [(3, (PV.sl (some 1) 29 11 (List.map z15 i)))]) (fun i => [.dead, .arr 29 (i).length]) ?_ ?_ ?_
 intro i; exact ⟨lbE rfl, ⟨(z4m rfl (z36 z2e _)), trivial⟩, trivial⟩
 rintro s2 h; replace h : zem s2 = some r := h; unfold zem at h
 change BW _ _ _ ⟨[(3, (PV.sl (some 1) 29 11 (List.map z15 s2)))], [.dead, .arr 29 (s2).length], _⟩ _
 refine bR ?_
 refine sX ?_
 refine eX ?_
 obtain rfl := eI h; exact z04 ⟨_, rfl, z0p (y := (PV.sl none 29 11 (List.map z15 s2))) Wk.tok (z0f z2e s2) ⟨rfl, rfl⟩⟩
 refine z2l (ι := Bool) (fun i => zel a0 i = some r) (fun i => [(1, (PV.rf 0 0)), (3, (PV.sl (some 1) 29 11 (List.map z15 ([] : (List Term))))), (18, (BO i))]) (fun i => [.box 29 (z1r a0), .arr 29 (([] : (List Term))).length]) ?_ ?_ ?_
 intro i; exact ⟨lbE rfl, ⟨(il_rf rfl), ⟨(z4m rfl (z36 z2e _)), ⟨(z02 rfl), trivial⟩⟩⟩, ⟨wfC29, trivial⟩⟩
 rintro s3 h; replace h : zel a0 s3 = some r := h; unfold zel at h
 change BW _ _ _ ⟨[(1, (PV.rf 0 0)), (3, (PV.sl (some 1) 29 11 (List.map z15 ([] : (List Term))))), (18, (BO s3))], [.box 29 (z1r a0), .arr 29 (([] : (List Term))).length], _⟩ _
 refine cX h rfl ?_ ?_
 intro hc4 h
 refine bR ?_
 refine eX ?_
 refine z0r ?_
 refine cBx ?_
 unfold zhw at h
 refine z3c (σ := ((List Term) × Nat)) (fun i => [(1, (PV.rf 0 0)), (3, (PV.sl (some 1) 29 11 (List.map z15 i.1))), (4, (I64 (((i.2 : Nat) : Int))))]) (fun i => [.box 29 (z1r a0), .arr 29 (i.1).length]) (([] : (List Term)), 0) h ?_ ?_ ?_
 intro i; exact ⟨lbE rfl, ⟨(il_rf rfl), ⟨(z4m rfl (z36 z2e _)), ⟨(z02 rfl), trivial⟩⟩⟩, ⟨wfC29, trivial⟩⟩
 exact jN
 rintro g1_f ⟨s5, s6⟩ h; replace h : z69 a0 (fun y0 y1 => g1_f (y0, y1)) s5 s6 = some r := h; unfold z69 at h
 change BW _ _ _ ⟨[(1, (PV.rf 0 0)), (3, (PV.sl (some 1) 29 11 (List.map z15 s5))), (4, (I64 (((s6 : Nat) : Int))))], [.box 29 (z1r a0), .arr 29 (s5).length], _⟩ _
 refine z0d ?_
 refine bR ?_
 iterate 4 refine sX ?_
 refine eX ?_
 refine z3p (t := 21) rfl fun hb8 => ?_
 try rw [List.length_map] at hb8
 refine cX h rfl ?_ ?_
 intro hc7 h
 have hc7_ := of_decide_eq_true hc7
 refine z0c ?_
 refine cBx ?_
 refine z0d ?_
 refine z0r ?_
 refine cBx ?_
 refine z0e ?_
 iterate 4 refine sX ?_
 obtain ⟨x9, hx9, h⟩ := obind h
 refine sS rfl rfl rfl (z1d (i := s6) Try.underlying27 z22 rfl rfl rfl hx9 (z1o _)) ?_
 iterate 2 refine sX ?_
 refine sS rfl rfl rfl ((z16 (xs := [(z0b (x9.2))]) Try.underlying26 z0v rfl rfl rfl rfl rfl rfl ⟨lbE rfl, lbE rfl⟩ rfl).cast (y := (PV.sl (some 2) 29 11 (List.map z15 ([(x9.2)] : (List Term))))) (by simp only [List.map_cons, List.map_nil, z2b]; try rfl) rfl) ?_
 obtain ⟨x10, hx10, h⟩ := obind h
 refine sS rfl rfl rfl (z21 Try.underlying26 z0v rfl Try.underlying26 rfl rfl rfl rfl z7y z4g hx10 rfl) ?_
 refine eX ?_
 refine z0e ?_
 refine sX ?_
 refine sS rfl rfl rfl (z20 (k := s6) (c := 1) rfl rfl rfl (by omega)) ?_
 refine sX (z08 ?_)
 exact ⟨rfl, (x10, (s6 + 1)), h, jN⟩
 intro hc7 h
 refine z1z ?_
 exact ⟨rfl, s5, h, ⟨(.cons .dead (.cons .same .nil)), (sC rfl z2a)⟩⟩
 intro hc4 h
 refine z0c ?_
 exact ⟨rfl, ([] : (List Term)), h, ⟨(.cons .dead (.cons .same .nil)), (sC rfl z2a)⟩⟩
 refine z0e ?_
 iterate 4 refine sX ?_
 refine z0n (t := 14) rfl ?_ ?_
 intro hb11; replace h := z0t hb11 h
 iterate 3 refine nX ?_
 refine sX (z08 ?_)
 exact ⟨rfl, true, h, jN⟩
 intro hb11; replace h := z0u hb11 h
 iterate 3 refine yX ?_
 refine sX (z08 ?_)
 exact ⟨rfl, (a0.kind == 10), h, jN⟩
noncomputable def z5b (r_q09 : S_ref01_seen → Term → Int → Option S_ref01_seen) (a2 : Int) (x4 : (List Term)) (g1 : Nat → Int → Int → Int → Int → Option S_ref01_seen) (s5 : Nat) (s6 s7 s8 s9 : Int) : Option S_ref01_seen :=
 bif (decide (((s5 : Nat) : Int) < (((x4).length : Nat) : Int))) then (
 ((x4)[s5]?).bind fun x12 =>
 (r_q09 (S_ref01_seen.mk s6 s7 s8 s9) x12 (IntKind.i64.wrap (a2 + 1))).bind fun x13 =>
 bif (x13.f_why != 0) then (
 some x13
 ) else (
 g1 (s5 + 1) x13.f_n x13.f_deep x13.f_at x13.f_why
 )
 ) else (
 some (S_ref01_seen.mk s6 s7 s8 s9)
 )
theorem zak (r_q09 : OF ρ → S_ref01_seen → Term → Int → Option S_ref01_seen) (h_r_q09 : ∀ y0 y1 y2, CM (fun G => r_q09 G y0 y1 y2)) (g1 : OF ρ → Nat → Int → Int → Int → Int → Option S_ref01_seen) (h_g1 : ∀ y0 y1 y2 y3 y4, CM (fun G => g1 G y0 y1 y2 y3 y4)) (a2 : Int) (x4 : (List Term)) (s5 : Nat) (s6 s7 s8 s9 : Int) : CM (fun G : OF ρ => z5b (r_q09 G) a2 x4 (g1 G) s5 s6 s7 s8 s9) := by
 simp only [z5b]
 repeat (first | exact z0h | exact h_r_q09 _ _ _ | exact h_g1 _ _ _ _ _ | refine z10 ?_ ?_ | refine z11 ?_ (fun _ => ?_))
noncomputable def zco (r_q09 : S_ref01_seen → Term → Int → Option S_ref01_seen) (a2 : Int) (x4 : (List Term)) (s5 : Nat) (s6 s7 s8 s9 : Int) : Option S_ref01_seen :=
 z3b (ι := (Nat × Int × Int × Int × Int)) (ρ := fun _ => S_ref01_seen) (fun g i => z5b r_q09 a2 x4 (fun s5 s6 s7 s8 s9 => g (s5, s6, s7, s8, s9)) i.1 i.2.1 i.2.2.1 i.2.2.2.1 i.2.2.2.2) (s5, s6, s7, s8, s9)
theorem zi2 (r_q09 : S_ref01_seen → Term → Int → Option S_ref01_seen) (a2 : Int) (x4 : (List Term)) (s5 : Nat) (s6 s7 s8 s9 : Int) : zco r_q09 a2 x4 s5 s6 s7 s8 s9 = z5b r_q09 a2 x4 (zco r_q09 a2 x4) s5 s6 s7 s8 s9 :=
 z1f (ι := (Nat × Int × Int × Int × Int)) (ρ := fun _ => S_ref01_seen) (Φ := fun g i => z5b r_q09 a2 x4 (fun s5 s6 s7 s8 s9 => g (s5, s6, s7, s8, s9)) i.1 i.2.1 i.2.2.1 i.2.2.2.1 i.2.2.2.2) (fun i => zak (ι := (Nat × Int × Int × Int × Int)) (ρ := fun _ => S_ref01_seen) (fun _ => r_q09) (fun _ _ _ => z0h) (fun g => (fun s5 s6 s7 s8 s9 => g (s5, s6, s7, s8, s9))) (fun _ _ _ _ _ => z1i) a2 x4 i.1 i.2.1 i.2.2.1 i.2.2.2.1 i.2.2.2.2) (s5, s6, s7, s8, s9)
theorem zpr (r_q09 : OF ρ → S_ref01_seen → Term → Int → Option S_ref01_seen) (h_r_q09 : ∀ y0 y1 y2, CM (fun G => r_q09 G y0 y1 y2)) (a2 : Int) (x4 : (List Term)) (s5 : Nat) (s6 s7 s8 s9 : Int) : CM (fun G : OF ρ => zco (r_q09 G) a2 x4 s5 s6 s7 s8 s9) :=
 z5z (κ := (Nat × Int × Int × Int × Int)) (τ := fun _ => S_ref01_seen) (Φ := fun G g i => z5b (r_q09 G) a2 x4 (fun s5 s6 s7 s8 s9 => g (s5, s6, s7, s8, s9)) i.1 i.2.1 i.2.2.1 i.2.2.2.1 i.2.2.2.2) (fun g i => zak r_q09 h_r_q09 (fun _ => (fun s5 s6 s7 s8 s9 => g (s5, s6, s7, s8, s9))) (fun _ _ _ _ _ => z0h) a2 x4 i.1 i.2.1 i.2.2.1 i.2.2.2.1 i.2.2.2.2) (fun G i => zak (ι := (Nat × Int × Int × Int × Int)) (ρ := fun _ => S_ref01_seen) (fun _ => r_q09 G) (fun _ _ _ => z0h) (fun g => (fun s5 s6 s7 s8 s9 => g (s5, s6, s7, s8, s9))) (fun _ _ _ _ _ => z1i) a2 x4 i.1 i.2.1 i.2.2.1 i.2.2.2.1 i.2.2.2.2) (s5, s6, s7, s8, s9)
noncomputable def z9d (r_q09 : S_ref01_seen → Term → Int → Option S_ref01_seen) (a0 : S_ref01_seen) (a1 : Term) (a2 s3 : Int) : Option S_ref01_seen :=
 (zqo a1).bind fun x4 =>
 zco r_q09 a2 x4 0 (IntKind.i64.wrap (a0.f_n + 1)) s3 a0.f_at a0.f_why
theorem zps (r_q09 : OF ρ → S_ref01_seen → Term → Int → Option S_ref01_seen) (h_r_q09 : ∀ y0 y1 y2, CM (fun G => r_q09 G y0 y1 y2)) (a0 : S_ref01_seen) (a1 : Term) (a2 s3 : Int) : CM (fun G : OF ρ => z9d (r_q09 G) a0 a1 a2 s3) := by
 simp only [z9d]
 repeat (first | exact z0h | exact h_r_q09 _ _ _ | apply zpr | refine z10 ?_ ?_ | refine z11 ?_ (fun _ => ?_) | intro _ | assumption)
noncomputable def zkk (r_q09 : S_ref01_seen → Term → Int → Option S_ref01_seen) (a0 : S_ref01_seen) (a1 : Term) (a2 : Int) : Option S_ref01_seen :=
 (zdz a1 a0.f_n a2).bind fun x1 =>
 bif (x1 != 0) then (
 some (S_ref01_seen.mk a0.f_n a0.f_deep a0.f_n x1)
 ) else (
 bif (decide (a2 > a0.f_deep)) then (
 z9d r_q09 a0 a1 a2 a2
 ) else (
 z9d r_q09 a0 a1 a2 a0.f_deep
 )
 )
theorem zv8 (r_q09 : OF ρ → S_ref01_seen → Term → Int → Option S_ref01_seen) (h_r_q09 : ∀ y0 y1 y2, CM (fun G => r_q09 G y0 y1 y2)) (a0 : S_ref01_seen) (a1 : Term) (a2 : Int) : CM (fun G : OF ρ => zkk (r_q09 G) a0 a1 a2) := by
 simp only [zkk]
 repeat (first | exact z0h | exact h_r_q09 _ _ _ | apply zps | refine z10 ?_ ?_ | refine z11 ?_ (fun _ => ?_) | intro _ | assumption)
inductive C_q09 where
 | k_q09 (a0 : S_ref01_seen) (a1 : Term) (a2 : Int)
def C_q09.R : C_q09 → Type
 | .k_q09 _ _ _ => S_ref01_seen
noncomputable def C_q09.F (g : ∀ i : C_q09, Option i.R) : ∀ i : C_q09, Option i.R
 | .k_q09 a0 a1 a2 => zkk (fun a0 a1 a2 => g (.k_q09 a0 a1 a2)) a0 a1 a2
noncomputable def zif (a0 : S_ref01_seen) (a1 : Term) (a2 : Int) : Option S_ref01_seen := z3b C_q09.F (.k_q09 a0 a1 a2)
abbrev gg7 := fun (g : ∀ i : C_q09, Option i.R) a0 a1 a2 => g (.k_q09 a0 a1 a2)
theorem hh7 (a0 a1 a2 : _) : CM (ρ := C_q09.R) (fun g => g (C_q09.k_q09 a0 a1 a2)) := z1i
theorem C_q09.cm (i : C_q09) : CM (fun g : (∀ i : C_q09, Option i.R) => C_q09.F g i) := by
 cases i with
 | k_q09 a0 a1 a2 => exact zv8 gg7 hh7 a0 a1 a2
theorem Z54 (a0 : S_ref01_seen) (a1 : Term) (a2 : Int) : zif a0 a1 a2 = zkk zif a0 a1 a2 := z1f C_q09.cm (.k_q09 a0 a1 a2)
def C_q09.Q : ∀ i : C_q09, i.R → Prop
 | .k_q09 a0 a1 a2 => fun (r : S_ref01_seen) => z0o Try.prog 36 [(z1s a0), (z0b a1), (I64 a2)] (z1s r)
theorem za6 (r_q09 : S_ref01_seen → Term → Int → Option S_ref01_seen) (c_q09 : ∀ (a0 : S_ref01_seen) (a1 : Term) (a2 : Int) r, r_q09 a0 a1 a2 = some r → z0o Try.prog 36 [(z1s a0), (z0b a1), (I64 a2)] (z1s r)) (a0 : S_ref01_seen) (a1 : Term) (a2 : Int) (r : S_ref01_seen) (h : zkk r_q09 a0 a1 a2 = some r) : z0o Try.prog 36 [(z1s a0), (z0b a1), (I64 a2)] (z1s r) := by
 unfold zkk at h
 refine z0j Try.func36 rfl Try.ntmps36 Try.results36 rfl (z0q ?_)
 change BW _ _ _ ⟨[(0, (z1s a0)), (1, (z0b a1)), (2, (I64 a2))], [], _⟩ _
 refine bR ?_
 iterate 2 refine sX ?_
 refine sS rfl rfl rfl (z1b z9o rfl) (z08 ?_)
 refine cBx ?_
 refine z0d ?_
 refine bR ?_
 iterate 4 refine sX ?_
 obtain ⟨x1, hx1, h⟩ := obind h
 refine sS rfl rfl rfl (z03 rfl Z4g rfl (wkr (wkr (wkr .nil))) ⟨(z06 a1), ⟨rfl, ⟨rfl, trivial⟩⟩⟩ (Z34 a1 a0.f_n a2 x1 hx1) rfl) ?_
 refine eX ?_
 refine bR ?_
 refine sX ?_
 refine eX ?_
 refine cX h rfl ?_ ?_
 intro hc2 h
 refine bR ?_
 iterate 4 refine sX ?_
 refine z0l rfl rfl (z0g zg8 rfl rfl rfl rfl rfl rfl (lbE rfl) rfl) ?_
 refine sX ?_
 refine z0l rfl rfl (z0g zw3 rfl rfl rfl rfl rfl rfl (lbE rfl) rfl) ?_
 refine z08 ?_
 refine cBx ?_
 refine bR ?_
 refine sX ?_
 refine z0l rfl rfl (z0g z9o rfl rfl rfl rfl rfl rfl (lbE rfl) rfl) ?_
 refine z08 ?_
 refine cBx ?_
 obtain rfl := eI h; exact z04 ⟨_, rfl, z0p (y := (z1s (S_ref01_seen.mk a0.f_n a0.f_deep a0.f_n x1))) (Wk.refl _) (z24 (S_ref01_seen.mk a0.f_n a0.f_deep a0.f_n x1)) ⟨rfl, rfl⟩⟩
 intro hc2 h
 refine z0c ?_
 refine cBx ?_
 refine bR ?_
 iterate 4 refine sX ?_
 refine z0l rfl rfl (z0g zg8 rfl rfl rfl rfl rfl rfl (lbE rfl) rfl) ?_
 refine z08 ?_
 refine cBx ?_
 refine jX (ι := Int) (fun i => z9d r_q09 a0 a1 a2 i = some r) (fun i => [(2, (I64 a2)), (3, (PV.rf 0 0)), (4, (PV.rf 1 0)), (6, (PV.rf 2 0))]) (fun i => [.box 81 [(I64 ((IntKind.i64.wrap (a0.f_n + 1)))), (I64 i), (I64 a0.f_at), (I64 a0.f_why)], .box 29 (z1r a1), .box 81 [(I64 0), (I64 0), (I64 0), (I64 0)]]) ?_ ?_
 rintro s3 h; replace h : z9d r_q09 a0 a1 a2 s3 = some r := h; unfold z9d at h
 change BW _ _ _ ⟨[(2, (I64 a2)), (3, (PV.rf 0 0)), (4, (PV.rf 1 0)), (6, (PV.rf 2 0))], [.box 81 [(I64 ((IntKind.i64.wrap (a0.f_n + 1)))), (I64 s3), (I64 a0.f_at), (I64 a0.f_why)], .box 29 (z1r a1), .box 81 [(I64 0), (I64 0), (I64 0), (I64 0)]], _⟩ _
 refine bR ?_
 refine sX ?_
 obtain ⟨x4, hx4, h⟩ := obind h
 refine sS rfl rfl rfl (z03 rfl Z4f rfl (wkr .nil) ⟨(z06 a1), trivial⟩ (Z3d a1 x4 hx4) (z0f z2e x4)) ?_
 refine eX ?_
 refine z0d ?_
 refine bR ?_
 refine eX ?_
 refine z0r ?_
 refine cBx ?_
 unfold zco at h
 refine lX (σ := (Nat × Int × Int × Int × Int)) (fun i => [(2, (I64 a2)), (3, (PV.rf 0 0)), (6, (PV.rf 2 0)), (8, (PV.sl none 29 11 (List.map z15 x4))), (9, (I64 (((i.1 : Nat) : Int))))]) (fun i => [.box 81 [(I64 i.2.1), (I64 i.2.2.1), (I64 i.2.2.2.1), (I64 i.2.2.2.2)], .dead, .box 81 [(I64 0), (I64 0), (I64 0), (I64 0)]]) (0, (IntKind.i64.wrap (a0.f_n + 1)), s3, a0.f_at, a0.f_why) h ?_ ?_
 exact ⟨(.cons .same (.cons .dead (.cons .same .nil))), (sC rfl (sC rfl (sC rfl (sC rfl (sC rfl z2a)))))⟩
 rintro g1_f ⟨s5, s6, s7, s8, s9⟩ h; replace h : z5b r_q09 a2 x4 (fun y0 y1 y2 y3 y4 => g1_f (y0, y1, y2, y3, y4)) s5 s6 s7 s8 s9 = some r := h; unfold z5b at h
 change BW _ _ _ ⟨[(2, (I64 a2)), (3, (PV.rf 0 0)), (6, (PV.rf 2 0)), (8, (PV.sl none 29 11 (List.map z15 x4))), (9, (I64 (((s5 : Nat) : Int))))], [.box 81 [(I64 s6), (I64 s7), (I64 s8), (I64 s9)], .dead, .box 81 [(I64 0), (I64 0), (I64 0), (I64 0)]], _⟩ _
 refine z0d ?_
 refine bR ?_
 iterate 3 refine sX ?_
 refine eX ?_
 refine z3p (t := 36) rfl fun hb11 => ?_
 try rw [List.length_map] at hb11
 refine cX h rfl ?_ ?_
 intro hc10 h
 have hc10_ := of_decide_eq_true hc10
 refine z0c ?_
 refine cBx ?_
 refine z0d ?_
 refine z0r ?_
 refine cBx ?_
 refine z0d (z1y 7 [] [0] mo (by kernel_rfl) ?_)
 iterate 3 refine gX ?_
 obtain ⟨x12, hx12, h⟩ := obind h
 refine z1v rfl rfl rfl rfl (fun H hp => z1d (i := s5) Try.underlying26 z0v rfl rfl rfl hx12 (z2b _)) ?_
 iterate 3 refine gX ?_
 refine z23 ?_
 change AO _ _ _ _ _
 obtain ⟨x13, hx13, h⟩ := obind h
 refine sS rfl rfl rfl (z03 rfl Z1z rfl (wkr (wkr (wkr .nil))) ⟨(z24 (S_ref01_seen.mk s6 s7 s8 s9)), ⟨(z06 x12), ⟨rfl, trivial⟩⟩⟩ (c_q09 (S_ref01_seen.mk s6 s7 s8 s9) x12 (IntKind.i64.wrap (a2 + 1)) x13 hx13) (z24 x13)) ?_
 refine z0l rfl rfl (z0g z9o rfl rfl rfl rfl rfl rfl (lbE rfl) rfl) ?_
 refine z08 ?_
 refine cBx ?_
 refine bR ?_
 iterate 2 refine sX ?_
 refine eX ?_
 refine cX h rfl ?_ ?_
 intro hc14 h
 refine bR ?_
 refine sX ?_
 refine z0l rfl rfl (z0g z9o rfl rfl rfl rfl rfl rfl (lbE rfl) rfl) ?_
 refine z08 ?_
 refine cBx ?_
 obtain rfl := eI h; exact z04 ⟨_, rfl, z0p (y := (z1s x13)) (Wk.refl _) (z24 x13) ⟨rfl, rfl⟩⟩
 intro hc14 h
 refine z0c ?_
 refine cBx ?_
 refine z0e ?_
 refine sX ?_
 refine sS rfl rfl rfl (z20 (k := s5) (c := 1) rfl rfl rfl (by omega)) ?_
 refine sX (z08 ?_)
 exact ⟨rfl, ((s5 + 1), x13.f_n, x13.f_deep, x13.f_at, x13.f_why), h, ⟨(.cons .same (.cons .dead (.cons .same .nil))), (sC rfl (sC rfl (sC rfl (sC rfl (sC rfl z2a)))))⟩⟩
 intro hc10 h
 refine z1z ?_
 refine cBx ?_
 refine bR ?_
 refine sX ?_
 refine z0l rfl rfl (z0g z9o rfl rfl rfl rfl rfl rfl (lbE rfl) rfl) ?_
 refine z08 ?_
 refine cBx ?_
 obtain rfl := eI h; exact z04 ⟨_, rfl, z0p (y := (z1s (S_ref01_seen.mk s6 s7 s8 s9))) (Wk.refl _) (z24 (S_ref01_seen.mk s6 s7 s8 s9)) ⟨rfl, rfl⟩⟩
 refine bR ?_
 iterate 3 refine sX ?_
 refine eX ?_
 refine cX h rfl ?_ ?_
 intro hc15 h
 refine z0e ?_
 iterate 2 refine sX ?_
 refine z0l rfl rfl (z0g zg8 rfl rfl rfl rfl rfl rfl (lbE rfl) rfl) ?_
 refine z08 ?_
 exact ⟨rfl, a2, h, jN⟩
 intro hc15 h
 refine z0c ?_
 exact ⟨rfl, a0.f_deep, h, jN⟩
theorem C_q09.sound : ∀ (i : C_q09) (r : i.R), z3b C_q09.F i = some r → C_q09.Q i r := by
 refine z42 (Φ := C_q09.F) (Q := C_q09.Q) ?_
 intro g hg i r h
 cases i with
 | k_q09 a0 a1 a2 => exact za6 (fun a0 a1 a2 => g (.k_q09 a0 a1 a2)) (fun a0 a1 a2 r hr => hg (.k_q09 a0 a1 a2) r hr) a0 a1 a2 r h
theorem Z3j (a0 : S_ref01_seen) (a1 : Term) (a2 : Int) (r : S_ref01_seen) (h : zif a0 a1 a2 = some r) : z0o Try.prog 36 [(z1s a0), (z0b a1), (I64 a2)] (z1s r) := C_q09.sound (.k_q09 a0 a1 a2) r h
noncomputable def zid (a0 : Term) : Option (Int × Int) :=
 (zif (S_ref01_seen.mk 0 0 0 0) a0 1).bind fun x1 =>
 some (x1.f_at, x1.f_why)
theorem ztb (a0 : Term) (r : (Int × Int)) (h : zid a0 = some r) : z0o Try.prog 13 [(z0b a0)] (PV.tup [(I64 r.1), (I64 r.2)]) := by
 unfold zid at h
 refine z0j Try.func13 rfl Try.ntmps13 Try.results13 rfl (z0q ?_)
 change BW _ _ _ ⟨[(0, (z0b a0))], [], _⟩ _
 refine bR ?_
 iterate 2 refine sX ?_
 refine eX ?_
 refine bR ?_
 refine sS rfl rfl rfl (z1a (cs := [(I64 0), (I64 0), (I64 0), (I64 0)]) zzr z9o rfl rfl rfl rfl) ?_
 refine sX ?_
 obtain ⟨x1, hx1, h⟩ := obind h
 refine sS rfl rfl rfl (z03 rfl Z1z rfl (wkr (wkr (wkr .nil))) ⟨(z24 (S_ref01_seen.mk 0 0 0 0)), ⟨(z06 a0), ⟨rfl, trivial⟩⟩⟩ (Z3j (S_ref01_seen.mk 0 0 0 0) a0 1 x1 hx1) (z24 x1)) ?_
 refine sS rfl rfl rfl (z1b z9o rfl) ?_
 refine z0l rfl rfl (z0g z9o rfl rfl rfl rfl rfl rfl (lbE rfl) rfl) ?_
 refine z08 ?_
 refine cBx ?_
 refine z0d (z1y 5 [] [1] mo (by kernel_rfl) ?_)
 iterate 5 refine gX ?_
 refine z23 ?_
 change AO _ _ _ _ _
 refine eX ?_
 obtain rfl := eI h; exact z04 eK
end Go.Proofs.Ythidgpcbnieleaa
