/- Pure functions, and that calls answer as they say. -/
import Derived.Test.YtiapdjdhaclmnaaG9
namespace Go.Proofs.Ytiapdjdhaclmnaa
open Go Aw
set_option linter.unusedVariables false
set_option maxRecDepth 20000
set_option maxHeartbeats 2000000
variable {ι : Type} {ρ : ι → Type}
noncomputable def z8k (g1 : Int → Option Bool) (s3 : Int) (s6 : Bool) : Option Bool :=
 bif s6 then (
 some false
 ) else (
 g1 (IntKind.i64.wrap (s3 + 1))
 )
theorem zts (g1 : OF ρ → Int → Option Bool) (h_g1 : ∀ y0, CM (fun G => g1 G y0)) (s3 : Int) (s6 : Bool) : CM (fun G : OF ρ => z8k (g1 G) s3 s6) := by
 simp only [z8k]
 repeat (first | exact z01 | exact h_g1 _ | refine z0h ?_ ?_ | refine z0i ?_ (fun _ => ?_))
noncomputable def zdd (g1 : Int → Option Bool) (a0 : Str) (s3 : Int) (s5 : Bool) : Option Bool :=
 bif (!s5) then (
 bif (s3 == 0) then (
 z8k g1 s3 true
 ) else (
 (z5g a0 s3).bind fun x10 =>
 bif (((x10).toNat : Int) != (((95 : UInt8)).toNat : Int)) then (
 (z5g a0 s3).bind fun x12 =>
 bif (decide (((x12).toNat : Int) < (((48 : UInt8)).toNat : Int))) then (
 z8k g1 s3 true
 ) else (
 (z5g a0 s3).bind fun x14 =>
 z8k g1 s3 (decide (((x14).toNat : Int) > (((57 : UInt8)).toNat : Int)))
 )
 ) else (
 z8k g1 s3 false
 )
 )
 ) else (
 z8k g1 s3 false
 )
theorem ztt (g1 : OF ρ → Int → Option Bool) (h_g1 : ∀ y0, CM (fun G => g1 G y0)) (a0 : Str) (s3 : Int) (s5 : Bool) : CM (fun G : OF ρ => zdd (g1 G) a0 s3 s5) := by
 simp only [zdd]
 repeat (first | exact z01 | exact h_g1 _ | apply zts | refine z0h ?_ ?_ | refine z0i ?_ (fun _ => ?_) | intro _ | assumption)
noncomputable def z54 (a0 : Str) (g1 : Int → Option Bool) (s3 : Int) : Option Bool :=
 bif (decide (s3 < (((a0).length : Nat) : Int))) then (
 (z5g a0 s3).bind fun x15 =>
 bif (decide (((x15).toNat : Int) ≥ (((97 : UInt8)).toNat : Int))) then (
 (z5g a0 s3).bind fun x17 =>
 zdd g1 a0 s3 (decide (((x17).toNat : Int) ≤ (((122 : UInt8)).toNat : Int)))
 ) else (
 zdd g1 a0 s3 false
 )
 ) else (
 some true
 )
theorem zr8 (g1 : OF ρ → Int → Option Bool) (h_g1 : ∀ y0, CM (fun G => g1 G y0)) (a0 : Str) (s3 : Int) : CM (fun G : OF ρ => z54 a0 (g1 G) s3) := by
 simp only [z54]
 repeat (first | exact z01 | exact h_g1 _ | apply ztt | refine z0h ?_ ?_ | refine z0i ?_ (fun _ => ?_) | intro _ | assumption)
noncomputable def zdc (a0 : Str) (s3 : Int) : Option Bool :=
 z22 (ι := Int) (ρ := fun _ => Bool) (fun g i => z54 a0 (fun s3 => g s3) i) s3
theorem zet (a0 : Str) (s3 : Int) : zdc a0 s3 = z54 a0 (zdc a0) s3 :=
 z0t (ι := Int) (ρ := fun _ => Bool) (Φ := fun g i => z54 a0 (fun s3 => g s3) i) (fun i => zr8 (ι := Int) (ρ := fun _ => Bool) (fun g => (fun s3 => g s3)) (fun _ => z0s) a0 i) s3
noncomputable def zh6 (a0 : Str) (s1 : Bool) : Option Bool :=
 bif s1 then (
 some false
 ) else (
 zdc a0 0
 )
noncomputable def zlt (a0 : Str) : Option Bool :=
 bif (decide ((((a0).length : Nat) : Int) < 1)) then (
 zh6 a0 true
 ) else (
 zh6 a0 (decide ((((a0).length : Nat) : Int) > 32))
 )
theorem zyt (a0 : Str) (r : Bool) (h : zlt a0 = some r) : z08 Try.prog 60 [(ofStr a0)] (BO r) := by
 unfold zlt at h
 refine z0g Try.func60 rfl Try.ntmps60 Try.results60 rfl (z0q ?_)
 change BW _ _ _ ⟨[(0, (ofStr a0))], [], _⟩ _
 refine bR ?_
 refine eX ?_
 refine z09 ?_
 refine jX (ι := Bool) (fun i => zh6 a0 i = some r) (fun i => [(0, (ofStr a0)), (12, (BO i))]) (fun i => []) ?_ ?_
 rintro s1 h; replace h : zh6 a0 s1 = some r := h; unfold zh6 at h
 change BW _ _ _ ⟨[(0, (ofStr a0)), (12, (BO s1))], [], _⟩ _
 refine cX h rfl ?_ ?_
 intro hc2 h
 refine bR ?_
 refine eX ?_
 obtain rfl := eI h; exact z05 eK
 intro hc2 h
 refine z07 ?_
 refine cBx ?_
 refine z09 ?_
 refine bR ?_
 refine eX ?_
 refine z0e ?_
 refine cBx ?_
 unfold zdc at h
 refine lX (σ := Int) (fun i => [(0, (ofStr a0)), (3, (I64 i))]) (fun i => []) 0 h ?_ ?_
 exact jN
 rintro g1_f s3 h; replace h : z54 a0 (fun y0 => g1_f y0) s3 = some r := h; unfold z54 at h
 change BW _ _ _ ⟨[(0, (ofStr a0)), (3, (I64 s3))], [], _⟩ _
 refine z09 ?_
 refine bR ?_
 iterate 2 refine sX ?_
 refine sS rfl rfl rfl (z97 (s := a0) Try.underlying9 rfl rfl) ?_
 refine eX ?_
 refine cX h rfl ?_ ?_
 intro hc4 h
 refine z07 ?_
 refine cBx ?_
 refine z09 ?_
 refine z0e ?_
 refine cBx ?_
 refine jX (ι := Bool) (fun i => zdd (fun y0 => g1_f y0) a0 s3 i = some r) (fun i => [(0, (ofStr a0)), (3, (I64 s3)), (4, (BO i))]) (fun i => []) ?_ ?_
 rintro s5 h; replace h : zdd (fun y0 => g1_f y0) a0 s3 s5 = some r := h; unfold zdd at h
 change BW _ _ _ ⟨[(0, (ofStr a0)), (3, (I64 s3)), (4, (BO s5))], [], _⟩ _
 refine jX (ι := Bool) (fun i => z8k (fun y0 => g1_f y0) s3 i = some r) (fun i => [(0, (ofStr a0)), (3, (I64 s3)), (52, (BO i))]) (fun i => []) ?_ ?_
 rintro s6 h; replace h : z8k (fun y0 => g1_f y0) s3 s6 = some r := h; unfold z8k at h
 change BW _ _ _ ⟨[(0, (ofStr a0)), (3, (I64 s3)), (52, (BO s6))], [], _⟩ _
 refine cX h rfl ?_ ?_
 intro hc7 h
 refine bR ?_
 refine eX ?_
 obtain rfl := eI h; exact z05 eK
 intro hc7 h
 refine z07 ?_
 refine cBx ?_
 refine z0a ?_
 iterate 2 refine sX ?_
 refine sX (z06 ?_)
 exact ⟨rfl, (IntKind.i64.wrap (s3 + 1)), h, jN⟩
 refine z0a ?_
 iterate 3 refine sX ?_
 refine z0n (t := 31) rfl ?_ ?_
 intro hb8; replace h := z0j hb8 h
 iterate 3 refine yX ?_
 refine z0n (t := 34) rfl ?_ ?_
 intro hb9; replace h := z0j hb9 h
 iterate 16 refine nX ?_
 refine yX ?_
 refine sX (z06 ?_)
 exact ⟨rfl, true, h, jN⟩
 intro hb9; replace h := z0k hb9 h
 iterate 2 refine yX ?_
 obtain ⟨x10, hx10, h⟩ := obind h
 refine z1g rfl rfl rfl rfl rfl rfl (z98 (s := a0) Try.underlying9 rfl rfl rfl hx10) ?_
 iterate 2 refine yX ?_
 refine z0n (t := 39) rfl ?_ ?_
 intro hb11; replace h := z0j hb11 h
 iterate 2 refine yX ?_
 obtain ⟨x12, hx12, h⟩ := obind h
 refine z1g rfl rfl rfl rfl rfl rfl (z98 (s := a0) Try.underlying9 rfl rfl rfl hx12) ?_
 iterate 2 refine yX ?_
 refine z0n (t := 44) rfl ?_ ?_
 intro hb13; replace h := z0j hb13 h
 iterate 4 refine nX ?_
 iterate 3 refine yX ?_
 refine sX (z06 ?_)
 exact ⟨rfl, true, h, jN⟩
 intro hb13; replace h := z0k hb13 h
 iterate 2 refine yX ?_
 obtain ⟨x14, hx14, h⟩ := obind h
 refine z1g rfl rfl rfl rfl rfl rfl (z98 (s := a0) Try.underlying9 rfl rfl rfl hx14) ?_
 iterate 4 refine yX ?_
 refine sX (z06 ?_)
 exact ⟨rfl, (decide (((x14).toNat : Int) > (((57 : UInt8)).toNat : Int))), h, jN⟩
 intro hb11; replace h := z0k hb11 h
 iterate 10 refine nX ?_
 iterate 2 refine yX ?_
 refine sX (z06 ?_)
 exact ⟨rfl, false, h, jN⟩
 intro hb8; replace h := z0k hb8 h
 iterate 20 refine nX ?_
 refine sX (z06 ?_)
 exact ⟨rfl, false, h, jN⟩
 refine z0a ?_
 iterate 2 refine sX ?_
 obtain ⟨x15, hx15, h⟩ := obind h
 refine sS rfl rfl rfl (z98 (s := a0) Try.underlying9 rfl rfl rfl hx15) ?_
 iterate 2 refine sX ?_
 refine z0n (t := 23) rfl ?_ ?_
 intro hb16; replace h := z0j hb16 h
 iterate 2 refine yX ?_
 obtain ⟨x17, hx17, h⟩ := obind h
 refine z1g rfl rfl rfl rfl rfl rfl (z98 (s := a0) Try.underlying9 rfl rfl rfl hx17) ?_
 refine yX ?_
 refine sX ?_
 refine sX (z06 ?_)
 exact ⟨rfl, (decide (((x17).toNat : Int) ≤ (((122 : UInt8)).toNat : Int))), h, jN⟩
 intro hb16; replace h := z0k hb16 h
 iterate 4 refine nX ?_
 refine sX ?_
 refine sX (z06 ?_)
 exact ⟨rfl, false, h, jN⟩
 intro hc4 h
 refine z1a ?_
 refine cBx ?_
 refine bR ?_
 refine eX ?_
 obtain rfl := eI h; exact z05 eK
 refine z0a ?_
 refine sX ?_
 refine sS rfl rfl rfl (z97 (s := a0) Try.underlying9 rfl rfl) ?_
 iterate 2 refine sX ?_
 refine z0n (t := 8) rfl ?_ ?_
 intro hb18; replace h := z0j hb18 h
 iterate 3 refine nX ?_
 refine sX (z06 ?_)
 exact ⟨rfl, true, h, jN⟩
 intro hb18; replace h := z0k hb18 h
 refine yX ?_
 refine z1g rfl rfl rfl rfl rfl rfl (z97 (s := a0) Try.underlying9 rfl rfl) ?_
 refine yX ?_
 refine sX (z06 ?_)
 exact ⟨rfl, (decide ((((a0).length : Nat) : Int) > 32)), h, jN⟩
noncomputable def zab (g1 : Nat → Option Int) (s17 : Nat) (s20 : Bool) : Option Int :=
 bif s20 then (
 some 8
 ) else (
 g1 (s17 + 1)
 )
theorem ztf (g1 : OF ρ → Nat → Option Int) (h_g1 : ∀ y0, CM (fun G => g1 G y0)) (s17 : Nat) (s20 : Bool) : CM (fun G : OF ρ => zab (g1 G) s17 s20) := by
 simp only [zab]
 repeat (first | exact z01 | exact h_g1 _ | refine z0h ?_ ?_ | refine z0i ?_ (fun _ => ?_))
noncomputable def z7i (a0 : Term) (g1 : Nat → Option Int) (s17 : Nat) : Option Int :=
 bif (decide (((s17 : Nat) : Int) < (((a0.fields).length : Nat) : Int))) then (
 ((a0.fields)[s17]?).bind fun x22 =>
 (zlt x22.1).bind fun x23 =>
 bif (!x23) then (
 zab g1 s17 true
 ) else (
 bif (decide (((s17 : Nat) : Int) > 0)) then (
 ((a0.fields)[s17]?).bind fun x26 =>
 (z5g a0.fields (IntKind.i64.wrap (((s17 : Nat) : Int) - 1))).bind fun x27 =>
 zab g1 s17 (Op.bytesLess x26.1 x27.1 || x26.1 == x27.1)
 ) else (
 zab g1 s17 false
 )
 )
 ) else (
 some 0
 )
theorem zr7 (g1 : OF ρ → Nat → Option Int) (h_g1 : ∀ y0, CM (fun G => g1 G y0)) (a0 : Term) (s17 : Nat) : CM (fun G : OF ρ => z7i a0 (g1 G) s17) := by
 simp only [z7i]
 repeat (first | exact z01 | exact h_g1 _ | apply ztf | refine z0h ?_ ?_ | refine z0i ?_ (fun _ => ?_) | intro _ | assumption)
noncomputable def zh0 (a0 : Term) (s17 : Nat) : Option Int :=
 z22 (ι := Nat) (ρ := fun _ => Int) (fun g i => z7i a0 (fun s17 => g s17) i) s17
theorem zk7 (a0 : Term) (s17 : Nat) : zh0 a0 s17 = z7i a0 (zh0 a0) s17 :=
 z0t (ι := Nat) (ρ := fun _ => Int) (Φ := fun g i => z7i a0 (fun s17 => g s17) i) (fun i => zr7 (ι := Nat) (ρ := fun _ => Int) (fun g => (fun s17 => g s17)) (fun _ => z0s) a0 i) s17
noncomputable def z9j (a0 : Term) (s14 : Bool) : Option Int :=
 bif s14 then (
 some 0
 ) else (
 bif (decide ((((a0.fields).length : Nat) : Int) > 4096)) then (
 some 2
 ) else (
 zh0 a0 0
 )
 )
noncomputable def z6y (a0 : Term) (s12 : Bool) : Option Int :=
 bif s12 then (
 some 2
 ) else (
 bif (a0.kind != 9) then (
 z9j a0 (a0.kind != 10)
 ) else (
 z9j a0 false
 )
 )
noncomputable def z3q (a0 : Term) (s10 : Bool) : Option Int :=
 bif s10 then (
 some 2
 ) else (
 bif (a0.kind == 8) then (
 z6y a0 (decide ((((a0.list).length : Nat) : Int) > 4096))
 ) else (
 z6y a0 false
 )
 )
noncomputable def z6z (a0 : Term) (s8 : Bool) : Option Int :=
 bif s8 then (
 some 1
 ) else (
 bif (a0.kind == 5) then (
 bif (decide ((((a0.text).length : Nat) : Int) > 65536)) then (
 z3q a0 true
 ) else (
 bif (a0.kind == 6) then (
 z3q a0 (decide ((((a0.bytes).length : Nat) : Int) > 65536))
 ) else (
 z3q a0 false
 )
 )
 ) else (
 bif (a0.kind == 6) then (
 z3q a0 (decide ((((a0.bytes).length : Nat) : Int) > 65536))
 ) else (
 z3q a0 false
 )
 )
 )
noncomputable def z8i (a0 : Term) (s6 : Bool) : Option Int :=
 bif s6 then (
 some 8
 ) else (
 bif (a0.kind == 10) then (
 bif (decide (a0.ver < 1)) then (
 z6z a0 true
 ) else (
 z6z a0 (decide (a0.ver > 1000))
 )
 ) else (
 z6z a0 false
 )
 )
noncomputable def z4s (a0 : Term) (s4 : Bool) : Option Int :=
 bif s4 then (
 some 2
 ) else (
 bif (a0.kind == 10) then (
 (zlt a0.cls).bind fun x37 =>
 z8i a0 (!x37)
 ) else (
 z8i a0 false
 )
 )
noncomputable def zd7 (a0 : Term) (a1 a2 : Int) (s2 : Bool) : Option Int :=
 bif s2 then (
 some 6
 ) else (
 bif (decide (a1 ≥ 16384)) then (
 z4s a0 true
 ) else (
 z4s a0 (decide (a2 > 64))
 )
 )
noncomputable def zgi (a0 : Term) (a1 a2 : Int) : Option Int :=
 bif (a0.kind == 11) then (
 some 7
 ) else (
 bif (decide (a0.kind < 1)) then (
 zd7 a0 a1 a2 true
 ) else (
 zd7 a0 a1 a2 (decide (a0.kind > 10))
 )
 )
theorem Zan (a0 : Term) (a1 a2 r : Int) (h : zgi a0 a1 a2 = some r) : z08 Try.prog 84 [(z0v a0), (I64 a1), (I64 a2)] (I64 r) := by
 unfold zgi at h
 refine z0g Try.func84 rfl Try.ntmps84 Try.results84 rfl (z0q ?_)
 change BW _ _ _ ⟨[(0, (z0v a0)), (1, (I64 a1)), (2, (I64 a2))], [], _⟩ _
 refine bR ?_
 refine sX ?_
 refine eX ?_
 refine z09 ?_
 refine bR ?_
 iterate 2 refine sX ?_
 refine eX ?_
 refine cX h rfl ?_ ?_
 intro hc1 h
 refine bR ?_
 refine eX ?_
 obtain rfl := eI h; exact z05 eK
 intro hc1 h
 refine z07 ?_
 refine cBx ?_
 refine z09 ?_
 refine jX (ι := Bool) (fun i => zd7 a0 a1 a2 i = some r) (fun i => [(1, (I64 a1)), (2, (I64 a2)), (3, (PV.rf 0 0)), (18, (BO i))]) (fun i => [.box 29 (z2j a0)]) ?_ ?_
 rintro s2 h; replace h : zd7 a0 a1 a2 s2 = some r := h; unfold zd7 at h
 change BW _ _ _ ⟨[(1, (I64 a1)), (2, (I64 a2)), (3, (PV.rf 0 0)), (18, (BO s2))], [.box 29 (z2j a0)], _⟩ _
 refine cX h rfl ?_ ?_
 intro hc3 h
 refine bR ?_
 refine eX ?_
 obtain rfl := eI h; exact z05 eK
 intro hc3 h
 refine z07 ?_
 refine cBx ?_
 refine z09 ?_
 refine jX (ι := Bool) (fun i => z4s a0 i = some r) (fun i => [(3, (PV.rf 0 0)), (24, (BO i))]) (fun i => [.box 29 (z2j a0)]) ?_ ?_
 rintro s4 h; replace h : z4s a0 s4 = some r := h; unfold z4s at h
 change BW _ _ _ ⟨[(3, (PV.rf 0 0)), (24, (BO s4))], [.box 29 (z2j a0)], _⟩ _
 refine cX h rfl ?_ ?_
 intro hc5 h
 refine bR ?_
 refine eX ?_
 obtain rfl := eI h; exact z05 eK
 intro hc5 h
 refine z07 ?_
 refine cBx ?_
 refine z09 ?_
 refine jX (ι := Bool) (fun i => z8i a0 i = some r) (fun i => [(3, (PV.rf 0 0)), (33, (BO i))]) (fun i => [.box 29 (z2j a0)]) ?_ ?_
 rintro s6 h; replace h : z8i a0 s6 = some r := h; unfold z8i at h
 change BW _ _ _ ⟨[(3, (PV.rf 0 0)), (33, (BO s6))], [.box 29 (z2j a0)], _⟩ _
 refine cX h rfl ?_ ?_
 intro hc7 h
 refine bR ?_
 refine eX ?_
 obtain rfl := eI h; exact z05 eK
 intro hc7 h
 refine z07 ?_
 refine cBx ?_
 refine z09 ?_
 refine jX (ι := Bool) (fun i => z6z a0 i = some r) (fun i => [(3, (PV.rf 0 0)), (46, (BO i))]) (fun i => [.box 29 (z2j a0)]) ?_ ?_
 rintro s8 h; replace h : z6z a0 s8 = some r := h; unfold z6z at h
 change BW _ _ _ ⟨[(3, (PV.rf 0 0)), (46, (BO s8))], [.box 29 (z2j a0)], _⟩ _
 refine cX h rfl ?_ ?_
 intro hc9 h
 refine bR ?_
 refine eX ?_
 obtain rfl := eI h; exact z05 eK
 intro hc9 h
 refine z07 ?_
 refine cBx ?_
 refine z09 ?_
 refine jX (ι := Bool) (fun i => z3q a0 i = some r) (fun i => [(3, (PV.rf 0 0)), (66, (BO i))]) (fun i => [.box 29 (z2j a0)]) ?_ ?_
 rintro s10 h; replace h : z3q a0 s10 = some r := h; unfold z3q at h
 change BW _ _ _ ⟨[(3, (PV.rf 0 0)), (66, (BO s10))], [.box 29 (z2j a0)], _⟩ _
 refine cX h rfl ?_ ?_
 intro hc11 h
 refine bR ?_
 refine eX ?_
 obtain rfl := eI h; exact z05 eK
 intro hc11 h
 refine z07 ?_
 refine cBx ?_
 refine z09 ?_
 refine jX (ι := Bool) (fun i => z6y a0 i = some r) (fun i => [(3, (PV.rf 0 0)), (75, (BO i))]) (fun i => [.box 29 (z2j a0)]) ?_ ?_
 rintro s12 h; replace h : z6y a0 s12 = some r := h; unfold z6y at h
 change BW _ _ _ ⟨[(3, (PV.rf 0 0)), (75, (BO s12))], [.box 29 (z2j a0)], _⟩ _
 refine cX h rfl ?_ ?_
 intro hc13 h
 refine bR ?_
 refine eX ?_
 obtain rfl := eI h; exact z05 eK
 intro hc13 h
 refine z07 ?_
 refine cBx ?_
 refine z09 ?_
 refine jX (ι := Bool) (fun i => z9j a0 i = some r) (fun i => [(3, (PV.rf 0 0)), (83, (BO i))]) (fun i => [.box 29 (z2j a0)]) ?_ ?_
 rintro s14 h; replace h : z9j a0 s14 = some r := h; unfold z9j at h
 change BW _ _ _ ⟨[(3, (PV.rf 0 0)), (83, (BO s14))], [.box 29 (z2j a0)], _⟩ _
 refine cX h rfl ?_ ?_
 intro hc15 h
 refine bR ?_
 refine eX ?_
 obtain rfl := eI h; exact z05 eK
 intro hc15 h
 refine z07 ?_
 refine cBx ?_
 refine z09 ?_
 refine bR ?_
 iterate 3 refine sX ?_
 refine eX ?_
 refine cX h rfl ?_ ?_
 intro hc16 h
 refine bR ?_
 refine eX ?_
 obtain rfl := eI h; exact z05 eK
 intro hc16 h
 refine z07 ?_
 refine cBx ?_
 refine z09 ?_
 refine bR ?_
 refine eX ?_
 refine z0e ?_
 refine cBx ?_
 unfold zh0 at h
 refine lX (σ := Nat) (fun i => [(3, (PV.rf 0 0)), (7, (I64 (((i : Nat) : Int))))]) (fun i => [.box 29 (z2j a0)]) 0 h ?_ ?_
 exact jN
 rintro g1_f s17 h; replace h : z7i a0 (fun y0 => g1_f y0) s17 = some r := h; unfold z7i at h
 change BW _ _ _ ⟨[(3, (PV.rf 0 0)), (7, (I64 (((s17 : Nat) : Int))))], [.box 29 (z2j a0)], _⟩ _
 refine z09 ?_
 refine bR ?_
 iterate 4 refine sX ?_
 refine eX ?_
 refine z2f (t := 90) rfl fun hb19 => ?_
 try rw [List.length_map] at hb19
 refine cX h rfl ?_ ?_
 intro hc18 h
 have hc18_ := of_decide_eq_true hc18
 refine z07 ?_
 refine cBx ?_
 refine z09 ?_
 refine z0e ?_
 refine cBx ?_
 refine jX (ι := Bool) (fun i => zab (fun y0 => g1_f y0) s17 i = some r) (fun i => [(3, (PV.rf 0 0)), (7, (I64 (((s17 : Nat) : Int)))), (122, (BO i))]) (fun i => [.box 29 (z2j a0)]) ?_ ?_
 rintro s20 h; replace h : zab (fun y0 => g1_f y0) s17 s20 = some r := h; unfold zab at h
 change BW _ _ _ ⟨[(3, (PV.rf 0 0)), (7, (I64 (((s17 : Nat) : Int)))), (122, (BO s20))], [.box 29 (z2j a0)], _⟩ _
 refine cX h rfl ?_ ?_
 intro hc21 h
 refine bR ?_
 refine eX ?_
 obtain rfl := eI h; exact z05 eK
 intro hc21 h
 refine z07 ?_
 refine cBx ?_
 refine z0a ?_
 refine sX ?_
 refine sS rfl rfl rfl (z1b (k := s17) (c := 1) rfl rfl rfl (by omega)) ?_
 refine sX (z06 ?_)
 exact ⟨rfl, (s17 + 1), h, jN⟩
 refine z13 25 [] [0] mo (by kernel_rfl) ?_
 iterate 3 refine gX ?_
 obtain ⟨x22, hx22, h⟩ := obind h
 refine z1h rfl rfl rfl rfl (fun H hp => z0w (i := s17) Try.underlying27 z24 rfl rfl rfl hx22 (z1r _)) ?_
 iterate 2 refine gX ?_
 obtain ⟨x23, hx23, h⟩ := obind h
 refine z1h rfl rfl rfl rfl (fun H hp => z04 rfl Z0q rfl (wkr .nil) ⟨rfl, trivial⟩ (zyt x22.1 x23 hx23) rfl) ?_
 iterate 2 refine gX ?_
 refine z1s 103 rfl ?_ ?_
 intro hb24; replace h := z0j hb24 h
 iterate 16 refine mX ?_
 refine z11 ?_
 change AO _ _ _ _ _
 iterate 2 refine nX ?_
 refine sX (z06 ?_)
 exact ⟨rfl, true, h, jN⟩
 intro hb24; replace h := z0k hb24 h
 iterate 3 refine wX ?_
 refine z1s 106 rfl ?_ ?_
 intro hb25; replace h := z0j hb25 h
 iterate 3 refine wX ?_
 obtain ⟨x26, hx26, h⟩ := obind h
 refine z2l rfl rfl rfl rfl rfl rfl rfl (fun H hp => z0w (i := s17) Try.underlying27 z24 rfl rfl rfl hx26 (z1r _)) ?_
 iterate 5 refine wX ?_
 refine z2l rfl rfl rfl rfl rfl rfl rfl (fun H hp => z95 rfl rfl rfl) ?_
 obtain ⟨x27, hx27, h⟩ := obind h
 refine z2l rfl rfl rfl rfl rfl rfl rfl (fun H hp => z1o Try.underlying27 z24 rfl rfl rfl hx27 (z1r _)) ?_
 iterate 2 refine wX ?_
 refine z11 ?_
 change AO _ _ _ _ _
 refine z1g rfl rfl rfl rfl rfl rfl ((z21 (a := x26.1) (b := x27.1) rfl rfl rfl rfl).cast (y := (BO ((Op.bytesLess x26.1 x27.1 || x26.1 == x27.1)))) rfl rfl) ?_
 refine yX ?_
 refine sX (z06 ?_)
 exact ⟨rfl, (Op.bytesLess x26.1 x27.1 || x26.1 == x27.1), h, jN⟩
 intro hb25; replace h := z0k hb25 h
 iterate 13 refine mX ?_
 refine z11 ?_
 change AO _ _ _ _ _
 refine nX ?_
 refine yX ?_
 refine sX (z06 ?_)
 exact ⟨rfl, false, h, jN⟩
 intro hc18 h
 refine z1a ?_
 refine cBx ?_
 refine bR ?_
 refine eX ?_
 obtain rfl := eI h; exact z05 eK
 refine z0a ?_
 iterate 4 refine sX ?_
 refine z0n (t := 79) rfl ?_ ?_
 intro hb28; replace h := z0j hb28 h
 iterate 3 refine yX ?_
 refine sX (z06 ?_)
 exact ⟨rfl, (a0.kind != 10), h, jN⟩
 intro hb28; replace h := z0k hb28 h
 iterate 3 refine nX ?_
 refine sX (z06 ?_)
 exact ⟨rfl, false, h, jN⟩
 refine z0a ?_
 iterate 4 refine sX ?_
 refine z0n (t := 70) rfl ?_ ?_
 intro hb29; replace h := z0j hb29 h
 iterate 4 refine yX ?_
 refine sX (z06 ?_)
 exact ⟨rfl, (decide ((((a0.list).length : Nat) : Int) > 4096)), h, jN⟩
 intro hb29; replace h := z0k hb29 h
 iterate 4 refine nX ?_
 refine sX (z06 ?_)
 exact ⟨rfl, false, h, jN⟩
 refine z0a ?_
 iterate 4 refine sX ?_
 refine z0n (t := 50) rfl ?_ ?_
 intro hb30; replace h := z0j hb30 h
 iterate 2 refine yX ?_
 refine z1g rfl rfl rfl rfl rfl rfl (z97 (s := a0.text) Try.underlying9 rfl rfl) ?_
 refine yX ?_
 iterate 2 refine sX ?_
 refine z0n (t := 56) rfl ?_ ?_
 intro hb31; replace h := z0j hb31 h
 iterate 9 refine nX ?_
 refine sX (z06 ?_)
 exact ⟨rfl, true, h, jN⟩
 intro hb31; replace h := z0k hb31 h
 iterate 4 refine yX ?_
 refine z0n (t := 60) rfl ?_ ?_
 intro hb32; replace h := z0j hb32 h
 iterate 5 refine yX ?_
 refine sX (z06 ?_)
 exact ⟨rfl, (decide ((((a0.bytes).length : Nat) : Int) > 65536)), h, jN⟩
 intro hb32; replace h := z0k hb32 h
 iterate 4 refine nX ?_
 refine yX ?_
 refine sX (z06 ?_)
 exact ⟨rfl, false, h, jN⟩
 intro hb30; replace h := z0k hb30 h
 iterate 4 refine nX ?_
 iterate 2 refine sX ?_
 iterate 4 refine yX ?_
 refine z0n (t := 60) rfl ?_ ?_
 intro hb33; replace h := z0j hb33 h
 iterate 5 refine yX ?_
 refine sX (z06 ?_)
 exact ⟨rfl, (decide ((((a0.bytes).length : Nat) : Int) > 65536)), h, jN⟩
 intro hb33; replace h := z0k hb33 h
 iterate 4 refine nX ?_
 refine yX ?_
 refine sX (z06 ?_)
 exact ⟨rfl, false, h, jN⟩
 refine z0a ?_
 iterate 4 refine sX ?_
 refine z0n (t := 37) rfl ?_ ?_
 intro hb34; replace h := z0j hb34 h
 iterate 4 refine yX ?_
 refine z0n (t := 41) rfl ?_ ?_
 intro hb35; replace h := z0j hb35 h
 iterate 3 refine nX ?_
 refine yX ?_
 refine sX (z06 ?_)
 exact ⟨rfl, true, h, jN⟩
 intro hb35; replace h := z0k hb35 h
 iterate 4 refine yX ?_
 refine sX (z06 ?_)
 exact ⟨rfl, (decide (a0.ver > 1000)), h, jN⟩
 intro hb34; replace h := z0k hb34 h
 iterate 8 refine nX ?_
 refine sX (z06 ?_)
 exact ⟨rfl, false, h, jN⟩
 refine z0a ?_
 iterate 4 refine sX ?_
 refine z0n (t := 28) rfl ?_ ?_
 intro hb36; replace h := z0j hb36 h
 iterate 2 refine yX ?_
 obtain ⟨x37, hx37, h⟩ := obind h
 refine z1g rfl rfl rfl rfl rfl rfl (z04 rfl Z0q rfl (wkr .nil) ⟨rfl, trivial⟩ (zyt a0.cls x37 hx37) rfl) ?_
 refine yX ?_
 refine sX (z06 ?_)
 exact ⟨rfl, (!x37), h, jN⟩
 intro hb36; replace h := z0k hb36 h
 iterate 4 refine nX ?_
 refine sX (z06 ?_)
 exact ⟨rfl, false, h, jN⟩
 refine z0a ?_
 iterate 3 refine sX ?_
 refine z0n (t := 21) rfl ?_ ?_
 intro hb38; replace h := z0j hb38 h
 iterate 2 refine nX ?_
 refine sX (z06 ?_)
 exact ⟨rfl, true, h, jN⟩
 intro hb38; replace h := z0k hb38 h
 iterate 2 refine yX ?_
 refine sX (z06 ?_)
 exact ⟨rfl, (decide (a2 > 64)), h, jN⟩
 refine z0a ?_
 iterate 4 refine sX ?_
 refine z0n (t := 14) rfl ?_ ?_
 intro hb39; replace h := z0j hb39 h
 iterate 3 refine nX ?_
 refine sX (z06 ?_)
 exact ⟨rfl, true, h, jN⟩
 intro hb39; replace h := z0k hb39 h
 iterate 3 refine yX ?_
 refine sX (z06 ?_)
 exact ⟨rfl, (decide (a0.kind > 10)), h, jN⟩
noncomputable def z6k (r_q0j : S_ref01_seen → Term → Int → Option S_ref01_seen) (a2 : Int) (x4 : (List Term)) (g1 : Nat → Int → Int → Int → Int → Option S_ref01_seen) (s5 : Nat) (s6 s7 s8 s9 : Int) : Option S_ref01_seen :=
 bif (decide (((s5 : Nat) : Int) < (((x4).length : Nat) : Int))) then (
 ((x4)[s5]?).bind fun x12 =>
 (r_q0j (S_ref01_seen.mk s6 s7 s8 s9) x12 (IntKind.i64.wrap (a2 + 1))).bind fun x13 =>
 bif (x13.f_why != 0) then (
 some x13
 ) else (
 g1 (s5 + 1) x13.f_n x13.f_deep x13.f_at x13.f_why
 )
 ) else (
 some (S_ref01_seen.mk s6 s7 s8 s9)
 )
theorem zcq (r_q0j : OF ρ → S_ref01_seen → Term → Int → Option S_ref01_seen) (h_r_q0j : ∀ y0 y1 y2, CM (fun G => r_q0j G y0 y1 y2)) (g1 : OF ρ → Nat → Int → Int → Int → Int → Option S_ref01_seen) (h_g1 : ∀ y0 y1 y2 y3 y4, CM (fun G => g1 G y0 y1 y2 y3 y4)) (a2 : Int) (x4 : (List Term)) (s5 : Nat) (s6 s7 s8 s9 : Int) : CM (fun G : OF ρ => z6k (r_q0j G) a2 x4 (g1 G) s5 s6 s7 s8 s9) := by
 simp only [z6k]
 repeat (first | exact z01 | exact h_r_q0j _ _ _ | exact h_g1 _ _ _ _ _ | refine z0h ?_ ?_ | refine z0i ?_ (fun _ => ?_))
noncomputable def zf3 (r_q0j : S_ref01_seen → Term → Int → Option S_ref01_seen) (a2 : Int) (x4 : (List Term)) (s5 : Nat) (s6 s7 s8 s9 : Int) : Option S_ref01_seen :=
 z22 (ι := (Nat × Int × Int × Int × Int)) (ρ := fun _ => S_ref01_seen) (fun g i => z6k r_q0j a2 x4 (fun s5 s6 s7 s8 s9 => g (s5, s6, s7, s8, s9)) i.1 i.2.1 i.2.2.1 i.2.2.2.1 i.2.2.2.2) (s5, s6, s7, s8, s9)
theorem zld (r_q0j : S_ref01_seen → Term → Int → Option S_ref01_seen) (a2 : Int) (x4 : (List Term)) (s5 : Nat) (s6 s7 s8 s9 : Int) : zf3 r_q0j a2 x4 s5 s6 s7 s8 s9 = z6k r_q0j a2 x4 (zf3 r_q0j a2 x4) s5 s6 s7 s8 s9 :=
 z0t (ι := (Nat × Int × Int × Int × Int)) (ρ := fun _ => S_ref01_seen) (Φ := fun g i => z6k r_q0j a2 x4 (fun s5 s6 s7 s8 s9 => g (s5, s6, s7, s8, s9)) i.1 i.2.1 i.2.2.1 i.2.2.2.1 i.2.2.2.2) (fun i => zcq (ι := (Nat × Int × Int × Int × Int)) (ρ := fun _ => S_ref01_seen) (fun _ => r_q0j) (fun _ _ _ => z01) (fun g => (fun s5 s6 s7 s8 s9 => g (s5, s6, s7, s8, s9))) (fun _ _ _ _ _ => z0s) a2 x4 i.1 i.2.1 i.2.2.1 i.2.2.2.1 i.2.2.2.2) (s5, s6, s7, s8, s9)
theorem zva (r_q0j : OF ρ → S_ref01_seen → Term → Int → Option S_ref01_seen) (h_r_q0j : ∀ y0 y1 y2, CM (fun G => r_q0j G y0 y1 y2)) (a2 : Int) (x4 : (List Term)) (s5 : Nat) (s6 s7 s8 s9 : Int) : CM (fun G : OF ρ => zf3 (r_q0j G) a2 x4 s5 s6 s7 s8 s9) :=
 z28 (κ := (Nat × Int × Int × Int × Int)) (τ := fun _ => S_ref01_seen) (Φ := fun G g i => z6k (r_q0j G) a2 x4 (fun s5 s6 s7 s8 s9 => g (s5, s6, s7, s8, s9)) i.1 i.2.1 i.2.2.1 i.2.2.2.1 i.2.2.2.2) (fun g i => zcq r_q0j h_r_q0j (fun _ => (fun s5 s6 s7 s8 s9 => g (s5, s6, s7, s8, s9))) (fun _ _ _ _ _ => z01) a2 x4 i.1 i.2.1 i.2.2.1 i.2.2.2.1 i.2.2.2.2) (fun G i => zcq (ι := (Nat × Int × Int × Int × Int)) (ρ := fun _ => S_ref01_seen) (fun _ => r_q0j G) (fun _ _ _ => z01) (fun g => (fun s5 s6 s7 s8 s9 => g (s5, s6, s7, s8, s9))) (fun _ _ _ _ _ => z0s) a2 x4 i.1 i.2.1 i.2.2.1 i.2.2.2.1 i.2.2.2.2) (s5, s6, s7, s8, s9)
noncomputable def zat (r_q0j : S_ref01_seen → Term → Int → Option S_ref01_seen) (a0 : S_ref01_seen) (a1 : Term) (a2 s3 : Int) : Option S_ref01_seen :=
 (zrn a1).bind fun x4 =>
 zf3 r_q0j a2 x4 0 (IntKind.i64.wrap (a0.f_n + 1)) s3 a0.f_at a0.f_why
theorem zvb (r_q0j : OF ρ → S_ref01_seen → Term → Int → Option S_ref01_seen) (h_r_q0j : ∀ y0 y1 y2, CM (fun G => r_q0j G y0 y1 y2)) (a0 : S_ref01_seen) (a1 : Term) (a2 s3 : Int) : CM (fun G : OF ρ => zat (r_q0j G) a0 a1 a2 s3) := by
 simp only [zat]
 repeat (first | exact z01 | exact h_r_q0j _ _ _ | apply zva | refine z0h ?_ ?_ | refine z0i ?_ (fun _ => ?_) | intro _ | assumption)
noncomputable def zow (r_q0j : S_ref01_seen → Term → Int → Option S_ref01_seen) (a0 : S_ref01_seen) (a1 : Term) (a2 : Int) : Option S_ref01_seen :=
 (zgi a1 a0.f_n a2).bind fun x1 =>
 bif (x1 != 0) then (
 some (S_ref01_seen.mk a0.f_n a0.f_deep a0.f_n x1)
 ) else (
 bif (decide (a2 > a0.f_deep)) then (
 zat r_q0j a0 a1 a2 a2
 ) else (
 zat r_q0j a0 a1 a2 a0.f_deep
 )
 )
theorem Z1z (r_q0j : OF ρ → S_ref01_seen → Term → Int → Option S_ref01_seen) (h_r_q0j : ∀ y0 y1 y2, CM (fun G => r_q0j G y0 y1 y2)) (a0 : S_ref01_seen) (a1 : Term) (a2 : Int) : CM (fun G : OF ρ => zow (r_q0j G) a0 a1 a2) := by
 simp only [zow]
 repeat (first | exact z01 | exact h_r_q0j _ _ _ | apply zvb | refine z0h ?_ ?_ | refine z0i ?_ (fun _ => ?_) | intro _ | assumption)
inductive C_q0j where
 | k_q0j (a0 : S_ref01_seen) (a1 : Term) (a2 : Int)
def C_q0j.R : C_q0j → Type
 | .k_q0j _ _ _ => S_ref01_seen
noncomputable def C_q0j.F (g : ∀ i : C_q0j, Option i.R) : ∀ i : C_q0j, Option i.R
 | .k_q0j a0 a1 a2 => zow (fun a0 a1 a2 => g (.k_q0j a0 a1 a2)) a0 a1 a2
noncomputable def zlu (a0 : S_ref01_seen) (a1 : Term) (a2 : Int) : Option S_ref01_seen := z22 C_q0j.F (.k_q0j a0 a1 a2)
abbrev Zfs := fun (g : ∀ i : C_q0j, Option i.R) a0 a1 a2 => g (.k_q0j a0 a1 a2)
theorem Zfl (a0 a1 a2 : _) : CM (ρ := C_q0j.R) (fun g => g (C_q0j.k_q0j a0 a1 a2)) := z0s
theorem C_q0j.cm (i : C_q0j) : CM (fun g : (∀ i : C_q0j, Option i.R) => C_q0j.F g i) := by
 cases i with
 | k_q0j a0 a1 a2 => exact Z1z Zfs Zfl a0 a1 a2
theorem Zdl (a0 : S_ref01_seen) (a1 : Term) (a2 : Int) : zlu a0 a1 a2 = zow zlu a0 a1 a2 := z0t C_q0j.cm (.k_q0j a0 a1 a2)
def C_q0j.Q : ∀ i : C_q0j, i.R → Prop
 | .k_q0j a0 a1 a2 => fun (r : S_ref01_seen) => z08 Try.prog 50 [(z1v a0), (z0v a1), (I64 a2)] (z1v r)
theorem zbr (r_q0j : S_ref01_seen → Term → Int → Option S_ref01_seen) (c_q0j : ∀ (a0 : S_ref01_seen) (a1 : Term) (a2 : Int) r, r_q0j a0 a1 a2 = some r → z08 Try.prog 50 [(z1v a0), (z0v a1), (I64 a2)] (z1v r)) (a0 : S_ref01_seen) (a1 : Term) (a2 : Int) (r : S_ref01_seen) (h : zow r_q0j a0 a1 a2 = some r) : z08 Try.prog 50 [(z1v a0), (z0v a1), (I64 a2)] (z1v r) := by
 unfold zow at h
 refine z0g Try.func50 rfl Try.ntmps50 Try.results50 rfl (z0q ?_)
 change BW _ _ _ ⟨[(0, (z1v a0)), (1, (z0v a1)), (2, (I64 a2))], [], _⟩ _
 refine bR ?_
 iterate 2 refine sX ?_
 refine sS rfl rfl rfl (z16 zbd rfl) (z06 ?_)
 refine cBx ?_
 refine z09 ?_
 refine bR ?_
 iterate 4 refine sX ?_
 obtain ⟨x1, hx1, h⟩ := obind h
 refine sS rfl rfl rfl (z04 rfl Zca rfl (wkr (wkr (wkr .nil))) ⟨(z10 a1), ⟨rfl, ⟨rfl, trivial⟩⟩⟩ (Zan a1 a0.f_n a2 x1 hx1) rfl) ?_
 refine eX ?_
 refine bR ?_
 refine sX ?_
 refine eX ?_
 refine cX h rfl ?_ ?_
 intro hc2 h
 refine bR ?_
 iterate 4 refine sX ?_
 refine z0m rfl rfl (z0d zfw rfl rfl rfl rfl rfl rfl (lbE rfl) rfl) ?_
 refine sX ?_
 refine z0m rfl rfl (z0d Z3b rfl rfl rfl rfl rfl rfl (lbE rfl) rfl) ?_
 refine z06 ?_
 refine cBx ?_
 refine bR ?_
 refine sX ?_
 refine z0m rfl rfl (z0d zbd rfl rfl rfl rfl rfl rfl (lbE rfl) rfl) ?_
 refine z06 ?_
 refine cBx ?_
 obtain rfl := eI h; exact z05 ⟨_, rfl, z1f (y := (z1v (S_ref01_seen.mk a0.f_n a0.f_deep a0.f_n x1))) (Wk.refl _) (z2h (S_ref01_seen.mk a0.f_n a0.f_deep a0.f_n x1)) ⟨rfl, rfl⟩⟩
 intro hc2 h
 refine z07 ?_
 refine cBx ?_
 refine bR ?_
 iterate 4 refine sX ?_
 refine z0m rfl rfl (z0d zfw rfl rfl rfl rfl rfl rfl (lbE rfl) rfl) ?_
 refine z06 ?_
 refine cBx ?_
 refine jX (ι := Int) (fun i => zat r_q0j a0 a1 a2 i = some r) (fun i => [(2, (I64 a2)), (3, (PV.rf 0 0)), (4, (PV.rf 1 0)), (6, (PV.rf 2 0))]) (fun i => [.box 98 [(I64 ((IntKind.i64.wrap (a0.f_n + 1)))), (I64 i), (I64 a0.f_at), (I64 a0.f_why)], .box 29 (z2j a1), .box 98 [(I64 0), (I64 0), (I64 0), (I64 0)]]) ?_ ?_
 rintro s3 h; replace h : zat r_q0j a0 a1 a2 s3 = some r := h; unfold zat at h
 change BW _ _ _ ⟨[(2, (I64 a2)), (3, (PV.rf 0 0)), (4, (PV.rf 1 0)), (6, (PV.rf 2 0))], [.box 98 [(I64 ((IntKind.i64.wrap (a0.f_n + 1)))), (I64 s3), (I64 a0.f_at), (I64 a0.f_why)], .box 29 (z2j a1), .box 98 [(I64 0), (I64 0), (I64 0), (I64 0)]], _⟩ _
 refine bR ?_
 refine sX ?_
 obtain ⟨x4, hx4, h⟩ := obind h
 refine sS rfl rfl rfl (z04 rfl Z93 rfl (wkr .nil) ⟨(z10 a1), trivial⟩ (Z79 a1 x4 hx4) (z0c z1p x4)) ?_
 refine eX ?_
 refine z09 ?_
 refine bR ?_
 refine eX ?_
 refine z0e ?_
 refine cBx ?_
 unfold zf3 at h
 refine lX (σ := (Nat × Int × Int × Int × Int)) (fun i => [(2, (I64 a2)), (3, (PV.rf 0 0)), (6, (PV.rf 2 0)), (8, (PV.sl none 29 11 (List.map z0r x4))), (9, (I64 (((i.1 : Nat) : Int))))]) (fun i => [.box 98 [(I64 i.2.1), (I64 i.2.2.1), (I64 i.2.2.2.1), (I64 i.2.2.2.2)], .dead, .box 98 [(I64 0), (I64 0), (I64 0), (I64 0)]]) (0, (IntKind.i64.wrap (a0.f_n + 1)), s3, a0.f_at, a0.f_why) h ?_ ?_
 exact ⟨(.cons .same (.cons .dead (.cons .same .nil))), (sC rfl (sC rfl (sC rfl (sC rfl (sC rfl z1i)))))⟩
 rintro g1_f ⟨s5, s6, s7, s8, s9⟩ h; replace h : z6k r_q0j a2 x4 (fun y0 y1 y2 y3 y4 => g1_f (y0, y1, y2, y3, y4)) s5 s6 s7 s8 s9 = some r := h; unfold z6k at h
 change BW _ _ _ ⟨[(2, (I64 a2)), (3, (PV.rf 0 0)), (6, (PV.rf 2 0)), (8, (PV.sl none 29 11 (List.map z0r x4))), (9, (I64 (((s5 : Nat) : Int))))], [.box 98 [(I64 s6), (I64 s7), (I64 s8), (I64 s9)], .dead, .box 98 [(I64 0), (I64 0), (I64 0), (I64 0)]], _⟩ _
 refine z09 ?_
 refine bR ?_
 iterate 3 refine sX ?_
 refine eX ?_
 refine z2f (t := 36) rfl fun hb11 => ?_
 try rw [List.length_map] at hb11
 refine cX h rfl ?_ ?_
 intro hc10 h
 have hc10_ := of_decide_eq_true hc10
 refine z07 ?_
 refine cBx ?_
 refine z09 ?_
 refine z0e ?_
 refine cBx ?_
 refine z09 (z13 7 [] [0] mo (by kernel_rfl) ?_)
 iterate 3 refine gX ?_
 obtain ⟨x12, hx12, h⟩ := obind h
 refine z1h rfl rfl rfl rfl (fun H hp => z0w (i := s5) Try.underlying26 z20 rfl rfl rfl hx12 (z26 _)) ?_
 iterate 3 refine gX ?_
 refine z11 ?_
 change AO _ _ _ _ _
 obtain ⟨x13, hx13, h⟩ := obind h
 refine sS rfl rfl rfl (z04 rfl Z9f rfl (wkr (wkr (wkr .nil))) ⟨(z2h (S_ref01_seen.mk s6 s7 s8 s9)), ⟨(z10 x12), ⟨rfl, trivial⟩⟩⟩ (c_q0j (S_ref01_seen.mk s6 s7 s8 s9) x12 (IntKind.i64.wrap (a2 + 1)) x13 hx13) (z2h x13)) ?_
 refine z0m rfl rfl (z0d zbd rfl rfl rfl rfl rfl rfl (lbE rfl) rfl) ?_
 refine z06 ?_
 refine cBx ?_
 refine bR ?_
 iterate 2 refine sX ?_
 refine eX ?_
 refine cX h rfl ?_ ?_
 intro hc14 h
 refine bR ?_
 refine sX ?_
 refine z0m rfl rfl (z0d zbd rfl rfl rfl rfl rfl rfl (lbE rfl) rfl) ?_
 refine z06 ?_
 refine cBx ?_
 obtain rfl := eI h; exact z05 ⟨_, rfl, z1f (y := (z1v x13)) (Wk.refl _) (z2h x13) ⟨rfl, rfl⟩⟩
 intro hc14 h
 refine z07 ?_
 refine cBx ?_
 refine z0a ?_
 refine sX ?_
 refine sS rfl rfl rfl (z1b (k := s5) (c := 1) rfl rfl rfl (by omega)) ?_
 refine sX (z06 ?_)
 exact ⟨rfl, ((s5 + 1), x13.f_n, x13.f_deep, x13.f_at, x13.f_why), h, ⟨(.cons .same (.cons .dead (.cons .same .nil))), (sC rfl (sC rfl (sC rfl (sC rfl (sC rfl z1i)))))⟩⟩
 intro hc10 h
 refine z1a ?_
 refine cBx ?_
 refine bR ?_
 refine sX ?_
 refine z0m rfl rfl (z0d zbd rfl rfl rfl rfl rfl rfl (lbE rfl) rfl) ?_
 refine z06 ?_
 refine cBx ?_
 obtain rfl := eI h; exact z05 ⟨_, rfl, z1f (y := (z1v (S_ref01_seen.mk s6 s7 s8 s9))) (Wk.refl _) (z2h (S_ref01_seen.mk s6 s7 s8 s9)) ⟨rfl, rfl⟩⟩
 refine bR ?_
 iterate 3 refine sX ?_
 refine eX ?_
 refine cX h rfl ?_ ?_
 intro hc15 h
 refine z0a ?_
 iterate 2 refine sX ?_
 refine z0m rfl rfl (z0d zfw rfl rfl rfl rfl rfl rfl (lbE rfl) rfl) ?_
 refine z06 ?_
 exact ⟨rfl, a2, h, jN⟩
 intro hc15 h
 refine z07 ?_
 exact ⟨rfl, a0.f_deep, h, jN⟩
theorem C_q0j.sound : ∀ (i : C_q0j) (r : i.R), z22 C_q0j.F i = some r → C_q0j.Q i r := by
 refine z2r (Φ := C_q0j.F) (Q := C_q0j.Q) ?_
 intro g hg i r h
 cases i with
 | k_q0j a0 a1 a2 => exact zbr (fun a0 a1 a2 => g (.k_q0j a0 a1 a2)) (fun a0 a1 a2 r hr => hg (.k_q0j a0 a1 a2) r hr) a0 a1 a2 r h
theorem Zb8 (a0 : S_ref01_seen) (a1 : Term) (a2 : Int) (r : S_ref01_seen) (h : zlu a0 a1 a2 = some r) : z08 Try.prog 50 [(z1v a0), (z0v a1), (I64 a2)] (z1v r) := C_q0j.sound (.k_q0j a0 a1 a2) r h
noncomputable def zw1 (a0 : Term) : Option (Int × Int) :=
 (zlu (S_ref01_seen.mk 0 0 0 0) a0 1).bind fun x1 =>
 some (x1.f_at, x1.f_why)
theorem Zb0 (a0 : Term) (r : (Int × Int)) (h : zw1 a0 = some r) : z08 Try.prog 27 [(z0v a0)] (PV.tup [(I64 r.1), (I64 r.2)]) := by
 unfold zw1 at h
 refine z0g Try.func27 rfl Try.ntmps27 Try.results27 rfl (z0q ?_)
 change BW _ _ _ ⟨[(0, (z0v a0))], [], _⟩ _
 refine bR ?_
 iterate 2 refine sX ?_
 refine eX ?_
 refine bR ?_
 refine sS rfl rfl rfl (z1x (cs := [(I64 0), (I64 0), (I64 0), (I64 0)]) Z6y zbd rfl rfl rfl rfl) ?_
 refine sX ?_
 obtain ⟨x1, hx1, h⟩ := obind h
 refine sS rfl rfl rfl (z04 rfl Z9f rfl (wkr (wkr (wkr .nil))) ⟨(z2h (S_ref01_seen.mk 0 0 0 0)), ⟨(z10 a0), ⟨rfl, trivial⟩⟩⟩ (Zb8 (S_ref01_seen.mk 0 0 0 0) a0 1 x1 hx1) (z2h x1)) ?_
 refine sS rfl rfl rfl (z16 zbd rfl) ?_
 refine z0m rfl rfl (z0d zbd rfl rfl rfl rfl rfl rfl (lbE rfl) rfl) ?_
 refine z06 ?_
 refine cBx ?_
 refine z09 (z13 5 [] [1] mo (by kernel_rfl) ?_)
 iterate 5 refine gX ?_
 refine z11 ?_
 change AO _ _ _ _ _
 refine eX ?_
 obtain rfl := eI h; exact z05 eK
end Go.Proofs.Ytiapdjdhaclmnaa
