/- Pure functions, and that calls answer as they say. -/
import Derived.Test.YtmoijodjgkfhgaaGreatGS
namespace Go.Proofs.YtmoijodjgkfhgaaGreat
open Go Aw
set_option linter.unusedVariables false
set_option linter.unusedSimpArgs false
set_option maxRecDepth 20000
set_option maxHeartbeats 2000000
variable {ι : Type} {ρ : ι → Type}
noncomputable def zkx (a0 : V) : Option Int :=
 bif (a0).isNil then (
 some 1
 ) else (
 bif (a0).isBool then (
 some 2
 ) else (
 bif (a0).isInt then (
 some 3
 ) else (
 bif (a0).isFloat then (
 some 4
 ) else (
 bif (a0).isText then (
 some 5
 ) else (
 bif (a0).isBytes then (
 some 6
 ) else (
 bif (a0).isRef then (
 some 7
 ) else (
 bif (a0).isList then (
 some 8
 ) else (
 bif (a0).isDict then (
 some 9
 ) else (
 bif (a0).isRec then (
 bif ((a0).asRec).isNone then (
 some 11
 ) else (
 some 10
 )
 ) else (
 some 0
 )
 )
 )
 )
 )
 )
 )
 )
 )
 )
theorem zvh (a0 : V) (r : Int) (h : zkx a0 = some r) : z0p Tryz.prog 70 [(ofV a0)] (I64 r) := by
 unfold zkx at h
 refine z0j Tryz.func70 rfl Tryz.ntmps70 Tryz.results70 rfl (z0n ?_)
 change BW _ _ _ ⟨[(0, (ofV a0))], [], _⟩ _
 refine bR ?_
 refine eX ?_
 refine z0f ?_
 refine bR ?_
 refine eX ?_
 refine z0o ?_
 refine cBx ?_
 refine bR ?_
 refine sS rfl rfl rfl (zpk Tryz.underlying20 rfl rfl) (z0h ?_)
 refine cBx ?_
 refine cX h rfl ?_ ?_
 intro hc1 h
 refine bR ?_
 refine eX ?_
 refine bR ?_
 refine eX ?_
 obtain rfl := eI h; exact z06 eK
 intro hc1 h
 refine bR ?_
 refine sS rfl rfl rfl (zfm rfl rfl) ?_
 refine sX ?_
 refine eX ?_
 refine cX h rfl ?_ ?_
 intro hc2 h
 refine bR ?_
 refine eX ?_
 refine bR ?_
 refine eX ?_
 obtain rfl := eI h; exact z06 eK
 intro hc2 h
 refine bR ?_
 refine sS rfl rfl rfl (zj8 rfl rfl) ?_
 refine sX ?_
 refine eX ?_
 refine cX h rfl ?_ ?_
 intro hc3 h
 refine bR ?_
 refine eX ?_
 refine bR ?_
 refine eX ?_
 obtain rfl := eI h; exact z06 eK
 intro hc3 h
 refine bR ?_
 refine sS rfl rfl rfl (ze4 rfl rfl) ?_
 refine sX ?_
 refine eX ?_
 refine cX h rfl ?_ ?_
 intro hc4 h
 refine bR ?_
 refine eX ?_
 refine bR ?_
 refine eX ?_
 obtain rfl := eI h; exact z06 eK
 intro hc4 h
 refine bR ?_
 refine sS rfl rfl rfl (zbu rfl rfl) ?_
 refine sX ?_
 refine eX ?_
 refine cX h rfl ?_ ?_
 intro hc5 h
 refine bR ?_
 refine eX ?_
 refine bR ?_
 refine eX ?_
 obtain rfl := eI h; exact z06 eK
 intro hc5 h
 refine bR ?_
 refine sS rfl rfl rfl (z7n rfl rfl) ?_
 refine sX ?_
 refine eX ?_
 refine cX h rfl ?_ ?_
 intro hc6 h
 refine bR ?_
 refine eX ?_
 refine bR ?_
 refine eX ?_
 obtain rfl := eI h; exact z06 eK
 intro hc6 h
 refine bR ?_
 refine sS rfl rfl rfl (zj7 rfl rfl) ?_
 refine sX ?_
 refine eX ?_
 refine cX h rfl ?_ ?_
 intro hc7 h
 refine bR ?_
 refine eX ?_
 refine bR ?_
 refine eX ?_
 obtain rfl := eI h; exact z06 eK
 intro hc7 h
 refine bR ?_
 refine sS rfl rfl rfl (z1x rfl rfl) ?_
 refine sX ?_
 refine eX ?_
 refine cX h rfl ?_ ?_
 intro hc8 h
 refine bR ?_
 refine eX ?_
 refine bR ?_
 refine eX ?_
 obtain rfl := eI h; exact z06 eK
 intro hc8 h
 refine bR ?_
 refine sS rfl rfl rfl (z2v rfl rfl) ?_
 refine sX ?_
 refine eX ?_
 refine cX h rfl ?_ ?_
 intro hc9 h
 refine bR ?_
 refine eX ?_
 refine bR ?_
 refine eX ?_
 obtain rfl := eI h; exact z06 eK
 intro hc9 h
 refine bR ?_
 refine sS rfl rfl rfl (z3g rfl rfl) ?_
 refine sX ?_
 refine eX ?_
 refine cX h rfl ?_ ?_
 intro hc10 h
 refine bR ?_
 refine eX ?_
 refine z0f ?_
 refine bR ?_
 refine sX ?_
 refine sS rfl rfl rfl (zfn Tryz.underlying70 rfl rfl) (z0h ?_)
 refine cBx ?_
 refine cX h rfl ?_ ?_
 intro hc11 h
 refine bR ?_
 refine eX ?_
 obtain rfl := eI h; exact z06 eK
 intro hc11 h
 refine z0g ?_
 refine cBx ?_
 refine bR ?_
 refine eX ?_
 obtain rfl := eI h; exact z06 eK
 intro hc10 h
 refine z0g ?_
 refine cBx ?_
 refine bR ?_
 refine eX ?_
 obtain rfl := eI h; exact z06 eK
noncomputable def z6q (g1 : Nat → Option Bool) (s4 : Nat) (s8 : Bool) : Option Bool :=
 bif s8 then (
 some false
 ) else (
 g1 (s4 + 1)
 )
theorem zri (g1 : OF ρ → Nat → Option Bool) (h_g1 : ∀ y0, CM (fun G => g1 G y0)) (s4 : Nat) (s8 : Bool) : CM (fun G : OF ρ => z6q (g1 G) s4 s8) := by
 simp only [z6q]
 repeat (first | exact z0i | exact h_g1 _ | refine z18 ?_ ?_ | refine z19 ?_ (fun _ => ?_))
noncomputable def z65 (a0 : Str) (g1 : Nat → Option Bool) (s4 : Nat) : Option Bool :=
 bif (decide (((s4 : Nat) : Int) < (((a0).length : Nat) : Int))) then (
 ((a0)[s4]?).bind fun x7 =>
 bif (decide (((x7).toNat : Int) < (((97 : UInt8)).toNat : Int))) then (
 bif (decide (((x7).toNat : Int) < (((48 : UInt8)).toNat : Int))) then (
 z6q g1 s4 (((x7).toNat : Int) != (((95 : UInt8)).toNat : Int))
 ) else (
 bif (decide (((x7).toNat : Int) > (((57 : UInt8)).toNat : Int))) then (
 z6q g1 s4 (((x7).toNat : Int) != (((95 : UInt8)).toNat : Int))
 ) else (
 z6q g1 s4 false
 )
 )
 ) else (
 bif (decide (((x7).toNat : Int) > (((122 : UInt8)).toNat : Int))) then (
 bif (decide (((x7).toNat : Int) < (((48 : UInt8)).toNat : Int))) then (
 z6q g1 s4 (((x7).toNat : Int) != (((95 : UInt8)).toNat : Int))
 ) else (
 bif (decide (((x7).toNat : Int) > (((57 : UInt8)).toNat : Int))) then (
 z6q g1 s4 (((x7).toNat : Int) != (((95 : UInt8)).toNat : Int))
 ) else (
 z6q g1 s4 false
 )
 )
 ) else (
 z6q g1 s4 false
 )
 )
 ) else (
 some true
 )
theorem zot (g1 : OF ρ → Nat → Option Bool) (h_g1 : ∀ y0, CM (fun G => g1 G y0)) (a0 : Str) (s4 : Nat) : CM (fun G : OF ρ => z65 a0 (g1 G) s4) := by
 simp only [z65]
 repeat (first | exact z0i | exact h_g1 _ | apply zri | refine z18 ?_ ?_ | refine z19 ?_ (fun _ => ?_) | intro _ | assumption)
noncomputable def zi6 (a0 : Str) (s4 : Nat) : Option Bool :=
 z3q (ι := Nat) (ρ := fun _ => Bool) (fun g i => z65 a0 (fun s4 => g s4) i) s4
theorem zi5 (a0 : Str) (s4 : Nat) : zi6 a0 s4 = z65 a0 (zi6 a0) s4 :=
 z1j (ι := Nat) (ρ := fun _ => Bool) (Φ := fun g i => z65 a0 (fun s4 => g s4) i) (fun i => zot (ι := Nat) (ρ := fun _ => Bool) (fun g => (fun s4 => g s4)) (fun _ => z1l) a0 i) s4
noncomputable def zcb (a0 : Str) (s1 : Bool) : Option Bool :=
 bif s1 then (
 some false
 ) else (
 (zf3 (a0).length).bind fun x3 =>
 zi6 a0 0
 )
noncomputable def zkz (a0 : Str) : Option Bool :=
 bif (a0 == ([] : Str)) then (
 zcb a0 true
 ) else (
 bif (decide ((((a0).length : Nat) : Int) > 32)) then (
 zcb a0 true
 ) else (
 ((a0)[0]?).bind fun x18 =>
 bif (decide (((x18).toNat : Int) < (((97 : UInt8)).toNat : Int))) then (
 zcb a0 true
 ) else (
 ((a0)[0]?).bind fun x20 =>
 zcb a0 (decide (((x20).toNat : Int) > (((122 : UInt8)).toNat : Int)))
 )
 )
 )
theorem Z3x (a0 : Str) (r : Bool) (h : zkz a0 = some r) : z0p Tryz.prog 127 [(ofStr a0)] (BO r) := by
 unfold zkz at h
 refine z0j Tryz.func127 rfl Tryz.ntmps127 Tryz.results127 rfl (z0n ?_)
 change BW _ _ _ ⟨[(0, (ofStr a0))], [], _⟩ _
 refine bR ?_
 refine eX ?_
 refine z0f ?_
 refine jX (ι := Bool) (fun i => zcb a0 i = some r) (fun i => [(0, (ofStr a0)), (21, (BO i))]) (fun i => []) ?_ ?_
 rintro s1 h; replace h : zcb a0 s1 = some r := h; unfold zcb at h
 change BW _ _ _ ⟨[(0, (ofStr a0)), (21, (BO s1))], [], _⟩ _
 refine cX h rfl ?_ ?_
 intro hc2 h
 refine bR ?_
 refine eX ?_
 obtain rfl := eI h; exact z06 eK
 intro hc2 h
 refine z0g ?_
 refine cBx ?_
 refine z0f ?_
 refine bR ?_
 refine sX ?_
 obtain ⟨x3, hx3, h⟩ := obind h
 refine sS rfl rfl rfl (zt5 Tryz.underlying9 Tryz.underlying23 Tryz.underlying5 rfl rfl hx3) ?_
 refine sX ?_
 refine eX ?_
 refine z0o ?_
 refine cBx ?_
 unfold zi6 at h
 refine lX (σ := Nat) (fun i => [(23, (PV.sl none 5 1 (List.map ofB a0))), (24, (I64 ((((a0).length : Nat) : Int)))), (25, (I64 (((i : Nat) : Int))))]) (fun i => []) 0 h ?_ ?_
 exact jN
 rintro g1_f s4 h; replace h : z65 a0 (fun y0 => g1_f y0) s4 = some r := h; unfold z65 at h
 change BW _ _ _ ⟨[(23, (PV.sl none 5 1 (List.map ofB a0))), (24, (I64 ((((a0).length : Nat) : Int)))), (25, (I64 (((s4 : Nat) : Int))))], [], _⟩ _
 refine bR ?_
 refine eX ?_
 refine z0f ?_
 refine z4a (t := 23) rfl fun hb6 => ?_
 try rw [List.length_map] at hb6
 refine cX h rfl ?_ ?_
 intro hc5 h
 have hc5_ := of_decide_eq_true hc5
 refine z0g ?_
 refine cBx ?_
 refine z0f ?_
 refine z0o ?_
 refine cBx ?_
 refine bR ?_
 obtain ⟨x7, hx7, h⟩ := obind h
 refine sS rfl rfl rfl (z1p (i := s4) Tryz.underlying23 inf_5 rfl rfl rfl hx7 rfl) ?_
 refine sX ?_
 refine eX ?_
 refine jX (ι := Bool) (fun i => z6q (fun y0 => g1_f y0) s4 i = some r) (fun i => [(23, (PV.sl none 5 1 (List.map ofB a0))), (24, (I64 ((((a0).length : Nat) : Int)))), (25, (I64 (((s4 : Nat) : Int)))), (46, (BO i))]) (fun i => []) ?_ ?_
 rintro s8 h; replace h : z6q (fun y0 => g1_f y0) s4 s8 = some r := h; unfold z6q at h
 change BW _ _ _ ⟨[(23, (PV.sl none 5 1 (List.map ofB a0))), (24, (I64 ((((a0).length : Nat) : Int)))), (25, (I64 (((s4 : Nat) : Int)))), (46, (BO s8))], [], _⟩ _
 refine cX h rfl ?_ ?_
 intro hc9 h
 refine bR ?_
 refine eX ?_
 obtain rfl := eI h; exact z06 eK
 intro hc9 h
 refine z0g ?_
 refine cBx ?_
 refine z0l ?_
 refine sS rfl rfl rfl (z2o (k := s4) (c := 1) rfl rfl rfl (by omega)) ?_
 refine sX (z0h ?_)
 exact ⟨rfl, (s4 + 1), h, jN⟩
 refine z0l ?_
 iterate 3 refine sX ?_
 refine z0t (t := 31) rfl ?_ ?_
 intro hb10; replace h := z10 hb10 h
 iterate 2 refine nX ?_
 iterate 2 refine sX ?_
 iterate 3 refine yX ?_
 refine z0t (t := 38) rfl ?_ ?_
 intro hb11; replace h := z10 hb11 h
 iterate 2 refine nX ?_
 refine yX ?_
 iterate 2 refine sX ?_
 iterate 2 refine yX ?_
 refine sX (z0h ?_)
 exact ⟨rfl, (((x7).toNat : Int) != (((95 : UInt8)).toNat : Int)), h, jN⟩
 intro hb11; replace h := z11 hb11 h
 iterate 3 refine yX ?_
 iterate 2 refine sX ?_
 refine z0t (t := 43) rfl ?_ ?_
 intro hb12; replace h := z10 hb12 h
 iterate 2 refine yX ?_
 refine sX (z0h ?_)
 exact ⟨rfl, (((x7).toNat : Int) != (((95 : UInt8)).toNat : Int)), h, jN⟩
 intro hb12; replace h := z11 hb12 h
 iterate 2 refine nX ?_
 refine sX (z0h ?_)
 exact ⟨rfl, false, h, jN⟩
 intro hb10; replace h := z11 hb10 h
 iterate 2 refine yX ?_
 iterate 2 refine sX ?_
 refine z0t (t := 35) rfl ?_ ?_
 intro hb13; replace h := z10 hb13 h
 iterate 3 refine yX ?_
 refine z0t (t := 38) rfl ?_ ?_
 intro hb14; replace h := z10 hb14 h
 iterate 2 refine nX ?_
 refine yX ?_
 iterate 2 refine sX ?_
 iterate 2 refine yX ?_
 refine sX (z0h ?_)
 exact ⟨rfl, (((x7).toNat : Int) != (((95 : UInt8)).toNat : Int)), h, jN⟩
 intro hb14; replace h := z11 hb14 h
 iterate 3 refine yX ?_
 iterate 2 refine sX ?_
 refine z0t (t := 43) rfl ?_ ?_
 intro hb15; replace h := z10 hb15 h
 iterate 2 refine yX ?_
 refine sX (z0h ?_)
 exact ⟨rfl, (((x7).toNat : Int) != (((95 : UInt8)).toNat : Int)), h, jN⟩
 intro hb15; replace h := z11 hb15 h
 iterate 2 refine nX ?_
 refine sX (z0h ?_)
 exact ⟨rfl, false, h, jN⟩
 intro hb13; replace h := z11 hb13 h
 iterate 6 refine nX ?_
 iterate 2 refine sX ?_
 iterate 2 refine nX ?_
 refine sX (z0h ?_)
 exact ⟨rfl, false, h, jN⟩
 intro hc5 h
 refine z2b ?_
 refine cBx ?_
 refine bR ?_
 refine eX ?_
 obtain rfl := eI h; exact z06 eK
 refine z0l ?_
 refine sX ?_
 refine sS rfl rfl rfl ((z2r (a := a0) (b := ([] : Str)) rfl rfl rfl rfl).cast (y := (BO ((a0 == ([] : Str))))) rfl rfl) ?_
 refine sX ?_
 refine z0t (t := 7) rfl ?_ ?_
 intro hb16; replace h := z10 hb16 h
 iterate 3 refine nX ?_
 iterate 2 refine sX ?_
 iterate 3 refine nX ?_
 iterate 2 refine sX ?_
 iterate 3 refine nX ?_
 refine sX (z0h ?_)
 exact ⟨rfl, true, h, jN⟩
 intro hb16; replace h := z11 hb16 h
 refine yX ?_
 refine z23 rfl rfl rfl rfl rfl rfl (zcv (s := a0) Tryz.underlying9 rfl rfl) ?_
 refine yX ?_
 iterate 2 refine sX ?_
 refine z0t (t := 12) rfl ?_ ?_
 intro hb17; replace h := z10 hb17 h
 iterate 3 refine nX ?_
 iterate 2 refine sX ?_
 iterate 3 refine nX ?_
 refine sX (z0h ?_)
 exact ⟨rfl, true, h, jN⟩
 intro hb17; replace h := z11 hb17 h
 refine yX ?_
 obtain ⟨x18, hx18, h⟩ := obind h
 refine z23 rfl rfl rfl rfl rfl rfl (ze7 (s := a0) (i := 0) Tryz.underlying9 rfl rfl rfl hx18) ?_
 refine yX ?_
 iterate 2 refine sX ?_
 refine z0t (t := 17) rfl ?_ ?_
 intro hb19; replace h := z10 hb19 h
 iterate 3 refine nX ?_
 refine sX (z0h ?_)
 exact ⟨rfl, true, h, jN⟩
 intro hb19; replace h := z11 hb19 h
 refine yX ?_
 obtain ⟨x20, hx20, h⟩ := obind h
 refine z23 rfl rfl rfl rfl rfl rfl (ze7 (s := a0) (i := 0) Tryz.underlying9 rfl rfl rfl hx20) ?_
 refine yX ?_
 refine sX (z0h ?_)
 exact ⟨rfl, (decide (((x20).toNat : Int) > (((122 : UInt8)).toNat : Int))), h, jN⟩
noncomputable def zaf (g1 : Nat → Option Int) (s2 : Nat) (s6 : Bool) : Option Int :=
 bif s6 then (
 some 8
 ) else (
 g1 (s2 + 1)
 )
theorem zrk (g1 : OF ρ → Nat → Option Int) (h_g1 : ∀ y0, CM (fun G => g1 G y0)) (s2 : Nat) (s6 : Bool) : CM (fun G : OF ρ => zaf (g1 G) s2 s6) := by
 simp only [zaf]
 repeat (first | exact z0i | exact h_g1 _ | refine z18 ?_ ?_ | refine z19 ?_ (fun _ => ?_))
noncomputable def z7f (a0 : (List (Str × V))) (g1 : Nat → Option Int) (s2 : Nat) : Option Int :=
 bif (decide (((s2 : Nat) : Int) < (((a0).length : Nat) : Int))) then (
 ((a0)[s2]?).bind fun x5 =>
 (zkz x5.1).bind fun x8 =>
 bif (!x8) then (
 zaf g1 s2 true
 ) else (
 bif (decide (((s2 : Nat) : Int) > 0)) then (
 (z82 a0 (IntKind.i64.wrap (((s2 : Nat) : Int) - 1))).bind fun x11 =>
 zaf g1 s2 (Op.bytesLess x5.1 x11.1 || x5.1 == x11.1)
 ) else (
 zaf g1 s2 false
 )
 )
 ) else (
 some 0
 )
theorem zov (g1 : OF ρ → Nat → Option Int) (h_g1 : ∀ y0, CM (fun G => g1 G y0)) (a0 : (List (Str × V))) (s2 : Nat) : CM (fun G : OF ρ => z7f a0 (g1 G) s2) := by
 simp only [z7f]
 repeat (first | exact z0i | exact h_g1 _ | apply zrk | refine z18 ?_ ?_ | refine z19 ?_ (fun _ => ?_) | intro _ | assumption)
noncomputable def zic (a0 : (List (Str × V))) (s2 : Nat) : Option Int :=
 z3q (ι := Nat) (ρ := fun _ => Int) (fun g i => z7f a0 (fun s2 => g s2) i) s2
theorem zib (a0 : (List (Str × V))) (s2 : Nat) : zic a0 s2 = z7f a0 (zic a0) s2 :=
 z1j (ι := Nat) (ρ := fun _ => Int) (Φ := fun g i => z7f a0 (fun s2 => g s2) i) (fun i => zov (ι := Nat) (ρ := fun _ => Int) (fun g => (fun s2 => g s2)) (fun _ => z1l) a0 i) s2
noncomputable def zl2 (a0 : (List (Str × V))) : Option Int :=
 bif (decide ((((a0).length : Nat) : Int) > 4096)) then (
 some 2
 ) else (
 zic a0 0
 )
theorem Z42 (a0 : (List (Str × V))) (r : Int) (h : zl2 a0 = some r) : z0p Tryz.prog 126 [(PV.sl none 86 2 (List.map ofFld a0))] (I64 r) := by
 unfold zl2 at h
 refine z0j Tryz.func126 rfl Tryz.ntmps126 Tryz.results126 rfl (z0n ?_)
 change BW _ _ _ ⟨[(0, (PV.sl none 86 2 (List.map ofFld a0)))], [], _⟩ _
 refine bR ?_
 refine eX ?_
 refine z0f ?_
 refine bR ?_
 iterate 2 refine sX ?_
 refine eX ?_
 refine cX h rfl ?_ ?_
 intro hc1 h
 refine bR ?_
 refine eX ?_
 obtain rfl := eI h; exact z06 eK
 intro hc1 h
 refine z0g ?_
 refine cBx ?_
 refine z0f ?_
 refine bR ?_
 iterate 2 refine sX ?_
 refine eX ?_
 refine z0o ?_
 refine cBx ?_
 unfold zic at h
 refine lX (σ := Nat) (fun i => [(0, (PV.sl none 86 2 (List.map ofFld a0))), (8, (PV.sl none 86 2 (List.map ofFld a0))), (9, (I64 ((((a0).length : Nat) : Int)))), (10, (I64 (((i : Nat) : Int))))]) (fun i => []) 0 h ?_ ?_
 exact jN
 rintro g1_f s2 h; replace h : z7f a0 (fun y0 => g1_f y0) s2 = some r := h; unfold z7f at h
 change BW _ _ _ ⟨[(0, (PV.sl none 86 2 (List.map ofFld a0))), (8, (PV.sl none 86 2 (List.map ofFld a0))), (9, (I64 ((((a0).length : Nat) : Int)))), (10, (I64 (((s2 : Nat) : Int))))], [], _⟩ _
 refine bR ?_
 refine eX ?_
 refine z0f ?_
 refine z4a (t := 8) rfl fun hb4 => ?_
 try rw [List.length_map] at hb4
 refine cX h rfl ?_ ?_
 intro hc3 h
 have hc3_ := of_decide_eq_true hc3
 refine z0g ?_
 refine cBx ?_
 refine z0f ?_
 refine z0o ?_
 refine cBx ?_
 refine bR ?_
 refine sX ?_
 obtain ⟨x5, hx5, h⟩ := obind h
 refine sS rfl rfl rfl (z1p (i := s2) Tryz.underlying68 z13 rfl rfl rfl hx5 rfl) ?_
 refine sX ?_
 refine sS rfl rfl rfl ((z1h z13 rfl).cast (H'' := [.box 86 [(ofStr []), (ofV V.nil)]]) rfl (by simp only [mk_nil]; rfl)) ?_
 refine sX ?_
 refine z14 rfl rfl (z0y z13 rfl rfl rfl rfl rfl rfl (lbE rfl) (by show List.all [(ofStr x5.1), (ofV x5.2)] z45 = true; simp only [List.all_cons, List.all_nil, z3w, z1q, Bool.and_true, Bool.true_and]; try rfl)) ?_
 refine z0h ?_
 refine cBx ?_
 refine jX (ι := Bool) (fun i => zaf (fun y0 => g1_f y0) s2 i = some r) (fun i => [(0, (PV.sl none 86 2 (List.map ofFld a0))), (8, (PV.sl none 86 2 (List.map ofFld a0))), (9, (I64 ((((a0).length : Nat) : Int)))), (10, (I64 (((s2 : Nat) : Int)))), (33, (BO i))]) (fun i => []) ?_ ?_
 rintro s6 h; replace h : zaf (fun y0 => g1_f y0) s2 s6 = some r := h; unfold zaf at h
 change BW _ _ _ ⟨[(0, (PV.sl none 86 2 (List.map ofFld a0))), (8, (PV.sl none 86 2 (List.map ofFld a0))), (9, (I64 ((((a0).length : Nat) : Int)))), (10, (I64 (((s2 : Nat) : Int)))), (33, (BO s6))], [], _⟩ _
 refine cX h rfl ?_ ?_
 intro hc7 h
 refine bR ?_
 refine eX ?_
 obtain rfl := eI h; exact z06 eK
 intro hc7 h
 refine z0g ?_
 refine cBx ?_
 refine z0l ?_
 refine sS rfl rfl rfl (z2o (k := s2) (c := 1) rfl rfl rfl (by omega)) ?_
 refine sX (z0h ?_)
 exact ⟨rfl, (s2 + 1), h, jN⟩
 refine z1w 16 [] [0] mo (by kernel_rfl) ?_
 iterate 2 refine gX ?_
 obtain ⟨x8, hx8, h⟩ := obind h
 refine z1r rfl rfl rfl rfl (fun H hp => z08 rfl zzs rfl (wkr .nil) ⟨rfl, trivial⟩ (Z3x x5.1 x8 hx8) rfl) ?_
 iterate 2 refine gX ?_
 refine z7y 19 rfl ?_ ?_
 intro hb9; replace h := z10 hb9 h
 iterate 11 refine mX ?_
 refine z20 ?_
 change AO _ _ _ _ _
 iterate 2 refine nX ?_
 refine sX (z0h ?_)
 exact ⟨rfl, true, h, jN⟩
 intro hb9; replace h := z11 hb9 h
 iterate 3 refine wX ?_
 refine z7y 22 rfl ?_ ?_
 intro hb10; replace h := z10 hb10 h
 iterate 4 refine wX ?_
 refine z84 rfl rfl rfl rfl rfl rfl rfl (fun H hp => z97 rfl rfl rfl) ?_
 obtain ⟨x11, hx11, h⟩ := obind h
 refine z84 rfl rfl rfl rfl rfl rfl rfl (fun H hp => z26 Tryz.underlying68 z13 rfl rfl rfl hx11 rfl) ?_
 iterate 2 refine wX ?_
 refine z20 ?_
 change AO _ _ _ _ _
 refine z23 rfl rfl rfl rfl rfl rfl ((z2r (a := x5.1) (b := x11.1) rfl rfl rfl rfl).cast (y := (BO ((Op.bytesLess x5.1 x11.1 || x5.1 == x11.1)))) rfl rfl) ?_
 refine yX ?_
 refine sX (z0h ?_)
 exact ⟨rfl, (Op.bytesLess x5.1 x11.1 || x5.1 == x11.1), h, jN⟩
 intro hb10; replace h := z11 hb10 h
 iterate 8 refine mX ?_
 refine z20 ?_
 change AO _ _ _ _ _
 refine nX ?_
 refine yX ?_
 refine sX (z0h ?_)
 exact ⟨rfl, false, h, jN⟩
 intro hc3 h
 refine z2b ?_
 refine cBx ?_
 refine bR ?_
 refine eX ?_
 obtain rfl := eI h; exact z06 eK
noncomputable def zca : Option Int :=
 some 0
noncomputable def zc9 (x16 : Rec) (s19 : Bool) : Option Int :=
 bif s19 then (
 some 1
 ) else (
 (zl2 x16.fields).bind fun x21 =>
 some x21
 )
noncomputable def z9o (a0 : V) (s1 : Bool) : Option Int :=
 bif s1 then (
 (zkx a0).bind fun x3 =>
 bif (x3 == 11) then (
 some 7
 ) else (
 bif (x3 == 0) then (
 some 6
 ) else (
 some 2
 )
 )
 ) else (
 bif (a0).isText then (
 bif (decide (((((a0).asText).length : Nat) : Int) > 65536)) then (
 some 2
 ) else (
 zca
 )
 ) else (
 bif (a0).isBytes then (
 bif (decide (((((a0).asBytes).length : Nat) : Int) > 65536)) then (
 some 2
 ) else (
 zca
 )
 ) else (
 bif (a0).isList then (
 bif (decide (((((a0).asList).length : Nat) : Int) > 4096)) then (
 some 2
 ) else (
 zca
 )
 ) else (
 bif (a0).isDict then (
 (zl2 ((a0).asDict)).bind fun x13 =>
 some x13
 ) else (
 bif (a0).isRec then (
 bif ((a0).asRec).isNone then (
 some 7
 ) else (
 ((a0).asRec).bind fun x16 =>
 (zkz x16.cls).bind fun x17 =>
 bif (!x17) then (
 some 8
 ) else (
 bif (decide (x16.ver < 1)) then (
 zc9 x16 true
 ) else (
 zc9 x16 (decide (x16.ver > 1000))
 )
 )
 )
 ) else (
 (zkx a0).bind fun x23 =>
 bif (x23 == 0) then (
 some 6
 ) else (
 zca
 )
 )
 )
 )
 )
 )
 )
noncomputable def zsg (a0 : V) (a1 a2 : Int) : Option Int :=
 bif (decide (a1 ≥ 16384)) then (
 z9o a0 true
 ) else (
 z9o a0 (decide (a2 > 64))
 )
theorem Z6z (a0 : V) (a1 a2 r : Int) (h : zsg a0 a1 a2 = some r) : z0p Tryz.prog 107 [(ofV a0), (I64 a1), (I64 a2)] (I64 r) := by
 unfold zsg at h
 refine z0j Tryz.func107 rfl Tryz.ntmps107 Tryz.results107 rfl (z0n ?_)
 change BW _ _ _ ⟨[(0, (ofV a0)), (1, (I64 a1)), (2, (I64 a2))], [], _⟩ _
 refine bR ?_
 refine eX ?_
 refine z0f ?_
 refine z2e (ι := Bool) (fun i => z9o a0 i = some r) (fun i => [(0, (ofV a0)), (18, (BO i))]) (fun i => []) ?_ ?_ ?_
 intro i; exact ⟨lbE rfl, ⟨(z07 (ids_V _)), ⟨(z07 rfl), trivial⟩⟩, trivial⟩
 rintro s1 h; replace h : z9o a0 s1 = some r := h; unfold z9o at h
 change BW _ _ _ ⟨[(0, (ofV a0)), (18, (BO s1))], [], _⟩ _
 refine cX h rfl ?_ ?_
 intro hc2 h
 refine z0f ?_
 refine bR ?_
 refine sX ?_
 obtain ⟨x3, hx3, h⟩ := obind h
 refine sS rfl rfl rfl (z08 rfl zxi rfl (wkr .nil) ⟨(ids_V a0), trivial⟩ (zvh a0 x3 hx3) rfl) (z0h ?_)
 refine cBx ?_
 refine z0o ?_
 refine cBx ?_
 refine bR ?_
 refine sX ?_
 refine eX ?_
 refine cX h rfl ?_ ?_
 intro hc4 h
 refine bR ?_
 refine eX ?_
 obtain rfl := eI h; exact z06 eK
 intro hc4 h
 refine bR ?_
 refine sX ?_
 refine eX ?_
 refine cX h rfl ?_ ?_
 intro hc5 h
 refine bR ?_
 refine eX ?_
 obtain rfl := eI h; exact z06 eK
 intro hc5 h
 refine z0g ?_
 refine cBx ?_
 refine bR ?_
 refine eX ?_
 obtain rfl := eI h; exact z06 eK
 intro hc2 h
 refine z0g ?_
 refine cBx ?_
 refine jX (ι := Unit) (fun i => zca = some r) (fun i => []) (fun i => []) ?_ ?_
 rintro ⟨⟩ h; replace h : zca = some r := h; unfold zca at h
 change BW _ _ _ ⟨[], [], _⟩ _
 refine bR ?_
 refine eX ?_
 obtain rfl := eI h; exact z06 eK
 refine bR ?_
 refine eX ?_
 refine z0o ?_
 refine cBx ?_
 refine bR ?_
 refine sS rfl rfl rfl (zbu rfl rfl) ?_
 refine sX ?_
 refine eX ?_
 refine cX h rfl ?_ ?_
 intro hc6 h
 refine bR ?_
 refine eX ?_
 refine bR ?_
 refine sX ?_
 refine sS rfl rfl rfl (zcv (s := ((a0).asText)) Tryz.underlying9 rfl rfl) ?_
 refine eX ?_
 refine cX h rfl ?_ ?_
 intro hc7 h
 refine bR ?_
 refine eX ?_
 obtain rfl := eI h; exact z06 eK
 intro hc7 h
 refine z0g ?_
 exact ⟨rfl, (), h, jN⟩
 intro hc6 h
 refine bR ?_
 refine sS rfl rfl rfl (z7n rfl rfl) ?_
 refine sX ?_
 refine eX ?_
 refine cX h rfl ?_ ?_
 intro hc8 h
 refine bR ?_
 refine eX ?_
 refine bR ?_
 iterate 2 refine sX ?_
 refine eX ?_
 refine cX h rfl ?_ ?_
 intro hc9 h
 refine bR ?_
 refine eX ?_
 obtain rfl := eI h; exact z06 eK
 intro hc9 h
 refine z0g ?_
 exact ⟨rfl, (), h, jN⟩
 intro hc8 h
 refine bR ?_
 refine sS rfl rfl rfl (z1x rfl rfl) ?_
 refine sX ?_
 refine eX ?_
 refine cX h rfl ?_ ?_
 intro hc10 h
 refine bR ?_
 refine eX ?_
 refine bR ?_
 iterate 2 refine sX ?_
 refine eX ?_
 refine cX h rfl ?_ ?_
 intro hc11 h
 refine bR ?_
 refine eX ?_
 obtain rfl := eI h; exact z06 eK
 intro hc11 h
 refine z0g ?_
 exact ⟨rfl, (), h, jN⟩
 intro hc10 h
 refine bR ?_
 refine sS rfl rfl rfl (z2v rfl rfl) ?_
 refine sX ?_
 refine eX ?_
 refine cX h rfl ?_ ?_
 intro hc12 h
 refine bR ?_
 refine eX ?_
 refine bR ?_
 refine sX ?_
 obtain ⟨x13, hx13, h⟩ := obind h
 refine sS rfl rfl rfl (z08 rfl zzt rfl (wkr .nil) ⟨(z05 z0m ((a0).asDict)), trivial⟩ (Z42 ((a0).asDict) x13 hx13) rfl) ?_
 refine eX ?_
 obtain rfl := eI h; exact z06 eK
 intro hc12 h
 refine bR ?_
 refine sS rfl rfl rfl (z3g rfl rfl) ?_
 refine sX ?_
 refine eX ?_
 refine cX h rfl ?_ ?_
 intro hc14 h
 refine bR ?_
 refine eX ?_
 refine z0f ?_
 refine z0o ?_
 refine cBx ?_
 refine bR ?_
 refine sX ?_
 refine sS rfl rfl rfl (zfn Tryz.underlying70 rfl rfl) ?_
 refine eX ?_
 refine cX h rfl ?_ ?_
 intro hc15 h
 refine bR ?_
 refine eX ?_
 obtain rfl := eI h; exact z06 eK
 intro hc15 h
 refine bR ?_
 refine sX ?_
 obtain ⟨x16, hx16, h⟩ := obind h
 refine sS rfl rfl rfl (z1o rfl rfl hx16) ?_
 iterate 2 refine sX ?_
 obtain ⟨x17, hx17, h⟩ := obind h
 refine sS rfl rfl rfl (z08 rfl zzs rfl (wkr .nil) ⟨rfl, trivial⟩ (Z3x x16.cls x17 hx17) rfl) ?_
 refine sX ?_
 refine eX ?_
 refine cX h rfl ?_ ?_
 intro hc18 h
 refine bR ?_
 refine eX ?_
 obtain rfl := eI h; exact z06 eK
 intro hc18 h
 refine z2e (ι := Bool) (fun i => zc9 x16 i = some r) (fun i => [(11, (ofRecP (a0).asRec)), (65, (BO i))]) (fun i => []) ?_ ?_ ?_
 intro i; exact ⟨lbE rfl, ⟨(z07 (zh3 _)), ⟨(z07 rfl), trivial⟩⟩, trivial⟩
 rintro s19 h; replace h : zc9 x16 s19 = some r := h; unfold zc9 at h
 change BW _ _ _ ⟨[(11, (ofRecP (a0).asRec)), (65, (BO s19))], [], _⟩ _
 refine cX h rfl ?_ ?_
 intro hc20 h
 refine bR ?_
 refine eX ?_
 obtain rfl := eI h; exact z06 eK
 intro hc20 h
 refine z0g ?_
 refine cBx ?_
 refine bR ?_
 refine sX ?_
 refine sS rfl rfl rfl (z1o rfl rfl hx16) ?_
 iterate 2 refine sX ?_
 obtain ⟨x21, hx21, h⟩ := obind h
 refine sS rfl rfl rfl (z08 rfl zzt rfl (wkr .nil) ⟨(z05 z0m x16.fields), trivial⟩ (Z42 x16.fields x21 hx21) rfl) ?_
 refine eX ?_
 obtain rfl := eI h; exact z06 eK
 refine z0l ?_
 refine sX ?_
 refine sS rfl rfl rfl (z1o rfl rfl hx16) ?_
 iterate 4 refine sX ?_
 refine z0t (t := 71) rfl ?_ ?_
 intro hb22; replace h := z10 hb22 h
 iterate 5 refine nX ?_
 refine sX ?_
 refine sX (z0h ?_)
 exact ⟨rfl, true, h, jN⟩
 intro hb22; replace h := z11 hb22 h
 refine yX ?_
 refine z23 rfl rfl rfl rfl rfl rfl (z1o rfl rfl hx16) ?_
 iterate 3 refine yX ?_
 refine sX ?_
 refine sX (z0h ?_)
 exact ⟨rfl, (decide (x16.ver > 1000)), h, jN⟩
 intro hc14 h
 refine bR ?_
 refine eX ?_
 refine bR ?_
 refine sX ?_
 obtain ⟨x23, hx23, h⟩ := obind h
 refine sS rfl rfl rfl (z08 rfl zxi rfl (wkr .nil) ⟨(ids_V a0), trivial⟩ (zvh a0 x23 hx23) rfl) ?_
 refine eX ?_
 refine cX h rfl ?_ ?_
 intro hc24 h
 refine bR ?_
 refine eX ?_
 obtain rfl := eI h; exact z06 eK
 intro hc24 h
 refine z0g ?_
 exact ⟨rfl, (), h, jN⟩
 refine z0l ?_
 iterate 3 refine sX ?_
 refine z0t (t := 15) rfl ?_ ?_
 intro hb25; replace h := z10 hb25 h
 iterate 2 refine nX ?_
 refine sX (z0h ?_)
 exact ⟨rfl, true, h, jN⟩
 intro hb25; replace h := z11 hb25 h
 iterate 2 refine yX ?_
 refine sX (z0h ?_)
 exact ⟨rfl, (decide (a2 > 64)), h, jN⟩
noncomputable def z67 (r_q0n : S_value_count → V → Int → Option (Bool × S_value_count)) (a1 : (List (Str × V))) (a2 : Int) (g1 : Nat → Int → Int → Int → Option (Bool × S_value_count)) (s1 : Nat) (s2 s3 s4 : Int) : Option (Bool × S_value_count) :=
 bif (decide (((s1 : Nat) : Int) < (((a1).length : Nat) : Int))) then (
 ((a1)[s1]?).bind fun x7 =>
 (r_q0n (S_value_count.mk s2 s3 s4) x7.2 (IntKind.i64.wrap (a2 + 1))).bind fun x8 =>
 bif (!x8.1) then (
 some (false, (x8.2))
 ) else (
 g1 (s1 + 1) ((x8.2).f_n) ((x8.2).f_deep) ((x8.2).f_why)
 )
 ) else (
 some (true, (S_value_count.mk s2 s3 s4))
 )
theorem zbi (r_q0n : OF ρ → S_value_count → V → Int → Option (Bool × S_value_count)) (h_r_q0n : ∀ y0 y1 y2, CM (fun G => r_q0n G y0 y1 y2)) (g1 : OF ρ → Nat → Int → Int → Int → Option (Bool × S_value_count)) (h_g1 : ∀ y0 y1 y2 y3, CM (fun G => g1 G y0 y1 y2 y3)) (a1 : (List (Str × V))) (a2 : Int) (s1 : Nat) (s2 s3 s4 : Int) : CM (fun G : OF ρ => z67 (r_q0n G) a1 a2 (g1 G) s1 s2 s3 s4) := by
 simp only [z67]
 repeat (first | exact z0i | exact h_r_q0n _ _ _ | exact h_g1 _ _ _ _ | refine z18 ?_ ?_ | refine z19 ?_ (fun _ => ?_))
noncomputable def zfb (r_q0n : S_value_count → V → Int → Option (Bool × S_value_count)) (a1 : (List (Str × V))) (a2 : Int) (s1 : Nat) (s2 s3 s4 : Int) : Option (Bool × S_value_count) :=
 z3q (ι := (Nat × Int × Int × Int)) (ρ := fun _ => (Bool × S_value_count)) (fun g i => z67 r_q0n a1 a2 (fun s1 s2 s3 s4 => g (s1, s2, s3, s4)) i.1 i.2.1 i.2.2.1 i.2.2.2) (s1, s2, s3, s4)
theorem zid (r_q0n : S_value_count → V → Int → Option (Bool × S_value_count)) (a1 : (List (Str × V))) (a2 : Int) (s1 : Nat) (s2 s3 s4 : Int) : zfb r_q0n a1 a2 s1 s2 s3 s4 = z67 r_q0n a1 a2 (zfb r_q0n a1 a2) s1 s2 s3 s4 :=
 z1j (ι := (Nat × Int × Int × Int)) (ρ := fun _ => (Bool × S_value_count)) (Φ := fun g i => z67 r_q0n a1 a2 (fun s1 s2 s3 s4 => g (s1, s2, s3, s4)) i.1 i.2.1 i.2.2.1 i.2.2.2) (fun i => zbi (ι := (Nat × Int × Int × Int)) (ρ := fun _ => (Bool × S_value_count)) (fun _ => r_q0n) (fun _ _ _ => z0i) (fun g => (fun s1 s2 s3 s4 => g (s1, s2, s3, s4))) (fun _ _ _ _ => z1l) a1 a2 i.1 i.2.1 i.2.2.1 i.2.2.2) (s1, s2, s3, s4)
theorem zrm (r_q0n : OF ρ → S_value_count → V → Int → Option (Bool × S_value_count)) (h_r_q0n : ∀ y0 y1 y2, CM (fun G => r_q0n G y0 y1 y2)) (a1 : (List (Str × V))) (a2 : Int) (s1 : Nat) (s2 s3 s4 : Int) : CM (fun G : OF ρ => zfb (r_q0n G) a1 a2 s1 s2 s3 s4) :=
 z5z (κ := (Nat × Int × Int × Int)) (τ := fun _ => (Bool × S_value_count)) (Φ := fun G g i => z67 (r_q0n G) a1 a2 (fun s1 s2 s3 s4 => g (s1, s2, s3, s4)) i.1 i.2.1 i.2.2.1 i.2.2.2) (fun g i => zbi r_q0n h_r_q0n (fun _ => (fun s1 s2 s3 s4 => g (s1, s2, s3, s4))) (fun _ _ _ _ => z0i) a1 a2 i.1 i.2.1 i.2.2.1 i.2.2.2) (fun G i => zbi (ι := (Nat × Int × Int × Int)) (ρ := fun _ => (Bool × S_value_count)) (fun _ => r_q0n G) (fun _ _ _ => z0i) (fun g => (fun s1 s2 s3 s4 => g (s1, s2, s3, s4))) (fun _ _ _ _ => z1l) a1 a2 i.1 i.2.1 i.2.2.1 i.2.2.2) (s1, s2, s3, s4)
noncomputable def zm2 (r_q0s : S_value_count → (List (Str × V)) → Int → Option (Bool × S_value_count)) (r_q0n : S_value_count → V → Int → Option (Bool × S_value_count)) (a0 : S_value_count) (a1 : (List (Str × V))) (a2 : Int) : Option (Bool × S_value_count) :=
 zfb r_q0n a1 a2 0 a0.f_n a0.f_deep a0.f_why
theorem zyc (r_q0s : OF ρ → S_value_count → (List (Str × V)) → Int → Option (Bool × S_value_count)) (h_r_q0s : ∀ y0 y1 y2, CM (fun G => r_q0s G y0 y1 y2)) (r_q0n : OF ρ → S_value_count → V → Int → Option (Bool × S_value_count)) (h_r_q0n : ∀ y0 y1 y2, CM (fun G => r_q0n G y0 y1 y2)) (a0 : S_value_count) (a1 : (List (Str × V))) (a2 : Int) : CM (fun G : OF ρ => zm2 (r_q0s G) (r_q0n G) a0 a1 a2) := by
 simp only [zm2]
 repeat (first | exact z0i | exact h_r_q0s _ _ _ | exact h_r_q0n _ _ _ | apply zrm | refine z18 ?_ ?_ | refine z19 ?_ (fun _ => ?_) | intro _ | assumption)
noncomputable def zfe (s3 s4 s5 : Int) : Option (Bool × S_value_count) :=
 some (true, (S_value_count.mk s3 s4 s5))
noncomputable def z69 (r_q0n : S_value_count → V → Int → Option (Bool × S_value_count)) (a1 : V) (a2 : Int) (g1 : Nat → Int → Int → Int → Option (Bool × S_value_count)) (s7 : Nat) (s8 s9 s10 : Int) : Option (Bool × S_value_count) :=
 bif (decide (((s7 : Nat) : Int) < ((((a1).asList).length : Nat) : Int))) then (
 (((a1).asList)[s7]?).bind fun x13 =>
 (r_q0n (S_value_count.mk s8 s9 s10) x13 (IntKind.i64.wrap (a2 + 1))).bind fun x14 =>
 bif (!x14.1) then (
 some (false, (x14.2))
 ) else (
 g1 (s7 + 1) ((x14.2).f_n) ((x14.2).f_deep) ((x14.2).f_why)
 )
 ) else (
 zfe s8 s9 s10
 )
theorem zbk (r_q0n : OF ρ → S_value_count → V → Int → Option (Bool × S_value_count)) (h_r_q0n : ∀ y0 y1 y2, CM (fun G => r_q0n G y0 y1 y2)) (g1 : OF ρ → Nat → Int → Int → Int → Option (Bool × S_value_count)) (h_g1 : ∀ y0 y1 y2 y3, CM (fun G => g1 G y0 y1 y2 y3)) (a1 : V) (a2 : Int) (s7 : Nat) (s8 s9 s10 : Int) : CM (fun G : OF ρ => z69 (r_q0n G) a1 a2 (g1 G) s7 s8 s9 s10) := by
 simp only [z69]
 repeat (first | exact z0i | exact h_r_q0n _ _ _ | exact h_g1 _ _ _ _ | apply q0n_j1_cm | refine z18 ?_ ?_ | refine z19 ?_ (fun _ => ?_) | intro _ | assumption)
noncomputable def zfd (r_q0n : S_value_count → V → Int → Option (Bool × S_value_count)) (a1 : V) (a2 : Int) (s7 : Nat) (s8 s9 s10 : Int) : Option (Bool × S_value_count) :=
 z3q (ι := (Nat × Int × Int × Int)) (ρ := fun _ => (Bool × S_value_count)) (fun g i => z69 r_q0n a1 a2 (fun s7 s8 s9 s10 => g (s7, s8, s9, s10)) i.1 i.2.1 i.2.2.1 i.2.2.2) (s7, s8, s9, s10)
theorem zif (r_q0n : S_value_count → V → Int → Option (Bool × S_value_count)) (a1 : V) (a2 : Int) (s7 : Nat) (s8 s9 s10 : Int) : zfd r_q0n a1 a2 s7 s8 s9 s10 = z69 r_q0n a1 a2 (zfd r_q0n a1 a2) s7 s8 s9 s10 :=
 z1j (ι := (Nat × Int × Int × Int)) (ρ := fun _ => (Bool × S_value_count)) (Φ := fun g i => z69 r_q0n a1 a2 (fun s7 s8 s9 s10 => g (s7, s8, s9, s10)) i.1 i.2.1 i.2.2.1 i.2.2.2) (fun i => zbk (ι := (Nat × Int × Int × Int)) (ρ := fun _ => (Bool × S_value_count)) (fun _ => r_q0n) (fun _ _ _ => z0i) (fun g => (fun s7 s8 s9 s10 => g (s7, s8, s9, s10))) (fun _ _ _ _ => z1l) a1 a2 i.1 i.2.1 i.2.2.1 i.2.2.2) (s7, s8, s9, s10)
theorem zro (r_q0n : OF ρ → S_value_count → V → Int → Option (Bool × S_value_count)) (h_r_q0n : ∀ y0 y1 y2, CM (fun G => r_q0n G y0 y1 y2)) (a1 : V) (a2 : Int) (s7 : Nat) (s8 s9 s10 : Int) : CM (fun G : OF ρ => zfd (r_q0n G) a1 a2 s7 s8 s9 s10) :=
 z5z (κ := (Nat × Int × Int × Int)) (τ := fun _ => (Bool × S_value_count)) (Φ := fun G g i => z69 (r_q0n G) a1 a2 (fun s7 s8 s9 s10 => g (s7, s8, s9, s10)) i.1 i.2.1 i.2.2.1 i.2.2.2) (fun g i => zbk r_q0n h_r_q0n (fun _ => (fun s7 s8 s9 s10 => g (s7, s8, s9, s10))) (fun _ _ _ _ => z0i) a1 a2 i.1 i.2.1 i.2.2.1 i.2.2.2) (fun G i => zbk (ι := (Nat × Int × Int × Int)) (ρ := fun _ => (Bool × S_value_count)) (fun _ => r_q0n G) (fun _ _ _ => z0i) (fun g => (fun s7 s8 s9 s10 => g (s7, s8, s9, s10))) (fun _ _ _ _ => z1l) a1 a2 i.1 i.2.1 i.2.2.1 i.2.2.2) (s7, s8, s9, s10)
noncomputable def zm4 (r_q0s : S_value_count → (List (Str × V)) → Int → Option (Bool × S_value_count)) (r_q0n : S_value_count → V → Int → Option (Bool × S_value_count)) (a0 : S_value_count) (a1 : V) (a2 : Int) : Option (Bool × S_value_count) :=
 (zsg a1 a0.f_n a2).bind fun x1 =>
 bif (x1 != 0) then (
 some (false, (S_value_count.mk a0.f_n a0.f_deep x1))
 ) else (
 bif (a1).isList then (
 zfd r_q0n a1 a2 0 (IntKind.i64.wrap (a0.f_n + 1)) (if a2 > a0.f_deep then a2 else a0.f_deep) x1
 ) else (
 bif (a1).isDict then (
 (r_q0s (S_value_count.mk (IntKind.i64.wrap (a0.f_n + 1)) (if a2 > a0.f_deep then a2 else a0.f_deep) x1) ((a1).asDict) a2).bind fun x17 =>
 some (x17.1, (x17.2))
 ) else (
 bif (a1).isRec then (
 ((a1).asRec).bind fun x19 =>
 (r_q0s (S_value_count.mk (IntKind.i64.wrap (a0.f_n + 1)) (if a2 > a0.f_deep then a2 else a0.f_deep) x1) x19.fields a2).bind fun x20 =>
 some (x20.1, (x20.2))
 ) else (
 zfe (IntKind.i64.wrap (a0.f_n + 1)) (if a2 > a0.f_deep then a2 else a0.f_deep) x1
 )
 )
 )
 )
theorem zye (r_q0s : OF ρ → S_value_count → (List (Str × V)) → Int → Option (Bool × S_value_count)) (h_r_q0s : ∀ y0 y1 y2, CM (fun G => r_q0s G y0 y1 y2)) (r_q0n : OF ρ → S_value_count → V → Int → Option (Bool × S_value_count)) (h_r_q0n : ∀ y0 y1 y2, CM (fun G => r_q0n G y0 y1 y2)) (a0 : S_value_count) (a1 : V) (a2 : Int) : CM (fun G : OF ρ => zm4 (r_q0s G) (r_q0n G) a0 a1 a2) := by
 simp only [zm4]
 repeat (first | exact z0i | exact h_r_q0s _ _ _ | exact h_r_q0n _ _ _ | apply q0n_j1_cm | apply zro | refine z18 ?_ ?_ | refine z19 ?_ (fun _ => ?_) | intro _ | assumption)
inductive C_q0s where
 | k_q0s (a0 : S_value_count) (a1 : (List (Str × V))) (a2 : Int)
 | k_q0n (a0 : S_value_count) (a1 : V) (a2 : Int)
def C_q0s.R : C_q0s → Type
 | .k_q0s _ _ _ => (Bool × S_value_count)
 | .k_q0n _ _ _ => (Bool × S_value_count)
noncomputable def C_q0s.F (g : ∀ i : C_q0s, Option i.R) : ∀ i : C_q0s, Option i.R
 | .k_q0s a0 a1 a2 => zm2 (fun a0 a1 a2 => g (.k_q0s a0 a1 a2)) (fun a0 a1 a2 => g (.k_q0n a0 a1 a2)) a0 a1 a2
 | .k_q0n a0 a1 a2 => zm4 (fun a0 a1 a2 => g (.k_q0s a0 a1 a2)) (fun a0 a1 a2 => g (.k_q0n a0 a1 a2)) a0 a1 a2
noncomputable def zpa (a0 : S_value_count) (a1 : (List (Str × V))) (a2 : Int) : Option (Bool × S_value_count) := z3q C_q0s.F (.k_q0s a0 a1 a2)
noncomputable def zj4 (a0 : S_value_count) (a1 : V) (a2 : Int) : Option (Bool × S_value_count) := z3q C_q0s.F (.k_q0n a0 a1 a2)
abbrev gg1 := fun (g : ∀ i : C_q0s, Option i.R) a0 a1 a2 => g (.k_q0s a0 a1 a2)
theorem hh1 (a0 a1 a2 : _) : CM (ρ := C_q0s.R) (fun g => g (C_q0s.k_q0s a0 a1 a2)) := z1l
abbrev gg2 := fun (g : ∀ i : C_q0s, Option i.R) a0 a1 a2 => g (.k_q0n a0 a1 a2)
theorem hh2 (a0 a1 a2 : _) : CM (ρ := C_q0s.R) (fun g => g (C_q0s.k_q0n a0 a1 a2)) := z1l
theorem C_q0s.cm (i : C_q0s) : CM (fun g : (∀ i : C_q0s, Option i.R) => C_q0s.F g i) := by
 cases i with
 | k_q0s a0 a1 a2 => exact zyc gg1 hh1 gg2 hh2 a0 a1 a2
 | k_q0n a0 a1 a2 => exact zye gg1 hh1 gg2 hh2 a0 a1 a2
theorem Z8y (a0 : S_value_count) (a1 : (List (Str × V))) (a2 : Int) : zpa a0 a1 a2 = zm2 zpa zj4 a0 a1 a2 := z1j C_q0s.cm (.k_q0s a0 a1 a2)
theorem Z90 (a0 : S_value_count) (a1 : V) (a2 : Int) : zj4 a0 a1 a2 = zm4 zpa zj4 a0 a1 a2 := z1j C_q0s.cm (.k_q0n a0 a1 a2)
def C_q0s.Q : ∀ i : C_q0s, i.R → Prop
 | .k_q0s a0 a1 a2 => fun (r : (Bool × S_value_count)) => z9r Tryz.prog 108 [(PV.rf 0 0), (PV.sl none 86 2 (List.map ofFld a1)), (I64 a2)] (.box 142 [(I64 a0.f_n), (I64 a0.f_deep), (I64 a0.f_why)]) (BO r.1) (.box 142 [(I64 ((r.2).f_n)), (I64 ((r.2).f_deep)), (I64 ((r.2).f_why))])
 | .k_q0n a0 a1 a2 => fun (r : (Bool × S_value_count)) => z9r Tryz.prog 68 [(PV.rf 0 0), (ofV a1), (I64 a2)] (.box 142 [(I64 a0.f_n), (I64 a0.f_deep), (I64 a0.f_why)]) (BO r.1) (.box 142 [(I64 ((r.2).f_n)), (I64 ((r.2).f_deep)), (I64 ((r.2).f_why))])
theorem zbc (r_q0s : S_value_count → (List (Str × V)) → Int → Option (Bool × S_value_count)) (c_q0s : ∀ (a0 : S_value_count) (a1 : (List (Str × V))) (a2 : Int) r, r_q0s a0 a1 a2 = some r → z9r Tryz.prog 108 [(PV.rf 0 0), (PV.sl none 86 2 (List.map ofFld a1)), (I64 a2)] (.box 142 [(I64 a0.f_n), (I64 a0.f_deep), (I64 a0.f_why)]) (BO r.1) (.box 142 [(I64 ((r.2).f_n)), (I64 ((r.2).f_deep)), (I64 ((r.2).f_why))])) (r_q0n : S_value_count → V → Int → Option (Bool × S_value_count)) (c_q0n : ∀ (a0 : S_value_count) (a1 : V) (a2 : Int) r, r_q0n a0 a1 a2 = some r → z9r Tryz.prog 68 [(PV.rf 0 0), (ofV a1), (I64 a2)] (.box 142 [(I64 a0.f_n), (I64 a0.f_deep), (I64 a0.f_why)]) (BO r.1) (.box 142 [(I64 ((r.2).f_n)), (I64 ((r.2).f_deep)), (I64 ((r.2).f_why))])) (a0 : S_value_count) (a1 : (List (Str × V))) (a2 : Int) (r : (Bool × S_value_count)) (h : zm2 r_q0s r_q0n a0 a1 a2 = some r) : z9r Tryz.prog 108 [(PV.rf 0 0), (PV.sl none 86 2 (List.map ofFld a1)), (I64 a2)] (.box 142 [(I64 a0.f_n), (I64 a0.f_deep), (I64 a0.f_why)]) (BO r.1) (.box 142 [(I64 ((r.2).f_n)), (I64 ((r.2).f_deep)), (I64 ((r.2).f_why))]) := by
 unfold zm2 at h
 refine z0j Tryz.func108 rfl Tryz.ntmps108 Tryz.results108 rfl (z0n ?_)
 change BW _ _ _ ⟨[(0, (PV.rf 0 0)), (1, (PV.sl none 86 2 (List.map ofFld a1))), (2, (I64 a2))], [.box 142 [(I64 a0.f_n), (I64 a0.f_deep), (I64 a0.f_why)]], _⟩ _
 refine bR ?_
 refine eX ?_
 refine z0f ?_
 refine bR ?_
 iterate 2 refine sX ?_
 refine eX ?_
 refine z0o ?_
 refine cBx ?_
 unfold zfb at h
 refine lX (σ := (Nat × Int × Int × Int)) (fun i => [(0, (PV.rf 0 0)), (2, (I64 a2)), (9, (PV.sl none 86 2 (List.map ofFld a1))), (10, (I64 ((((a1).length : Nat) : Int)))), (11, (I64 (((i.1 : Nat) : Int))))]) (fun i => [.box 142 [(I64 i.2.1), (I64 i.2.2.1), (I64 i.2.2.2)]]) (0, a0.f_n, a0.f_deep, a0.f_why) h ?_ ?_
 exact jN
 rintro g1_f ⟨s1, s2, s3, s4⟩ h; replace h : z67 r_q0n a1 a2 (fun y0 y1 y2 y3 => g1_f (y0, y1, y2, y3)) s1 s2 s3 s4 = some r := h; unfold z67 at h
 change BW _ _ _ ⟨[(0, (PV.rf 0 0)), (2, (I64 a2)), (9, (PV.sl none 86 2 (List.map ofFld a1))), (10, (I64 ((((a1).length : Nat) : Int)))), (11, (I64 (((s1 : Nat) : Int))))], [.box 142 [(I64 s2), (I64 s3), (I64 s4)]], _⟩ _
 refine bR ?_
 refine eX ?_
 refine z0f ?_
 refine z4a (t := 9) rfl fun hb6 => ?_
 try rw [List.length_map] at hb6
 refine cX h rfl ?_ ?_
 intro hc5 h
 have hc5_ := of_decide_eq_true hc5
 refine z0g ?_
 refine cBx ?_
 refine z0f ?_
 refine z0o ?_
 refine cBx ?_
 refine bR ?_
 obtain ⟨x7, hx7, h⟩ := obind h
 refine sS rfl rfl rfl (z1p (i := s1) Tryz.underlying68 z13 rfl rfl rfl hx7 rfl) ?_
 refine sX ?_
 refine sS rfl rfl rfl ((z1h z13 rfl).cast (H'' := [.box 142 [(I64 s2), (I64 s3), (I64 s4)], .box 86 [(ofStr []), (ofV V.nil)]]) rfl (by simp only [mk_nil]; rfl)) ?_
 refine z14 rfl rfl (z0y z13 rfl rfl rfl rfl rfl rfl (lbE rfl) (by show List.all [(ofStr x7.1), (ofV x7.2)] z45 = true; simp only [List.all_cons, List.all_nil, z3w, z1q, Bool.and_true, Bool.true_and]; try rfl)) ?_
 refine z0h ?_
 refine cBx ?_
 refine bR ?_
 iterate 5 refine sX ?_
 obtain ⟨x8, hx8, h⟩ := obind h
 refine sS rfl rfl rfl (z8l 0 rfl Z2c rfl (wkr (wkr (wkr .nil))) (.box (.val (ids_V x7.2) (.val rfl .nil))) rfl (z0v rfl (z0v rfl (z0v rfl rfl))) (c_q0n (S_value_count.mk s2 s3 s4) x7.2 (IntKind.i64.wrap (a2 + 1)) x8 hx8) rfl (z0v rfl (z0v rfl (z0v rfl rfl)))) ?_
 refine eX ?_
 refine cX h rfl ?_ ?_
 intro hc9 h
 refine bR ?_
 refine eX ?_
 obtain rfl := eI h; exact z06 ⟨_, rfl, zep (y := (BO false)) (e := .box 142 [(I64 (((x8.2)).f_n)), (I64 (((x8.2)).f_deep)), (I64 (((x8.2)).f_why))]) (Wk.refl _) rfl rfl (z0v rfl (z0v rfl (z0v rfl rfl))) ⟨rfl, rfl⟩⟩
 intro hc9 h
 refine z0g ?_
 refine cBx ?_
 refine z0l ?_
 refine sS rfl rfl rfl (z2o (k := s1) (c := 1) rfl rfl rfl (by omega)) ?_
 refine sX (z0h ?_)
 exact ⟨rfl, ((s1 + 1), (x8.2).f_n, (x8.2).f_deep, (x8.2).f_why), h, jN⟩
 intro hc5 h
 refine z2b ?_
 refine cBx ?_
 refine bR ?_
 refine eX ?_
 obtain rfl := eI h; exact z06 ⟨_, rfl, zep (y := (BO true)) (e := .box 142 [(I64 (((S_value_count.mk s2 s3 s4)).f_n)), (I64 (((S_value_count.mk s2 s3 s4)).f_deep)), (I64 (((S_value_count.mk s2 s3 s4)).f_why))]) (Wk.refl _) rfl rfl (z0v rfl (z0v rfl (z0v rfl rfl))) ⟨rfl, rfl⟩⟩
theorem za5 (r_q0s : S_value_count → (List (Str × V)) → Int → Option (Bool × S_value_count)) (c_q0s : ∀ (a0 : S_value_count) (a1 : (List (Str × V))) (a2 : Int) r, r_q0s a0 a1 a2 = some r → z9r Tryz.prog 108 [(PV.rf 0 0), (PV.sl none 86 2 (List.map ofFld a1)), (I64 a2)] (.box 142 [(I64 a0.f_n), (I64 a0.f_deep), (I64 a0.f_why)]) (BO r.1) (.box 142 [(I64 ((r.2).f_n)), (I64 ((r.2).f_deep)), (I64 ((r.2).f_why))])) (r_q0n : S_value_count → V → Int → Option (Bool × S_value_count)) (c_q0n : ∀ (a0 : S_value_count) (a1 : V) (a2 : Int) r, r_q0n a0 a1 a2 = some r → z9r Tryz.prog 68 [(PV.rf 0 0), (ofV a1), (I64 a2)] (.box 142 [(I64 a0.f_n), (I64 a0.f_deep), (I64 a0.f_why)]) (BO r.1) (.box 142 [(I64 ((r.2).f_n)), (I64 ((r.2).f_deep)), (I64 ((r.2).f_why))])) (a0 : S_value_count) (a1 : V) (a2 : Int) (r : (Bool × S_value_count)) (h : zm4 r_q0s r_q0n a0 a1 a2 = some r) : z9r Tryz.prog 68 [(PV.rf 0 0), (ofV a1), (I64 a2)] (.box 142 [(I64 a0.f_n), (I64 a0.f_deep), (I64 a0.f_why)]) (BO r.1) (.box 142 [(I64 ((r.2).f_n)), (I64 ((r.2).f_deep)), (I64 ((r.2).f_why))]) := by
 unfold zm4 at h
 refine z0j Tryz.func68 rfl Tryz.ntmps68 Tryz.results68 rfl (z0n ?_)
 change BW _ _ _ ⟨[(0, (PV.rf 0 0)), (1, (ofV a1)), (2, (I64 a2))], [.box 142 [(I64 a0.f_n), (I64 a0.f_deep), (I64 a0.f_why)]], _⟩ _
 refine bR ?_
 refine eX ?_
 refine z0f ?_
 refine bR ?_
 iterate 3 refine sX ?_
 refine sS rfl rfl rfl (z3t rfl rfl) ?_
 iterate 3 refine sX ?_
 obtain ⟨x1, hx1, h⟩ := obind h
 refine sS rfl rfl rfl (z08 rfl Z5z rfl (wkr (wkr (wkr .nil))) ⟨(ids_V a1), ⟨rfl, ⟨rfl, trivial⟩⟩⟩ (Z6z a1 a0.f_n a2 x1 hx1) rfl) ?_
 refine sS rfl rfl rfl (z3t rfl rfl) ?_
 refine sX ?_
 refine z14 rfl rfl (z0y zjp rfl rfl rfl rfl rfl rfl (lbE rfl) rfl) ?_
 refine z0h ?_
 refine cBx ?_
 refine bR ?_
 refine sX ?_
 refine sS rfl rfl rfl (z3t rfl rfl) ?_
 iterate 2 refine sX ?_
 refine eX ?_
 refine cX h rfl ?_ ?_
 intro hc2 h
 refine bR ?_
 refine eX ?_
 obtain rfl := eI h; exact z06 ⟨_, rfl, zep (y := (BO false)) (e := .box 142 [(I64 (((S_value_count.mk a0.f_n a0.f_deep x1)).f_n)), (I64 (((S_value_count.mk a0.f_n a0.f_deep x1)).f_deep)), (I64 (((S_value_count.mk a0.f_n a0.f_deep x1)).f_why))]) (Wk.refl _) rfl rfl (z0v rfl (z0v rfl (z0v rfl rfl))) ⟨rfl, rfl⟩⟩
 intro hc2 h
 refine z0g ?_
 refine cBx ?_
 refine bR ?_
 refine sX ?_
 refine sS rfl rfl rfl (z3t rfl rfl) ?_
 iterate 3 refine sX ?_
 refine sS rfl rfl rfl (z3t rfl rfl) ?_
 refine sX ?_
 refine z14 rfl rfl (z0y zxa rfl rfl rfl rfl rfl rfl (lbE rfl) rfl) ?_
 refine z0h ?_
 refine cBx ?_
 refine bR ?_
 iterate 2 refine sX ?_
 refine sS rfl rfl rfl (z3t rfl rfl) ?_
 iterate 3 refine sX ?_
 refine sS rfl rfl rfl (zwm (args := []) rfl rfl rfl) ?_
 refine sS rfl rfl rfl (z3t rfl rfl) ?_
 refine sX ?_
 refine z14 rfl rfl (z0y zxa rfl rfl rfl rfl rfl rfl (lbE rfl) rfl) ?_
 refine z0h ?_
 refine cBx ?_
 refine jX (ι := (Int × Int × Int)) (fun i => zfe i.1 i.2.1 i.2.2 = some r) (fun i => [(0, (PV.rf 0 0))]) (fun i => [.box 142 [(I64 i.1), (I64 i.2.1), (I64 i.2.2)]]) ?_ ?_
 rintro ⟨s3, s4, s5⟩ h; replace h : zfe s3 s4 s5 = some r := h; unfold zfe at h
 change BW _ _ _ ⟨[(0, (PV.rf 0 0))], [.box 142 [(I64 s3), (I64 s4), (I64 s5)]], _⟩ _
 refine bR ?_
 refine eX ?_
 obtain rfl := eI h; exact z06 ⟨_, rfl, zep (y := (BO true)) (e := .box 142 [(I64 (((S_value_count.mk s3 s4 s5)).f_n)), (I64 (((S_value_count.mk s3 s4 s5)).f_deep)), (I64 (((S_value_count.mk s3 s4 s5)).f_why))]) (Wk.refl _) rfl rfl (z0v rfl (z0v rfl (z0v rfl rfl))) ⟨rfl, rfl⟩⟩
 refine bR ?_
 refine eX ?_
 refine z0o ?_
 refine cBx ?_
 refine bR ?_
 refine sS rfl rfl rfl (z1x rfl rfl) ?_
 refine sX ?_
 refine eX ?_
 refine cX h rfl ?_ ?_
 intro hc6 h
 refine bR ?_
 refine eX ?_
 refine bR ?_
 iterate 2 refine sX ?_
 refine eX ?_
 refine z0o ?_
 refine cBx ?_
 unfold zfd at h
 refine lX (σ := (Nat × Int × Int × Int)) (fun i => [(0, (PV.rf 0 0)), (2, (I64 a2)), (47, (PV.sl none 20 1 (List.map ofV (a1).asList))), (48, (I64 (((((a1).asList).length : Nat) : Int)))), (49, (I64 (((i.1 : Nat) : Int))))]) (fun i => [.box 142 [(I64 i.2.1), (I64 i.2.2.1), (I64 i.2.2.2)]]) (0, (IntKind.i64.wrap (a0.f_n + 1)), (if a2 > a0.f_deep then a2 else a0.f_deep), x1) h ?_ ?_
 exact jN
 rintro g1_f ⟨s7, s8, s9, s10⟩ h; replace h : z69 r_q0n a1 a2 (fun y0 y1 y2 y3 => g1_f (y0, y1, y2, y3)) s7 s8 s9 s10 = some r := h; unfold z69 at h
 change BW _ _ _ ⟨[(0, (PV.rf 0 0)), (2, (I64 a2)), (47, (PV.sl none 20 1 (List.map ofV (a1).asList))), (48, (I64 (((((a1).asList).length : Nat) : Int)))), (49, (I64 (((s7 : Nat) : Int))))], [.box 142 [(I64 s8), (I64 s9), (I64 s10)]], _⟩ _
 refine bR ?_
 refine eX ?_
 refine z0f ?_
 refine z4a (t := 47) rfl fun hb12 => ?_
 try rw [List.length_map] at hb12
 refine cX h rfl ?_ ?_
 intro hc11 h
 have hc11_ := of_decide_eq_true hc11
 refine z0g ?_
 refine cBx ?_
 refine z0f ?_
 refine z0o ?_
 refine cBx ?_
 refine bR ?_
 obtain ⟨x13, hx13, h⟩ := obind h
 refine sS rfl rfl rfl (z1p (i := s7) Tryz.underlying66 z1v rfl rfl rfl hx13 rfl) ?_
 refine sS rfl rfl rfl (z4e (y := (ofV x13)) Tryz.underlying20 rfl rfl rfl (by rw [z0u]; rfl)) ?_
 refine eX ?_
 refine bR ?_
 iterate 4 refine sX ?_
 obtain ⟨x14, hx14, h⟩ := obind h
 refine sS rfl rfl rfl (z8l 0 rfl Z2c rfl (wkr (wkr (wkr .nil))) (.box (.val (ids_V x13) (.val rfl .nil))) rfl (z0v rfl (z0v rfl (z0v rfl rfl))) (c_q0n (S_value_count.mk s8 s9 s10) x13 (IntKind.i64.wrap (a2 + 1)) x14 hx14) rfl (z0v rfl (z0v rfl (z0v rfl rfl)))) ?_
 refine eX ?_
 refine cX h rfl ?_ ?_
 intro hc15 h
 refine bR ?_
 refine eX ?_
 obtain rfl := eI h; exact z06 ⟨_, rfl, zep (y := (BO false)) (e := .box 142 [(I64 (((x14.2)).f_n)), (I64 (((x14.2)).f_deep)), (I64 (((x14.2)).f_why))]) (Wk.refl _) rfl rfl (z0v rfl (z0v rfl (z0v rfl rfl))) ⟨rfl, rfl⟩⟩
 intro hc15 h
 refine z0g ?_
 refine cBx ?_
 refine z0l ?_
 refine sS rfl rfl rfl (z2o (k := s7) (c := 1) rfl rfl rfl (by omega)) ?_
 refine sX (z0h ?_)
 exact ⟨rfl, ((s7 + 1), (x14.2).f_n, (x14.2).f_deep, (x14.2).f_why), h, jN⟩
 intro hc11 h
 refine z2b ?_
 exact ⟨rfl, (s8, s9, s10), h, jN⟩
 intro hc6 h
 refine bR ?_
 refine sS rfl rfl rfl (z2v rfl rfl) ?_
 refine sX ?_
 refine eX ?_
 refine cX h rfl ?_ ?_
 intro hc16 h
 refine bR ?_
 refine eX ?_
 refine bR ?_
 iterate 3 refine sX ?_
 obtain ⟨x17, hx17, h⟩ := obind h
 refine sS rfl rfl rfl (z8l 0 rfl zzv rfl (wkr (wkr (wkr .nil))) (.box (.val (z05 z0m ((a1).asDict)) (.val rfl .nil))) rfl (z0v rfl (z0v rfl (z0v rfl rfl))) (c_q0s (S_value_count.mk (IntKind.i64.wrap (a0.f_n + 1)) (if a2 > a0.f_deep then a2 else a0.f_deep) x1) ((a1).asDict) a2 x17 hx17) rfl (z0v rfl (z0v rfl (z0v rfl rfl)))) ?_
 refine eX ?_
 obtain rfl := eI h; exact z06 ⟨_, rfl, zep (y := (BO x17.1)) (e := .box 142 [(I64 (((x17.2)).f_n)), (I64 (((x17.2)).f_deep)), (I64 (((x17.2)).f_why))]) (Wk.refl _) rfl rfl (z0v rfl (z0v rfl (z0v rfl rfl))) ⟨rfl, rfl⟩⟩
 intro hc16 h
 refine bR ?_
 refine sS rfl rfl rfl (z3g rfl rfl) ?_
 refine sX ?_
 refine eX ?_
 refine cX h rfl ?_ ?_
 intro hc18 h
 refine bR ?_
 refine eX ?_
 refine bR ?_
 iterate 2 refine sX ?_
 obtain ⟨x19, hx19, h⟩ := obind h
 refine sS rfl rfl rfl (z1o rfl rfl hx19) ?_
 iterate 3 refine sX ?_
 obtain ⟨x20, hx20, h⟩ := obind h
 refine sS rfl rfl rfl (z8l 0 rfl zzv rfl (wkr (wkr (wkr .nil))) (.box (.val (z05 z0m x19.fields) (.val rfl .nil))) rfl (z0v rfl (z0v rfl (z0v rfl rfl))) (c_q0s (S_value_count.mk (IntKind.i64.wrap (a0.f_n + 1)) (if a2 > a0.f_deep then a2 else a0.f_deep) x1) x19.fields a2 x20 hx20) rfl (z0v rfl (z0v rfl (z0v rfl rfl)))) ?_
 refine eX ?_
 obtain rfl := eI h; exact z06 ⟨_, rfl, zep (y := (BO x20.1)) (e := .box 142 [(I64 (((x20.2)).f_n)), (I64 (((x20.2)).f_deep)), (I64 (((x20.2)).f_why))]) (Wk.refl _) rfl rfl (z0v rfl (z0v rfl (z0v rfl rfl))) ⟨rfl, rfl⟩⟩
 intro hc18 h
 refine z0g ?_
 exact ⟨rfl, ((IntKind.i64.wrap (a0.f_n + 1)), (if a2 > a0.f_deep then a2 else a0.f_deep), x1), h, jN⟩
theorem C_q0s.sound : ∀ (i : C_q0s) (r : i.R), z3q C_q0s.F i = some r → C_q0s.Q i r := by
 refine z50 (Φ := C_q0s.F) (Q := C_q0s.Q) ?_
 intro g hg i r h
 cases i with
 | k_q0s a0 a1 a2 => exact zbc (fun a0 a1 a2 => g (.k_q0s a0 a1 a2)) (fun a0 a1 a2 r hr => hg (.k_q0s a0 a1 a2) r hr) (fun a0 a1 a2 => g (.k_q0n a0 a1 a2)) (fun a0 a1 a2 r hr => hg (.k_q0n a0 a1 a2) r hr) a0 a1 a2 r h
 | k_q0n a0 a1 a2 => exact za5 (fun a0 a1 a2 => g (.k_q0s a0 a1 a2)) (fun a0 a1 a2 r hr => hg (.k_q0s a0 a1 a2) r hr) (fun a0 a1 a2 => g (.k_q0n a0 a1 a2)) (fun a0 a1 a2 r hr => hg (.k_q0n a0 a1 a2) r hr) a0 a1 a2 r h
theorem Z7j (a0 : S_value_count) (a1 : V) (a2 : Int) (r : (Bool × S_value_count)) (h : zj4 a0 a1 a2 = some r) : z9r Tryz.prog 68 [(PV.rf 0 0), (ofV a1), (I64 a2)] (.box 142 [(I64 a0.f_n), (I64 a0.f_deep), (I64 a0.f_why)]) (BO r.1) (.box 142 [(I64 ((r.2).f_n)), (I64 ((r.2).f_deep)), (I64 ((r.2).f_why))]) := C_q0s.sound (.k_q0n a0 a1 a2) r h
noncomputable def zj1 (a0 : V) : Option (Int × Int) :=
 (zj4 (S_value_count.mk 0 0 0) a0 1).bind fun x1 =>
 bif (!x1.1) then (
 some ((x1.2).f_n, (x1.2).f_why)
 ) else (
 some (0, 0)
 )
theorem zvi (a0 : V) (r : (Int × Int)) (h : zj1 a0 = some r) : z0p Tryz.prog 39 [(ofV a0)] (PV.tup [(I64 r.1), (I64 r.2)]) := by
 unfold zj1 at h
 refine z0j Tryz.func39 rfl Tryz.ntmps39 Tryz.results39 rfl (z0n ?_)
 change BW _ _ _ ⟨[(0, (ofV a0))], [], _⟩ _
 refine bR ?_
 refine sX ?_
 refine eX ?_
 refine bR ?_
 refine sS rfl rfl rfl (z1h Z1x rfl) (z0h ?_)
 refine cBx ?_
 refine z0f ?_
 refine bR ?_
 refine sX ?_
 obtain ⟨x1, hx1, h⟩ := obind h
 refine sS rfl rfl rfl (z8l 0 rfl Z2c rfl (wkr (wkr (wkr .nil))) (.box (.val (ids_V a0) (.val rfl .nil))) rfl (z0v rfl (z0v rfl (z0v rfl rfl))) (Z7j (S_value_count.mk 0 0 0) a0 1 x1 hx1) rfl (z0v rfl (z0v rfl (z0v rfl rfl)))) ?_
 refine eX ?_
 refine cX h rfl ?_ ?_
 intro hc2 h
 refine z0f (z1w 5 [] [0] mo (by kernel_rfl) ?_)
 iterate 5 refine gX ?_
 refine z20 ?_
 change AO _ _ _ _ _
 refine eX ?_
 obtain rfl := eI h; exact z06 eK
 intro hc2 h
 refine z0g ?_
 refine cBx ?_
 refine bR ?_
 refine sX ?_
 refine eX ?_
 obtain rfl := eI h; exact z06 eK
noncomputable def zgs (a0 : V) : Option (Int × Int) :=
 (zj1 a0).bind fun x1 =>
 some (x1.1, x1.2)
theorem zr5 (a0 : V) (r : (Int × Int)) (h : zgs a0 = some r) : z0p Tryz.prog 31 [(ofV a0)] (PV.tup [(I64 r.1), (I64 r.2)]) := by
 unfold zgs at h
 refine z0j Tryz.func31 rfl Tryz.ntmps31 Tryz.results31 rfl (z0n ?_)
 change BW _ _ _ ⟨[(0, (ofV a0))], [], _⟩ _
 refine bR ?_
 refine sX ?_
 refine eX ?_
 refine bR ?_
 refine sX ?_
 obtain ⟨x1, hx1, h⟩ := obind h
 refine sS rfl rfl rfl (z08 rfl zxm rfl (wkr .nil) ⟨(ids_V a0), trivial⟩ (zvi a0 x1 hx1) (z00 rfl (z00 rfl z04))) ?_
 iterate 3 refine sX ?_
 refine eX ?_
 obtain rfl := eI h; exact z06 eK
end Go.Proofs.YtmoijodjgkfhgaaGreat
