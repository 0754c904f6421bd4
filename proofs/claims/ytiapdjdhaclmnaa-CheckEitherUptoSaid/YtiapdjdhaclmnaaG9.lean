/- Pure functions, and that calls answer as they say. Written by gen.py. -/
import Derived.Test.YtiapdjdhaclmnaaG8
namespace Go.Proofs.Ytiapdjdhaclmnaa
open Go Aw
set_option linter.unusedVariables false
set_option linter.unusedSimpArgs false
set_option maxRecDepth 20000
set_option maxHeartbeats 2000000
variable {ι : Type} {ρ : ι → Type}
noncomputable def z7s (g1 : Int → Option Bool) (s3 : Int) (s6 : Bool) : Option Bool :=
 bif s6 then (
  some false
 ) else (
  g1 (IntKind.i64.wrap (s3 + 1))
 )
theorem zpa (g1 : OF ρ → Int → Option Bool) (h_g1 : ∀ y0, CM (fun G => g1 G y0)) (s3 : Int) (s6 : Bool) : CM (fun G : OF ρ => z7s (g1 G) s3 s6) := by
 simp only [z7s]
 repeat (first | exact z0c | exact h_g1 _ | refine z14 ?_ ?_ | refine z15 ?_ (fun _ => ?_))
noncomputable def zbm (g1 : Int → Option Bool) (a0 : Str) (s3 : Int) (s5 : Bool) : Option Bool :=
 bif (!s5) then (
  bif (s3 == 0) then (
   z7s g1 s3 true
  ) else (
   Option.bind (zc1 a0 s3) fun x10 =>
   bif (((x10).toNat : Int) != (((95 : UInt8)).toNat : Int)) then (
    Option.bind (zc1 a0 s3) fun x12 =>
    bif (decide (((x12).toNat : Int) < (((48 : UInt8)).toNat : Int))) then (
     z7s g1 s3 true
    ) else (
     Option.bind (zc1 a0 s3) fun x14 =>
     z7s g1 s3 (decide (((x14).toNat : Int) > (((57 : UInt8)).toNat : Int)))
    )
   ) else (
    z7s g1 s3 false
   )
  )
 ) else (
  z7s g1 s3 false
 )
theorem zpb (g1 : OF ρ → Int → Option Bool) (h_g1 : ∀ y0, CM (fun G => g1 G y0)) (a0 : Str) (s3 : Int) (s5 : Bool) : CM (fun G : OF ρ => zbm (g1 G) a0 s3 s5) := by
 simp only [zbm]
 repeat (first | exact z0c | exact h_g1 _ | apply zpa | refine z14 ?_ ?_ | refine z15 ?_ (fun _ => ?_) | intro _ | assumption)
noncomputable def z53 (a0 : Str) (g1 : Int → Option Bool) (s3 : Int) : Option Bool :=
 bif (decide (s3 < (((a0).length : Nat) : Int))) then (
  Option.bind (zc1 a0 s3) fun x15 =>
  bif (decide (((x15).toNat : Int) ≥ (((97 : UInt8)).toNat : Int))) then (
   Option.bind (zc1 a0 s3) fun x17 =>
   zbm g1 a0 s3 (decide (((x17).toNat : Int) ≤ (((122 : UInt8)).toNat : Int)))
  ) else (
   zbm g1 a0 s3 false
  )
 ) else (
  some true
 )
theorem zn8 (g1 : OF ρ → Int → Option Bool) (h_g1 : ∀ y0, CM (fun G => g1 G y0)) (a0 : Str) (s3 : Int) : CM (fun G : OF ρ => z53 a0 (g1 G) s3) := by
 simp only [z53]
 repeat (first | exact z0c | exact h_g1 _ | apply zpb | refine z14 ?_ ?_ | refine z15 ?_ (fun _ => ?_) | intro _ | assumption)
noncomputable def zbl (a0 : Str) (s3 : Int) : Option Bool :=
 z38 (ι := Int) (ρ := fun _ => Bool) (fun g i => z53 a0 (fun s3 => g s3) i) s3
theorem zcz (a0 : Str) (s3 : Int) : zbl a0 s3 = z53 a0 (zbl a0) s3 :=
 z1d (ι := Int) (ρ := fun _ => Bool) (Φ := fun g i => z53 a0 (fun s3 => g s3) i) (fun i => zn8 (ι := Int) (ρ := fun _ => Bool) (fun g => (fun s3 => g s3)) (fun _ => z1c) a0 i) s3
noncomputable def zeo (a0 : Str) (s1 : Bool) : Option Bool :=
 bif s1 then (
  some false
 ) else (
  zbl a0 0
 )
noncomputable def znk (a0 : Str) : Option Bool :=
 bif (decide ((((a0).length : Nat) : Int) < 1)) then (
  zeo a0 true
 ) else (
  zeo a0 (decide ((((a0).length : Nat) : Int) > 32))
 )
theorem Z0e (a0 : Str) (r : Bool) (h : znk a0 = some r) : z0g Try.prog 60 [(z0f a0)] (BO r) := by
 unfold znk at h
 refine z0w Try.func60 rfl Try.ntmps60 Try.results60 rfl (z10 ?_)
 change BW _ _ _ ⟨[(0, (z0f a0))], [], _⟩ _
 refine bR ?_
 refine sAx (z00 ?_)
 refine cBx ?_
 refine z0o ?_
 refine z1n (ι := Bool) (fun i => zeo a0 i = some r) (fun i => [(0, (z0f a0)), (12, (BO i))]) (fun i => []) ?_ ?_ ?_
 ·intro i; exact ⟨lbE rfl, ⟨(z01 rfl), ⟨(z01 rfl), trivial⟩⟩, trivial⟩
 ·rintro s1 h; replace h : zeo a0 s1 = some r := h; unfold zeo at h
  change BW _ _ _ ⟨[(0, (z0f a0)), (12, (BO s1))], [], _⟩ _
  refine z05 rfl ?_ ?_
  ·intro hc2; replace h := z02 hc2 h
   refine bR ?_
   refine sAx (z00 ?_)
   refine cBx ?_
   refine z0a ?_
   change ∃ xs, _ = some xs ∧ EndOk _ _ _ _
   obtain rfl := Option.some.inj h
   exact ⟨_, rfl, z0d (y := (BO false)) (Wk.refl _) rfl ⟨rfl, rfl⟩⟩
  ·intro hc2; replace h := z03 hc2 h
   refine z0l ?_
   refine cBx ?_
   refine z0o ?_
   refine bR ?_
   refine sAx (z00 ?_)
   refine cBx ?_
   refine z0x ?_
   refine cBx ?_
   unfold zbl at h
   refine z26 (σ := Int) (fun i => [(0, (z0f a0)), (3, (I64 i))]) (fun i => []) 0 h ?_ ?_ ?_
   ·intro i; exact ⟨lbE rfl, ⟨(z01 rfl), ⟨(z01 rfl), trivial⟩⟩, trivial⟩
   ·exact ⟨.nil, (sC rfl (sC rfl z09))⟩
   ·rintro g1_f s3 h; replace h : z53 a0 (fun y0 => g1_f y0) s3 = some r := h; unfold z53 at h
    change BW _ _ _ ⟨[(0, (z0f a0)), (3, (I64 s3))], [], _⟩ _
    refine z0o ?_
    refine bR ?_
    refine sMx ?_
    refine sMx ?_
    refine sS rfl rfl rfl (z8c (s := a0) Try.underlying9 rfl rfl) ?_
    refine sS rfl rfl rfl ((z06 rfl rfl rfl rfl).cast (y := (BO ((decide (s3 < (((a0).length : Nat) : Int)))))) rfl rfl) (z00 ?_)
    refine cBx ?_
    refine z05 rfl ?_ ?_
    ·intro hc4; replace h := z02 hc4 h
     refine z0l ?_
     refine cBx ?_
     refine z0o ?_
     refine z0x ?_
     refine cBx ?_
     refine z1n (ι := Bool) (fun i => zbm (fun y0 => g1_f y0) a0 s3 i = some r) (fun i => [(0, (z0f a0)), (3, (I64 s3)), (4, (BO i))]) (fun i => []) ?_ ?_ ?_
     ·intro i; exact ⟨lbE rfl, ⟨(z01 rfl), ⟨(z01 rfl), ⟨(z01 rfl), trivial⟩⟩⟩, trivial⟩
     ·rintro s5 h; replace h : zbm (fun y0 => g1_f y0) a0 s3 s5 = some r := h; unfold zbm at h
      change BW _ _ _ ⟨[(0, (z0f a0)), (3, (I64 s3)), (4, (BO s5))], [], _⟩ _
      refine z1n (ι := Bool) (fun i => z7s (fun y0 => g1_f y0) s3 i = some r) (fun i => [(0, (z0f a0)), (3, (I64 s3)), (52, (BO i))]) (fun i => []) ?_ ?_ ?_
      ·intro i; exact ⟨lbE rfl, ⟨(z01 rfl), ⟨(z01 rfl), ⟨(z01 rfl), trivial⟩⟩⟩, trivial⟩
      ·rintro s6 h; replace h : z7s (fun y0 => g1_f y0) s3 s6 = some r := h; unfold z7s at h
       change BW _ _ _ ⟨[(0, (z0f a0)), (3, (I64 s3)), (52, (BO s6))], [], _⟩ _
       refine z05 rfl ?_ ?_
       ·intro hc7; replace h := z02 hc7 h
        refine bR ?_
        refine sAx (z00 ?_)
        refine cBx ?_
        refine z0a ?_
        change ∃ xs, _ = some xs ∧ EndOk _ _ _ _
        obtain rfl := Option.some.inj h
        exact ⟨_, rfl, z0d (y := (BO false)) (Wk.refl _) rfl ⟨rfl, rfl⟩⟩
       ·intro hc7; replace h := z03 hc7 h
        refine z0l ?_
        refine cBx ?_
        refine z0s ?_
        refine sMx ?_
        refine sS rfl rfl rfl (z3a rfl rfl rfl) ?_
        refine sAx (z00 ?_)
        exact ⟨rfl, (IntKind.i64.wrap (s3 + 1)), h, ⟨.nil, (sC rfl (sC rfl z09))⟩⟩
      ·refine z0s ?_
       refine sMx ?_
       refine sS rfl rfl rfl (z2a rfl rfl) ?_
       refine sMx ?_
       refine z16 (t := 31) rfl ?_ ?_
       ·intro hb8; replace h := z02 hb8 h
        refine z08 rfl rfl rfl rfl rfl rfl (z0k rfl rfl) ?_
        refine z08 rfl rfl rfl rfl rfl rfl ((z06 rfl rfl rfl rfl).cast (y := (BO ((s3 == 0)))) rfl rfl) ?_
        refine z08 rfl rfl rfl rfl rfl rfl (z0k rfl rfl) ?_
        refine z16 (t := 34) rfl ?_ ?_
        ·intro hb9; replace h := z02 hb9 h
         refine z0h rfl rfl rfl rfl rfl rfl ?_
         refine z0h rfl rfl rfl rfl rfl rfl ?_
         refine z0h rfl rfl rfl rfl rfl rfl ?_
         refine z0h rfl rfl rfl rfl rfl rfl ?_
         refine z0h rfl rfl rfl rfl rfl rfl ?_
         refine z0h rfl rfl rfl rfl rfl rfl ?_
         refine z0h rfl rfl rfl rfl rfl rfl ?_
         refine z0h rfl rfl rfl rfl rfl rfl ?_
         refine z0h rfl rfl rfl rfl rfl rfl ?_
         refine z0h rfl rfl rfl rfl rfl rfl ?_
         refine z0h rfl rfl rfl rfl rfl rfl ?_
         refine z0h rfl rfl rfl rfl rfl rfl ?_
         refine z0h rfl rfl rfl rfl rfl rfl ?_
         refine z0h rfl rfl rfl rfl rfl rfl ?_
         refine z0h rfl rfl rfl rfl rfl rfl ?_
         refine z0h rfl rfl rfl rfl rfl rfl ?_
         refine z08 rfl rfl rfl rfl rfl rfl (z0p rfl rfl rfl) ?_
         refine sS rfl rfl rfl (z0p rfl rfl rfl) (z00 ?_)
         exact ⟨rfl, true, h, ⟨.nil, (sC rfl (sC rfl (sC rfl z09)))⟩⟩
        ·intro hb9; replace h := z03 hb9 h
         refine z08 rfl rfl rfl rfl rfl rfl (z0k rfl rfl) ?_
         refine z08 rfl rfl rfl rfl rfl rfl (z0k rfl rfl) ?_
         obtain ⟨x10, hx10, h⟩ := obind h
         refine z08 rfl rfl rfl rfl rfl rfl (z8d (s := a0) Try.underlying9 rfl rfl rfl hx10) ?_
         refine z08 rfl rfl rfl rfl rfl rfl ((z06 rfl rfl rfl rfl).cast (y := (BO ((((x10).toNat : Int) != (((95 : UInt8)).toNat : Int))))) rfl rfl) ?_
         refine z08 rfl rfl rfl rfl rfl rfl (z0k rfl rfl) ?_
         refine z16 (t := 39) rfl ?_ ?_
         ·intro hb11; replace h := z02 hb11 h
          refine z08 rfl rfl rfl rfl rfl rfl (z0k rfl rfl) ?_
          refine z08 rfl rfl rfl rfl rfl rfl (z0k rfl rfl) ?_
          obtain ⟨x12, hx12, h⟩ := obind h
          refine z08 rfl rfl rfl rfl rfl rfl (z8d (s := a0) Try.underlying9 rfl rfl rfl hx12) ?_
          refine z08 rfl rfl rfl rfl rfl rfl ((z06 rfl rfl rfl rfl).cast (y := (BO ((decide (((x12).toNat : Int) < (((48 : UInt8)).toNat : Int)))))) rfl rfl) ?_
          refine z08 rfl rfl rfl rfl rfl rfl (z0k rfl rfl) ?_
          refine z16 (t := 44) rfl ?_ ?_
          ·intro hb13; replace h := z02 hb13 h
           refine z0h rfl rfl rfl rfl rfl rfl ?_
           refine z0h rfl rfl rfl rfl rfl rfl ?_
           refine z0h rfl rfl rfl rfl rfl rfl ?_
           refine z0h rfl rfl rfl rfl rfl rfl ?_
           refine z08 rfl rfl rfl rfl rfl rfl (z0p rfl rfl rfl) ?_
           refine z08 rfl rfl rfl rfl rfl rfl (z0p rfl rfl rfl) ?_
           refine z08 rfl rfl rfl rfl rfl rfl (z0i rfl rfl rfl) ?_
           refine sS rfl rfl rfl (z0p rfl rfl rfl) (z00 ?_)
           exact ⟨rfl, true, h, ⟨.nil, (sC rfl (sC rfl (sC rfl z09)))⟩⟩
          ·intro hb13; replace h := z03 hb13 h
           refine z08 rfl rfl rfl rfl rfl rfl (z0k rfl rfl) ?_
           refine z08 rfl rfl rfl rfl rfl rfl (z0k rfl rfl) ?_
           obtain ⟨x14, hx14, h⟩ := obind h
           refine z08 rfl rfl rfl rfl rfl rfl (z8d (s := a0) Try.underlying9 rfl rfl rfl hx14) ?_
           refine z08 rfl rfl rfl rfl rfl rfl ((z06 rfl rfl rfl rfl).cast (y := (BO ((decide (((x14).toNat : Int) > (((57 : UInt8)).toNat : Int)))))) rfl rfl) ?_
           refine z08 rfl rfl rfl rfl rfl rfl (z0i rfl rfl rfl) ?_
           refine z08 rfl rfl rfl rfl rfl rfl (z0p rfl rfl rfl) ?_
           refine z08 rfl rfl rfl rfl rfl rfl (z0i rfl rfl rfl) ?_
           refine sS rfl rfl rfl (z0p rfl rfl rfl) (z00 ?_)
           exact ⟨rfl, (decide (((x14).toNat : Int) > (((57 : UInt8)).toNat : Int))), h, ⟨.nil, (sC rfl (sC rfl (sC rfl z09)))⟩⟩
         ·intro hb11; replace h := z03 hb11 h
          refine z0h rfl rfl rfl rfl rfl rfl ?_
          refine z0h rfl rfl rfl rfl rfl rfl ?_
          refine z0h rfl rfl rfl rfl rfl rfl ?_
          refine z0h rfl rfl rfl rfl rfl rfl ?_
          refine z0h rfl rfl rfl rfl rfl rfl ?_
          refine z0h rfl rfl rfl rfl rfl rfl ?_
          refine z0h rfl rfl rfl rfl rfl rfl ?_
          refine z0h rfl rfl rfl rfl rfl rfl ?_
          refine z0h rfl rfl rfl rfl rfl rfl ?_
          refine z0h rfl rfl rfl rfl rfl rfl ?_
          refine z08 rfl rfl rfl rfl rfl rfl (z0i rfl rfl rfl) ?_
          refine z08 rfl rfl rfl rfl rfl rfl (z0i rfl rfl rfl) ?_
          refine sS rfl rfl rfl (z0p rfl rfl rfl) (z00 ?_)
          exact ⟨rfl, false, h, ⟨.nil, (sC rfl (sC rfl (sC rfl z09)))⟩⟩
       ·intro hb8; replace h := z03 hb8 h
        refine z0h rfl rfl rfl rfl rfl rfl ?_
        refine z0h rfl rfl rfl rfl rfl rfl ?_
        refine z0h rfl rfl rfl rfl rfl rfl ?_
        refine z0h rfl rfl rfl rfl rfl rfl ?_
        refine z0h rfl rfl rfl rfl rfl rfl ?_
        refine z0h rfl rfl rfl rfl rfl rfl ?_
        refine z0h rfl rfl rfl rfl rfl rfl ?_
        refine z0h rfl rfl rfl rfl rfl rfl ?_
        refine z0h rfl rfl rfl rfl rfl rfl ?_
        refine z0h rfl rfl rfl rfl rfl rfl ?_
        refine z0h rfl rfl rfl rfl rfl rfl ?_
        refine z0h rfl rfl rfl rfl rfl rfl ?_
        refine z0h rfl rfl rfl rfl rfl rfl ?_
        refine z0h rfl rfl rfl rfl rfl rfl ?_
        refine z0h rfl rfl rfl rfl rfl rfl ?_
        refine z0h rfl rfl rfl rfl rfl rfl ?_
        refine z0h rfl rfl rfl rfl rfl rfl ?_
        refine z0h rfl rfl rfl rfl rfl rfl ?_
        refine z0h rfl rfl rfl rfl rfl rfl ?_
        refine z0h rfl rfl rfl rfl rfl rfl ?_
        refine sS rfl rfl rfl (z0i rfl rfl rfl) (z00 ?_)
        exact ⟨rfl, false, h, ⟨.nil, (sC rfl (sC rfl (sC rfl z09)))⟩⟩
     ·refine z0s ?_
      refine sMx ?_
      refine sMx ?_
      obtain ⟨x15, hx15, h⟩ := obind h
      refine sS rfl rfl rfl (z8d (s := a0) Try.underlying9 rfl rfl rfl hx15) ?_
      refine sS rfl rfl rfl ((z06 rfl rfl rfl rfl).cast (y := (BO ((decide (((x15).toNat : Int) ≥ (((97 : UInt8)).toNat : Int)))))) rfl rfl) ?_
      refine sMx ?_
      refine z16 (t := 23) rfl ?_ ?_
      ·intro hb16; replace h := z02 hb16 h
       refine z08 rfl rfl rfl rfl rfl rfl (z0k rfl rfl) ?_
       refine z08 rfl rfl rfl rfl rfl rfl (z0k rfl rfl) ?_
       obtain ⟨x17, hx17, h⟩ := obind h
       refine z08 rfl rfl rfl rfl rfl rfl (z8d (s := a0) Try.underlying9 rfl rfl rfl hx17) ?_
       refine z08 rfl rfl rfl rfl rfl rfl ((z06 rfl rfl rfl rfl).cast (y := (BO ((decide (((x17).toNat : Int) ≤ (((122 : UInt8)).toNat : Int)))))) rfl rfl) ?_
       refine sS rfl rfl rfl (z0p rfl rfl rfl) ?_
       refine sAx (z00 ?_)
       exact ⟨rfl, (decide (((x17).toNat : Int) ≤ (((122 : UInt8)).toNat : Int))), h, ⟨.nil, (sC rfl (sC rfl (sC rfl z09)))⟩⟩
      ·intro hb16; replace h := z03 hb16 h
       refine z0h rfl rfl rfl rfl rfl rfl ?_
       refine z0h rfl rfl rfl rfl rfl rfl ?_
       refine z0h rfl rfl rfl rfl rfl rfl ?_
       refine z0h rfl rfl rfl rfl rfl rfl ?_
       refine sS rfl rfl rfl (z0i rfl rfl rfl) ?_
       refine sAx (z00 ?_)
       exact ⟨rfl, false, h, ⟨.nil, (sC rfl (sC rfl (sC rfl z09)))⟩⟩
    ·intro hc4; replace h := z03 hc4 h
     refine z22 ?_
     refine cBx ?_
     refine bR ?_
     refine sAx (z00 ?_)
     refine cBx ?_
     refine z0a ?_
     change ∃ xs, _ = some xs ∧ EndOk _ _ _ _
     obtain rfl := Option.some.inj h
     exact ⟨_, rfl, z0d (y := (BO true)) (Wk.refl _) rfl ⟨rfl, rfl⟩⟩
 ·refine z0s ?_
  refine sMx ?_
  refine sS rfl rfl rfl (z8c (s := a0) Try.underlying9 rfl rfl) ?_
  refine sS rfl rfl rfl ((z06 rfl rfl rfl rfl).cast (y := (BO ((decide ((((a0).length : Nat) : Int) < 1))))) rfl rfl) ?_
  refine sMx ?_
  refine z16 (t := 8) rfl ?_ ?_
  ·intro hb18; replace h := z02 hb18 h
   refine z0h rfl rfl rfl rfl rfl rfl ?_
   refine z0h rfl rfl rfl rfl rfl rfl ?_
   refine z0h rfl rfl rfl rfl rfl rfl ?_
   refine sS rfl rfl rfl (z0p rfl rfl rfl) (z00 ?_)
   exact ⟨rfl, true, h, ⟨.nil, (sC rfl (sC rfl z09))⟩⟩
  ·intro hb18; replace h := z03 hb18 h
   refine z08 rfl rfl rfl rfl rfl rfl (z0k rfl rfl) ?_
   refine z08 rfl rfl rfl rfl rfl rfl (z8c (s := a0) Try.underlying9 rfl rfl) ?_
   refine z08 rfl rfl rfl rfl rfl rfl ((z06 rfl rfl rfl rfl).cast (y := (BO ((decide ((((a0).length : Nat) : Int) > 32))))) rfl rfl) ?_
   refine sS rfl rfl rfl (z0i rfl rfl rfl) (z00 ?_)
   exact ⟨rfl, (decide ((((a0).length : Nat) : Int) > 32)), h, ⟨.nil, (sC rfl (sC rfl z09))⟩⟩
noncomputable def z9b (g1 : Nat → Option Int) (s17 : Nat) (s20 : Bool) : Option Int :=
 bif s20 then (
  some 8
 ) else (
  g1 (s17 + 1)
 )
theorem zp8 (g1 : OF ρ → Nat → Option Int) (h_g1 : ∀ y0, CM (fun G => g1 G y0)) (s17 : Nat) (s20 : Bool) : CM (fun G : OF ρ => z9b (g1 G) s17 s20) := by
 simp only [z9b]
 repeat (first | exact z0c | exact h_g1 _ | refine z14 ?_ ?_ | refine z15 ?_ (fun _ => ?_))
noncomputable def z6y (a0 : Term) (g1 : Nat → Option Int) (s17 : Nat) : Option Int :=
 bif (decide (((s17 : Nat) : Int) < (((a0.fields).length : Nat) : Int))) then (
  Option.bind ((a0.fields)[s17]?) fun x22 =>
  Option.bind (znk x22.1) fun x23 =>
  bif (!x23) then (
   z9b g1 s17 true
  ) else (
   bif (decide (((s17 : Nat) : Int) > 0)) then (
    Option.bind ((a0.fields)[s17]?) fun x26 =>
    Option.bind (zc1 a0.fields (IntKind.i64.wrap (((s17 : Nat) : Int) - 1))) fun x27 =>
    z9b g1 s17 (Op.bytesLess x26.1 x27.1 || x26.1 == x27.1)
   ) else (
    z9b g1 s17 false
   )
  )
 ) else (
  some 0
 )
theorem zn7 (g1 : OF ρ → Nat → Option Int) (h_g1 : ∀ y0, CM (fun G => g1 G y0)) (a0 : Term) (s17 : Nat) : CM (fun G : OF ρ => z6y a0 (g1 G) s17) := by
 simp only [z6y]
 repeat (first | exact z0c | exact h_g1 _ | apply zp8 | refine z14 ?_ ?_ | refine z15 ?_ (fun _ => ?_) | intro _ | assumption)
noncomputable def zel (a0 : Term) (s17 : Nat) : Option Int :=
 z38 (ι := Nat) (ρ := fun _ => Int) (fun g i => z6y a0 (fun s17 => g s17) i) s17
theorem zh1 (a0 : Term) (s17 : Nat) : zel a0 s17 = z6y a0 (zel a0) s17 :=
 z1d (ι := Nat) (ρ := fun _ => Int) (Φ := fun g i => z6y a0 (fun s17 => g s17) i) (fun i => zn7 (ι := Nat) (ρ := fun _ => Int) (fun g => (fun s17 => g s17)) (fun _ => z1c) a0 i) s17
noncomputable def z8q (a0 : Term) (s14 : Bool) : Option Int :=
 bif s14 then (
  some 0
 ) else (
  bif (decide ((((a0.fields).length : Nat) : Int) > 4096)) then (
   some 2
  ) else (
   zel a0 0
  )
 )
noncomputable def z6f (a0 : Term) (s12 : Bool) : Option Int :=
 bif s12 then (
  some 2
 ) else (
  bif (a0.kind != 9) then (
   z8q a0 (a0.kind != 10)
  ) else (
   z8q a0 false
  )
 )
noncomputable def z3u (a0 : Term) (s10 : Bool) : Option Int :=
 bif s10 then (
  some 2
 ) else (
  bif (a0.kind == 8) then (
   z6f a0 (decide ((((a0.list).length : Nat) : Int) > 4096))
  ) else (
   z6f a0 false
  )
 )
noncomputable def z6g (a0 : Term) (s8 : Bool) : Option Int :=
 bif s8 then (
  some 1
 ) else (
  bif (a0.kind == 5) then (
   bif (decide ((((a0.text).length : Nat) : Int) > 65536)) then (
    z3u a0 true
   ) else (
    bif (a0.kind == 6) then (
     z3u a0 (decide ((((a0.bytes).length : Nat) : Int) > 65536))
    ) else (
     z3u a0 false
    )
   )
  ) else (
   bif (a0.kind == 6) then (
    z3u a0 (decide ((((a0.bytes).length : Nat) : Int) > 65536))
   ) else (
    z3u a0 false
   )
  )
 )
noncomputable def z7r (a0 : Term) (s6 : Bool) : Option Int :=
 bif s6 then (
  some 8
 ) else (
  bif (a0.kind == 10) then (
   bif (decide (a0.ver < 1)) then (
    z6g a0 true
   ) else (
    z6g a0 (decide (a0.ver > 1000))
   )
  ) else (
   z6g a0 false
  )
 )
noncomputable def z4u (a0 : Term) (s4 : Bool) : Option Int :=
 bif s4 then (
  some 2
 ) else (
  bif (a0.kind == 10) then (
   Option.bind (znk a0.cls) fun x37 =>
   z7r a0 (!x37)
  ) else (
   z7r a0 false
  )
 )
noncomputable def zbk (a0 : Term) (a1 : Int) (a2 : Int) (s2 : Bool) : Option Int :=
 bif s2 then (
  some 6
 ) else (
  bif (decide (a1 ≥ 16384)) then (
   z4u a0 true
  ) else (
   z4u a0 (decide (a2 > 64))
  )
 )
noncomputable def ze4 (a0 : Term) (a1 : Int) (a2 : Int) : Option Int :=
 bif (a0.kind == 11) then (
  some 7
 ) else (
  bif (decide (a0.kind < 1)) then (
   zbk a0 a1 a2 true
  ) else (
   zbk a0 a1 a2 (decide (a0.kind > 10))
  )
 )
theorem Z3i (a0 : Term) (a1 : Int) (a2 : Int) (r : Int) (h : ze4 a0 a1 a2 = some r) : z0g Try.prog 84 [(z1o a0), (I64 a1), (I64 a2)] (I64 r) := by
 unfold ze4 at h
 refine z0w Try.func84 rfl Try.ntmps84 Try.results84 rfl (z10 ?_)
 change BW _ _ _ ⟨[(0, (z1o a0)), (1, (I64 a1)), (2, (I64 a2))], [], _⟩ _
 refine bR ?_
 refine sS rfl rfl rfl (z1x rfl rfl rfl) ?_
 refine sAx (z00 ?_)
 refine cBx ?_
 refine z0o ?_
 refine bR ?_
 refine sS rfl rfl rfl (z0e z23 (i := 0) rfl rfl rfl) ?_
 refine sS rfl rfl rfl ((z0n Try.underlying3 rfl rfl rfl rfl rfl)) ?_
 refine sS rfl rfl rfl ((z06 rfl rfl rfl rfl).cast (y := (BO ((a0.kind == 11)))) rfl rfl) (z00 ?_)
 refine cBx ?_
 refine z05 rfl ?_ ?_
 ·intro hc1; replace h := z02 hc1 h
  refine bR ?_
  refine sAx (z00 ?_)
  refine cBx ?_
  refine z0a ?_
  change ∃ xs, _ = some xs ∧ EndOk _ _ _ _
  obtain rfl := Option.some.inj h
  exact ⟨_, rfl, z0d (y := (I64 7)) (Wk.refl _) rfl ⟨rfl, rfl⟩⟩
 ·intro hc1; replace h := z03 hc1 h
  refine z0l ?_
  refine cBx ?_
  refine z0o ?_
  refine z1n (ι := Bool) (fun i => zbk a0 a1 a2 i = some r) (fun i => [(1, (I64 a1)), (2, (I64 a2)), (3, (PV.rf 0 0)), (18, (BO i))]) (fun i => [.box 29 (z4l a0)]) ?_ ?_ ?_
  ·intro i; exact ⟨lbE rfl, ⟨(z01 rfl), ⟨(z01 rfl), ⟨(il_rf rfl), ⟨(z01 rfl), trivial⟩⟩⟩⟩, ⟨wfC29, trivial⟩⟩
  ·rintro s2 h; replace h : zbk a0 a1 a2 s2 = some r := h; unfold zbk at h
   change BW _ _ _ ⟨[(1, (I64 a1)), (2, (I64 a2)), (3, (PV.rf 0 0)), (18, (BO s2))], [.box 29 (z4l a0)], _⟩ _
   refine z05 rfl ?_ ?_
   ·intro hc3; replace h := z02 hc3 h
    refine bR ?_
    refine sAx (z00 ?_)
    refine cBx ?_
    refine z0a ?_
    change ∃ xs, _ = some xs ∧ EndOk _ _ _ _
    obtain rfl := Option.some.inj h
    exact ⟨_, rfl, z0d (y := (I64 6)) (Wk.refl _) rfl ⟨rfl, rfl⟩⟩
   ·intro hc3; replace h := z03 hc3 h
    refine z0l ?_
    refine cBx ?_
    refine z0o ?_
    refine z1n (ι := Bool) (fun i => z4u a0 i = some r) (fun i => [(3, (PV.rf 0 0)), (24, (BO i))]) (fun i => [.box 29 (z4l a0)]) ?_ ?_ ?_
    ·intro i; exact ⟨lbE rfl, ⟨(il_rf rfl), ⟨(z01 rfl), trivial⟩⟩, ⟨wfC29, trivial⟩⟩
    ·rintro s4 h; replace h : z4u a0 s4 = some r := h; unfold z4u at h
     change BW _ _ _ ⟨[(3, (PV.rf 0 0)), (24, (BO s4))], [.box 29 (z4l a0)], _⟩ _
     refine z05 rfl ?_ ?_
     ·intro hc5; replace h := z02 hc5 h
      refine bR ?_
      refine sAx (z00 ?_)
      refine cBx ?_
      refine z0a ?_
      change ∃ xs, _ = some xs ∧ EndOk _ _ _ _
      obtain rfl := Option.some.inj h
      exact ⟨_, rfl, z0d (y := (I64 2)) (Wk.refl _) rfl ⟨rfl, rfl⟩⟩
     ·intro hc5; replace h := z03 hc5 h
      refine z0l ?_
      refine cBx ?_
      refine z0o ?_
      refine z1n (ι := Bool) (fun i => z7r a0 i = some r) (fun i => [(3, (PV.rf 0 0)), (33, (BO i))]) (fun i => [.box 29 (z4l a0)]) ?_ ?_ ?_
      ·intro i; exact ⟨lbE rfl, ⟨(il_rf rfl), ⟨(z01 rfl), trivial⟩⟩, ⟨wfC29, trivial⟩⟩
      ·rintro s6 h; replace h : z7r a0 s6 = some r := h; unfold z7r at h
       change BW _ _ _ ⟨[(3, (PV.rf 0 0)), (33, (BO s6))], [.box 29 (z4l a0)], _⟩ _
       refine z05 rfl ?_ ?_
       ·intro hc7; replace h := z02 hc7 h
        refine bR ?_
        refine sAx (z00 ?_)
        refine cBx ?_
        refine z0a ?_
        change ∃ xs, _ = some xs ∧ EndOk _ _ _ _
        obtain rfl := Option.some.inj h
        exact ⟨_, rfl, z0d (y := (I64 8)) (Wk.refl _) rfl ⟨rfl, rfl⟩⟩
       ·intro hc7; replace h := z03 hc7 h
        refine z0l ?_
        refine cBx ?_
        refine z0o ?_
        refine z1n (ι := Bool) (fun i => z6g a0 i = some r) (fun i => [(3, (PV.rf 0 0)), (46, (BO i))]) (fun i => [.box 29 (z4l a0)]) ?_ ?_ ?_
        ·intro i; exact ⟨lbE rfl, ⟨(il_rf rfl), ⟨(z01 rfl), trivial⟩⟩, ⟨wfC29, trivial⟩⟩
        ·rintro s8 h; replace h : z6g a0 s8 = some r := h; unfold z6g at h
         change BW _ _ _ ⟨[(3, (PV.rf 0 0)), (46, (BO s8))], [.box 29 (z4l a0)], _⟩ _
         refine z05 rfl ?_ ?_
         ·intro hc9; replace h := z02 hc9 h
          refine bR ?_
          refine sAx (z00 ?_)
          refine cBx ?_
          refine z0a ?_
          change ∃ xs, _ = some xs ∧ EndOk _ _ _ _
          obtain rfl := Option.some.inj h
          exact ⟨_, rfl, z0d (y := (I64 1)) (Wk.refl _) rfl ⟨rfl, rfl⟩⟩
         ·intro hc9; replace h := z03 hc9 h
          refine z0l ?_
          refine cBx ?_
          refine z0o ?_
          refine z1n (ι := Bool) (fun i => z3u a0 i = some r) (fun i => [(3, (PV.rf 0 0)), (66, (BO i))]) (fun i => [.box 29 (z4l a0)]) ?_ ?_ ?_
          ·intro i; exact ⟨lbE rfl, ⟨(il_rf rfl), ⟨(z01 rfl), trivial⟩⟩, ⟨wfC29, trivial⟩⟩
          ·rintro s10 h; replace h : z3u a0 s10 = some r := h; unfold z3u at h
           change BW _ _ _ ⟨[(3, (PV.rf 0 0)), (66, (BO s10))], [.box 29 (z4l a0)], _⟩ _
           refine z05 rfl ?_ ?_
           ·intro hc11; replace h := z02 hc11 h
            refine bR ?_
            refine sAx (z00 ?_)
            refine cBx ?_
            refine z0a ?_
            change ∃ xs, _ = some xs ∧ EndOk _ _ _ _
            obtain rfl := Option.some.inj h
            exact ⟨_, rfl, z0d (y := (I64 2)) (Wk.refl _) rfl ⟨rfl, rfl⟩⟩
           ·intro hc11; replace h := z03 hc11 h
            refine z0l ?_
            refine cBx ?_
            refine z0o ?_
            refine z1n (ι := Bool) (fun i => z6f a0 i = some r) (fun i => [(3, (PV.rf 0 0)), (75, (BO i))]) (fun i => [.box 29 (z4l a0)]) ?_ ?_ ?_
            ·intro i; exact ⟨lbE rfl, ⟨(il_rf rfl), ⟨(z01 rfl), trivial⟩⟩, ⟨wfC29, trivial⟩⟩
            ·rintro s12 h; replace h : z6f a0 s12 = some r := h; unfold z6f at h
             change BW _ _ _ ⟨[(3, (PV.rf 0 0)), (75, (BO s12))], [.box 29 (z4l a0)], _⟩ _
             refine z05 rfl ?_ ?_
             ·intro hc13; replace h := z02 hc13 h
              refine bR ?_
              refine sAx (z00 ?_)
              refine cBx ?_
              refine z0a ?_
              change ∃ xs, _ = some xs ∧ EndOk _ _ _ _
              obtain rfl := Option.some.inj h
              exact ⟨_, rfl, z0d (y := (I64 2)) (Wk.refl _) rfl ⟨rfl, rfl⟩⟩
             ·intro hc13; replace h := z03 hc13 h
              refine z0l ?_
              refine cBx ?_
              refine z0o ?_
              refine z1n (ι := Bool) (fun i => z8q a0 i = some r) (fun i => [(3, (PV.rf 0 0)), (83, (BO i))]) (fun i => [.box 29 (z4l a0)]) ?_ ?_ ?_
              ·intro i; exact ⟨lbE rfl, ⟨(il_rf rfl), ⟨(z01 rfl), trivial⟩⟩, ⟨wfC29, trivial⟩⟩
              ·rintro s14 h; replace h : z8q a0 s14 = some r := h; unfold z8q at h
               change BW _ _ _ ⟨[(3, (PV.rf 0 0)), (83, (BO s14))], [.box 29 (z4l a0)], _⟩ _
               refine z05 rfl ?_ ?_
               ·intro hc15; replace h := z02 hc15 h
                refine bR ?_
                refine sAx (z00 ?_)
                refine cBx ?_
                refine z0a ?_
                change ∃ xs, _ = some xs ∧ EndOk _ _ _ _
                obtain rfl := Option.some.inj h
                exact ⟨_, rfl, z0d (y := (I64 0)) (Wk.refl _) rfl ⟨rfl, rfl⟩⟩
               ·intro hc15; replace h := z03 hc15 h
                refine z0l ?_
                refine cBx ?_
                refine z0o ?_
                refine bR ?_
                refine sS rfl rfl rfl (z0e z23 (i := 8) rfl rfl rfl) ?_
                refine sS rfl rfl rfl ((z0n Try.underlying27 rfl rfl rfl rfl rfl)) ?_
                refine sS rfl rfl rfl (z17 Try.underlying27 rfl rfl) ?_
                refine sS rfl rfl rfl ((z06 rfl rfl rfl rfl).cast (y := (BO ((decide ((((a0.fields).length : Nat) : Int) > 4096))))) rfl rfl) (z00 ?_)
                refine cBx ?_
                refine z05 rfl ?_ ?_
                ·intro hc16; replace h := z02 hc16 h
                 refine bR ?_
                 refine sAx (z00 ?_)
                 refine cBx ?_
                 refine z0a ?_
                 change ∃ xs, _ = some xs ∧ EndOk _ _ _ _
                 obtain rfl := Option.some.inj h
                 exact ⟨_, rfl, z0d (y := (I64 2)) (Wk.refl _) rfl ⟨rfl, rfl⟩⟩
                ·intro hc16; replace h := z03 hc16 h
                 refine z0l ?_
                 refine cBx ?_
                 refine z0o ?_
                 refine bR ?_
                 refine sAx (z00 ?_)
                 refine cBx ?_
                 refine z0x ?_
                 refine cBx ?_
                 unfold zel at h
                 refine z26 (σ := Nat) (fun i => [(3, (PV.rf 0 0)), (7, (I64 (((i : Nat) : Int))))]) (fun i => [.box 29 (z4l a0)]) 0 h ?_ ?_ ?_
                 ·intro i; exact ⟨lbE rfl, ⟨(il_rf rfl), ⟨(z01 rfl), trivial⟩⟩, ⟨wfC29, trivial⟩⟩
                 ·exact ⟨(.cons .same .nil), (sC rfl (sC rfl z09))⟩
                 ·rintro g1_f s17 h; replace h : z6y a0 (fun y0 => g1_f y0) s17 = some r := h; unfold z6y at h
                  change BW _ _ _ ⟨[(3, (PV.rf 0 0)), (7, (I64 (((s17 : Nat) : Int))))], [.box 29 (z4l a0)], _⟩ _
                  refine z0o ?_
                  refine bR ?_
                  refine sMx ?_
                  refine sS rfl rfl rfl (z0e z23 (i := 8) rfl rfl rfl) ?_
                  refine sS rfl rfl rfl ((z0n Try.underlying27 rfl rfl rfl rfl rfl)) ?_
                  refine sS rfl rfl rfl (z17 Try.underlying27 rfl rfl) ?_
                  refine sS rfl rfl rfl ((z06 rfl rfl rfl rfl).cast (y := (BO ((decide (((s17 : Nat) : Int) < (((a0.fields).length : Nat) : Int)))))) rfl rfl) (z00 ?_)
                  refine cBx ?_
                  refine z2z (t := 90) rfl fun hb19 => ?_
                  try rw [List.length_map] at hb19
                  refine z05 rfl ?_ ?_
                  ·intro hc18; replace h := z02 hc18 h
                   have hc18_ := of_decide_eq_true hc18
                   refine z0l ?_
                   refine cBx ?_
                   refine z0o ?_
                   refine z0x ?_
                   refine cBx ?_
                   refine z1n (ι := Bool) (fun i => z9b (fun y0 => g1_f y0) s17 i = some r) (fun i => [(3, (PV.rf 0 0)), (7, (I64 (((s17 : Nat) : Int)))), (122, (BO i))]) (fun i => [.box 29 (z4l a0)]) ?_ ?_ ?_
                   ·intro i; exact ⟨lbE rfl, ⟨(il_rf rfl), ⟨(z01 rfl), ⟨(z01 rfl), trivial⟩⟩⟩, ⟨wfC29, trivial⟩⟩
                   ·rintro s20 h; replace h : z9b (fun y0 => g1_f y0) s17 s20 = some r := h; unfold z9b at h
                    change BW _ _ _ ⟨[(3, (PV.rf 0 0)), (7, (I64 (((s17 : Nat) : Int)))), (122, (BO s20))], [.box 29 (z4l a0)], _⟩ _
                    refine z05 rfl ?_ ?_
                    ·intro hc21; replace h := z02 hc21 h
                     refine bR ?_
                     refine sAx (z00 ?_)
                     refine cBx ?_
                     refine z0a ?_
                     change ∃ xs, _ = some xs ∧ EndOk _ _ _ _
                     obtain rfl := Option.some.inj h
                     exact ⟨_, rfl, z0d (y := (I64 8)) (Wk.refl _) rfl ⟨rfl, rfl⟩⟩
                    ·intro hc21; replace h := z03 hc21 h
                     refine z0l ?_
                     refine cBx ?_
                     refine z0s ?_
                     refine sMx ?_
                     refine sS rfl rfl rfl (z1y (k := s17) (c := 1) rfl rfl rfl (by omega)) ?_
                     refine sAx (z00 ?_)
                     exact ⟨rfl, (s17 + 1), h, ⟨(.cons .same .nil), (sC rfl (sC rfl z09))⟩⟩
                   ·refine z2e 25 [] [0] mo (by kernel_rfl) ?_
                    refine z0y rfl rfl rfl rfl (fun H hp => z0e z23 (i := 8) rfl rfl rfl) ?_
                    refine z0y rfl rfl rfl rfl (fun H hp => (z0n Try.underlying27 rfl rfl rfl (hp.at rfl rfl) rfl)) ?_
                    refine z0y rfl rfl rfl rfl (fun H hp => z0k rfl rfl) ?_
                    obtain ⟨x22, hx22, h⟩ := obind h
                    refine z0y rfl rfl rfl rfl (fun H hp => z1i (i := s17) Try.underlying27 z44 rfl rfl rfl hx22 (z3b _)) ?_
                    refine z0y rfl rfl rfl rfl (fun H hp => z1a z9a (i := 0) rfl rfl rfl) ?_
                    refine z0y rfl rfl rfl rfl (fun H hp => z13 (y := (z0f x22.1)) Try.underlying9 rfl rfl rfl rfl) ?_
                    obtain ⟨x23, hx23, h⟩ := obind h
                    refine z0y rfl rfl rfl rfl (fun H hp => z0b rfl Z25 rfl (.cons (Wk.refl _) .nil) ⟨rfl, trivial⟩ (Z0e x22.1 x23 hx23) rfl) ?_
                    refine z0y rfl rfl rfl rfl (fun H hp => z2a rfl rfl) ?_
                    refine z0y rfl rfl rfl rfl (fun H hp => z0k rfl rfl) ?_
                    refine z3s 103 rfl ?_ ?_
                    ·intro hb24; replace h := z02 hb24 h
                     refine z1g rfl rfl rfl rfl rfl rfl rfl ?_
                     refine z1g rfl rfl rfl rfl rfl rfl rfl ?_
                     refine z1g rfl rfl rfl rfl rfl rfl rfl ?_
                     refine z1g rfl rfl rfl rfl rfl rfl rfl ?_
                     refine z1g rfl rfl rfl rfl rfl rfl rfl ?_
                     refine z1g rfl rfl rfl rfl rfl rfl rfl ?_
                     refine z1g rfl rfl rfl rfl rfl rfl rfl ?_
                     refine z1g rfl rfl rfl rfl rfl rfl rfl ?_
                     refine z1g rfl rfl rfl rfl rfl rfl rfl ?_
                     refine z1g rfl rfl rfl rfl rfl rfl rfl ?_
                     refine z1g rfl rfl rfl rfl rfl rfl rfl ?_
                     refine z1g rfl rfl rfl rfl rfl rfl rfl ?_
                     refine z1g rfl rfl rfl rfl rfl rfl rfl ?_
                     refine z1g rfl rfl rfl rfl rfl rfl rfl ?_
                     refine z1g rfl rfl rfl rfl rfl rfl rfl ?_
                     refine z1g rfl rfl rfl rfl rfl rfl rfl ?_
                     refine z2b ?_
                     change AO _ _ _ _ _
                     refine z0h rfl rfl rfl rfl rfl rfl ?_
                     refine z0h rfl rfl rfl rfl rfl rfl ?_
                     refine sS rfl rfl rfl (z0p rfl rfl rfl) (z00 ?_)
                     exact ⟨rfl, true, h, ⟨(.cons .same .nil), (sC rfl (sC rfl (sC rfl z09)))⟩⟩
                    ·intro hb24; replace h := z03 hb24 h
                     refine z1b rfl rfl rfl rfl rfl rfl rfl (fun H hp => z0k rfl rfl) ?_
                     refine z1b rfl rfl rfl rfl rfl rfl rfl (fun H hp => (z06 rfl rfl rfl rfl).cast (y := (BO ((decide (((s17 : Nat) : Int) > 0))))) rfl rfl) ?_
                     refine z1b rfl rfl rfl rfl rfl rfl rfl (fun H hp => z0k rfl rfl) ?_
                     refine z3s 106 rfl ?_ ?_
                     ·intro hb25; replace h := z02 hb25 h
                      refine z1b rfl rfl rfl rfl rfl rfl rfl (fun H hp => z0e z23 (i := 8) rfl rfl rfl) ?_
                      refine z1b rfl rfl rfl rfl rfl rfl rfl (fun H hp => (z0n Try.underlying27 rfl rfl rfl (hp.at rfl rfl) rfl)) ?_
                      refine z1b rfl rfl rfl rfl rfl rfl rfl (fun H hp => z0k rfl rfl) ?_
                      obtain ⟨x26, hx26, h⟩ := obind h
                      refine z1b rfl rfl rfl rfl rfl rfl rfl (fun H hp => z1i (i := s17) Try.underlying27 z44 rfl rfl rfl hx26 (z3b _)) ?_
                      refine z1b rfl rfl rfl rfl rfl rfl rfl (fun H hp => z1a z9a (i := 0) rfl rfl rfl) ?_
                      refine z1b rfl rfl rfl rfl rfl rfl rfl (fun H hp => z13 (y := (z0f x26.1)) Try.underlying9 rfl rfl rfl rfl) ?_
                      refine z1b rfl rfl rfl rfl rfl rfl rfl (fun H hp => z0e z23 (i := 8) rfl rfl rfl) ?_
                      refine z1b rfl rfl rfl rfl rfl rfl rfl (fun H hp => (z0n Try.underlying27 rfl rfl rfl (hp.at rfl rfl) rfl)) ?_
                      refine z1b rfl rfl rfl rfl rfl rfl rfl (fun H hp => z0k rfl rfl) ?_
                      refine z1b rfl rfl rfl rfl rfl rfl rfl (fun H hp => zc8 rfl rfl rfl) ?_
                      obtain ⟨x27, hx27, h⟩ := obind h
                      refine z1b rfl rfl rfl rfl rfl rfl rfl (fun H hp => z47 Try.underlying27 z44 rfl rfl rfl hx27 (z3b _)) ?_
                      refine z1b rfl rfl rfl rfl rfl rfl rfl (fun H hp => z1a z9a (i := 0) rfl rfl rfl) ?_
                      refine z1b rfl rfl rfl rfl rfl rfl rfl (fun H hp => z13 (y := (z0f x27.1)) Try.underlying9 rfl rfl rfl rfl) ?_
                      refine z2b ?_
                      change AO _ _ _ _ _
                      refine z08 rfl rfl rfl rfl rfl rfl ((z40 (a := x26.1) (b := x27.1) rfl rfl rfl rfl).cast (y := (BO ((Op.bytesLess x26.1 x27.1 || x26.1 == x27.1)))) rfl rfl) ?_
                      refine z08 rfl rfl rfl rfl rfl rfl (z0p rfl rfl rfl) ?_
                      refine sS rfl rfl rfl (z0i rfl rfl rfl) (z00 ?_)
                      exact ⟨rfl, (Op.bytesLess x26.1 x27.1 || x26.1 == x27.1), h, ⟨(.cons .same .nil), (sC rfl (sC rfl (sC rfl z09)))⟩⟩
                     ·intro hb25; replace h := z03 hb25 h
                      refine z1g rfl rfl rfl rfl rfl rfl rfl ?_
                      refine z1g rfl rfl rfl rfl rfl rfl rfl ?_
                      refine z1g rfl rfl rfl rfl rfl rfl rfl ?_
                      refine z1g rfl rfl rfl rfl rfl rfl rfl ?_
                      refine z1g rfl rfl rfl rfl rfl rfl rfl ?_
                      refine z1g rfl rfl rfl rfl rfl rfl rfl ?_
                      refine z1g rfl rfl rfl rfl rfl rfl rfl ?_
                      refine z1g rfl rfl rfl rfl rfl rfl rfl ?_
                      refine z1g rfl rfl rfl rfl rfl rfl rfl ?_
                      refine z1g rfl rfl rfl rfl rfl rfl rfl ?_
                      refine z1g rfl rfl rfl rfl rfl rfl rfl ?_
                      refine z1g rfl rfl rfl rfl rfl rfl rfl ?_
                      refine z1g rfl rfl rfl rfl rfl rfl rfl ?_
                      refine z2b ?_
                      change AO _ _ _ _ _
                      refine z0h rfl rfl rfl rfl rfl rfl ?_
                      refine z08 rfl rfl rfl rfl rfl rfl (z0i rfl rfl rfl) ?_
                      refine sS rfl rfl rfl (z0i rfl rfl rfl) (z00 ?_)
                      exact ⟨rfl, false, h, ⟨(.cons .same .nil), (sC rfl (sC rfl (sC rfl z09)))⟩⟩
                  ·intro hc18; replace h := z03 hc18 h
                   refine z22 ?_
                   refine cBx ?_
                   refine bR ?_
                   refine sAx (z00 ?_)
                   refine cBx ?_
                   refine z0a ?_
                   change ∃ xs, _ = some xs ∧ EndOk _ _ _ _
                   obtain rfl := Option.some.inj h
                   exact ⟨_, rfl, z0d (y := (I64 0)) (Wk.refl _) rfl ⟨rfl, rfl⟩⟩
              ·refine z0s ?_
               refine sS rfl rfl rfl (z0e z23 (i := 0) rfl rfl rfl) ?_
               refine sS rfl rfl rfl ((z0n Try.underlying3 rfl rfl rfl rfl rfl)) ?_
               refine sS rfl rfl rfl ((z06 rfl rfl rfl rfl).cast (y := (BO ((a0.kind != 9)))) rfl rfl) ?_
               refine sMx ?_
               refine z16 (t := 79) rfl ?_ ?_
               ·intro hb28; replace h := z02 hb28 h
                refine z08 rfl rfl rfl rfl rfl rfl (z0e z23 (i := 0) rfl rfl rfl) ?_
                refine z08 rfl rfl rfl rfl rfl rfl ((z0n Try.underlying3 rfl rfl rfl rfl rfl)) ?_
                refine z08 rfl rfl rfl rfl rfl rfl ((z06 rfl rfl rfl rfl).cast (y := (BO ((a0.kind != 10)))) rfl rfl) ?_
                refine sS rfl rfl rfl (z0p rfl rfl rfl) (z00 ?_)
                exact ⟨rfl, (a0.kind != 10), h, ⟨(.cons .same .nil), (sC rfl (sC rfl z09))⟩⟩
               ·intro hb28; replace h := z03 hb28 h
                refine z0h rfl rfl rfl rfl rfl rfl ?_
                refine z0h rfl rfl rfl rfl rfl rfl ?_
                refine z0h rfl rfl rfl rfl rfl rfl ?_
                refine sS rfl rfl rfl (z0i rfl rfl rfl) (z00 ?_)
                exact ⟨rfl, false, h, ⟨(.cons .same .nil), (sC rfl (sC rfl z09))⟩⟩
            ·refine z0s ?_
             refine sS rfl rfl rfl (z0e z23 (i := 0) rfl rfl rfl) ?_
             refine sS rfl rfl rfl ((z0n Try.underlying3 rfl rfl rfl rfl rfl)) ?_
             refine sS rfl rfl rfl ((z06 rfl rfl rfl rfl).cast (y := (BO ((a0.kind == 8)))) rfl rfl) ?_
             refine sMx ?_
             refine z16 (t := 70) rfl ?_ ?_
             ·intro hb29; replace h := z02 hb29 h
              refine z08 rfl rfl rfl rfl rfl rfl (z0e z23 (i := 7) rfl rfl rfl) ?_
              refine z08 rfl rfl rfl rfl rfl rfl ((z0n Try.underlying26 rfl rfl rfl rfl rfl)) ?_
              refine z08 rfl rfl rfl rfl rfl rfl (z17 Try.underlying26 rfl rfl) ?_
              refine z08 rfl rfl rfl rfl rfl rfl ((z06 rfl rfl rfl rfl).cast (y := (BO ((decide ((((a0.list).length : Nat) : Int) > 4096))))) rfl rfl) ?_
              refine sS rfl rfl rfl (z0p rfl rfl rfl) (z00 ?_)
              exact ⟨rfl, (decide ((((a0.list).length : Nat) : Int) > 4096)), h, ⟨(.cons .same .nil), (sC rfl (sC rfl z09))⟩⟩
             ·intro hb29; replace h := z03 hb29 h
              refine z0h rfl rfl rfl rfl rfl rfl ?_
              refine z0h rfl rfl rfl rfl rfl rfl ?_
              refine z0h rfl rfl rfl rfl rfl rfl ?_
              refine z0h rfl rfl rfl rfl rfl rfl ?_
              refine sS rfl rfl rfl (z0i rfl rfl rfl) (z00 ?_)
              exact ⟨rfl, false, h, ⟨(.cons .same .nil), (sC rfl (sC rfl z09))⟩⟩
          ·refine z0s ?_
           refine sS rfl rfl rfl (z0e z23 (i := 0) rfl rfl rfl) ?_
           refine sS rfl rfl rfl ((z0n Try.underlying3 rfl rfl rfl rfl rfl)) ?_
           refine sS rfl rfl rfl ((z06 rfl rfl rfl rfl).cast (y := (BO ((a0.kind == 5)))) rfl rfl) ?_
           refine sMx ?_
           refine z16 (t := 50) rfl ?_ ?_
           ·intro hb30; replace h := z02 hb30 h
            refine z08 rfl rfl rfl rfl rfl rfl (z0e z23 (i := 4) rfl rfl rfl) ?_
            refine z08 rfl rfl rfl rfl rfl rfl ((z0n Try.underlying9 rfl rfl rfl rfl rfl)) ?_
            refine z08 rfl rfl rfl rfl rfl rfl (z8c (s := a0.text) Try.underlying9 rfl rfl) ?_
            refine z08 rfl rfl rfl rfl rfl rfl ((z06 rfl rfl rfl rfl).cast (y := (BO ((decide ((((a0.text).length : Nat) : Int) > 65536))))) rfl rfl) ?_
            refine sS rfl rfl rfl (z0p rfl rfl rfl) ?_
            refine sMx ?_
            refine z16 (t := 56) rfl ?_ ?_
            ·intro hb31; replace h := z02 hb31 h
             refine z0h rfl rfl rfl rfl rfl rfl ?_
             refine z0h rfl rfl rfl rfl rfl rfl ?_
             refine z0h rfl rfl rfl rfl rfl rfl ?_
             refine z0h rfl rfl rfl rfl rfl rfl ?_
             refine z0h rfl rfl rfl rfl rfl rfl ?_
             refine z0h rfl rfl rfl rfl rfl rfl ?_
             refine z0h rfl rfl rfl rfl rfl rfl ?_
             refine z0h rfl rfl rfl rfl rfl rfl ?_
             refine z0h rfl rfl rfl rfl rfl rfl ?_
             refine sS rfl rfl rfl (z0p rfl rfl rfl) (z00 ?_)
             exact ⟨rfl, true, h, ⟨(.cons .same .nil), (sC rfl (sC rfl z09))⟩⟩
            ·intro hb31; replace h := z03 hb31 h
             refine z08 rfl rfl rfl rfl rfl rfl (z0e z23 (i := 0) rfl rfl rfl) ?_
             refine z08 rfl rfl rfl rfl rfl rfl ((z0n Try.underlying3 rfl rfl rfl rfl rfl)) ?_
             refine z08 rfl rfl rfl rfl rfl rfl ((z06 rfl rfl rfl rfl).cast (y := (BO ((a0.kind == 6)))) rfl rfl) ?_
             refine z08 rfl rfl rfl rfl rfl rfl (z0k rfl rfl) ?_
             refine z16 (t := 60) rfl ?_ ?_
             ·intro hb32; replace h := z02 hb32 h
              refine z08 rfl rfl rfl rfl rfl rfl (z0e z23 (i := 5) rfl rfl rfl) ?_
              refine z08 rfl rfl rfl rfl rfl rfl ((z0n Try.underlying23 rfl rfl rfl rfl rfl)) ?_
              refine z08 rfl rfl rfl rfl rfl rfl (z17 Try.underlying23 rfl rfl) ?_
              refine z08 rfl rfl rfl rfl rfl rfl ((z06 rfl rfl rfl rfl).cast (y := (BO ((decide ((((a0.bytes).length : Nat) : Int) > 65536))))) rfl rfl) ?_
              refine z08 rfl rfl rfl rfl rfl rfl (z0p rfl rfl rfl) ?_
              refine sS rfl rfl rfl (z0i rfl rfl rfl) (z00 ?_)
              exact ⟨rfl, (decide ((((a0.bytes).length : Nat) : Int) > 65536)), h, ⟨(.cons .same .nil), (sC rfl (sC rfl z09))⟩⟩
             ·intro hb32; replace h := z03 hb32 h
              refine z0h rfl rfl rfl rfl rfl rfl ?_
              refine z0h rfl rfl rfl rfl rfl rfl ?_
              refine z0h rfl rfl rfl rfl rfl rfl ?_
              refine z0h rfl rfl rfl rfl rfl rfl ?_
              refine z08 rfl rfl rfl rfl rfl rfl (z0i rfl rfl rfl) ?_
              refine sS rfl rfl rfl (z0i rfl rfl rfl) (z00 ?_)
              exact ⟨rfl, false, h, ⟨(.cons .same .nil), (sC rfl (sC rfl z09))⟩⟩
           ·intro hb30; replace h := z03 hb30 h
            refine z0h rfl rfl rfl rfl rfl rfl ?_
            refine z0h rfl rfl rfl rfl rfl rfl ?_
            refine z0h rfl rfl rfl rfl rfl rfl ?_
            refine z0h rfl rfl rfl rfl rfl rfl ?_
            refine sS rfl rfl rfl (z0i rfl rfl rfl) ?_
            refine sMx ?_
            refine z08 rfl rfl rfl rfl rfl rfl (z0e z23 (i := 0) rfl rfl rfl) ?_
            refine z08 rfl rfl rfl rfl rfl rfl ((z0n Try.underlying3 rfl rfl rfl rfl rfl)) ?_
            refine z08 rfl rfl rfl rfl rfl rfl ((z06 rfl rfl rfl rfl).cast (y := (BO ((a0.kind == 6)))) rfl rfl) ?_
            refine z08 rfl rfl rfl rfl rfl rfl (z0k rfl rfl) ?_
            refine z16 (t := 60) rfl ?_ ?_
            ·intro hb33; replace h := z02 hb33 h
             refine z08 rfl rfl rfl rfl rfl rfl (z0e z23 (i := 5) rfl rfl rfl) ?_
             refine z08 rfl rfl rfl rfl rfl rfl ((z0n Try.underlying23 rfl rfl rfl rfl rfl)) ?_
             refine z08 rfl rfl rfl rfl rfl rfl (z17 Try.underlying23 rfl rfl) ?_
             refine z08 rfl rfl rfl rfl rfl rfl ((z06 rfl rfl rfl rfl).cast (y := (BO ((decide ((((a0.bytes).length : Nat) : Int) > 65536))))) rfl rfl) ?_
             refine z08 rfl rfl rfl rfl rfl rfl (z0p rfl rfl rfl) ?_
             refine sS rfl rfl rfl (z0i rfl rfl rfl) (z00 ?_)
             exact ⟨rfl, (decide ((((a0.bytes).length : Nat) : Int) > 65536)), h, ⟨(.cons .same .nil), (sC rfl (sC rfl z09))⟩⟩
            ·intro hb33; replace h := z03 hb33 h
             refine z0h rfl rfl rfl rfl rfl rfl ?_
             refine z0h rfl rfl rfl rfl rfl rfl ?_
             refine z0h rfl rfl rfl rfl rfl rfl ?_
             refine z0h rfl rfl rfl rfl rfl rfl ?_
             refine z08 rfl rfl rfl rfl rfl rfl (z0i rfl rfl rfl) ?_
             refine sS rfl rfl rfl (z0i rfl rfl rfl) (z00 ?_)
             exact ⟨rfl, false, h, ⟨(.cons .same .nil), (sC rfl (sC rfl z09))⟩⟩
        ·refine z0s ?_
         refine sS rfl rfl rfl (z0e z23 (i := 0) rfl rfl rfl) ?_
         refine sS rfl rfl rfl ((z0n Try.underlying3 rfl rfl rfl rfl rfl)) ?_
         refine sS rfl rfl rfl ((z06 rfl rfl rfl rfl).cast (y := (BO ((a0.kind == 10)))) rfl rfl) ?_
         refine sMx ?_
         refine z16 (t := 37) rfl ?_ ?_
         ·intro hb34; replace h := z02 hb34 h
          refine z08 rfl rfl rfl rfl rfl rfl (z0e z23 (i := 10) rfl rfl rfl) ?_
          refine z08 rfl rfl rfl rfl rfl rfl ((z0n Try.underlying3 rfl rfl rfl rfl rfl)) ?_
          refine z08 rfl rfl rfl rfl rfl rfl ((z06 rfl rfl rfl rfl).cast (y := (BO ((decide (a0.ver < 1))))) rfl rfl) ?_
          refine z08 rfl rfl rfl rfl rfl rfl (z0k rfl rfl) ?_
          refine z16 (t := 41) rfl ?_ ?_
          ·intro hb35; replace h := z02 hb35 h
           refine z0h rfl rfl rfl rfl rfl rfl ?_
           refine z0h rfl rfl rfl rfl rfl rfl ?_
           refine z0h rfl rfl rfl rfl rfl rfl ?_
           refine z08 rfl rfl rfl rfl rfl rfl (z0p rfl rfl rfl) ?_
           refine sS rfl rfl rfl (z0p rfl rfl rfl) (z00 ?_)
           exact ⟨rfl, true, h, ⟨(.cons .same .nil), (sC rfl (sC rfl z09))⟩⟩
          ·intro hb35; replace h := z03 hb35 h
           refine z08 rfl rfl rfl rfl rfl rfl (z0e z23 (i := 10) rfl rfl rfl) ?_
           refine z08 rfl rfl rfl rfl rfl rfl ((z0n Try.underlying3 rfl rfl rfl rfl rfl)) ?_
           refine z08 rfl rfl rfl rfl rfl rfl ((z06 rfl rfl rfl rfl).cast (y := (BO ((decide (a0.ver > 1000))))) rfl rfl) ?_
           refine z08 rfl rfl rfl rfl rfl rfl (z0i rfl rfl rfl) ?_
           refine sS rfl rfl rfl (z0p rfl rfl rfl) (z00 ?_)
           exact ⟨rfl, (decide (a0.ver > 1000)), h, ⟨(.cons .same .nil), (sC rfl (sC rfl z09))⟩⟩
         ·intro hb34; replace h := z03 hb34 h
          refine z0h rfl rfl rfl rfl rfl rfl ?_
          refine z0h rfl rfl rfl rfl rfl rfl ?_
          refine z0h rfl rfl rfl rfl rfl rfl ?_
          refine z0h rfl rfl rfl rfl rfl rfl ?_
          refine z0h rfl rfl rfl rfl rfl rfl ?_
          refine z0h rfl rfl rfl rfl rfl rfl ?_
          refine z0h rfl rfl rfl rfl rfl rfl ?_
          refine z0h rfl rfl rfl rfl rfl rfl ?_
          refine sS rfl rfl rfl (z0i rfl rfl rfl) (z00 ?_)
          exact ⟨rfl, false, h, ⟨(.cons .same .nil), (sC rfl (sC rfl z09))⟩⟩
      ·refine z0s ?_
       refine sS rfl rfl rfl (z0e z23 (i := 0) rfl rfl rfl) ?_
       refine sS rfl rfl rfl ((z0n Try.underlying3 rfl rfl rfl rfl rfl)) ?_
       refine sS rfl rfl rfl ((z06 rfl rfl rfl rfl).cast (y := (BO ((a0.kind == 10)))) rfl rfl) ?_
       refine sMx ?_
       refine z16 (t := 28) rfl ?_ ?_
       ·intro hb36; replace h := z02 hb36 h
        refine z08 rfl rfl rfl rfl rfl rfl (z0e z23 (i := 9) rfl rfl rfl) ?_
        refine z08 rfl rfl rfl rfl rfl rfl ((z0n Try.underlying9 rfl rfl rfl rfl rfl)) ?_
        obtain ⟨x37, hx37, h⟩ := obind h
        refine z08 rfl rfl rfl rfl rfl rfl (z0b rfl Z25 rfl (.cons (Wk.refl _) .nil) ⟨rfl, trivial⟩ (Z0e a0.cls x37 hx37) rfl) ?_
        refine z08 rfl rfl rfl rfl rfl rfl (z2a rfl rfl) ?_
        refine sS rfl rfl rfl (z0p rfl rfl rfl) (z00 ?_)
        exact ⟨rfl, (!x37), h, ⟨(.cons .same .nil), (sC rfl (sC rfl z09))⟩⟩
       ·intro hb36; replace h := z03 hb36 h
        refine z0h rfl rfl rfl rfl rfl rfl ?_
        refine z0h rfl rfl rfl rfl rfl rfl ?_
        refine z0h rfl rfl rfl rfl rfl rfl ?_
        refine z0h rfl rfl rfl rfl rfl rfl ?_
        refine sS rfl rfl rfl (z0i rfl rfl rfl) (z00 ?_)
        exact ⟨rfl, false, h, ⟨(.cons .same .nil), (sC rfl (sC rfl z09))⟩⟩
    ·refine z0s ?_
     refine sMx ?_
     refine sS rfl rfl rfl ((z06 rfl rfl rfl rfl).cast (y := (BO ((decide (a1 ≥ 16384))))) rfl rfl) ?_
     refine sMx ?_
     refine z16 (t := 21) rfl ?_ ?_
     ·intro hb38; replace h := z02 hb38 h
      refine z0h rfl rfl rfl rfl rfl rfl ?_
      refine z0h rfl rfl rfl rfl rfl rfl ?_
      refine sS rfl rfl rfl (z0p rfl rfl rfl) (z00 ?_)
      exact ⟨rfl, true, h, ⟨(.cons .same .nil), (sC rfl (sC rfl z09))⟩⟩
     ·intro hb38; replace h := z03 hb38 h
      refine z08 rfl rfl rfl rfl rfl rfl (z0k rfl rfl) ?_
      refine z08 rfl rfl rfl rfl rfl rfl ((z06 rfl rfl rfl rfl).cast (y := (BO ((decide (a2 > 64))))) rfl rfl) ?_
      refine sS rfl rfl rfl (z0i rfl rfl rfl) (z00 ?_)
      exact ⟨rfl, (decide (a2 > 64)), h, ⟨(.cons .same .nil), (sC rfl (sC rfl z09))⟩⟩
  ·refine z0s ?_
   refine sS rfl rfl rfl (z0e z23 (i := 0) rfl rfl rfl) ?_
   refine sS rfl rfl rfl ((z0n Try.underlying3 rfl rfl rfl rfl rfl)) ?_
   refine sS rfl rfl rfl ((z06 rfl rfl rfl rfl).cast (y := (BO ((decide (a0.kind < 1))))) rfl rfl) ?_
   refine sMx ?_
   refine z16 (t := 14) rfl ?_ ?_
   ·intro hb39; replace h := z02 hb39 h
    refine z0h rfl rfl rfl rfl rfl rfl ?_
    refine z0h rfl rfl rfl rfl rfl rfl ?_
    refine z0h rfl rfl rfl rfl rfl rfl ?_
    refine sS rfl rfl rfl (z0p rfl rfl rfl) (z00 ?_)
    exact ⟨rfl, true, h, ⟨(.cons .same .nil), (sC rfl (sC rfl (sC rfl (sC rfl z09))))⟩⟩
   ·intro hb39; replace h := z03 hb39 h
    refine z08 rfl rfl rfl rfl rfl rfl (z0e z23 (i := 0) rfl rfl rfl) ?_
    refine z08 rfl rfl rfl rfl rfl rfl ((z0n Try.underlying3 rfl rfl rfl rfl rfl)) ?_
    refine z08 rfl rfl rfl rfl rfl rfl ((z06 rfl rfl rfl rfl).cast (y := (BO ((decide (a0.kind > 10))))) rfl rfl) ?_
    refine sS rfl rfl rfl (z0i rfl rfl rfl) (z00 ?_)
    exact ⟨rfl, (decide (a0.kind > 10)), h, ⟨(.cons .same .nil), (sC rfl (sC rfl (sC rfl (sC rfl z09))))⟩⟩
noncomputable def zeq (s2 : (List Term)) : Option (List Term) :=
 some s2
noncomputable def z6z (a0 : Term) (g1 : (List Term) → Nat → Option (List Term)) (s5 : (List Term)) (s6 : Nat) : Option (List Term) :=
 bif (decide (((s6 : Nat) : Int) < (((a0.fields).length : Nat) : Int))) then (
  Option.bind ((a0.fields)[s6]?) fun x9 =>
  Option.bind (zad 152 s5 ([(x9.2)] : (List Term))) fun x10 =>
  g1 x10 (s6 + 1)
 ) else (
  zeq s5
 )
theorem zna (g1 : OF ρ → (List Term) → Nat → Option (List Term)) (h_g1 : ∀ y0 y1, CM (fun G => g1 G y0 y1)) (a0 : Term) (s5 : (List Term)) (s6 : Nat) : CM (fun G : OF ρ => z6z a0 (g1 G) s5 s6) := by
 simp only [z6z]
 repeat (first | exact z0c | exact h_g1 _ _ | apply q1f_j1_cm | refine z14 ?_ ?_ | refine z15 ?_ (fun _ => ?_) | intro _ | assumption)
noncomputable def zh7 (a0 : Term) (s5 : (List Term)) (s6 : Nat) : Option (List Term) :=
 z38 (ι := ((List Term) × Nat)) (ρ := fun _ => (List Term)) (fun g i => z6z a0 (fun s5 s6 => g (s5, s6)) i.1 i.2) (s5, s6)
theorem zh6 (a0 : Term) (s5 : (List Term)) (s6 : Nat) : zh7 a0 s5 s6 = z6z a0 (zh7 a0) s5 s6 :=
 z1d (ι := ((List Term) × Nat)) (ρ := fun _ => (List Term)) (Φ := fun g i => z6z a0 (fun s5 s6 => g (s5, s6)) i.1 i.2) (fun i => zna (ι := ((List Term) × Nat)) (ρ := fun _ => (List Term)) (fun g => (fun s5 s6 => g (s5, s6))) (fun _ _ => z1c) a0 i.1 i.2) (s5, s6)
noncomputable def zep (a0 : Term) (s3 : Bool) : Option (List Term) :=
 bif s3 then (
  zh7 a0 ([] : (List Term)) 0
 ) else (
  zeq ([] : (List Term))
 )
noncomputable def zqt (a0 : Term) : Option (List Term) :=
 bif (a0.kind == 8) then (
  some a0.list
 ) else (
  bif (a0.kind == 9) then (
   zep a0 true
  ) else (
   zep a0 (a0.kind == 10)
  )
 )
theorem Z3n (a0 : Term) (r : (List Term)) (h : zqt a0 = some r) : z0g Try.prog 85 [(z1o a0)] (PV.sl none 29 11 (List.map z1k r)) := by
 unfold zqt at h
 refine z0w Try.func85 rfl Try.ntmps85 Try.results85 rfl (z10 ?_)
 change BW _ _ _ ⟨[(0, (z1o a0))], [], _⟩ _
 refine bR ?_
 refine sS rfl rfl rfl (z1x rfl rfl rfl) ?_
 refine sAx (z00 ?_)
 refine cBx ?_
 refine z0o ?_
 refine bR ?_
 refine sS rfl rfl rfl (z0e z23 (i := 0) rfl rfl rfl) ?_
 refine sS rfl rfl rfl ((z0n Try.underlying3 rfl rfl rfl rfl rfl)) ?_
 refine sS rfl rfl rfl ((z06 rfl rfl rfl rfl).cast (y := (BO ((a0.kind == 8)))) rfl rfl) (z00 ?_)
 refine cBx ?_
 refine z05 rfl ?_ ?_
 ·intro hc1; replace h := z02 hc1 h
  refine bR ?_
  refine sS rfl rfl rfl (z0e z23 (i := 7) rfl rfl rfl) ?_
  refine sS rfl rfl rfl ((z0n Try.underlying26 rfl rfl rfl rfl rfl)) ?_
  refine sAx (z00 ?_)
  refine cBx ?_
  refine z0a ?_
  change ∃ xs, _ = some xs ∧ EndOk _ _ _ _
  obtain rfl := Option.some.inj h
  exact ⟨_, rfl, z0d (y := (PV.sl none 29 11 (List.map z1k a0.list))) (Wk.refl _) (z0q z35 a0.list) ⟨rfl, rfl⟩⟩
 ·intro hc1; replace h := z03 hc1 h
  refine z0l ?_
  refine cBx ?_
  refine bR ?_
  refine sS rfl rfl rfl ((z1t (xs := []) Try.underlying26 z2g rfl rfl rfl rfl rfl rfl ⟨lbE rfl, lbE rfl⟩ rfl).cast (y := (PV.sl (some 1) 29 11 (List.map z1k ([] : (List Term))))) rfl rfl) ?_
  refine sAx (z00 ?_)
  refine cBx ?_
  refine z1n (ι := (List Term)) (fun i => zeq i = some r) (fun i => [(3, (PV.sl (some 1) 29 11 (List.map z1k i)))]) (fun i => [.dead, .arr 29 (i).length]) ?_ ?_ ?_
  ·intro i; exact ⟨lbE rfl, ⟨(z5j rfl (z3j z35 _)), trivial⟩, trivial⟩
  ·rintro s2 h; replace h : zeq s2 = some r := h; unfold zeq at h
   change BW _ _ _ ⟨[(3, (PV.sl (some 1) 29 11 (List.map z1k s2)))], [.dead, .arr 29 (s2).length], _⟩ _
   refine bR ?_
   refine sMx ?_
   refine sAx (z00 ?_)
   refine cBx ?_
   refine z0a ?_
   change ∃ xs, _ = some xs ∧ EndOk _ _ _ _
   obtain rfl := Option.some.inj h
   exact ⟨_, rfl, z0d (y := (PV.sl none 29 11 (List.map z1k s2))) Wk.tok (z0q z35 s2) ⟨rfl, rfl⟩⟩
  ·refine z1n (ι := Bool) (fun i => zep a0 i = some r) (fun i => [(1, (PV.rf 0 0)), (3, (PV.sl (some 1) 29 11 (List.map z1k ([] : (List Term))))), (18, (BO i))]) (fun i => [.box 29 (z4l a0), .arr 29 (([] : (List Term))).length]) ?_ ?_ ?_
   ·intro i; exact ⟨lbE rfl, ⟨(il_rf rfl), ⟨(z5j rfl (z3j z35 _)), ⟨(z01 rfl), trivial⟩⟩⟩, ⟨wfC29, trivial⟩⟩
   ·rintro s3 h; replace h : zep a0 s3 = some r := h; unfold zep at h
    change BW _ _ _ ⟨[(1, (PV.rf 0 0)), (3, (PV.sl (some 1) 29 11 (List.map z1k ([] : (List Term))))), (18, (BO s3))], [.box 29 (z4l a0), .arr 29 (([] : (List Term))).length], _⟩ _
    refine z05 rfl ?_ ?_
    ·intro hc4; replace h := z02 hc4 h
     refine bR ?_
     refine sAx (z00 ?_)
     refine cBx ?_
     refine z0x ?_
     refine cBx ?_
     unfold zh7 at h
     refine z26 (σ := ((List Term) × Nat)) (fun i => [(1, (PV.rf 0 0)), (3, (PV.sl (some 1) 29 11 (List.map z1k i.1))), (4, (I64 (((i.2 : Nat) : Int))))]) (fun i => [.box 29 (z4l a0), .arr 29 (i.1).length]) (([] : (List Term)), 0) h ?_ ?_ ?_
     ·intro i; exact ⟨lbE rfl, ⟨(il_rf rfl), ⟨(z5j rfl (z3j z35 _)), ⟨(z01 rfl), trivial⟩⟩⟩, ⟨wfC29, trivial⟩⟩
     ·exact ⟨(.cons .same (.cons .same .nil)), (sC rfl (sC rfl (sC rfl z09)))⟩
     ·rintro g1_f ⟨s5, s6⟩ h; replace h : z6z a0 (fun y0 y1 => g1_f (y0, y1)) s5 s6 = some r := h; unfold z6z at h
      change BW _ _ _ ⟨[(1, (PV.rf 0 0)), (3, (PV.sl (some 1) 29 11 (List.map z1k s5))), (4, (I64 (((s6 : Nat) : Int))))], [.box 29 (z4l a0), .arr 29 (s5).length], _⟩ _
      refine z0o ?_
      refine bR ?_
      refine sMx ?_
      refine sS rfl rfl rfl (z0e z23 (i := 8) rfl rfl rfl) ?_
      refine sS rfl rfl rfl ((z0n Try.underlying27 rfl rfl rfl rfl rfl)) ?_
      refine sS rfl rfl rfl (z17 Try.underlying27 rfl rfl) ?_
      refine sS rfl rfl rfl ((z06 rfl rfl rfl rfl).cast (y := (BO ((decide (((s6 : Nat) : Int) < (((a0.fields).length : Nat) : Int)))))) rfl rfl) (z00 ?_)
      refine cBx ?_
      refine z2z (t := 21) rfl fun hb8 => ?_
      try rw [List.length_map] at hb8
      refine z05 rfl ?_ ?_
      ·intro hc7; replace h := z02 hc7 h
       have hc7_ := of_decide_eq_true hc7
       refine z0l ?_
       refine cBx ?_
       refine z0o ?_
       refine z0x ?_
       refine cBx ?_
       refine z0s ?_
       refine sMx ?_
       refine sS rfl rfl rfl (z0e z23 (i := 8) rfl rfl rfl) ?_
       refine sS rfl rfl rfl ((z0n Try.underlying27 rfl rfl rfl rfl rfl)) ?_
       refine sMx ?_
       obtain ⟨x9, hx9, h⟩ := obind h
       refine sS rfl rfl rfl (z1i (i := s6) Try.underlying27 z44 rfl rfl rfl hx9 (z3b _)) ?_
       refine sS rfl rfl rfl (z1a z9a (i := 1) rfl rfl rfl) ?_
       refine sS rfl rfl rfl ((zc9 z2g Try.underlying29 rfl rfl rfl rfl rfl)) ?_
       refine sS rfl rfl rfl ((z1t (xs := [(z1o (x9.2))]) Try.underlying26 z2g rfl rfl rfl rfl rfl rfl ⟨lbE rfl, lbE rfl⟩ rfl).cast (y := (PV.sl (some 2) 29 11 (List.map z1k ([(x9.2)] : (List Term))))) (by simp only [List.map_cons, List.map_nil, z3w]; try rfl) rfl) ?_
       obtain ⟨x10, hx10, h⟩ := obind h
       refine sS rfl rfl rfl (z34 Try.underlying26 z2g rfl Try.underlying26 rfl rfl rfl rfl zmk zfj hx10 rfl) ?_
       refine sAx (z00 ?_)
       refine cBx ?_
       refine z0s ?_
       refine sMx ?_
       refine sS rfl rfl rfl (z1y (k := s6) (c := 1) rfl rfl rfl (by omega)) ?_
       refine sAx (z00 ?_)
       exact ⟨rfl, (x10, (s6 + 1)), h, ⟨(.cons .same (.cons .same .nil)), (sC rfl (sC rfl (sC rfl z09)))⟩⟩
      ·intro hc7; replace h := z03 hc7 h
       refine z22 ?_
       exact ⟨rfl, s5, h, ⟨(.cons .dead (.cons .same .nil)), (sC rfl z09)⟩⟩
    ·intro hc4; replace h := z03 hc4 h
     refine z0l ?_
     exact ⟨rfl, ([] : (List Term)), h, ⟨(.cons .dead (.cons .same .nil)), (sC rfl z09)⟩⟩
   ·refine z0s ?_
    refine sS rfl rfl rfl (z0e z23 (i := 0) rfl rfl rfl) ?_
    refine sS rfl rfl rfl ((z0n Try.underlying3 rfl rfl rfl rfl rfl)) ?_
    refine sS rfl rfl rfl ((z06 rfl rfl rfl rfl).cast (y := (BO ((a0.kind == 9)))) rfl rfl) ?_
    refine sMx ?_
    refine z16 (t := 14) rfl ?_ ?_
    ·intro hb11; replace h := z02 hb11 h
     refine z0h rfl rfl rfl rfl rfl rfl ?_
     refine z0h rfl rfl rfl rfl rfl rfl ?_
     refine z0h rfl rfl rfl rfl rfl rfl ?_
     refine sS rfl rfl rfl (z0p rfl rfl rfl) (z00 ?_)
     exact ⟨rfl, true, h, ⟨(.cons .same (.cons .same .nil)), (sC rfl (sC rfl (sC rfl z09)))⟩⟩
    ·intro hb11; replace h := z03 hb11 h
     refine z08 rfl rfl rfl rfl rfl rfl (z0e z23 (i := 0) rfl rfl rfl) ?_
     refine z08 rfl rfl rfl rfl rfl rfl ((z0n Try.underlying3 rfl rfl rfl rfl rfl)) ?_
     refine z08 rfl rfl rfl rfl rfl rfl ((z06 rfl rfl rfl rfl).cast (y := (BO ((a0.kind == 10)))) rfl rfl) ?_
     refine sS rfl rfl rfl (z0i rfl rfl rfl) (z00 ?_)
     exact ⟨rfl, (a0.kind == 10), h, ⟨(.cons .same (.cons .same .nil)), (sC rfl (sC rfl (sC rfl z09)))⟩⟩
noncomputable def z63 (r_q0l : S_ref01_seen → Term → Int → Option S_ref01_seen) (a2 : Int) (x4 : (List Term)) (g1 : Nat → Int → Int → Int → Int → Option S_ref01_seen) (s5 : Nat) (s6 : Int) (s7 : Int) (s8 : Int) (s9 : Int) : Option S_ref01_seen :=
 bif (decide (((s5 : Nat) : Int) < (((x4).length : Nat) : Int))) then (
  Option.bind ((x4)[s5]?) fun x12 =>
  Option.bind (r_q0l (S_ref01_seen.mk s6 s7 s8 s9) x12 (IntKind.i64.wrap (a2 + 1))) fun x13 =>
  bif (x13.f_why != 0) then (
   some x13
  ) else (
   g1 (s5 + 1) x13.f_n x13.f_deep x13.f_at x13.f_why
  )
 ) else (
  some (S_ref01_seen.mk s6 s7 s8 s9)
 )
theorem zb1 (r_q0l : OF ρ → S_ref01_seen → Term → Int → Option S_ref01_seen) (h_r_q0l : ∀ y0 y1 y2, CM (fun G => r_q0l G y0 y1 y2)) (g1 : OF ρ → Nat → Int → Int → Int → Int → Option S_ref01_seen) (h_g1 : ∀ y0 y1 y2 y3 y4, CM (fun G => g1 G y0 y1 y2 y3 y4)) (a2 : Int) (x4 : (List Term)) (s5 : Nat) (s6 : Int) (s7 : Int) (s8 : Int) (s9 : Int) : CM (fun G : OF ρ => z63 (r_q0l G) a2 x4 (g1 G) s5 s6 s7 s8 s9) := by
 simp only [z63]
 repeat (first | exact z0c | exact h_r_q0l _ _ _ | exact h_g1 _ _ _ _ _ | refine z14 ?_ ?_ | refine z15 ?_ (fun _ => ?_))
noncomputable def zd4 (r_q0l : S_ref01_seen → Term → Int → Option S_ref01_seen) (a2 : Int) (x4 : (List Term)) (s5 : Nat) (s6 : Int) (s7 : Int) (s8 : Int) (s9 : Int) : Option S_ref01_seen :=
 z38 (ι := (Nat × Int × Int × Int × Int)) (ρ := fun _ => S_ref01_seen) (fun g i => z63 r_q0l a2 x4 (fun s5 s6 s7 s8 s9 => g (s5, s6, s7, s8, s9)) i.1 i.2.1 i.2.2.1 i.2.2.2.1 i.2.2.2.2) (s5, s6, s7, s8, s9)
theorem zho (r_q0l : S_ref01_seen → Term → Int → Option S_ref01_seen) (a2 : Int) (x4 : (List Term)) (s5 : Nat) (s6 : Int) (s7 : Int) (s8 : Int) (s9 : Int) : zd4 r_q0l a2 x4 s5 s6 s7 s8 s9 = z63 r_q0l a2 x4 (zd4 r_q0l a2 x4) s5 s6 s7 s8 s9 :=
 z1d (ι := (Nat × Int × Int × Int × Int)) (ρ := fun _ => S_ref01_seen) (Φ := fun g i => z63 r_q0l a2 x4 (fun s5 s6 s7 s8 s9 => g (s5, s6, s7, s8, s9)) i.1 i.2.1 i.2.2.1 i.2.2.2.1 i.2.2.2.2) (fun i => zb1 (ι := (Nat × Int × Int × Int × Int)) (ρ := fun _ => S_ref01_seen) (fun _ => r_q0l) (fun _ _ _ => z0c) (fun g => (fun s5 s6 s7 s8 s9 => g (s5, s6, s7, s8, s9))) (fun _ _ _ _ _ => z1c) a2 x4 i.1 i.2.1 i.2.2.1 i.2.2.2.1 i.2.2.2.2) (s5, s6, s7, s8, s9)
theorem zq7 (r_q0l : OF ρ → S_ref01_seen → Term → Int → Option S_ref01_seen) (h_r_q0l : ∀ y0 y1 y2, CM (fun G => r_q0l G y0 y1 y2)) (a2 : Int) (x4 : (List Term)) (s5 : Nat) (s6 : Int) (s7 : Int) (s8 : Int) (s9 : Int) : CM (fun G : OF ρ => zd4 (r_q0l G) a2 x4 s5 s6 s7 s8 s9) :=
 z3o (κ := (Nat × Int × Int × Int × Int)) (τ := fun _ => S_ref01_seen) (Φ := fun G g i => z63 (r_q0l G) a2 x4 (fun s5 s6 s7 s8 s9 => g (s5, s6, s7, s8, s9)) i.1 i.2.1 i.2.2.1 i.2.2.2.1 i.2.2.2.2) (fun g i => zb1 r_q0l h_r_q0l (fun _ => (fun s5 s6 s7 s8 s9 => g (s5, s6, s7, s8, s9))) (fun _ _ _ _ _ => z0c) a2 x4 i.1 i.2.1 i.2.2.1 i.2.2.2.1 i.2.2.2.2) (fun G i => zb1 (ι := (Nat × Int × Int × Int × Int)) (ρ := fun _ => S_ref01_seen) (fun _ => r_q0l G) (fun _ _ _ => z0c) (fun g => (fun s5 s6 s7 s8 s9 => g (s5, s6, s7, s8, s9))) (fun _ _ _ _ _ => z1c) a2 x4 i.1 i.2.1 i.2.2.1 i.2.2.2.1 i.2.2.2.2) (s5, s6, s7, s8, s9)
noncomputable def z9l (r_q0l : S_ref01_seen → Term → Int → Option S_ref01_seen) (a0 : S_ref01_seen) (a1 : Term) (a2 : Int) (s3 : Int) : Option S_ref01_seen :=
 Option.bind (zqt a1) fun x4 =>
 zd4 r_q0l a2 x4 0 (IntKind.i64.wrap (a0.f_n + 1)) s3 a0.f_at a0.f_why
theorem zq8 (r_q0l : OF ρ → S_ref01_seen → Term → Int → Option S_ref01_seen) (h_r_q0l : ∀ y0 y1 y2, CM (fun G => r_q0l G y0 y1 y2)) (a0 : S_ref01_seen) (a1 : Term) (a2 : Int) (s3 : Int) : CM (fun G : OF ρ => z9l (r_q0l G) a0 a1 a2 s3) := by
 simp only [z9l]
 repeat (first | exact z0c | exact h_r_q0l _ _ _ | apply zq7 | refine z14 ?_ ?_ | refine z15 ?_ (fun _ => ?_) | intro _ | assumption)
noncomputable def zkz (r_q0l : S_ref01_seen → Term → Int → Option S_ref01_seen) (a0 : S_ref01_seen) (a1 : Term) (a2 : Int) : Option S_ref01_seen :=
 Option.bind (ze4 a1 a0.f_n a2) fun x1 =>
 bif (x1 != 0) then (
  some (S_ref01_seen.mk a0.f_n a0.f_deep a0.f_n x1)
 ) else (
  bif (decide (a2 > a0.f_deep)) then (
   z9l r_q0l a0 a1 a2 a2
  ) else (
   z9l r_q0l a0 a1 a2 a0.f_deep
  )
 )
theorem zwj (r_q0l : OF ρ → S_ref01_seen → Term → Int → Option S_ref01_seen) (h_r_q0l : ∀ y0 y1 y2, CM (fun G => r_q0l G y0 y1 y2)) (a0 : S_ref01_seen) (a1 : Term) (a2 : Int) : CM (fun G : OF ρ => zkz (r_q0l G) a0 a1 a2) := by
 simp only [zkz]
 repeat (first | exact z0c | exact h_r_q0l _ _ _ | apply zq8 | refine z14 ?_ ?_ | refine z15 ?_ (fun _ => ?_) | intro _ | assumption)
inductive C_q0l where
 | k_q0l (a0 : S_ref01_seen) (a1 : Term) (a2 : Int)
def C_q0l.R : C_q0l → Type
 | .k_q0l _ _ _ => S_ref01_seen
noncomputable def C_q0l.F (g : ∀ i : C_q0l, Option i.R) : ∀ i : C_q0l, Option i.R
 | .k_q0l a0 a1 a2 => zkz (fun a0 a1 a2 => g (.k_q0l a0 a1 a2)) a0 a1 a2
noncomputable def zi7 (a0 : S_ref01_seen) (a1 : Term) (a2 : Int) : Option S_ref01_seen := z38 C_q0l.F (.k_q0l a0 a1 a2)
abbrev Z78 := fun (g : ∀ i : C_q0l, Option i.R) a0 a1 a2 => g (.k_q0l a0 a1 a2)
theorem Z75 (a0 : _) (a1 : _) (a2 : _) : CM (ρ := C_q0l.R) (fun g => g (C_q0l.k_q0l a0 a1 a2)) := z1c
theorem C_q0l.cm (i : C_q0l) : CM (fun g : (∀ i : C_q0l, Option i.R) => C_q0l.F g i) := by
 cases i with
 | k_q0l a0 a1 a2 => exact zwj Z78 Z75 a0 a1 a2
theorem Z5o (a0 : S_ref01_seen) (a1 : Term) (a2 : Int) : zi7 a0 a1 a2 = zkz zi7 a0 a1 a2 := z1d C_q0l.cm (.k_q0l a0 a1 a2)
def C_q0l.Q : ∀ i : C_q0l, i.R → Prop
 | .k_q0l a0 a1 a2 => fun (r : S_ref01_seen) => z0g Try.prog 50 [(z25 a0), (z1o a1), (I64 a2)] (z25 r)
theorem zai (r_q0l : S_ref01_seen → Term → Int → Option S_ref01_seen) (c_q0l : ∀ (a0 : S_ref01_seen) (a1 : Term) (a2 : Int) r, r_q0l a0 a1 a2 = some r → z0g Try.prog 50 [(z25 a0), (z1o a1), (I64 a2)] (z25 r)) (a0 : S_ref01_seen) (a1 : Term) (a2 : Int) (r : S_ref01_seen) (h : zkz r_q0l a0 a1 a2 = some r) : z0g Try.prog 50 [(z25 a0), (z1o a1), (I64 a2)] (z25 r) := by
 unfold zkz at h
 refine z0w Try.func50 rfl Try.ntmps50 Try.results50 rfl (z10 ?_)
 change BW _ _ _ ⟨[(0, (z25 a0)), (1, (z1o a1)), (2, (I64 a2))], [], _⟩ _
 refine bR ?_
 refine sS rfl rfl rfl (z1x rfl rfl rfl) ?_
 refine sS rfl rfl rfl (z1x rfl rfl rfl) ?_
 refine sS rfl rfl rfl (z1j z7k rfl) (z00 ?_)
 refine cBx ?_
 refine z0o ?_
 refine bR ?_
 refine sS rfl rfl rfl ((z12 z2g Try.underlying29 rfl rfl rfl rfl rfl rfl)) ?_
 refine sS rfl rfl rfl (z0e zby (i := 0) rfl rfl rfl) ?_
 refine sS rfl rfl rfl ((z0n Try.underlying3 rfl rfl rfl rfl rfl)) ?_
 refine sMx ?_
 obtain ⟨x1, hx1, h⟩ := obind h
 refine sS rfl rfl rfl (z0b rfl Z4u rfl (.cons (Wk.refl _) (.cons (Wk.refl _) (.cons (Wk.refl _) .nil))) ⟨(z20 a1), ⟨rfl, ⟨rfl, trivial⟩⟩⟩ (Z3i a1 a0.f_n a2 x1 hx1) rfl) ?_
 refine sAx (z00 ?_)
 refine cBx ?_
 refine bR ?_
 refine sMx ?_
 refine sS rfl rfl rfl ((z06 rfl rfl rfl rfl).cast (y := (BO ((x1 != 0)))) rfl rfl) (z00 ?_)
 refine cBx ?_
 refine z05 rfl ?_ ?_
 ·intro hc2; replace h := z02 hc2 h
  refine bR ?_
  refine sS rfl rfl rfl (z0e zby (i := 0) rfl rfl rfl) ?_
  refine sS rfl rfl rfl ((z0n Try.underlying3 rfl rfl rfl rfl rfl)) ?_
  refine sMx ?_
  refine sS rfl rfl rfl (z0e zby (i := 2) rfl rfl rfl) ?_
  refine z11 rfl rfl (z0v zea rfl rfl rfl rfl rfl rfl (lbE rfl) rfl) ?_
  refine sS rfl rfl rfl (z0e zby (i := 3) rfl rfl rfl) ?_
  refine z11 rfl rfl (z0v zxj rfl rfl rfl rfl rfl rfl (lbE rfl) rfl) ?_
  refine z00 ?_
  refine cBx ?_
  refine bR ?_
  refine sS rfl rfl rfl ((z12 z7k Try.underlying98 rfl rfl rfl rfl rfl rfl)) ?_
  refine z11 rfl rfl (z0v z7k rfl rfl rfl rfl rfl rfl (lbE rfl) rfl) ?_
  refine z00 ?_
  refine cBx ?_
  refine z0a ?_
  change ∃ xs, _ = some xs ∧ EndOk _ _ _ _
  obtain rfl := Option.some.inj h
  exact ⟨_, rfl, z0d (y := (z25 (S_ref01_seen.mk a0.f_n a0.f_deep a0.f_n x1))) (Wk.refl _) (z2p (S_ref01_seen.mk a0.f_n a0.f_deep a0.f_n x1)) ⟨rfl, rfl⟩⟩
 ·intro hc2; replace h := z03 hc2 h
  refine z0l ?_
  refine cBx ?_
  refine bR ?_
  refine sS rfl rfl rfl (z0e zby (i := 0) rfl rfl rfl) ?_
  refine sS rfl rfl rfl ((z0n Try.underlying3 rfl rfl rfl rfl rfl)) ?_
  refine sS rfl rfl rfl (z3a rfl rfl rfl) ?_
  refine sS rfl rfl rfl (z0e zby (i := 0) rfl rfl rfl) ?_
  refine z11 rfl rfl (z0v zea rfl rfl rfl rfl rfl rfl (lbE rfl) rfl) ?_
  refine z00 ?_
  refine cBx ?_
  refine z1n (ι := Int) (fun i => z9l r_q0l a0 a1 a2 i = some r) (fun i => [(2, (I64 a2)), (3, (PV.rf 0 0)), (4, (PV.rf 1 0)), (6, (PV.rf 2 0))]) (fun i => [.box 98 [(I64 ((IntKind.i64.wrap (a0.f_n + 1)))), (I64 i), (I64 a0.f_at), (I64 a0.f_why)], .box 29 (z4l a1), .box 98 [(I64 0), (I64 0), (I64 0), (I64 0)]]) ?_ ?_ ?_
  ·intro i; exact ⟨lbE rfl, ⟨(z01 rfl), ⟨(il_rf rfl), ⟨(il_rf rfl), ⟨(il_rf rfl), trivial⟩⟩⟩⟩, ⟨⟨(z01 rfl), ⟨(z01 rfl), ⟨(z01 rfl), ⟨(z01 rfl), trivial⟩⟩⟩⟩, ⟨wfC29, ⟨⟨(z01 rfl), ⟨(z01 rfl), ⟨(z01 rfl), ⟨(z01 rfl), trivial⟩⟩⟩⟩, trivial⟩⟩⟩⟩
  ·rintro s3 h; replace h : z9l r_q0l a0 a1 a2 s3 = some r := h; unfold z9l at h
   change BW _ _ _ ⟨[(2, (I64 a2)), (3, (PV.rf 0 0)), (4, (PV.rf 1 0)), (6, (PV.rf 2 0))], [.box 98 [(I64 ((IntKind.i64.wrap (a0.f_n + 1)))), (I64 s3), (I64 a0.f_at), (I64 a0.f_why)], .box 29 (z4l a1), .box 98 [(I64 0), (I64 0), (I64 0), (I64 0)]], _⟩ _
   refine bR ?_
   refine sS rfl rfl rfl ((z12 z2g Try.underlying29 rfl rfl rfl rfl rfl rfl)) ?_
   obtain ⟨x4, hx4, h⟩ := obind h
   refine sS rfl rfl rfl (z0b rfl Z4t rfl (.cons (Wk.refl _) .nil) ⟨(z20 a1), trivial⟩ (Z3n a1 x4 hx4) (z0q z35 x4)) ?_
   refine sAx (z00 ?_)
   refine cBx ?_
   refine z0o ?_
   refine bR ?_
   refine sAx (z00 ?_)
   refine cBx ?_
   refine z0x ?_
   refine cBx ?_
   unfold zd4 at h
   refine z26 (σ := (Nat × Int × Int × Int × Int)) (fun i => [(2, (I64 a2)), (3, (PV.rf 0 0)), (6, (PV.rf 2 0)), (8, (PV.sl none 29 11 (List.map z1k x4))), (9, (I64 (((i.1 : Nat) : Int))))]) (fun i => [.box 98 [(I64 i.2.1), (I64 i.2.2.1), (I64 i.2.2.2.1), (I64 i.2.2.2.2)], .dead, .box 98 [(I64 0), (I64 0), (I64 0), (I64 0)]]) (0, (IntKind.i64.wrap (a0.f_n + 1)), s3, a0.f_at, a0.f_why) h ?_ ?_ ?_
   ·intro i; exact ⟨lbE rfl, ⟨(z01 rfl), ⟨(il_rf rfl), ⟨(il_rf rfl), ⟨(z01 (z0q z35 _)), ⟨(z01 rfl), trivial⟩⟩⟩⟩⟩, ⟨⟨(z01 rfl), ⟨(z01 rfl), ⟨(z01 rfl), ⟨(z01 rfl), trivial⟩⟩⟩⟩, ⟨⟨(z01 rfl), ⟨(z01 rfl), ⟨(z01 rfl), ⟨(z01 rfl), trivial⟩⟩⟩⟩, trivial⟩⟩⟩
   ·exact ⟨(.cons .same (.cons .dead (.cons .same .nil))), (sC rfl (sC rfl (sC rfl (sC rfl (sC rfl z09)))))⟩
   ·rintro g1_f ⟨s5, s6, s7, s8, s9⟩ h; replace h : z63 r_q0l a2 x4 (fun y0 y1 y2 y3 y4 => g1_f (y0, y1, y2, y3, y4)) s5 s6 s7 s8 s9 = some r := h; unfold z63 at h
    change BW _ _ _ ⟨[(2, (I64 a2)), (3, (PV.rf 0 0)), (6, (PV.rf 2 0)), (8, (PV.sl none 29 11 (List.map z1k x4))), (9, (I64 (((s5 : Nat) : Int))))], [.box 98 [(I64 s6), (I64 s7), (I64 s8), (I64 s9)], .dead, .box 98 [(I64 0), (I64 0), (I64 0), (I64 0)]], _⟩ _
    refine z0o ?_
    refine bR ?_
    refine sMx ?_
    refine sMx ?_
    refine sS rfl rfl rfl (z17 Try.underlying26 rfl rfl) ?_
    refine sS rfl rfl rfl ((z06 rfl rfl rfl rfl).cast (y := (BO ((decide (((s5 : Nat) : Int) < (((x4).length : Nat) : Int)))))) rfl rfl) (z00 ?_)
    refine cBx ?_
    refine z2z (t := 36) rfl fun hb11 => ?_
    try rw [List.length_map] at hb11
    refine z05 rfl ?_ ?_
    ·intro hc10; replace h := z02 hc10 h
     have hc10_ := of_decide_eq_true hc10
     refine z0l ?_
     refine cBx ?_
     refine z0o ?_
     refine z0x ?_
     refine cBx ?_
     refine z0o (z2e 7 [] [0] mo (by kernel_rfl) ?_)
     refine z0y rfl rfl rfl rfl (fun H hp => (z12 z7k Try.underlying98 rfl rfl rfl (hp.at rfl rfl) rfl rfl)) ?_
     refine z0y rfl rfl rfl rfl (fun H hp => z0k rfl rfl) ?_
     refine z0y rfl rfl rfl rfl (fun H hp => z0k rfl rfl) ?_
     obtain ⟨x12, hx12, h⟩ := obind h
     refine z0y rfl rfl rfl rfl (fun H hp => z1i (i := s5) Try.underlying26 z2g rfl rfl rfl hx12 (z3w _)) ?_
     refine z0y rfl rfl rfl rfl (fun H hp => z1s z2g Try.underlying29 rfl rfl rfl rfl rfl) ?_
     refine z0y rfl rfl rfl rfl (fun H hp => z0k rfl rfl) ?_
     refine z0y rfl rfl rfl rfl (fun H hp => z3a rfl rfl rfl) ?_
     refine z2b ?_
     change AO _ _ _ _ _
     obtain ⟨x13, hx13, h⟩ := obind h
     refine sS rfl rfl rfl (z0b rfl Z28 rfl (.cons (Wk.refl _) (.cons (Wk.refl _) (.cons (Wk.refl _) .nil))) ⟨(z2p (S_ref01_seen.mk s6 s7 s8 s9)), ⟨(z20 x12), ⟨rfl, trivial⟩⟩⟩ (c_q0l (S_ref01_seen.mk s6 s7 s8 s9) x12 (IntKind.i64.wrap (a2 + 1)) x13 hx13) (z2p x13)) ?_
     refine z11 rfl rfl (z0v z7k rfl rfl rfl rfl rfl rfl (lbE rfl) rfl) ?_
     refine z00 ?_
     refine cBx ?_
     refine bR ?_
     refine sS rfl rfl rfl (z0e zby (i := 3) rfl rfl rfl) ?_
     refine sS rfl rfl rfl ((z0n Try.underlying39 rfl rfl rfl rfl rfl)) ?_
     refine sS rfl rfl rfl ((z06 rfl rfl rfl rfl).cast (y := (BO ((x13.f_why != 0)))) rfl rfl) (z00 ?_)
     refine cBx ?_
     refine z05 rfl ?_ ?_
     ·intro hc14; replace h := z02 hc14 h
      refine bR ?_
      refine sS rfl rfl rfl ((z12 z7k Try.underlying98 rfl rfl rfl rfl rfl rfl)) ?_
      refine z11 rfl rfl (z0v z7k rfl rfl rfl rfl rfl rfl (lbE rfl) rfl) ?_
      refine z00 ?_
      refine cBx ?_
      refine z0a ?_
      change ∃ xs, _ = some xs ∧ EndOk _ _ _ _
      obtain rfl := Option.some.inj h
      exact ⟨_, rfl, z0d (y := (z25 x13)) (Wk.refl _) (z2p x13) ⟨rfl, rfl⟩⟩
     ·intro hc14; replace h := z03 hc14 h
      refine z0l ?_
      refine cBx ?_
      refine z0s ?_
      refine sMx ?_
      refine sS rfl rfl rfl (z1y (k := s5) (c := 1) rfl rfl rfl (by omega)) ?_
      refine sAx (z00 ?_)
      exact ⟨rfl, ((s5 + 1), x13.f_n, x13.f_deep, x13.f_at, x13.f_why), h, ⟨(.cons .same (.cons .dead (.cons .same .nil))), (sC rfl (sC rfl (sC rfl (sC rfl (sC rfl z09)))))⟩⟩
    ·intro hc10; replace h := z03 hc10 h
     refine z22 ?_
     refine cBx ?_
     refine bR ?_
     refine sS rfl rfl rfl ((z12 z7k Try.underlying98 rfl rfl rfl rfl rfl rfl)) ?_
     refine z11 rfl rfl (z0v z7k rfl rfl rfl rfl rfl rfl (lbE rfl) rfl) ?_
     refine z00 ?_
     refine cBx ?_
     refine z0a ?_
     change ∃ xs, _ = some xs ∧ EndOk _ _ _ _
     obtain rfl := Option.some.inj h
     exact ⟨_, rfl, z0d (y := (z25 (S_ref01_seen.mk s6 s7 s8 s9))) (Wk.refl _) (z2p (S_ref01_seen.mk s6 s7 s8 s9)) ⟨rfl, rfl⟩⟩
  ·refine bR ?_
   refine sMx ?_
   refine sS rfl rfl rfl (z0e zby (i := 1) rfl rfl rfl) ?_
   refine sS rfl rfl rfl ((z0n Try.underlying3 rfl rfl rfl rfl rfl)) ?_
   refine sS rfl rfl rfl ((z06 rfl rfl rfl rfl).cast (y := (BO ((decide (a2 > a0.f_deep))))) rfl rfl) (z00 ?_)
   refine cBx ?_
   refine z05 rfl ?_ ?_
   ·intro hc15; replace h := z02 hc15 h
    refine z0s ?_
    refine sMx ?_
    refine sS rfl rfl rfl (z0e zby (i := 1) rfl rfl rfl) ?_
    refine z11 rfl rfl (z0v zea rfl rfl rfl rfl rfl rfl (lbE rfl) rfl) ?_
    refine z00 ?_
    exact ⟨rfl, a2, h, ⟨(.cons .same (.cons .same (.cons .same .nil))), (sC rfl (sC rfl (sC rfl (sC rfl z09))))⟩⟩
   ·intro hc15; replace h := z03 hc15 h
    refine z0l ?_
    exact ⟨rfl, a0.f_deep, h, ⟨(.cons .same (.cons .same (.cons .same .nil))), (sC rfl (sC rfl (sC rfl (sC rfl z09))))⟩⟩
theorem C_q0l.sound : ∀ (i : C_q0l) (r : i.R), z38 C_q0l.F i = some r → C_q0l.Q i r := by
 refine z4a (Φ := C_q0l.F) (Q := C_q0l.Q) ?_
 intro g hg i r h
 cases i with
 | k_q0l a0 a1 a2 => exact zai (fun a0 a1 a2 => g (.k_q0l a0 a1 a2)) (fun a0 a1 a2 r hr => hg (.k_q0l a0 a1 a2) r hr) a0 a1 a2 r h
theorem Z3x (a0 : S_ref01_seen) (a1 : Term) (a2 : Int) (r : S_ref01_seen) (h : zi7 a0 a1 a2 = some r) : z0g Try.prog 50 [(z25 a0), (z1o a1), (I64 a2)] (z25 r) := C_q0l.sound (.k_q0l a0 a1 a2) r h
end Go.Proofs.Ytiapdjdhaclmnaa
