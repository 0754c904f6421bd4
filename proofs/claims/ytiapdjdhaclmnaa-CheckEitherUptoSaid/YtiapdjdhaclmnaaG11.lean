/- Pure functions, and that calls answer as they say. Written by gen.py. -/
import Derived.Test.YtiapdjdhaclmnaaG10
namespace Go.Proofs.Ytiapdjdhaclmnaa
open Go Aw
set_option linter.unusedVariables false
set_option linter.unusedSimpArgs false
set_option maxRecDepth 20000
set_option maxHeartbeats 2000000
variable {ι : Type} {ρ : ι → Type}
noncomputable def z7v (a0 : S_arr3_Typ) (x1 : V) (s10 : Bool) : Option Bool :=
 bif s10 then (
  Option.bind (zfz x1 (a0.f_2)) fun x12 =>
  bif x12.1 then (
   some (x12.2.2 == 0)
  ) else (
   some false
  )
 ) else (
  Option.bind (ze6 (V.bool true)) fun x14 =>
  bif (x14.2 == 0) then (
   bif ((x14.1).kind == 3) then (
    some ((x14.1).of == 2)
   ) else (
    some false
   )
  ) else (
   some false
  )
 )
noncomputable def zd5 (a0 : S_arr3_Typ) (x1 : V) (x6 : (Bool × Int × Int)) : Option Bool :=
 Option.bind (znj (a0.f_0) (a0.f_1)) fun x8 =>
 Option.bind (znj (a0.f_1) (a0.f_2)) fun x9 =>
 bif (x8.2 == 0) then (
  bif (x9.2 == 0) then (
   bif x8.1 then (
    bif x9.1 then (
     z7v a0 x1 x6.1
    ) else (
     z7v a0 x1 false
    )
   ) else (
    z7v a0 x1 false
   )
  ) else (
   z7v a0 x1 false
  )
 ) else (
  z7v a0 x1 false
 )
noncomputable def zhs (a0 : S_arr3_Typ) (x1 : V) (x6 : (Bool × Int × Int)) (s24 : Bool) : Option Bool :=
 bif s24 then (
  some false
 ) else (
  zd5 a0 x1 x6
 )
noncomputable def z7u (a0 : S_arr3_Typ) (x1 : V) (x5 : (Typ × Int)) (x6 : (Bool × Int × Int)) (s21 : Bool) : Option Bool :=
 bif s21 then (
  Option.bind (zfz x1 (x5.1)) fun x23 =>
  bif (!x23.1) then (
   zhs a0 x1 x6 true
  ) else (
   zhs a0 x1 x6 (x23.2.2 != 0)
  )
 ) else (
  zd5 a0 x1 x6
 )
noncomputable def zd6 (a0 : S_arr3_Typ) (x1 : V) : Option Bool :=
 Option.bind (zqw (a0.f_0) (a0.f_1)) fun x5 =>
 Option.bind (zfz x1 (a0.f_0)) fun x6 =>
 Option.bind (zfz x1 (a0.f_1)) fun x7 =>
 bif (x5.2 == 0) then (
  bif (x6.2.2 == 0) then (
   bif (x7.2.2 == 0) then (
    bif x6.1 then (
     z7u a0 x1 x5 x6 true
    ) else (
     z7u a0 x1 x5 x6 x7.1
    )
   ) else (
    z7u a0 x1 x5 x6 false
   )
  ) else (
   z7u a0 x1 x5 x6 false
  )
 ) else (
  z7u a0 x1 x5 x6 false
 )
noncomputable def zhr (a0 : S_arr3_Typ) (x1 : V) (s33 : Bool) : Option Bool :=
 bif s33 then (
  some false
 ) else (
  zd6 a0 x1
 )
noncomputable def zr0 (a0 : S_arr3_Typ) (a1 : Term) : Option Bool :=
 Option.bind (z9o a1) fun x1 =>
 Option.bind (ze6 x1) fun x2 =>
 Option.bind (zqs a1) fun x3 =>
 bif (x2.2 != x3.2) then (
  some false
 ) else (
  bif (x2.2 == 0) then (
   Option.bind (zfz x1 (x2.1)) fun x32 =>
   bif (!x32.1) then (
    zhr a0 x1 true
   ) else (
    zhr a0 x1 (x32.2.2 != 0)
   )
  ) else (
   zd6 a0 x1
  )
 )
theorem Z40 (a0 : S_arr3_Typ) (a1 : Term) (r : Bool) (h : zr0 a0 a1 = some r) : z0g Try.prog 8 [(z7e a0), (z1o a1)] (BO r) := by
 unfold zr0 at h
 refine z0w Try.func8 rfl Try.ntmps8 Try.results8 rfl (z10 ?_)
 change BW _ _ _ ⟨[(0, (z7e a0)), (1, (z1o a1))], [], _⟩ _
 refine bR ?_
 refine sS rfl rfl rfl (z1x rfl rfl rfl) ?_
 refine sS rfl rfl rfl (z1x rfl rfl rfl) ?_
 refine sAx (z00 ?_)
 refine cBx ?_
 refine z0o ?_
 refine zgk 34 ?_
 refine zgk 34 ?_
 refine zgk 34 ?_
 refine zvy [(6, 2, .box 34 z5d), (7, 3, .box 34 z5d), (8, 4, .box 34 z5d)] [9, 10, 11] [0] mo (by kernel_rfl) rfl ?_
 refine zoi rfl rfl rfl rfl rfl (fun H hp => zjw (i := 0) Try.underlying64 z0t rfl rfl rfl rfl) ?_
 refine zoi rfl rfl rfl rfl rfl (fun H hp => (z12 z0t Try.underlying34 rfl rfl rfl (hp.at rfl rfl) rfl rfl)) ?_
 refine zoi rfl rfl rfl rfl rfl (fun H hp => zjw (i := 1) Try.underlying64 z0t rfl rfl rfl rfl) ?_
 refine zoi rfl rfl rfl rfl rfl (fun H hp => (z12 z0t Try.underlying34 rfl rfl rfl (hp.at rfl rfl) rfl rfl)) ?_
 refine zoi rfl rfl rfl rfl rfl (fun H hp => zjw (i := 2) Try.underlying64 z0t rfl rfl rfl rfl) ?_
 refine zoi rfl rfl rfl rfl rfl (fun H hp => (z12 z0t Try.underlying34 rfl rfl rfl (hp.at rfl rfl) rfl rfl)) ?_
 refine zlb (i := 2) rfl rfl rfl rfl rfl z0t rfl rfl ?_
 refine zlb (i := 3) rfl rfl rfl rfl rfl z0t rfl rfl ?_
 refine zlb (i := 4) rfl rfl rfl rfl rfl z0t rfl rfl ?_
 refine zla rfl rfl rfl rfl (z0v z0t rfl rfl rfl rfl rfl rfl (lbE rfl) rfl) ⟨rfl, trivial⟩ ?_
 refine zla rfl rfl rfl rfl (z0v z0t rfl rfl rfl rfl rfl rfl (lbE rfl) rfl) ⟨rfl, trivial⟩ ?_
 refine zla rfl rfl rfl rfl (z0v z0t rfl rfl rfl rfl rfl rfl (lbE rfl) rfl) ⟨rfl, trivial⟩ ?_
 refine Z32 ?_
 refine cBx ?_
 refine bR ?_
 refine sS rfl rfl rfl ((z12 z2g Try.underlying29 rfl rfl rfl rfl rfl rfl)) ?_
 obtain ⟨x1, hx1, h⟩ := obind h
 refine sS rfl rfl rfl (z0b rfl Z4s rfl (.cons (Wk.refl _) .nil) ⟨(z20 a1), trivial⟩ (Z3f a1 x1 hx1) (ids_V x1)) ?_
 refine sAx (z00 ?_)
 refine cBx ?_
 refine bR ?_
 refine sMx ?_
 obtain ⟨x2, hx2, h⟩ := obind h
 refine sS rfl rfl rfl (z0b rfl Z2b rfl (.cons (Wk.refl _) .nil) ⟨(ids_V x1), trivial⟩ (Z0p x1 x2 hx2) (z04 (z0m x2.1) (z04 rfl z0r))) ?_
 refine sMx ?_
 refine sS rfl rfl rfl (z0j rfl rfl rfl) ?_
 refine sS rfl rfl rfl (z0j rfl rfl rfl) ?_
 refine sS rfl rfl rfl (z1j z0t rfl) ?_
 refine z11 rfl rfl (z0v z0t rfl rfl rfl rfl rfl rfl (lbE rfl) rfl) ?_
 refine sAx (z00 ?_)
 refine cBx ?_
 refine z0o ?_
 refine bR ?_
 refine sS rfl rfl rfl ((z12 z2g Try.underlying29 rfl rfl rfl rfl rfl rfl)) ?_
 obtain ⟨x3, hx3, h⟩ := obind h
 refine sS rfl rfl rfl (z0b rfl Z56 rfl (.cons (Wk.refl _) .nil) ⟨(z20 a1), trivial⟩ (Z3m a1 x3 hx3) (z04 rfl (z04 rfl z0r))) ?_
 refine sMx ?_
 refine sS rfl rfl rfl (z0j rfl rfl rfl) ?_
 refine sS rfl rfl rfl (z0j rfl rfl rfl) ?_
 refine sAx ?_
 refine sAx (z00 ?_)
 refine cBx ?_
 refine bR ?_
 refine sMx ?_
 refine sMx ?_
 refine sS rfl rfl rfl ((z06 rfl rfl rfl rfl).cast (y := (BO ((x2.2 != x3.2)))) rfl rfl) (z00 ?_)
 refine cBx ?_
 refine z05 rfl ?_ ?_
 ·intro hc4; replace h := z02 hc4 h
  refine bR ?_
  refine sAx (z00 ?_)
  refine cBx ?_
  refine z0a ?_
  change ∃ xs, _ = some xs ∧ EndOk _ _ _ _
  obtain rfl := Option.some.inj h
  exact ⟨_, rfl, z0d (y := (BO false)) (Wk.refl _) rfl ⟨rfl, rfl⟩⟩
 ·intro hc4; replace h := z03 hc4 h
  refine z0l ?_
  refine cBx ?_
  refine z1n (ι := Unit) (fun i => zd6 a0 x1 = some r) (fun i => [(5, (PV.rf 2 0)), (6, (PV.rf 3 0)), (7, (PV.rf 4 0)), (8, (ofV x1))]) (fun i => [.dead, .dead, .box 34 (z1r (a0.f_0)), .box 34 (z1r (a0.f_1)), .box 34 (z1r (a0.f_2))]) ?_ ?_ ?_
  ·intro i; exact ⟨lbE rfl, ⟨(il_rf rfl), ⟨(il_rf rfl), ⟨(il_rf rfl), ⟨(z01 (ids_V _)), trivial⟩⟩⟩⟩, ⟨wfC34, ⟨wfC34, ⟨wfC34, trivial⟩⟩⟩⟩
  ·rintro ⟨⟩ h; replace h : zd6 a0 x1 = some r := h; unfold zd6 at h
   change BW _ _ _ ⟨[(5, (PV.rf 2 0)), (6, (PV.rf 3 0)), (7, (PV.rf 4 0)), (8, (ofV x1))], [.dead, .dead, .box 34 (z1r (a0.f_0)), .box 34 (z1r (a0.f_1)), .box 34 (z1r (a0.f_2))], _⟩ _
   refine bR ?_
   refine sS rfl rfl rfl ((z12 z0t Try.underlying34 rfl rfl rfl rfl rfl rfl)) ?_
   refine sS rfl rfl rfl ((z12 z0t Try.underlying34 rfl rfl rfl rfl rfl rfl)) ?_
   obtain ⟨x5, hx5, h⟩ := obind h
   refine sS rfl rfl rfl (z0b rfl Z57 rfl (.cons (Wk.refl _) (.cons (Wk.refl _) .nil)) ⟨(z0m (a0.f_0)), ⟨(z0m (a0.f_1)), trivial⟩⟩ (Z3t (a0.f_0) (a0.f_1) x5 hx5) (z04 (z0m x5.1) (z04 rfl z0r))) ?_
   refine sMx ?_
   refine sS rfl rfl rfl (z0j rfl rfl rfl) ?_
   refine sS rfl rfl rfl (z0j rfl rfl rfl) ?_
   refine sS rfl rfl rfl (z1j z0t rfl) ?_
   refine z11 rfl rfl (z0v z0t rfl rfl rfl rfl rfl rfl (lbE rfl) rfl) ?_
   refine sAx (z00 ?_)
   refine cBx ?_
   refine bR ?_
   refine sMx ?_
   refine sS rfl rfl rfl ((z12 z0t Try.underlying34 rfl rfl rfl rfl rfl rfl)) ?_
   obtain ⟨x6, hx6, h⟩ := obind h
   refine sS rfl rfl rfl (z0b rfl zsr rfl (.cons (Wk.refl _) (.cons (Wk.refl _) .nil)) ⟨(ids_V x1), ⟨(z0m (a0.f_0)), trivial⟩⟩ (zov x1 (a0.f_0) x6 hx6) (z04 rfl (z04 rfl (z04 rfl z0r)))) ?_
   refine sMx ?_
   refine sS rfl rfl rfl (z0j rfl rfl rfl) ?_
   refine sS rfl rfl rfl (z0j rfl rfl rfl) ?_
   refine sS rfl rfl rfl (z0j rfl rfl rfl) ?_
   refine sAx ?_
   refine sAx ?_
   refine sAx (z00 ?_)
   refine cBx ?_
   refine bR ?_
   refine sMx ?_
   refine sS rfl rfl rfl ((z12 z0t Try.underlying34 rfl rfl rfl rfl rfl rfl)) ?_
   obtain ⟨x7, hx7, h⟩ := obind h
   refine sS rfl rfl rfl (z0b rfl zsr rfl (.cons (Wk.refl _) (.cons (Wk.refl _) .nil)) ⟨(ids_V x1), ⟨(z0m (a0.f_1)), trivial⟩⟩ (zov x1 (a0.f_1) x7 hx7) (z04 rfl (z04 rfl (z04 rfl z0r)))) ?_
   refine sMx ?_
   refine sS rfl rfl rfl (z0j rfl rfl rfl) ?_
   refine sS rfl rfl rfl (z0j rfl rfl rfl) ?_
   refine sS rfl rfl rfl (z0j rfl rfl rfl) ?_
   refine sAx ?_
   refine sAx ?_
   refine sAx (z00 ?_)
   refine cBx ?_
   refine z1n (ι := Unit) (fun i => zd5 a0 x1 x6 = some r) (fun i => [(5, (PV.rf 2 0)), (6, (PV.rf 3 0)), (7, (PV.rf 4 0)), (8, (ofV x1)), (18, (BO x6.1))]) (fun i => [.dead, .dead, .box 34 (z1r (a0.f_0)), .box 34 (z1r (a0.f_1)), .box 34 (z1r (a0.f_2))]) ?_ ?_ ?_
   ·intro i; exact ⟨lbE rfl, ⟨(il_rf rfl), ⟨(il_rf rfl), ⟨(il_rf rfl), ⟨(z01 (ids_V _)), ⟨(z01 rfl), trivial⟩⟩⟩⟩⟩, ⟨wfC34, ⟨wfC34, ⟨wfC34, trivial⟩⟩⟩⟩
   ·rintro ⟨⟩ h; replace h : zd5 a0 x1 x6 = some r := h; unfold zd5 at h
    change BW _ _ _ ⟨[(5, (PV.rf 2 0)), (6, (PV.rf 3 0)), (7, (PV.rf 4 0)), (8, (ofV x1)), (18, (BO x6.1))], [.dead, .dead, .box 34 (z1r (a0.f_0)), .box 34 (z1r (a0.f_1)), .box 34 (z1r (a0.f_2))], _⟩ _
    refine bR ?_
    refine sS rfl rfl rfl ((z12 z0t Try.underlying34 rfl rfl rfl rfl rfl rfl)) ?_
    refine sS rfl rfl rfl ((z12 z0t Try.underlying34 rfl rfl rfl rfl rfl rfl)) ?_
    obtain ⟨x8, hx8, h⟩ := obind h
    refine sS rfl rfl rfl (z0b rfl Z2c rfl (.cons (Wk.refl _) (.cons (Wk.refl _) .nil)) ⟨(z0m (a0.f_0)), ⟨(z0m (a0.f_1)), trivial⟩⟩ (Z0d (a0.f_0) (a0.f_1) x8 hx8) (z04 rfl (z04 rfl z0r))) ?_
    refine sMx ?_
    refine sS rfl rfl rfl (z0j rfl rfl rfl) ?_
    refine sS rfl rfl rfl (z0j rfl rfl rfl) ?_
    refine sAx ?_
    refine sAx (z00 ?_)
    refine cBx ?_
    refine bR ?_
    refine sS rfl rfl rfl ((z12 z0t Try.underlying34 rfl rfl rfl rfl rfl rfl)) ?_
    refine sS rfl rfl rfl ((z12 z0t Try.underlying34 rfl rfl rfl rfl rfl rfl)) ?_
    obtain ⟨x9, hx9, h⟩ := obind h
    refine sS rfl rfl rfl (z0b rfl Z2c rfl (.cons (Wk.refl _) (.cons (Wk.refl _) .nil)) ⟨(z0m (a0.f_1)), ⟨(z0m (a0.f_2)), trivial⟩⟩ (Z0d (a0.f_1) (a0.f_2) x9 hx9) (z04 rfl (z04 rfl z0r))) ?_
    refine sMx ?_
    refine sS rfl rfl rfl (z0j rfl rfl rfl) ?_
    refine sS rfl rfl rfl (z0j rfl rfl rfl) ?_
    refine sAx ?_
    refine sAx (z00 ?_)
    refine cBx ?_
    refine z0o ?_
    refine z1n (ι := Bool) (fun i => z7v a0 x1 i = some r) (fun i => [(7, (PV.rf 4 0)), (8, (ofV x1)), (147, (BO i))]) (fun i => [.dead, .dead, .dead, .dead, .box 34 (z1r (a0.f_2))]) ?_ ?_ ?_
    ·intro i; exact ⟨lbE rfl, ⟨(il_rf rfl), ⟨(z01 (ids_V _)), ⟨(z01 rfl), trivial⟩⟩⟩, ⟨wfC34, trivial⟩⟩
    ·rintro s10 h; replace h : z7v a0 x1 s10 = some r := h; unfold z7v at h
     change BW _ _ _ ⟨[(7, (PV.rf 4 0)), (8, (ofV x1)), (147, (BO s10))], [.dead, .dead, .dead, .dead, .box 34 (z1r (a0.f_2))], _⟩ _
     refine z05 rfl ?_ ?_
     ·intro hc11; replace h := z02 hc11 h
      refine bR ?_
      refine sMx ?_
      refine sS rfl rfl rfl ((z12 z0t Try.underlying34 rfl rfl rfl rfl rfl rfl)) ?_
      obtain ⟨x12, hx12, h⟩ := obind h
      refine sS rfl rfl rfl (z0b rfl zsr rfl (.cons (Wk.refl _) (.cons (Wk.refl _) .nil)) ⟨(ids_V x1), ⟨(z0m (a0.f_2)), trivial⟩⟩ (zov x1 (a0.f_2) x12 hx12) (z04 rfl (z04 rfl (z04 rfl z0r)))) ?_
      refine sMx ?_
      refine sS rfl rfl rfl (z0j rfl rfl rfl) ?_
      refine sS rfl rfl rfl (z0j rfl rfl rfl) ?_
      refine sS rfl rfl rfl (z0j rfl rfl rfl) ?_
      refine sAx ?_
      refine sAx ?_
      refine sAx (z00 ?_)
      refine cBx ?_
      refine bR ?_
      refine sMx ?_
      refine sMx ?_
      refine z16 (t := 156) rfl ?_ ?_
      ·intro hb13; replace h := z02 hb13 h
       refine z08 rfl rfl rfl rfl rfl rfl (z0k rfl rfl) ?_
       refine z08 rfl rfl rfl rfl rfl rfl ((z06 rfl rfl rfl rfl).cast (y := (BO ((x12.2.2 == 0)))) rfl rfl) ?_
       refine sS rfl rfl rfl (z0p rfl rfl rfl) ?_
       refine sAx (z00 ?_)
       refine cBx ?_
       refine z0a ?_
       change ∃ xs, _ = some xs ∧ EndOk _ _ _ _
       obtain rfl := Option.some.inj h
       exact ⟨_, rfl, z0d (y := (BO ((x12.2.2 == 0)))) (Wk.refl _) rfl ⟨rfl, rfl⟩⟩
      ·intro hb13; replace h := z03 hb13 h
       refine z0h rfl rfl rfl rfl rfl rfl ?_
       refine z0h rfl rfl rfl rfl rfl rfl ?_
       refine sS rfl rfl rfl (z0i rfl rfl rfl) ?_
       refine sAx (z00 ?_)
       refine cBx ?_
       refine z0a ?_
       change ∃ xs, _ = some xs ∧ EndOk _ _ _ _
       obtain rfl := Option.some.inj h
       exact ⟨_, rfl, z0d (y := (BO false)) (Wk.refl _) rfl ⟨rfl, rfl⟩⟩
     ·intro hc11; replace h := z03 hc11 h
      refine z0l ?_
      refine cBx ?_
      refine bR ?_
      refine sS rfl rfl rfl ((z1u Try.underlying4 rfl rfl rfl).wk ((Wk.iface (Wk.refl _)).trans (Wk.eq (zg6 _).symm))) ?_
      obtain ⟨x14, hx14, h⟩ := obind h
      refine sS rfl rfl rfl (z0b rfl Z2b rfl (.cons (Wk.refl _) .nil) ⟨(ids_V (V.bool true)), trivial⟩ (Z0p (V.bool true) x14 hx14) (z04 (z0m x14.1) (z04 rfl z0r))) ?_
      refine sMx ?_
      refine sS rfl rfl rfl (z0j rfl rfl rfl) ?_
      refine sS rfl rfl rfl (z0j rfl rfl rfl) ?_
      refine sS rfl rfl rfl (z1j z0t rfl) ?_
      refine z11 rfl rfl (z0v z0t rfl rfl rfl rfl rfl rfl (lbE rfl) rfl) ?_
      refine sAx (z00 ?_)
      refine cBx ?_
      refine bR ?_
      refine sMx ?_
      refine sS rfl rfl rfl ((z06 rfl rfl rfl rfl).cast (y := (BO ((x14.2 == 0)))) rfl rfl) ?_
      refine sMx ?_
      refine z16 (t := 167) rfl ?_ ?_
      ·intro hb15; replace h := z02 hb15 h
       refine z08 rfl rfl rfl rfl rfl rfl (z0e z1f (i := 0) rfl rfl rfl) ?_
       refine z08 rfl rfl rfl rfl rfl rfl ((z0n Try.underlying3 rfl rfl rfl rfl rfl)) ?_
       refine z08 rfl rfl rfl rfl rfl rfl ((z06 rfl rfl rfl rfl).cast (y := (BO (((x14.1).kind == 3)))) rfl rfl) ?_
       refine sS rfl rfl rfl (z0p rfl rfl rfl) ?_
       refine sMx ?_
       refine z16 (t := 172) rfl ?_ ?_
       ·intro hb16; replace h := z02 hb16 h
        refine z08 rfl rfl rfl rfl rfl rfl (z0e z1f (i := 1) rfl rfl rfl) ?_
        refine z08 rfl rfl rfl rfl rfl rfl ((z0n Try.underlying3 rfl rfl rfl rfl rfl)) ?_
        refine z08 rfl rfl rfl rfl rfl rfl ((z06 rfl rfl rfl rfl).cast (y := (BO (((x14.1).of == 2)))) rfl rfl) ?_
        refine sS rfl rfl rfl (z0p rfl rfl rfl) ?_
        refine sAx (z00 ?_)
        refine cBx ?_
        refine z0a ?_
        change ∃ xs, _ = some xs ∧ EndOk _ _ _ _
        obtain rfl := Option.some.inj h
        exact ⟨_, rfl, z0d (y := (BO (((x14.1).of == 2)))) (Wk.refl _) rfl ⟨rfl, rfl⟩⟩
       ·intro hb16; replace h := z03 hb16 h
        refine z0h rfl rfl rfl rfl rfl rfl ?_
        refine z0h rfl rfl rfl rfl rfl rfl ?_
        refine z0h rfl rfl rfl rfl rfl rfl ?_
        refine sS rfl rfl rfl (z0i rfl rfl rfl) ?_
        refine sAx (z00 ?_)
        refine cBx ?_
        refine z0a ?_
        change ∃ xs, _ = some xs ∧ EndOk _ _ _ _
        obtain rfl := Option.some.inj h
        exact ⟨_, rfl, z0d (y := (BO false)) (Wk.refl _) rfl ⟨rfl, rfl⟩⟩
      ·intro hb15; replace h := z03 hb15 h
       refine z0h rfl rfl rfl rfl rfl rfl ?_
       refine z0h rfl rfl rfl rfl rfl rfl ?_
       refine z0h rfl rfl rfl rfl rfl rfl ?_
       refine sS rfl rfl rfl (z0i rfl rfl rfl) ?_
       refine sMx ?_
       refine z0h rfl rfl rfl rfl rfl rfl ?_
       refine z0h rfl rfl rfl rfl rfl rfl ?_
       refine z0h rfl rfl rfl rfl rfl rfl ?_
       refine sS rfl rfl rfl (z0i rfl rfl rfl) ?_
       refine sAx (z00 ?_)
       refine cBx ?_
       refine z0a ?_
       change ∃ xs, _ = some xs ∧ EndOk _ _ _ _
       obtain rfl := Option.some.inj h
       exact ⟨_, rfl, z0d (y := (BO false)) (Wk.refl _) rfl ⟨rfl, rfl⟩⟩
    ·refine z0s ?_
     refine sMx ?_
     refine sS rfl rfl rfl ((z06 rfl rfl rfl rfl).cast (y := (BO ((x8.2 == 0)))) rfl rfl) ?_
     refine sMx ?_
     refine z16 (t := 135) rfl ?_ ?_
     ·intro hb17; replace h := z02 hb17 h
      refine z08 rfl rfl rfl rfl rfl rfl (z0k rfl rfl) ?_
      refine z08 rfl rfl rfl rfl rfl rfl ((z06 rfl rfl rfl rfl).cast (y := (BO ((x9.2 == 0)))) rfl rfl) ?_
      refine sS rfl rfl rfl (z0p rfl rfl rfl) ?_
      refine sMx ?_
      refine z16 (t := 139) rfl ?_ ?_
      ·intro hb18; replace h := z02 hb18 h
       refine z08 rfl rfl rfl rfl rfl rfl (z0k rfl rfl) ?_
       refine sS rfl rfl rfl (z0p rfl rfl rfl) ?_
       refine sMx ?_
       refine z16 (t := 142) rfl ?_ ?_
       ·intro hb19; replace h := z02 hb19 h
        refine z08 rfl rfl rfl rfl rfl rfl (z0k rfl rfl) ?_
        refine sS rfl rfl rfl (z0p rfl rfl rfl) ?_
        refine sMx ?_
        refine z16 (t := 145) rfl ?_ ?_
        ·intro hb20; replace h := z02 hb20 h
         refine z08 rfl rfl rfl rfl rfl rfl (z0k rfl rfl) ?_
         refine sS rfl rfl rfl (z0p rfl rfl rfl) (z00 ?_)
         exact ⟨rfl, x6.1, h, ⟨(.cons .dead (.cons .dead (.cons .dead (.cons .dead (.cons .same .nil))))), (sC rfl (sC rfl (sC rfl z09)))⟩⟩
        ·intro hb20; replace h := z03 hb20 h
         refine z0h rfl rfl rfl rfl rfl rfl ?_
         refine sS rfl rfl rfl (z0i rfl rfl rfl) (z00 ?_)
         exact ⟨rfl, false, h, ⟨(.cons .dead (.cons .dead (.cons .dead (.cons .dead (.cons .same .nil))))), (sC rfl (sC rfl (sC rfl z09)))⟩⟩
       ·intro hb19; replace h := z03 hb19 h
        refine z0h rfl rfl rfl rfl rfl rfl ?_
        refine sS rfl rfl rfl (z0i rfl rfl rfl) ?_
        refine sMx ?_
        refine z0h rfl rfl rfl rfl rfl rfl ?_
        refine sS rfl rfl rfl (z0i rfl rfl rfl) (z00 ?_)
        exact ⟨rfl, false, h, ⟨(.cons .dead (.cons .dead (.cons .dead (.cons .dead (.cons .same .nil))))), (sC rfl (sC rfl (sC rfl z09)))⟩⟩
      ·intro hb18; replace h := z03 hb18 h
       refine z0h rfl rfl rfl rfl rfl rfl ?_
       refine sS rfl rfl rfl (z0i rfl rfl rfl) ?_
       refine sMx ?_
       refine z0h rfl rfl rfl rfl rfl rfl ?_
       refine sS rfl rfl rfl (z0i rfl rfl rfl) ?_
       refine sMx ?_
       refine z0h rfl rfl rfl rfl rfl rfl ?_
       refine sS rfl rfl rfl (z0i rfl rfl rfl) (z00 ?_)
       exact ⟨rfl, false, h, ⟨(.cons .dead (.cons .dead (.cons .dead (.cons .dead (.cons .same .nil))))), (sC rfl (sC rfl (sC rfl z09)))⟩⟩
     ·intro hb17; replace h := z03 hb17 h
      refine z0h rfl rfl rfl rfl rfl rfl ?_
      refine z0h rfl rfl rfl rfl rfl rfl ?_
      refine sS rfl rfl rfl (z0i rfl rfl rfl) ?_
      refine sMx ?_
      refine z0h rfl rfl rfl rfl rfl rfl ?_
      refine sS rfl rfl rfl (z0i rfl rfl rfl) ?_
      refine sMx ?_
      refine z0h rfl rfl rfl rfl rfl rfl ?_
      refine sS rfl rfl rfl (z0i rfl rfl rfl) ?_
      refine sMx ?_
      refine z0h rfl rfl rfl rfl rfl rfl ?_
      refine sS rfl rfl rfl (z0i rfl rfl rfl) (z00 ?_)
      exact ⟨rfl, false, h, ⟨(.cons .dead (.cons .dead (.cons .dead (.cons .dead (.cons .same .nil))))), (sC rfl (sC rfl (sC rfl z09)))⟩⟩
   ·refine z1n (ι := Bool) (fun i => z7u a0 x1 x5 x6 i = some r) (fun i => [(5, (PV.rf 2 0)), (6, (PV.rf 3 0)), (7, (PV.rf 4 0)), (8, (ofV x1)), (16, (PV.rf 5 0)), (18, (BO x6.1)), (107, (BO i))]) (fun i => [.dead, .dead, .box 34 (z1r (a0.f_0)), .box 34 (z1r (a0.f_1)), .box 34 (z1r (a0.f_2)), .box 34 (z1r (x5.1))]) ?_ ?_ ?_
    ·intro i; exact ⟨lbE rfl, ⟨(il_rf rfl), ⟨(il_rf rfl), ⟨(il_rf rfl), ⟨(z01 (ids_V _)), ⟨(il_rf rfl), ⟨(z01 rfl), ⟨(z01 rfl), trivial⟩⟩⟩⟩⟩⟩⟩, ⟨wfC34, ⟨wfC34, ⟨wfC34, ⟨wfC34, trivial⟩⟩⟩⟩⟩
    ·rintro s21 h; replace h : z7u a0 x1 x5 x6 s21 = some r := h; unfold z7u at h
     change BW _ _ _ ⟨[(5, (PV.rf 2 0)), (6, (PV.rf 3 0)), (7, (PV.rf 4 0)), (8, (ofV x1)), (16, (PV.rf 5 0)), (18, (BO x6.1)), (107, (BO s21))], [.dead, .dead, .box 34 (z1r (a0.f_0)), .box 34 (z1r (a0.f_1)), .box 34 (z1r (a0.f_2)), .box 34 (z1r (x5.1))], _⟩ _
     refine z05 rfl ?_ ?_
     ·intro hc22; replace h := z02 hc22 h
      refine bR ?_
      refine sMx ?_
      refine sS rfl rfl rfl ((z12 z0t Try.underlying34 rfl rfl rfl rfl rfl rfl)) ?_
      obtain ⟨x23, hx23, h⟩ := obind h
      refine sS rfl rfl rfl (z0b rfl zsr rfl (.cons (Wk.refl _) (.cons (Wk.refl _) .nil)) ⟨(ids_V x1), ⟨(z0m (x5.1)), trivial⟩⟩ (zov x1 (x5.1) x23 hx23) (z04 rfl (z04 rfl (z04 rfl z0r)))) ?_
      refine sMx ?_
      refine sS rfl rfl rfl (z0j rfl rfl rfl) ?_
      refine sS rfl rfl rfl (z0j rfl rfl rfl) ?_
      refine sS rfl rfl rfl (z0j rfl rfl rfl) ?_
      refine sAx ?_
      refine sAx ?_
      refine sAx (z00 ?_)
      refine cBx ?_
      refine z1n (ι := Bool) (fun i => zhs a0 x1 x6 i = some r) (fun i => [(5, (PV.rf 2 0)), (6, (PV.rf 3 0)), (7, (PV.rf 4 0)), (8, (ofV x1)), (18, (BO x6.1)), (120, (BO i))]) (fun i => [.dead, .dead, .box 34 (z1r (a0.f_0)), .box 34 (z1r (a0.f_1)), .box 34 (z1r (a0.f_2))]) ?_ ?_ ?_
      ·intro i; exact ⟨lbE rfl, ⟨(il_rf rfl), ⟨(il_rf rfl), ⟨(il_rf rfl), ⟨(z01 (ids_V _)), ⟨(z01 rfl), ⟨(z01 rfl), trivial⟩⟩⟩⟩⟩⟩, ⟨wfC34, ⟨wfC34, ⟨wfC34, trivial⟩⟩⟩⟩
      ·rintro s24 h; replace h : zhs a0 x1 x6 s24 = some r := h; unfold zhs at h
       change BW _ _ _ ⟨[(5, (PV.rf 2 0)), (6, (PV.rf 3 0)), (7, (PV.rf 4 0)), (8, (ofV x1)), (18, (BO x6.1)), (120, (BO s24))], [.dead, .dead, .box 34 (z1r (a0.f_0)), .box 34 (z1r (a0.f_1)), .box 34 (z1r (a0.f_2))], _⟩ _
       refine z05 rfl ?_ ?_
       ·intro hc25; replace h := z02 hc25 h
        refine bR ?_
        refine sAx (z00 ?_)
        refine cBx ?_
        refine z0a ?_
        change ∃ xs, _ = some xs ∧ EndOk _ _ _ _
        obtain rfl := Option.some.inj h
        exact ⟨_, rfl, z0d (y := (BO false)) (Wk.refl _) rfl ⟨rfl, rfl⟩⟩
       ·intro hc25; replace h := z03 hc25 h
        refine z0l ?_
        exact ⟨rfl, (), h, ⟨(.cons .dead (.cons .dead (.cons .same (.cons .same (.cons .same .nil))))), (sC rfl (sC rfl (sC rfl (sC rfl (sC rfl z09)))))⟩⟩
      ·refine z0s ?_
       refine sMx ?_
       refine sS rfl rfl rfl (z2a rfl rfl) ?_
       refine sMx ?_
       refine z16 (t := 117) rfl ?_ ?_
       ·intro hb26; replace h := z02 hb26 h
        refine z0h rfl rfl rfl rfl rfl rfl ?_
        refine z0h rfl rfl rfl rfl rfl rfl ?_
        refine sS rfl rfl rfl (z0p rfl rfl rfl) (z00 ?_)
        exact ⟨rfl, true, h, ⟨(.cons .dead (.cons .dead (.cons .same (.cons .same (.cons .same .nil))))), (sC rfl (sC rfl (sC rfl (sC rfl (sC rfl (sC rfl z09))))))⟩⟩
       ·intro hb26; replace h := z03 hb26 h
        refine z08 rfl rfl rfl rfl rfl rfl (z0k rfl rfl) ?_
        refine z08 rfl rfl rfl rfl rfl rfl ((z06 rfl rfl rfl rfl).cast (y := (BO ((x23.2.2 != 0)))) rfl rfl) ?_
        refine sS rfl rfl rfl (z0i rfl rfl rfl) (z00 ?_)
        exact ⟨rfl, (x23.2.2 != 0), h, ⟨(.cons .dead (.cons .dead (.cons .same (.cons .same (.cons .same .nil))))), (sC rfl (sC rfl (sC rfl (sC rfl (sC rfl (sC rfl z09))))))⟩⟩
     ·intro hc22; replace h := z03 hc22 h
      refine z0l ?_
      exact ⟨rfl, (), h, ⟨(.cons .dead (.cons .dead (.cons .same (.cons .same (.cons .same .nil))))), (sC rfl (sC rfl (sC rfl (sC rfl (sC rfl z09)))))⟩⟩
    ·refine z0s ?_
     refine sMx ?_
     refine sS rfl rfl rfl ((z06 rfl rfl rfl rfl).cast (y := (BO ((x5.2 == 0)))) rfl rfl) ?_
     refine sMx ?_
     refine z16 (t := 94) rfl ?_ ?_
     ·intro hb27; replace h := z02 hb27 h
      refine z08 rfl rfl rfl rfl rfl rfl (z0k rfl rfl) ?_
      refine z08 rfl rfl rfl rfl rfl rfl ((z06 rfl rfl rfl rfl).cast (y := (BO ((x6.2.2 == 0)))) rfl rfl) ?_
      refine sS rfl rfl rfl (z0p rfl rfl rfl) ?_
      refine sMx ?_
      refine z16 (t := 98) rfl ?_ ?_
      ·intro hb28; replace h := z02 hb28 h
       refine z08 rfl rfl rfl rfl rfl rfl (z0k rfl rfl) ?_
       refine z08 rfl rfl rfl rfl rfl rfl ((z06 rfl rfl rfl rfl).cast (y := (BO ((x7.2.2 == 0)))) rfl rfl) ?_
       refine sS rfl rfl rfl (z0p rfl rfl rfl) ?_
       refine sMx ?_
       refine z16 (t := 102) rfl ?_ ?_
       ·intro hb29; replace h := z02 hb29 h
        refine z08 rfl rfl rfl rfl rfl rfl (z0k rfl rfl) ?_
        refine z08 rfl rfl rfl rfl rfl rfl (z0k rfl rfl) ?_
        refine z16 (t := 104) rfl ?_ ?_
        ·intro hb30; replace h := z02 hb30 h
         refine z0h rfl rfl rfl rfl rfl rfl ?_
         refine z08 rfl rfl rfl rfl rfl rfl (z0p rfl rfl rfl) ?_
         refine sS rfl rfl rfl (z0p rfl rfl rfl) (z00 ?_)
         exact ⟨rfl, true, h, ⟨(.cons .dead (.cons .dead (.cons .same (.cons .same (.cons .same (.cons .same .nil)))))), (sC rfl (sC rfl (sC rfl (sC rfl (sC rfl (sC rfl (sC rfl z09)))))))⟩⟩
        ·intro hb30; replace h := z03 hb30 h
         refine z08 rfl rfl rfl rfl rfl rfl (z0k rfl rfl) ?_
         refine z08 rfl rfl rfl rfl rfl rfl (z0i rfl rfl rfl) ?_
         refine sS rfl rfl rfl (z0p rfl rfl rfl) (z00 ?_)
         exact ⟨rfl, x7.1, h, ⟨(.cons .dead (.cons .dead (.cons .same (.cons .same (.cons .same (.cons .same .nil)))))), (sC rfl (sC rfl (sC rfl (sC rfl (sC rfl (sC rfl (sC rfl z09)))))))⟩⟩
       ·intro hb29; replace h := z03 hb29 h
        refine z0h rfl rfl rfl rfl rfl rfl ?_
        refine z0h rfl rfl rfl rfl rfl rfl ?_
        refine z0h rfl rfl rfl rfl rfl rfl ?_
        refine z0h rfl rfl rfl rfl rfl rfl ?_
        refine sS rfl rfl rfl (z0i rfl rfl rfl) (z00 ?_)
        exact ⟨rfl, false, h, ⟨(.cons .dead (.cons .dead (.cons .same (.cons .same (.cons .same (.cons .same .nil)))))), (sC rfl (sC rfl (sC rfl (sC rfl (sC rfl (sC rfl (sC rfl z09)))))))⟩⟩
      ·intro hb28; replace h := z03 hb28 h
       refine z0h rfl rfl rfl rfl rfl rfl ?_
       refine z0h rfl rfl rfl rfl rfl rfl ?_
       refine sS rfl rfl rfl (z0i rfl rfl rfl) ?_
       refine sMx ?_
       refine z0h rfl rfl rfl rfl rfl rfl ?_
       refine z0h rfl rfl rfl rfl rfl rfl ?_
       refine z0h rfl rfl rfl rfl rfl rfl ?_
       refine z0h rfl rfl rfl rfl rfl rfl ?_
       refine sS rfl rfl rfl (z0i rfl rfl rfl) (z00 ?_)
       exact ⟨rfl, false, h, ⟨(.cons .dead (.cons .dead (.cons .same (.cons .same (.cons .same (.cons .same .nil)))))), (sC rfl (sC rfl (sC rfl (sC rfl (sC rfl (sC rfl (sC rfl z09)))))))⟩⟩
     ·intro hb27; replace h := z03 hb27 h
      refine z0h rfl rfl rfl rfl rfl rfl ?_
      refine z0h rfl rfl rfl rfl rfl rfl ?_
      refine sS rfl rfl rfl (z0i rfl rfl rfl) ?_
      refine sMx ?_
      refine z0h rfl rfl rfl rfl rfl rfl ?_
      refine z0h rfl rfl rfl rfl rfl rfl ?_
      refine sS rfl rfl rfl (z0i rfl rfl rfl) ?_
      refine sMx ?_
      refine z0h rfl rfl rfl rfl rfl rfl ?_
      refine z0h rfl rfl rfl rfl rfl rfl ?_
      refine z0h rfl rfl rfl rfl rfl rfl ?_
      refine z0h rfl rfl rfl rfl rfl rfl ?_
      refine sS rfl rfl rfl (z0i rfl rfl rfl) (z00 ?_)
      exact ⟨rfl, false, h, ⟨(.cons .dead (.cons .dead (.cons .same (.cons .same (.cons .same (.cons .same .nil)))))), (sC rfl (sC rfl (sC rfl (sC rfl (sC rfl (sC rfl (sC rfl z09)))))))⟩⟩
  ·refine bR ?_
   refine sMx ?_
   refine sS rfl rfl rfl ((z06 rfl rfl rfl rfl).cast (y := (BO ((x2.2 == 0)))) rfl rfl) (z00 ?_)
   refine cBx ?_
   refine z05 rfl ?_ ?_
   ·intro hc31; replace h := z02 hc31 h
    refine bR ?_
    refine sMx ?_
    refine sS rfl rfl rfl ((z12 z0t Try.underlying34 rfl rfl rfl rfl rfl rfl)) ?_
    obtain ⟨x32, hx32, h⟩ := obind h
    refine sS rfl rfl rfl (z0b rfl zsr rfl (.cons (Wk.refl _) (.cons (Wk.refl _) .nil)) ⟨(ids_V x1), ⟨(z0m (x2.1)), trivial⟩⟩ (zov x1 (x2.1) x32 hx32) (z04 rfl (z04 rfl (z04 rfl z0r)))) ?_
    refine sMx ?_
    refine sS rfl rfl rfl (z0j rfl rfl rfl) ?_
    refine sS rfl rfl rfl (z0j rfl rfl rfl) ?_
    refine sS rfl rfl rfl (z0j rfl rfl rfl) ?_
    refine sAx ?_
    refine sAx ?_
    refine sAx (z00 ?_)
    refine cBx ?_
    refine z1n (ι := Bool) (fun i => zhr a0 x1 i = some r) (fun i => [(5, (PV.rf 2 0)), (6, (PV.rf 3 0)), (7, (PV.rf 4 0)), (8, (ofV x1)), (71, (BO i))]) (fun i => [.dead, .dead, .box 34 (z1r (a0.f_0)), .box 34 (z1r (a0.f_1)), .box 34 (z1r (a0.f_2))]) ?_ ?_ ?_
    ·intro i; exact ⟨lbE rfl, ⟨(il_rf rfl), ⟨(il_rf rfl), ⟨(il_rf rfl), ⟨(z01 (ids_V _)), ⟨(z01 rfl), trivial⟩⟩⟩⟩⟩, ⟨wfC34, ⟨wfC34, ⟨wfC34, trivial⟩⟩⟩⟩
    ·rintro s33 h; replace h : zhr a0 x1 s33 = some r := h; unfold zhr at h
     change BW _ _ _ ⟨[(5, (PV.rf 2 0)), (6, (PV.rf 3 0)), (7, (PV.rf 4 0)), (8, (ofV x1)), (71, (BO s33))], [.dead, .dead, .box 34 (z1r (a0.f_0)), .box 34 (z1r (a0.f_1)), .box 34 (z1r (a0.f_2))], _⟩ _
     refine z05 rfl ?_ ?_
     ·intro hc34; replace h := z02 hc34 h
      refine bR ?_
      refine sAx (z00 ?_)
      refine cBx ?_
      refine z0a ?_
      change ∃ xs, _ = some xs ∧ EndOk _ _ _ _
      obtain rfl := Option.some.inj h
      exact ⟨_, rfl, z0d (y := (BO false)) (Wk.refl _) rfl ⟨rfl, rfl⟩⟩
     ·intro hc34; replace h := z03 hc34 h
      refine z0l ?_
      exact ⟨rfl, (), h, ⟨(.cons .dead (.cons .dead (.cons .same (.cons .same (.cons .same .nil))))), (sC rfl (sC rfl (sC rfl (sC rfl z09))))⟩⟩
    ·refine z0s ?_
     refine sMx ?_
     refine sS rfl rfl rfl (z2a rfl rfl) ?_
     refine sMx ?_
     refine z16 (t := 68) rfl ?_ ?_
     ·intro hb35; replace h := z02 hb35 h
      refine z0h rfl rfl rfl rfl rfl rfl ?_
      refine z0h rfl rfl rfl rfl rfl rfl ?_
      refine sS rfl rfl rfl (z0p rfl rfl rfl) (z00 ?_)
      exact ⟨rfl, true, h, ⟨(.cons .dead (.cons .dead (.cons .same (.cons .same (.cons .same .nil))))), (sC rfl (sC rfl (sC rfl (sC rfl (sC rfl z09)))))⟩⟩
     ·intro hb35; replace h := z03 hb35 h
      refine z08 rfl rfl rfl rfl rfl rfl (z0k rfl rfl) ?_
      refine z08 rfl rfl rfl rfl rfl rfl ((z06 rfl rfl rfl rfl).cast (y := (BO ((x32.2.2 != 0)))) rfl rfl) ?_
      refine sS rfl rfl rfl (z0i rfl rfl rfl) (z00 ?_)
      exact ⟨rfl, (x32.2.2 != 0), h, ⟨(.cons .dead (.cons .dead (.cons .same (.cons .same (.cons .same .nil))))), (sC rfl (sC rfl (sC rfl (sC rfl (sC rfl z09)))))⟩⟩
   ·intro hc31; replace h := z03 hc31 h
    refine z0l ?_
    exact ⟨rfl, (), h, ⟨(.cons .dead (.cons .dead (.cons .same (.cons .same (.cons .same .nil))))), (sC rfl (sC rfl (sC rfl (sC rfl z09))))⟩⟩
end Go.Proofs.Ytiapdjdhaclmnaa
