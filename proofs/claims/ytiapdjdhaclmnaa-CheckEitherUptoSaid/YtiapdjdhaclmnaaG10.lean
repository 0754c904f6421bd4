/- Pure functions, and that calls answer as they say. Written by gen.py. -/
import Derived.Test.YtiapdjdhaclmnaaG9
namespace Go.Proofs.Ytiapdjdhaclmnaa
open Go Aw
set_option linter.unusedVariables false
set_option linter.unusedSimpArgs false
set_option maxRecDepth 20000
set_option maxHeartbeats 2000000
variable {ι : Type} {ρ : ι → Type}
noncomputable def zqs (a0 : Term) : Option (Int × Int) :=
 Option.bind (zi7 (S_ref01_seen.mk 0 0 0 0) a0 1) fun x1 =>
 some (x1.f_at, x1.f_why)
theorem Z3m (a0 : Term) (r : (Int × Int)) (h : zqs a0 = some r) : z0g Try.prog 27 [(z1o a0)] (PV.tup [(I64 r.1), (I64 r.2)]) := by
 unfold zqs at h
 refine z0w Try.func27 rfl Try.ntmps27 Try.results27 rfl (z10 ?_)
 change BW _ _ _ ⟨[(0, (z1o a0))], [], _⟩ _
 refine bR ?_
 refine sS rfl rfl rfl (z1x rfl rfl rfl) ?_
 refine sAx ?_
 refine sAx (z00 ?_)
 refine cBx ?_
 refine bR ?_
 refine sS rfl rfl rfl (z1w (cs := [(I64 0), (I64 0), (I64 0), (I64 0)]) zby z7k rfl rfl rfl rfl) ?_
 refine sS rfl rfl rfl ((z12 z2g Try.underlying29 rfl rfl rfl rfl rfl rfl)) ?_
 obtain ⟨x1, hx1, h⟩ := obind h
 refine sS rfl rfl rfl (z0b rfl Z28 rfl (.cons (Wk.refl _) (.cons (Wk.refl _) (.cons (Wk.refl _) .nil))) ⟨(z2p (S_ref01_seen.mk 0 0 0 0)), ⟨(z20 a0), ⟨rfl, trivial⟩⟩⟩ (Z3x (S_ref01_seen.mk 0 0 0 0) a0 1 x1 hx1) (z2p x1)) ?_
 refine sS rfl rfl rfl (z1j z7k rfl) ?_
 refine z11 rfl rfl (z0v z7k rfl rfl rfl rfl rfl rfl (lbE rfl) rfl) ?_
 refine z00 ?_
 refine cBx ?_
 refine z0o (z2e 5 [] [1] mo (by kernel_rfl) ?_)
 refine z0y rfl rfl rfl rfl (fun H hp => z0e zby (i := 2) rfl rfl rfl) ?_
 refine z0y rfl rfl rfl rfl (fun H hp => (z0n Try.underlying3 rfl rfl rfl (hp.at rfl rfl) rfl)) ?_
 refine z0y rfl rfl rfl rfl (fun H hp => z0e zby (i := 3) rfl rfl rfl) ?_
 refine z0y rfl rfl rfl rfl (fun H hp => (z0n Try.underlying39 rfl rfl rfl (hp.at rfl rfl) rfl)) ?_
 refine z0y rfl rfl rfl rfl (fun H hp => z4h rfl rfl) ?_
 refine z2b ?_
 change AO _ _ _ _ _
 refine sAx (z00 ?_)
 refine cBx ?_
 refine z0a ?_
 change ∃ xs, _ = some xs ∧ EndOk _ _ _ _
 obtain rfl := Option.some.inj h
 exact ⟨_, rfl, z0d (y := (PV.tup [(I64 x1.f_at), (I64 x1.f_why)])) (Wk.refl _) (z04 rfl (z04 rfl z0r)) ⟨rfl, rfl⟩⟩
noncomputable def zew (a0 : Typ) (a1 : Typ) (s1 : Bool) : Option (Typ × Int) :=
 bif s1 then (
  some ((Typ.mk 0 0 (Term.mk 0 false 0 0 [] [] 0 [] [] [] 0) [] [] [] false []), 70)
 ) else (
  Option.bind (znr a0 a1) fun x3 =>
  bif (!x3.2) then (
   some ((Typ.mk 0 0 (Term.mk 0 false 0 0 [] [] 0 [] [] [] 0) [] [] [] false []), 70)
  ) else (
   Option.bind (z8t (x3.1)) fun x5 =>
   some (x5, 0)
  )
 )
noncomputable def zqw (a0 : Typ) (a1 : Typ) : Option (Typ × Int) :=
 Option.bind (zde a0) fun x6 =>
 bif (!x6) then (
  zew a0 a1 true
 ) else (
  Option.bind (zde a1) fun x8 =>
  zew a0 a1 (!x8)
 )
theorem Z3t (a0 : Typ) (a1 : Typ) (r : (Typ × Int)) (h : zqw a0 a1 = some r) : z0g Try.prog 20 [(z07 a0), (z07 a1)] (PV.tup [(z07 r.1), (I64 r.2)]) := by
 unfold zqw at h
 refine z0w Try.func20 rfl Try.ntmps20 Try.results20 rfl (z10 ?_)
 change BW _ _ _ ⟨[(0, (z07 a0)), (1, (z07 a1))], [], _⟩ _
 refine bR ?_
 refine sS rfl rfl rfl (z1x rfl rfl rfl) ?_
 refine sS rfl rfl rfl (z1x rfl rfl rfl) ?_
 refine sS rfl rfl rfl (z1j z0t rfl) ?_
 refine sAx (z00 ?_)
 refine cBx ?_
 refine z0o ?_
 refine z1n (ι := Bool) (fun i => zew a0 a1 i = some r) (fun i => [(2, (PV.rf 0 0)), (3, (PV.rf 1 0)), (4, (PV.rf 2 0)), (15, (BO i))]) (fun i => [.box 34 (z1r a0), .box 34 (z1r a1), .box 34 z5d]) ?_ ?_ ?_
 ·intro i; exact ⟨lbE rfl, ⟨(il_rf rfl), ⟨(il_rf rfl), ⟨(il_rf rfl), ⟨(z01 rfl), trivial⟩⟩⟩⟩, ⟨wfC34, ⟨wfC34, ⟨⟨(z01 rfl), ⟨(z01 rfl), ⟨(z01 rfl), ⟨(z01 rfl), ⟨(z01 rfl), ⟨(z01 rfl), ⟨(z01 rfl), ⟨(z01 rfl), ⟨(z01 rfl), ⟨(z01 rfl), ⟨(z01 rfl), ⟨(z01 rfl), ⟨(z01 rfl), ⟨(z01 rfl), ⟨(z01 rfl), ⟨(z01 rfl), ⟨(z01 rfl), ⟨(z01 rfl), trivial⟩⟩⟩⟩⟩⟩⟩⟩⟩⟩⟩⟩⟩⟩⟩⟩⟩⟩, trivial⟩⟩⟩⟩
 ·rintro s1 h; replace h : zew a0 a1 s1 = some r := h; unfold zew at h
  change BW _ _ _ ⟨[(2, (PV.rf 0 0)), (3, (PV.rf 1 0)), (4, (PV.rf 2 0)), (15, (BO s1))], [.box 34 (z1r a0), .box 34 (z1r a1), .box 34 z5d], _⟩ _
  refine z05 rfl ?_ ?_
  ·intro hc2; replace h := z02 hc2 h
   refine bR ?_
   refine sS rfl rfl rfl (z1w (cs := [(I64 0), (I64 0), (I64 0), (BO false), (I64 0), (PV.v (.float .f64 0)), (z0f []), (PV.v (.slice none 0 0)), (PV.v (.int .u64 0)), (PV.v (.slice none 0 0)), (PV.v (.slice none 0 0)), (z0f []), (I64 0), (PV.v (.slice none 0 0)), (PV.v (.slice none 0 0)), (PV.v (.slice none 0 0)), (BO false), (z0f [])]) z1f z0t rfl rfl rfl rfl) ?_
   refine z11 rfl rfl (z0v z0t rfl rfl rfl rfl rfl rfl (lbE rfl) rfl) ?_
   refine sAx (z00 ?_)
   refine cBx ?_
   refine z0a ?_
   change ∃ xs, _ = some xs ∧ EndOk _ _ _ _
   obtain rfl := Option.some.inj h
   exact ⟨_, rfl, z0d (y := (PV.tup [(z07 (Typ.mk 0 0 (Term.mk 0 false 0 0 [] [] 0 [] [] [] 0) [] [] [] false [])), (I64 70)])) (Wk.tup (.cons (Wk.agg (.cons (Wk.refl _) (.cons (Wk.refl _) (.cons (Wk.refl _) (.cons (Wk.refl _) (.cons (Wk.refl _) (.cons (Wk.refl _) (.cons (Wk.refl _) (.cons Wk.nil (.cons (Wk.refl _) (.cons Wk.nil (.cons Wk.nil (.cons (Wk.refl _) (.cons (Wk.refl _) (.cons Wk.nil (.cons Wk.nil (.cons Wk.nil (.cons (Wk.refl _) (.cons (Wk.refl _) .nil))))))))))))))))))) (.cons (Wk.refl _) .nil))) (z04 (z0m (Typ.mk 0 0 (Term.mk 0 false 0 0 [] [] 0 [] [] [] 0) [] [] [] false [])) (z04 rfl z0r)) ⟨rfl, rfl⟩⟩
  ·intro hc2; replace h := z03 hc2 h
   refine z0l ?_
   refine cBx ?_
   refine bR ?_
   refine sS rfl rfl rfl ((z12 z0t Try.underlying34 rfl rfl rfl rfl rfl rfl)) ?_
   refine sS rfl rfl rfl ((z12 z0t Try.underlying34 rfl rfl rfl rfl rfl rfl)) ?_
   obtain ⟨x3, hx3, h⟩ := obind h
   refine sS rfl rfl rfl (z0b rfl Z29 rfl (.cons (Wk.refl _) (.cons (Wk.refl _) .nil)) ⟨(z0m a0), ⟨(z0m a1), trivial⟩⟩ (Z0o a0 a1 x3 hx3) (z04 (z0m x3.1) (z04 rfl z0r))) ?_
   refine sMx ?_
   refine sS rfl rfl rfl (z0j rfl rfl rfl) ?_
   refine sS rfl rfl rfl (z0j rfl rfl rfl) ?_
   refine sS rfl rfl rfl (z1j z0t rfl) ?_
   refine z11 rfl rfl (z0v z0t rfl rfl rfl rfl rfl rfl (lbE rfl) rfl) ?_
   refine sAx (z00 ?_)
   refine cBx ?_
   refine z0o ?_
   refine bR ?_
   refine sMx ?_
   refine sS rfl rfl rfl (z2a rfl rfl) (z00 ?_)
   refine cBx ?_
   refine z05 rfl ?_ ?_
   ·intro hc4; replace h := z02 hc4 h
    refine bR ?_
    refine sS rfl rfl rfl (z1w (cs := [(I64 0), (I64 0), (I64 0), (BO false), (I64 0), (PV.v (.float .f64 0)), (z0f []), (PV.v (.slice none 0 0)), (PV.v (.int .u64 0)), (PV.v (.slice none 0 0)), (PV.v (.slice none 0 0)), (z0f []), (I64 0), (PV.v (.slice none 0 0)), (PV.v (.slice none 0 0)), (PV.v (.slice none 0 0)), (BO false), (z0f [])]) z1f z0t rfl rfl rfl rfl) ?_
    refine z11 rfl rfl (z0v z0t rfl rfl rfl rfl rfl rfl (lbE rfl) rfl) ?_
    refine sAx (z00 ?_)
    refine cBx ?_
    refine z0a ?_
    change ∃ xs, _ = some xs ∧ EndOk _ _ _ _
    obtain rfl := Option.some.inj h
    exact ⟨_, rfl, z0d (y := (PV.tup [(z07 (Typ.mk 0 0 (Term.mk 0 false 0 0 [] [] 0 [] [] [] 0) [] [] [] false [])), (I64 70)])) (Wk.tup (.cons (Wk.agg (.cons (Wk.refl _) (.cons (Wk.refl _) (.cons (Wk.refl _) (.cons (Wk.refl _) (.cons (Wk.refl _) (.cons (Wk.refl _) (.cons (Wk.refl _) (.cons Wk.nil (.cons (Wk.refl _) (.cons Wk.nil (.cons Wk.nil (.cons (Wk.refl _) (.cons (Wk.refl _) (.cons Wk.nil (.cons Wk.nil (.cons Wk.nil (.cons (Wk.refl _) (.cons (Wk.refl _) .nil))))))))))))))))))) (.cons (Wk.refl _) .nil))) (z04 (z0m (Typ.mk 0 0 (Term.mk 0 false 0 0 [] [] 0 [] [] [] 0) [] [] [] false [])) (z04 rfl z0r)) ⟨rfl, rfl⟩⟩
   ·intro hc4; replace h := z03 hc4 h
    refine z0l ?_
    refine cBx ?_
    refine bR ?_
    refine sS rfl rfl rfl ((z12 z0t Try.underlying34 rfl rfl rfl rfl rfl rfl)) ?_
    obtain ⟨x5, hx5, h⟩ := obind h
    refine sS rfl rfl rfl (z0b rfl zzi rfl (.cons (Wk.refl _) .nil) ⟨(z0m (x3.1)), trivial⟩ (Z0n (x3.1) x5 hx5) (z0m x5)) ?_
    refine z11 rfl rfl (z0v z0t rfl rfl rfl rfl rfl rfl (lbE rfl) rfl) ?_
    refine sAx (z00 ?_)
    refine cBx ?_
    refine z0a ?_
    change ∃ xs, _ = some xs ∧ EndOk _ _ _ _
    obtain rfl := Option.some.inj h
    exact ⟨_, rfl, z0d (y := (PV.tup [(z07 x5), (I64 0)])) (Wk.refl _) (z04 (z0m x5) (z04 rfl z0r)) ⟨rfl, rfl⟩⟩
 ·refine z0s ?_
  refine sS rfl rfl rfl ((z12 z0t Try.underlying34 rfl rfl rfl rfl rfl rfl)) ?_
  obtain ⟨x6, hx6, h⟩ := obind h
  refine sS rfl rfl rfl (z0b rfl zkb rfl (.cons (Wk.refl _) .nil) ⟨(z0m a0), trivial⟩ (zji a0 x6 hx6) rfl) ?_
  refine sS rfl rfl rfl (z2a rfl rfl) ?_
  refine sMx ?_
  refine z16 (t := 11) rfl ?_ ?_
  ·intro hb7; replace h := z02 hb7 h
   refine z0h rfl rfl rfl rfl rfl rfl ?_
   refine z0h rfl rfl rfl rfl rfl rfl ?_
   refine z0h rfl rfl rfl rfl rfl rfl ?_
   refine sS rfl rfl rfl (z0p rfl rfl rfl) (z00 ?_)
   exact ⟨rfl, true, h, ⟨(.cons .same (.cons .same (.cons .same .nil))), (sC rfl (sC rfl (sC rfl (sC rfl z09))))⟩⟩
  ·intro hb7; replace h := z03 hb7 h
   refine z08 rfl rfl rfl rfl rfl rfl ((z12 z0t Try.underlying34 rfl rfl rfl rfl rfl rfl)) ?_
   obtain ⟨x8, hx8, h⟩ := obind h
   refine z08 rfl rfl rfl rfl rfl rfl (z0b rfl zkb rfl (.cons (Wk.refl _) .nil) ⟨(z0m a1), trivial⟩ (zji a1 x8 hx8) rfl) ?_
   refine z08 rfl rfl rfl rfl rfl rfl (z2a rfl rfl) ?_
   refine sS rfl rfl rfl (z0i rfl rfl rfl) (z00 ?_)
   exact ⟨rfl, (!x8), h, ⟨(.cons .same (.cons .same (.cons .same .nil))), (sC rfl (sC rfl (sC rfl (sC rfl z09))))⟩⟩
noncomputable def zqp (a0 : V) (a1 : Typ) : Option Int :=
 Option.bind (zjo a0) fun x1 =>
 bif (x1.2 != 0) then (
  some x1.2
 ) else (
  Option.bind (zde a1) fun x3 =>
  bif (!x3) then (
   some 70
  ) else (
   some 0
  )
 )
theorem Z3j (a0 : V) (a1 : Typ) (r : Int) (h : zqp a0 a1 = some r) : z0g Try.prog 30 [(ofV a0), (z07 a1)] (I64 r) := by
 unfold zqp at h
 refine z0w Try.func30 rfl Try.ntmps30 Try.results30 rfl (z10 ?_)
 change BW _ _ _ ⟨[(0, (ofV a0)), (1, (z07 a1))], [], _⟩ _
 refine bR ?_
 refine sS rfl rfl rfl (z1x rfl rfl rfl) ?_
 refine sAx (z00 ?_)
 refine cBx ?_
 refine z0o ?_
 refine bR ?_
 refine sMx ?_
 obtain ⟨x1, hx1, h⟩ := obind h
 refine sS rfl rfl rfl (z0b rfl zzh rfl (.cons (Wk.refl _) .nil) ⟨(ids_V a0), trivial⟩ (zye a0 x1 hx1) (z04 rfl (z04 rfl z0r))) ?_
 refine sMx ?_
 refine sS rfl rfl rfl (z0j rfl rfl rfl) ?_
 refine sS rfl rfl rfl (z0j rfl rfl rfl) ?_
 refine sAx ?_
 refine sAx (z00 ?_)
 refine cBx ?_
 refine bR ?_
 refine sMx ?_
 refine sS rfl rfl rfl ((z06 rfl rfl rfl rfl).cast (y := (BO ((x1.2 != 0)))) rfl rfl) (z00 ?_)
 refine cBx ?_
 refine z05 rfl ?_ ?_
 ·intro hc2; replace h := z02 hc2 h
  refine bR ?_
  refine sMx ?_
  refine sAx (z00 ?_)
  refine cBx ?_
  refine z0a ?_
  change ∃ xs, _ = some xs ∧ EndOk _ _ _ _
  obtain rfl := Option.some.inj h
  exact ⟨_, rfl, z0d (y := (I64 x1.2)) (Wk.refl _) rfl ⟨rfl, rfl⟩⟩
 ·intro hc2; replace h := z03 hc2 h
  refine z0l ?_
  refine cBx ?_
  refine z0o ?_
  refine bR ?_
  refine sS rfl rfl rfl ((z12 z0t Try.underlying34 rfl rfl rfl rfl rfl rfl)) ?_
  obtain ⟨x3, hx3, h⟩ := obind h
  refine sS rfl rfl rfl (z0b rfl zkb rfl (.cons (Wk.refl _) .nil) ⟨(z0m a1), trivial⟩ (zji a1 x3 hx3) rfl) ?_
  refine sS rfl rfl rfl (z2a rfl rfl) (z00 ?_)
  refine cBx ?_
  refine z05 rfl ?_ ?_
  ·intro hc4; replace h := z02 hc4 h
   refine bR ?_
   refine sAx (z00 ?_)
   refine cBx ?_
   refine z0a ?_
   change ∃ xs, _ = some xs ∧ EndOk _ _ _ _
   obtain rfl := Option.some.inj h
   exact ⟨_, rfl, z0d (y := (I64 70)) (Wk.refl _) rfl ⟨rfl, rfl⟩⟩
  ·intro hc4; replace h := z03 hc4 h
   refine z0l ?_
   refine cBx ?_
   refine bR ?_
   refine sAx (z00 ?_)
   refine cBx ?_
   refine z0a ?_
   change ∃ xs, _ = some xs ∧ EndOk _ _ _ _
   obtain rfl := Option.some.inj h
   exact ⟨_, rfl, z0d (y := (I64 0)) (Wk.refl _) rfl ⟨rfl, rfl⟩⟩
noncomputable def zfz (a0 : V) (a1 : Typ) : Option (Bool × Int × Int) :=
 Option.bind (zqp a0 a1) fun x1 =>
 bif (x1 != 0) then (
  some (false, 0, x1)
 ) else (
  Option.bind (z8j a0 a1 0) fun x3 =>
  some (x3.1, x3.2, 0)
 )
theorem zov (a0 : V) (a1 : Typ) (r : (Bool × Int × Int)) (h : zfz a0 a1 = some r) : z0g Try.prog 10 [(ofV a0), (z07 a1)] (PV.tup [(BO r.1), (I64 r.2.1), (I64 r.2.2)]) := by
 unfold zfz at h
 refine z0w Try.func10 rfl Try.ntmps10 Try.results10 rfl (z10 ?_)
 change BW _ _ _ ⟨[(0, (ofV a0)), (1, (z07 a1))], [], _⟩ _
 refine bR ?_
 refine sS rfl rfl rfl (z1x rfl rfl rfl) ?_
 refine sAx ?_
 refine sAx ?_
 refine sAx (z00 ?_)
 refine cBx ?_
 refine z0o ?_
 refine bR ?_
 refine sMx ?_
 refine sS rfl rfl rfl ((z12 z0t Try.underlying34 rfl rfl rfl rfl rfl rfl)) ?_
 obtain ⟨x1, hx1, h⟩ := obind h
 refine sS rfl rfl rfl (z0b rfl Z54 rfl (.cons (Wk.refl _) (.cons (Wk.refl _) .nil)) ⟨(ids_V a0), ⟨(z0m a1), trivial⟩⟩ (Z3j a0 a1 x1 hx1) rfl) ?_
 refine sAx (z00 ?_)
 refine cBx ?_
 refine bR ?_
 refine sMx ?_
 refine sS rfl rfl rfl ((z06 rfl rfl rfl rfl).cast (y := (BO ((x1 != 0)))) rfl rfl) (z00 ?_)
 refine cBx ?_
 refine z05 rfl ?_ ?_
 ·intro hc2; replace h := z02 hc2 h
  refine bR ?_
  refine sMx ?_
  refine sAx ?_
  refine sAx ?_
  refine sAx (z00 ?_)
  refine cBx ?_
  refine z0a ?_
  change ∃ xs, _ = some xs ∧ EndOk _ _ _ _
  obtain rfl := Option.some.inj h
  exact ⟨_, rfl, z0d (y := (PV.tup [(BO false), (I64 0), (I64 x1)])) (Wk.refl _) (z04 rfl (z04 rfl (z04 rfl z0r))) ⟨rfl, rfl⟩⟩
 ·intro hc2; replace h := z03 hc2 h
  refine z0l ?_
  refine cBx ?_
  refine bR ?_
  refine sMx ?_
  refine sS rfl rfl rfl ((z12 z0t Try.underlying34 rfl rfl rfl rfl rfl rfl)) ?_
  obtain ⟨x3, hx3, h⟩ := obind h
  refine sS rfl rfl rfl (z0b rfl zsn rfl (.cons (Wk.refl _) (.cons (Wk.refl _) (.cons (Wk.refl _) .nil))) ⟨(ids_V a0), ⟨(z0m a1), ⟨rfl, trivial⟩⟩⟩ (Z0c a0 a1 0 x3 hx3) (z04 rfl (z04 rfl z0r))) ?_
  refine sMx ?_
  refine sS rfl rfl rfl (z0j rfl rfl rfl) ?_
  refine sS rfl rfl rfl (z0j rfl rfl rfl) ?_
  refine sAx ?_
  refine sAx (z00 ?_)
  refine cBx ?_
  refine bR ?_
  refine sMx ?_
  refine sMx ?_
  refine sAx ?_
  refine sAx ?_
  refine sAx (z00 ?_)
  refine cBx ?_
  refine z0a ?_
  change ∃ xs, _ = some xs ∧ EndOk _ _ _ _
  obtain rfl := Option.some.inj h
  exact ⟨_, rfl, z0d (y := (PV.tup [(BO x3.1), (I64 x3.2), (I64 0)])) (Wk.refl _) (z04 rfl (z04 rfl (z04 rfl z0r))) ⟨rfl, rfl⟩⟩
noncomputable def zem (a0 : Typ) (a1 : Typ) (s1 : Bool) : Option (Bool × Int) :=
 bif s1 then (
  some (false, 70)
 ) else (
  Option.bind (z43 a0 a1) fun x3 =>
  some (x3, 0)
 )
noncomputable def znj (a0 : Typ) (a1 : Typ) : Option (Bool × Int) :=
 Option.bind (zde a0) fun x4 =>
 bif (!x4) then (
  zem a0 a1 true
 ) else (
  Option.bind (zde a1) fun x6 =>
  zem a0 a1 (!x6)
 )
theorem Z0d (a0 : Typ) (a1 : Typ) (r : (Bool × Int)) (h : znj a0 a1 = some r) : z0g Try.prog 14 [(z07 a0), (z07 a1)] (PV.tup [(BO r.1), (I64 r.2)]) := by
 unfold znj at h
 refine z0w Try.func14 rfl Try.ntmps14 Try.results14 rfl (z10 ?_)
 change BW _ _ _ ⟨[(0, (z07 a0)), (1, (z07 a1))], [], _⟩ _
 refine bR ?_
 refine sS rfl rfl rfl (z1x rfl rfl rfl) ?_
 refine sS rfl rfl rfl (z1x rfl rfl rfl) ?_
 refine sAx ?_
 refine sAx (z00 ?_)
 refine cBx ?_
 refine z0o ?_
 refine z1n (ι := Bool) (fun i => zem a0 a1 i = some r) (fun i => [(2, (PV.rf 0 0)), (3, (PV.rf 1 0)), (13, (BO i))]) (fun i => [.box 34 (z1r a0), .box 34 (z1r a1)]) ?_ ?_ ?_
 ·intro i; exact ⟨lbE rfl, ⟨(il_rf rfl), ⟨(il_rf rfl), ⟨(z01 rfl), trivial⟩⟩⟩, ⟨wfC34, ⟨wfC34, trivial⟩⟩⟩
 ·rintro s1 h; replace h : zem a0 a1 s1 = some r := h; unfold zem at h
  change BW _ _ _ ⟨[(2, (PV.rf 0 0)), (3, (PV.rf 1 0)), (13, (BO s1))], [.box 34 (z1r a0), .box 34 (z1r a1)], _⟩ _
  refine z05 rfl ?_ ?_
  ·intro hc2; replace h := z02 hc2 h
   refine bR ?_
   refine sAx ?_
   refine sAx (z00 ?_)
   refine cBx ?_
   refine z0a ?_
   change ∃ xs, _ = some xs ∧ EndOk _ _ _ _
   obtain rfl := Option.some.inj h
   exact ⟨_, rfl, z0d (y := (PV.tup [(BO false), (I64 70)])) (Wk.refl _) (z04 rfl (z04 rfl z0r)) ⟨rfl, rfl⟩⟩
  ·intro hc2; replace h := z03 hc2 h
   refine z0l ?_
   refine cBx ?_
   refine bR ?_
   refine sS rfl rfl rfl ((z12 z0t Try.underlying34 rfl rfl rfl rfl rfl rfl)) ?_
   refine sS rfl rfl rfl ((z12 z0t Try.underlying34 rfl rfl rfl rfl rfl rfl)) ?_
   obtain ⟨x3, hx3, h⟩ := obind h
   refine sS rfl rfl rfl (z0b rfl zka rfl (.cons (Wk.refl _) (.cons (Wk.refl _) .nil)) ⟨(z0m a0), ⟨(z0m a1), trivial⟩⟩ (zyd a0 a1 x3 hx3) rfl) ?_
   refine sAx ?_
   refine sAx (z00 ?_)
   refine cBx ?_
   refine z0a ?_
   change ∃ xs, _ = some xs ∧ EndOk _ _ _ _
   obtain rfl := Option.some.inj h
   exact ⟨_, rfl, z0d (y := (PV.tup [(BO x3), (I64 0)])) (Wk.refl _) (z04 rfl (z04 rfl z0r)) ⟨rfl, rfl⟩⟩
 ·refine z0s ?_
  refine sS rfl rfl rfl ((z12 z0t Try.underlying34 rfl rfl rfl rfl rfl rfl)) ?_
  obtain ⟨x4, hx4, h⟩ := obind h
  refine sS rfl rfl rfl (z0b rfl zkb rfl (.cons (Wk.refl _) .nil) ⟨(z0m a0), trivial⟩ (zji a0 x4 hx4) rfl) ?_
  refine sS rfl rfl rfl (z2a rfl rfl) ?_
  refine sMx ?_
  refine z16 (t := 9) rfl ?_ ?_
  ·intro hb5; replace h := z02 hb5 h
   refine z0h rfl rfl rfl rfl rfl rfl ?_
   refine z0h rfl rfl rfl rfl rfl rfl ?_
   refine z0h rfl rfl rfl rfl rfl rfl ?_
   refine sS rfl rfl rfl (z0p rfl rfl rfl) (z00 ?_)
   exact ⟨rfl, true, h, ⟨(.cons .same (.cons .same .nil)), (sC rfl (sC rfl (sC rfl z09)))⟩⟩
  ·intro hb5; replace h := z03 hb5 h
   refine z08 rfl rfl rfl rfl rfl rfl ((z12 z0t Try.underlying34 rfl rfl rfl rfl rfl rfl)) ?_
   obtain ⟨x6, hx6, h⟩ := obind h
   refine z08 rfl rfl rfl rfl rfl rfl (z0b rfl zkb rfl (.cons (Wk.refl _) .nil) ⟨(z0m a1), trivial⟩ (zji a1 x6 hx6) rfl) ?_
   refine z08 rfl rfl rfl rfl rfl rfl (z2a rfl rfl) ?_
   refine sS rfl rfl rfl (z0i rfl rfl rfl) (z00 ?_)
   exact ⟨rfl, (!x6), h, ⟨(.cons .same (.cons .same .nil)), (sC rfl (sC rfl (sC rfl z09)))⟩⟩
end Go.Proofs.Ytiapdjdhaclmnaa
