/- Pure functions, and that calls answer as they say. Written by gen.py. -/
import Derived.Test.YtiapdjdhaclmnaaGS
namespace Go.Proofs.Ytiapdjdhaclmnaa
open Go Aw
set_option linter.unusedVariables false
set_option linter.unusedSimpArgs false
set_option maxRecDepth 20000
set_option maxHeartbeats 2000000
variable {ι : Type} {ρ : ι → Type}
noncomputable def zni (a0 : Int) : Option V :=
 bif ((Int.tmod a0 14) == 0) then (
  some (V.alien ⟨3, rfl⟩)
 ) else (
  bif ((Int.tmod a0 14) == 1) then (
   some (V.alien ⟨5, rfl⟩)
  ) else (
   bif ((Int.tmod a0 14) == 2) then (
    some (V.alien ⟨102, rfl⟩)
   ) else (
    bif ((Int.tmod a0 14) == 3) then (
     some (V.alien ⟨1, rfl⟩)
    ) else (
     bif ((Int.tmod a0 14) == 4) then (
      some (V.alien ⟨105, rfl⟩)
     ) else (
      bif ((Int.tmod a0 14) == 5) then (
       some (V.alien ⟨36, rfl⟩)
      ) else (
       bif ((Int.tmod a0 14) == 6) then (
        some (V.alien ⟨106, rfl⟩)
       ) else (
        bif ((Int.tmod a0 14) == 7) then (
         some (V.alien ⟨107, rfl⟩)
        ) else (
         bif ((Int.tmod a0 14) == 8) then (
          some (V.alien ⟨72, rfl⟩)
         ) else (
          bif ((Int.tmod a0 14) == 9) then (
           some (V.alien ⟨44, rfl⟩)
          ) else (
           bif ((Int.tmod a0 14) == 10) then (
            some (V.alien ⟨108, rfl⟩)
           ) else (
            bif ((Int.tmod a0 14) == 11) then (
             some (V.alien ⟨39, rfl⟩)
            ) else (
             bif ((Int.tmod a0 14) == 12) then (
              some (V.alien ⟨109, rfl⟩)
             ) else (
              some (V.alien ⟨110, rfl⟩)
             )
            )
           )
          )
         )
        )
       )
      )
     )
    )
   )
  )
 )
theorem Z3g (a0 : Int) (r : V) (h : zni a0 = some r) : z0g Try.prog 29 [(I64 a0)] (ofV r) := by
 unfold zni at h
 refine z0w Try.func29 rfl Try.ntmps29 Try.results29 rfl (z10 ?_)
 change BW _ _ _ ⟨[(0, (I64 a0))], [], _⟩ _
 refine bR ?_
 refine sAx (z00 ?_)
 refine cBx ?_
 refine z0o ?_
 refine bR ?_
 refine sMx ?_
 refine sS rfl rfl rfl (zyq rfl rfl rfl (by decide)) (z00 ?_)
 refine cBx ?_
 refine z0x ?_
 refine cBx ?_
 refine bR ?_
 refine sS rfl rfl rfl ((z06 rfl rfl rfl rfl).cast (y := (BO (((Int.tmod a0 14) == 0)))) rfl rfl) ?_
 refine sAx (z00 ?_)
 refine cBx ?_
 refine z05 rfl ?_ ?_
 ·intro hc1; replace h := z02 hc1 h
  refine bR ?_
  refine sS rfl rfl rfl ((z1u Try.underlying3 rfl rfl rfl).wk ((Wk.iface Wk.junk).trans (Wk.eq (z3f ⟨3, rfl⟩).symm))) ?_
  refine sAx (z00 ?_)
  refine cBx ?_
  refine z0a ?_
  change ∃ xs, _ = some xs ∧ EndOk _ _ _ _
  obtain rfl := Option.some.inj h
  exact ⟨_, rfl, z0d (y := (ofV (V.alien ⟨3, rfl⟩))) (Wk.refl _) (ids_V (V.alien ⟨3, rfl⟩)) ⟨rfl, rfl⟩⟩
 ·intro hc1; replace h := z03 hc1 h
  refine bR ?_
  refine sS rfl rfl rfl ((z06 rfl rfl rfl rfl).cast (y := (BO (((Int.tmod a0 14) == 1)))) rfl rfl) ?_
  refine sAx (z00 ?_)
  refine cBx ?_
  refine z05 rfl ?_ ?_
  ·intro hc2; replace h := z02 hc2 h
   refine bR ?_
   refine sS rfl rfl rfl ((z1u Try.underlying5 rfl rfl rfl).wk ((Wk.iface Wk.junk).trans (Wk.eq (z3f ⟨5, rfl⟩).symm))) ?_
   refine sAx (z00 ?_)
   refine cBx ?_
   refine z0a ?_
   change ∃ xs, _ = some xs ∧ EndOk _ _ _ _
   obtain rfl := Option.some.inj h
   exact ⟨_, rfl, z0d (y := (ofV (V.alien ⟨5, rfl⟩))) (Wk.refl _) (ids_V (V.alien ⟨5, rfl⟩)) ⟨rfl, rfl⟩⟩
  ·intro hc2; replace h := z03 hc2 h
   refine bR ?_
   refine sS rfl rfl rfl ((z06 rfl rfl rfl rfl).cast (y := (BO (((Int.tmod a0 14) == 2)))) rfl rfl) ?_
   refine sAx (z00 ?_)
   refine cBx ?_
   refine z05 rfl ?_ ?_
   ·intro hc3; replace h := z02 hc3 h
    refine bR ?_
    refine ztg rfl rfl rfl rfl rfl rfl rfl Try.underlying102 Try.underlying9 ?_
    refine sMx ?_
    refine sS rfl rfl rfl ((z1u Try.underlying102 rfl rfl rfl).wk ((Wk.iface Wk.junk).trans (Wk.eq (z3f ⟨102, rfl⟩).symm))) ?_
    refine sAx (z00 ?_)
    refine cBx ?_
    refine z0a ?_
    change ∃ xs, _ = some xs ∧ EndOk _ _ _ _
    obtain rfl := Option.some.inj h
    exact ⟨_, rfl, z0d (y := (ofV (V.alien ⟨102, rfl⟩))) (Wk.refl _) (ids_V (V.alien ⟨102, rfl⟩)) ⟨rfl, rfl⟩⟩
   ·intro hc3; replace h := z03 hc3 h
    refine bR ?_
    refine sS rfl rfl rfl ((z06 rfl rfl rfl rfl).cast (y := (BO (((Int.tmod a0 14) == 3)))) rfl rfl) ?_
    refine sAx (z00 ?_)
    refine cBx ?_
    refine z05 rfl ?_ ?_
    ·intro hc4; replace h := z02 hc4 h
     refine bR ?_
     refine sS rfl rfl rfl ((z1u Try.underlying1 rfl rfl rfl).wk ((Wk.iface Wk.junk).trans (Wk.eq (z3f ⟨1, rfl⟩).symm))) ?_
     refine sAx (z00 ?_)
     refine cBx ?_
     refine z0a ?_
     change ∃ xs, _ = some xs ∧ EndOk _ _ _ _
     obtain rfl := Option.some.inj h
     exact ⟨_, rfl, z0d (y := (ofV (V.alien ⟨1, rfl⟩))) (Wk.refl _) (ids_V (V.alien ⟨1, rfl⟩)) ⟨rfl, rfl⟩⟩
    ·intro hc4; replace h := z03 hc4 h
     refine bR ?_
     refine sS rfl rfl rfl ((z06 rfl rfl rfl rfl).cast (y := (BO (((Int.tmod a0 14) == 4)))) rfl rfl) ?_
     refine sAx (z00 ?_)
     refine cBx ?_
     refine z05 rfl ?_ ?_
     ·intro hc5; replace h := z02 hc5 h
      refine bR ?_
      refine sS rfl rfl rfl ((z1t (xs := [(I64 1)]) Try.underlying103 zea rfl rfl rfl rfl rfl rfl ⟨lbE rfl, lbE rfl⟩ rfl).cast (y := (PV.sl (some 0) 3 1 (List.map (ofI .i64) ([1] : (List Int))))) rfl rfl) ?_
      refine sS rfl rfl rfl (z1w (cs := [(PV.sl (some 0) 3 1 (List.map (ofI .i64) ([1] : (List Int))))]) Z08 zz7 rfl rfl rfl rfl) ?_
      refine sS rfl rfl rfl ((z1u Try.underlying105 rfl rfl rfl).wk ((Wk.iface Wk.junk).trans (Wk.eq (z3f ⟨105, rfl⟩).symm))) ?_
      refine sAx (z00 ?_)
      refine cBx ?_
      refine z0a ?_
      change ∃ xs, _ = some xs ∧ EndOk _ _ _ _
      obtain rfl := Option.some.inj h
      exact ⟨_, rfl, z0d (y := (ofV (V.alien ⟨105, rfl⟩))) (Wk.refl _) (ids_V (V.alien ⟨105, rfl⟩)) ⟨rfl, rfl⟩⟩
     ·intro hc5; replace h := z03 hc5 h
      refine bR ?_
      refine sS rfl rfl rfl ((z06 rfl rfl rfl rfl).cast (y := (BO (((Int.tmod a0 14) == 5)))) rfl rfl) ?_
      refine sAx (z00 ?_)
      refine cBx ?_
      refine z05 rfl ?_ ?_
      ·intro hc6; replace h := z02 hc6 h
       refine bR ?_
       refine sS rfl rfl rfl ((z1u Try.underlying4 rfl rfl rfl).wk ((Wk.iface (Wk.refl _)).trans (Wk.eq (zg6 _).symm))) ?_
       refine sS rfl rfl rfl ((z1t (xs := [(ofV (V.bool true))]) Try.underlying36 z6r rfl rfl rfl (by simp only [List.all_cons, List.all_nil, ziz, z5m, Bool.and_true, Bool.true_and]; try rfl) (by simp only [List.all_cons, List.all_nil, ziy, z8i, z30, z2j]; try rfl) rfl ⟨lbE rfl, lbE rfl⟩ (by simp only [zgo, z8n, List.flatMap_cons, List.flatMap_nil, z30, z2j]; try rfl)).cast (y := (PV.sl (some 0) 20 1 (List.map ofV ([(V.bool true)] : (List V))))) rfl rfl) ?_
       refine sS rfl rfl rfl ((z1u Try.underlying36 rfl rfl rfl).wk ((Wk.iface Wk.junk).trans (Wk.eq (z3f ⟨36, rfl⟩).symm))) ?_
       refine sAx (z00 ?_)
       refine cBx ?_
       refine z0a ?_
       change ∃ xs, _ = some xs ∧ EndOk _ _ _ _
       obtain rfl := Option.some.inj h
       exact ⟨_, rfl, z0d (y := (ofV (V.alien ⟨36, rfl⟩))) (Wk.refl _) (ids_V (V.alien ⟨36, rfl⟩)) ⟨rfl, rfl⟩⟩
      ·intro hc6; replace h := z03 hc6 h
       refine bR ?_
       refine sS rfl rfl rfl ((z06 rfl rfl rfl rfl).cast (y := (BO (((Int.tmod a0 14) == 6)))) rfl rfl) ?_
       refine sAx (z00 ?_)
       refine cBx ?_
       refine z05 rfl ?_ ?_
       ·intro hc7; replace h := z02 hc7 h
        refine bR ?_
        refine sS rfl rfl rfl ((z1u Try.underlying106 rfl rfl rfl).wk ((Wk.iface Wk.junk).trans (Wk.eq (z3f ⟨106, rfl⟩).symm))) ?_
        refine sAx (z00 ?_)
        refine cBx ?_
        refine z0a ?_
        change ∃ xs, _ = some xs ∧ EndOk _ _ _ _
        obtain rfl := Option.some.inj h
        exact ⟨_, rfl, z0d (y := (ofV (V.alien ⟨106, rfl⟩))) (Wk.refl _) (ids_V (V.alien ⟨106, rfl⟩)) ⟨rfl, rfl⟩⟩
       ·intro hc7; replace h := z03 hc7 h
        refine bR ?_
        refine sS rfl rfl rfl ((z06 rfl rfl rfl rfl).cast (y := (BO (((Int.tmod a0 14) == 7)))) rfl rfl) ?_
        refine sAx (z00 ?_)
        refine cBx ?_
        refine z05 rfl ?_ ?_
        ·intro hc8; replace h := z02 hc8 h
         refine bR ?_
         refine sS rfl rfl rfl ((z1u Try.underlying107 rfl rfl rfl).wk ((Wk.iface Wk.junk).trans (Wk.eq (z3f ⟨107, rfl⟩).symm))) ?_
         refine sAx (z00 ?_)
         refine cBx ?_
         refine z0a ?_
         change ∃ xs, _ = some xs ∧ EndOk _ _ _ _
         obtain rfl := Option.some.inj h
         exact ⟨_, rfl, z0d (y := (ofV (V.alien ⟨107, rfl⟩))) (Wk.refl _) (ids_V (V.alien ⟨107, rfl⟩)) ⟨rfl, rfl⟩⟩
        ·intro hc8; replace h := z03 hc8 h
         refine bR ?_
         refine sS rfl rfl rfl ((z06 rfl rfl rfl rfl).cast (y := (BO (((Int.tmod a0 14) == 8)))) rfl rfl) ?_
         refine sAx (z00 ?_)
         refine cBx ?_
         refine z05 rfl ?_ ?_
         ·intro hc9; replace h := z02 hc9 h
          refine bR ?_
          refine sS rfl rfl rfl (z1w (cs := [(z0f ([97] : Str)), (I64 1), (PV.v (.slice none 0 0))]) z6w zs6 rfl rfl rfl rfl) ?_
          refine sS rfl rfl rfl ((z1u Try.underlying72 rfl rfl rfl).wk ((Wk.iface Wk.junk).trans (Wk.eq (z3f ⟨72, rfl⟩).symm))) ?_
          refine sAx (z00 ?_)
          refine cBx ?_
          refine z0a ?_
          change ∃ xs, _ = some xs ∧ EndOk _ _ _ _
          obtain rfl := Option.some.inj h
          exact ⟨_, rfl, z0d (y := (ofV (V.alien ⟨72, rfl⟩))) (Wk.refl _) (ids_V (V.alien ⟨72, rfl⟩)) ⟨rfl, rfl⟩⟩
         ·intro hc9; replace h := z03 hc9 h
          refine bR ?_
          refine sS rfl rfl rfl ((z06 rfl rfl rfl rfl).cast (y := (BO (((Int.tmod a0 14) == 9)))) rfl rfl) ?_
          refine sAx (z00 ?_)
          refine cBx ?_
          refine z05 rfl ?_ ?_
          ·intro hc10; replace h := z02 hc10 h
           refine bR ?_
           refine sS rfl rfl rfl ((z1t (xs := []) Try.underlying44 z2d rfl rfl rfl rfl rfl rfl ⟨lbE rfl, lbE rfl⟩ rfl).cast (y := (PV.sl (some 0) 43 2 (List.map z1h ([] : (List (Str × V)))))) rfl rfl) ?_
           refine sS rfl rfl rfl ((z1u Try.underlying44 rfl rfl rfl).wk ((Wk.iface Wk.junk).trans (Wk.eq (z3f ⟨44, rfl⟩).symm))) ?_
           refine sAx (z00 ?_)
           refine cBx ?_
           refine z0a ?_
           change ∃ xs, _ = some xs ∧ EndOk _ _ _ _
           obtain rfl := Option.some.inj h
           exact ⟨_, rfl, z0d (y := (ofV (V.alien ⟨44, rfl⟩))) (Wk.refl _) (ids_V (V.alien ⟨44, rfl⟩)) ⟨rfl, rfl⟩⟩
          ·intro hc10; replace h := z03 hc10 h
           refine bR ?_
           refine sS rfl rfl rfl ((z06 rfl rfl rfl rfl).cast (y := (BO (((Int.tmod a0 14) == 10)))) rfl rfl) ?_
           refine sAx (z00 ?_)
           refine cBx ?_
           refine z05 rfl ?_ ?_
           ·intro hc11; replace h := z02 hc11 h
            refine bR ?_
            refine sAx (z00 ?_)
            refine cBx ?_
            refine bR ?_
            refine sMx ?_
            refine sS rfl rfl rfl ((z1u Try.underlying108 rfl rfl rfl).wk ((Wk.iface Wk.junk).trans (Wk.eq (z3f ⟨108, rfl⟩).symm))) ?_
            refine sAx (z00 ?_)
            refine cBx ?_
            refine z0a ?_
            change ∃ xs, _ = some xs ∧ EndOk _ _ _ _
            obtain rfl := Option.some.inj h
            exact ⟨_, rfl, z0d (y := (ofV (V.alien ⟨108, rfl⟩))) (Wk.refl _) (ids_V (V.alien ⟨108, rfl⟩)) ⟨rfl, rfl⟩⟩
           ·intro hc11; replace h := z03 hc11 h
            refine bR ?_
            refine sS rfl rfl rfl ((z06 rfl rfl rfl rfl).cast (y := (BO (((Int.tmod a0 14) == 11)))) rfl rfl) ?_
            refine sAx (z00 ?_)
            refine cBx ?_
            refine z05 rfl ?_ ?_
            ·intro hc12; replace h := z02 hc12 h
             refine bR ?_
             refine sS rfl rfl rfl ((z1u Try.underlying39 rfl rfl rfl).wk ((Wk.iface Wk.junk).trans (Wk.eq (z3f ⟨39, rfl⟩).symm))) ?_
             refine sAx (z00 ?_)
             refine cBx ?_
             refine z0a ?_
             change ∃ xs, _ = some xs ∧ EndOk _ _ _ _
             obtain rfl := Option.some.inj h
             exact ⟨_, rfl, z0d (y := (ofV (V.alien ⟨39, rfl⟩))) (Wk.refl _) (ids_V (V.alien ⟨39, rfl⟩)) ⟨rfl, rfl⟩⟩
            ·intro hc12; replace h := z03 hc12 h
             refine bR ?_
             refine sS rfl rfl rfl ((z06 rfl rfl rfl rfl).cast (y := (BO (((Int.tmod a0 14) == 12)))) rfl rfl) ?_
             refine sAx (z00 ?_)
             refine cBx ?_
             refine z05 rfl ?_ ?_
             ·intro hc13; replace h := z02 hc13 h
              refine bR ?_
              refine sAx (z00 ?_)
              refine cBx ?_
              refine bR ?_
              refine sMx ?_
              refine sS rfl rfl rfl ((z1u Try.underlying109 rfl rfl rfl).wk ((Wk.iface Wk.junk).trans (Wk.eq (z3f ⟨109, rfl⟩).symm))) ?_
              refine sAx (z00 ?_)
              refine cBx ?_
              refine z0a ?_
              change ∃ xs, _ = some xs ∧ EndOk _ _ _ _
              obtain rfl := Option.some.inj h
              exact ⟨_, rfl, z0d (y := (ofV (V.alien ⟨109, rfl⟩))) (Wk.refl _) (ids_V (V.alien ⟨109, rfl⟩)) ⟨rfl, rfl⟩⟩
             ·intro hc13; replace h := z03 hc13 h
              refine z0l ?_
              refine cBx ?_
              refine bR ?_
              refine sS rfl rfl rfl (Op1.junk (zia (cs := [(I64 1), (I64 2)]) Try.underlying110 zz6 zea rfl rfl rfl rfl)) ?_
              refine sS rfl rfl rfl ((z1u Try.underlying110 rfl rfl rfl).wk ((Wk.iface Wk.junk).trans (Wk.eq (z3f ⟨110, rfl⟩).symm))) ?_
              refine sAx (z00 ?_)
              refine cBx ?_
              refine z0a ?_
              change ∃ xs, _ = some xs ∧ EndOk _ _ _ _
              obtain rfl := Option.some.inj h
              exact ⟨_, rfl, z0d (y := (ofV (V.alien ⟨110, rfl⟩))) (Wk.refl _) (ids_V (V.alien ⟨110, rfl⟩)) ⟨rfl, rfl⟩⟩
noncomputable def z5o (r_q21 : Term → Option V) (a0 : (List (Str × Term))) (g1 : (List (Str × V)) → Nat → Option (List (Str × V))) (s1 : (List (Str × V))) (s2 : Nat) : Option (List (Str × V)) :=
 bif (decide (((s2 : Nat) : Int) < (((a0).length : Nat) : Int))) then (
  Option.bind ((a0)[s2]?) fun x5 =>
  Option.bind ((a0)[s2]?) fun x6 =>
  Option.bind (r_q21 (x6.2)) fun x7 =>
  Option.bind (zad 32 s1 ([(x5.1, x7)] : (List (Str × V)))) fun x8 =>
  g1 x8 (s2 + 1)
 ) else (
  some s1
 )
theorem zal (r_q21 : OF ρ → Term → Option V) (h_r_q21 : ∀ y0, CM (fun G => r_q21 G y0)) (g1 : OF ρ → (List (Str × V)) → Nat → Option (List (Str × V))) (h_g1 : ∀ y0 y1, CM (fun G => g1 G y0 y1)) (a0 : (List (Str × Term))) (s1 : (List (Str × V))) (s2 : Nat) : CM (fun G : OF ρ => z5o (r_q21 G) a0 (g1 G) s1 s2) := by
 simp only [z5o]
 repeat (first | exact z0c | exact h_r_q21 _ | exact h_g1 _ _ | refine z14 ?_ ?_ | refine z15 ?_ (fun _ => ?_))
noncomputable def zej (r_q21 : Term → Option V) (a0 : (List (Str × Term))) (s1 : (List (Str × V))) (s2 : Nat) : Option (List (Str × V)) :=
 z38 (ι := ((List (Str × V)) × Nat)) (ρ := fun _ => (List (Str × V))) (fun g i => z5o r_q21 a0 (fun s1 s2 => g (s1, s2)) i.1 i.2) (s1, s2)
theorem zgx (r_q21 : Term → Option V) (a0 : (List (Str × Term))) (s1 : (List (Str × V))) (s2 : Nat) : zej r_q21 a0 s1 s2 = z5o r_q21 a0 (zej r_q21 a0) s1 s2 :=
 z1d (ι := ((List (Str × V)) × Nat)) (ρ := fun _ => (List (Str × V))) (Φ := fun g i => z5o r_q21 a0 (fun s1 s2 => g (s1, s2)) i.1 i.2) (fun i => zal (ι := ((List (Str × V)) × Nat)) (ρ := fun _ => (List (Str × V))) (fun _ => r_q21) (fun _ => z0c) (fun g => (fun s1 s2 => g (s1, s2))) (fun _ _ => z1c) a0 i.1 i.2) (s1, s2)
theorem zp4 (r_q21 : OF ρ → Term → Option V) (h_r_q21 : ∀ y0, CM (fun G => r_q21 G y0)) (a0 : (List (Str × Term))) (s1 : (List (Str × V))) (s2 : Nat) : CM (fun G : OF ρ => zej (r_q21 G) a0 s1 s2) :=
 z3o (κ := ((List (Str × V)) × Nat)) (τ := fun _ => (List (Str × V))) (Φ := fun G g i => z5o (r_q21 G) a0 (fun s1 s2 => g (s1, s2)) i.1 i.2) (fun g i => zal r_q21 h_r_q21 (fun _ => (fun s1 s2 => g (s1, s2))) (fun _ _ => z0c) a0 i.1 i.2) (fun G i => zal (ι := ((List (Str × V)) × Nat)) (ρ := fun _ => (List (Str × V))) (fun _ => r_q21 G) (fun _ => z0c) (fun g => (fun s1 s2 => g (s1, s2))) (fun _ _ => z1c) a0 i.1 i.2) (s1, s2)
noncomputable def zkh (r_q23 : (List (Str × Term)) → Option (List (Str × V))) (r_q21 : Term → Option V) (a0 : (List (Str × Term))) : Option (List (Str × V)) :=
 zej r_q21 a0 ([] : (List (Str × V))) 0
theorem zvz (r_q23 : OF ρ → (List (Str × Term)) → Option (List (Str × V))) (h_r_q23 : ∀ y0, CM (fun G => r_q23 G y0)) (r_q21 : OF ρ → Term → Option V) (h_r_q21 : ∀ y0, CM (fun G => r_q21 G y0)) (a0 : (List (Str × Term))) : CM (fun G : OF ρ => zkh (r_q23 G) (r_q21 G) a0) := by
 simp only [zkh]
 repeat (first | exact z0c | exact h_r_q23 _ | exact h_r_q21 _ | apply zp4 | refine z14 ?_ ?_ | refine z15 ?_ (fun _ => ?_) | intro _ | assumption)
noncomputable def z5q (r_q21 : Term → Option V) (a0 : Term) (g1 : (List V) → Nat → Option V) (s10 : (List V)) (s11 : Nat) : Option V :=
 bif (decide (((s11 : Nat) : Int) < (((a0.list).length : Nat) : Int))) then (
  Option.bind ((a0.list)[s11]?) fun x14 =>
  Option.bind (r_q21 x14) fun x15 =>
  Option.bind (zad 16 s10 ([x15] : (List V))) fun x16 =>
  g1 x16 (s11 + 1)
 ) else (
  some (V.list s10)
 )
theorem zan (r_q21 : OF ρ → Term → Option V) (h_r_q21 : ∀ y0, CM (fun G => r_q21 G y0)) (g1 : OF ρ → (List V) → Nat → Option V) (h_g1 : ∀ y0 y1, CM (fun G => g1 G y0 y1)) (a0 : Term) (s10 : (List V)) (s11 : Nat) : CM (fun G : OF ρ => z5q (r_q21 G) a0 (g1 G) s10 s11) := by
 simp only [z5q]
 repeat (first | exact z0c | exact h_r_q21 _ | exact h_g1 _ _ | refine z14 ?_ ?_ | refine z15 ?_ (fun _ => ?_))
noncomputable def zcy (r_q21 : Term → Option V) (a0 : Term) (s10 : (List V)) (s11 : Nat) : Option V :=
 z38 (ι := ((List V) × Nat)) (ρ := fun _ => V) (fun g i => z5q r_q21 a0 (fun s10 s11 => g (s10, s11)) i.1 i.2) (s10, s11)
theorem zgz (r_q21 : Term → Option V) (a0 : Term) (s10 : (List V)) (s11 : Nat) : zcy r_q21 a0 s10 s11 = z5q r_q21 a0 (zcy r_q21 a0) s10 s11 :=
 z1d (ι := ((List V) × Nat)) (ρ := fun _ => V) (Φ := fun g i => z5q r_q21 a0 (fun s10 s11 => g (s10, s11)) i.1 i.2) (fun i => zan (ι := ((List V) × Nat)) (ρ := fun _ => V) (fun _ => r_q21) (fun _ => z0c) (fun g => (fun s10 s11 => g (s10, s11))) (fun _ _ => z1c) a0 i.1 i.2) (s10, s11)
theorem zp6 (r_q21 : OF ρ → Term → Option V) (h_r_q21 : ∀ y0, CM (fun G => r_q21 G y0)) (a0 : Term) (s10 : (List V)) (s11 : Nat) : CM (fun G : OF ρ => zcy (r_q21 G) a0 s10 s11) :=
 z3o (κ := ((List V) × Nat)) (τ := fun _ => V) (Φ := fun G g i => z5q (r_q21 G) a0 (fun s10 s11 => g (s10, s11)) i.1 i.2) (fun g i => zan r_q21 h_r_q21 (fun _ => (fun s10 s11 => g (s10, s11))) (fun _ _ => z0c) a0 i.1 i.2) (fun G i => zan (ι := ((List V) × Nat)) (ρ := fun _ => V) (fun _ => r_q21 G) (fun _ => z0c) (fun g => (fun s10 s11 => g (s10, s11))) (fun _ _ => z1c) a0 i.1 i.2) (s10, s11)
noncomputable def zkj (r_q23 : (List (Str × Term)) → Option (List (Str × V))) (r_q21 : Term → Option V) (a0 : Term) : Option V :=
 bif (a0.kind == 1) then (
  some V.nil
 ) else (
  bif (a0.kind == 2) then (
   some (V.bool a0.bool)
  ) else (
   bif (a0.kind == 3) then (
    some (V.int a0.int)
   ) else (
    bif (a0.kind == 4) then (
     some (V.float a0.float)
    ) else (
     bif (a0.kind == 5) then (
      some (V.text a0.text)
     ) else (
      bif (a0.kind == 6) then (
       Option.bind (zad 1 ([] : Str) a0.bytes) fun x7 =>
       some (V.bytes x7)
      ) else (
       bif (a0.kind == 7) then (
        some (V.ref a0.ref)
       ) else (
        bif (a0.kind == 8) then (
         zcy r_q21 a0 ([] : (List V)) 0
        ) else (
         bif (a0.kind == 9) then (
          Option.bind (r_q23 a0.fields) fun x18 =>
          some (V.dict x18)
         ) else (
          bif (a0.kind == 10) then (
           Option.bind (r_q23 a0.fields) fun x20 =>
           some (V.record a0.cls a0.ver x20)
          ) else (
           bif (a0.kind == 11) then (
            some V.nothing
           ) else (
            Option.bind (zni a0.int) fun x22 =>
            some x22
           )
          )
         )
        )
       )
      )
     )
    )
   )
  )
 )
theorem zw1 (r_q23 : OF ρ → (List (Str × Term)) → Option (List (Str × V))) (h_r_q23 : ∀ y0, CM (fun G => r_q23 G y0)) (r_q21 : OF ρ → Term → Option V) (h_r_q21 : ∀ y0, CM (fun G => r_q21 G y0)) (a0 : Term) : CM (fun G : OF ρ => zkj (r_q23 G) (r_q21 G) a0) := by
 simp only [zkj]
 repeat (first | exact z0c | exact h_r_q23 _ | exact h_r_q21 _ | apply zp6 | refine z14 ?_ ?_ | refine z15 ?_ (fun _ => ?_) | intro _ | assumption)
inductive C_q23 where
 | k_q23 (a0 : (List (Str × Term)))
 | k_q21 (a0 : Term)
def C_q23.R : C_q23 → Type
 | .k_q23 _ => (List (Str × V))
 | .k_q21 _ => V
noncomputable def C_q23.F (g : ∀ i : C_q23, Option i.R) : ∀ i : C_q23, Option i.R
 | .k_q23 a0 => zkh (fun a0 => g (.k_q23 a0)) (fun a0 => g (.k_q21 a0)) a0
 | .k_q21 a0 => zkj (fun a0 => g (.k_q23 a0)) (fun a0 => g (.k_q21 a0)) a0
noncomputable def zu3 (a0 : (List (Str × Term))) : Option (List (Str × V)) := z38 C_q23.F (.k_q23 a0)
noncomputable def z9o (a0 : Term) : Option V := z38 C_q23.F (.k_q21 a0)
abbrev gg1 := fun (g : ∀ i : C_q23, Option i.R) a0 => g (.k_q23 a0)
theorem hh1 (a0 : _) : CM (ρ := C_q23.R) (fun g => g (C_q23.k_q23 a0)) := z1c
abbrev gg2 := fun (g : ∀ i : C_q23, Option i.R) a0 => g (.k_q21 a0)
theorem hh2 (a0 : _) : CM (ρ := C_q23.R) (fun g => g (C_q23.k_q21 a0)) := z1c
theorem C_q23.cm (i : C_q23) : CM (fun g : (∀ i : C_q23, Option i.R) => C_q23.F g i) := by
 cases i with
 | k_q23 a0 => exact zvz gg1 hh1 gg2 hh2 a0
 | k_q21 a0 => exact zw1 gg1 hh1 gg2 hh2 a0
theorem Z58 (a0 : (List (Str × Term))) : zu3 a0 = zkh zu3 z9o a0 := z1d C_q23.cm (.k_q23 a0)
theorem Z5a (a0 : Term) : z9o a0 = zkj zu3 z9o a0 := z1d C_q23.cm (.k_q21 a0)
def C_q23.Q : ∀ i : C_q23, i.R → Prop
 | .k_q23 a0 => fun (r : (List (Str × V))) => z0g Try.prog 28 [(PV.sl none 101 12 (List.map z18 a0))] (PV.sl none 43 2 (List.map z1h r))
 | .k_q21 a0 => fun (r : V) => z0g Try.prog 9 [(z1o a0)] (ofV r)
theorem zot (r_q23 : (List (Str × Term)) → Option (List (Str × V))) (c_q23 : ∀ (a0 : (List (Str × Term))) r, r_q23 a0 = some r → z0g Try.prog 28 [(PV.sl none 101 12 (List.map z18 a0))] (PV.sl none 43 2 (List.map z1h r))) (r_q21 : Term → Option V) (c_q21 : ∀ (a0 : Term) r, r_q21 a0 = some r → z0g Try.prog 9 [(z1o a0)] (ofV r)) (a0 : (List (Str × Term))) (r : (List (Str × V))) (h : zkh r_q23 r_q21 a0 = some r) : z0g Try.prog 28 [(PV.sl none 101 12 (List.map z18 a0))] (PV.sl none 43 2 (List.map z1h r)) := by
 unfold zkh at h
 refine z0w Try.func28 rfl Try.ntmps28 Try.results28 rfl (z10 ?_)
 change BW _ _ _ ⟨[(0, (PV.sl none 101 12 (List.map z18 a0)))], [], _⟩ _
 refine bR ?_
 refine sAx (z00 ?_)
 refine cBx ?_
 refine bR ?_
 refine sS rfl rfl rfl ((z1t (xs := []) Try.underlying45 z2d rfl rfl rfl rfl rfl rfl ⟨lbE rfl, lbE rfl⟩ rfl).cast (y := (PV.sl (some 0) 43 2 (List.map z1h ([] : (List (Str × V)))))) rfl rfl) ?_
 refine sAx (z00 ?_)
 refine cBx ?_
 refine z0o ?_
 refine bR ?_
 refine sAx (z00 ?_)
 refine cBx ?_
 refine z0x ?_
 refine cBx ?_
 unfold zej at h
 refine z26 (σ := ((List (Str × V)) × Nat)) (fun i => [(0, (PV.sl none 101 12 (List.map z18 a0))), (3, (PV.sl (some 0) 43 2 (List.map z1h i.1))), (4, (I64 (((i.2 : Nat) : Int))))]) (fun i => [.arr 43 (i.1).length]) (([] : (List (Str × V))), 0) h ?_ ?_ ?_
 ·intro i; exact ⟨lbE rfl, ⟨(z01 (z0q z2x _)), ⟨(z5j rfl (z3j z1z _)), ⟨(z01 rfl), trivial⟩⟩⟩, trivial⟩
 ·exact ⟨(.cons .same .nil), (sC rfl (sC rfl (sC rfl z09)))⟩
 ·rintro g1_f ⟨s1, s2⟩ h; replace h : z5o r_q21 a0 (fun y0 y1 => g1_f (y0, y1)) s1 s2 = some r := h; unfold z5o at h
  change BW _ _ _ ⟨[(0, (PV.sl none 101 12 (List.map z18 a0))), (3, (PV.sl (some 0) 43 2 (List.map z1h s1))), (4, (I64 (((s2 : Nat) : Int))))], [.arr 43 (s1).length], _⟩ _
  refine z0o ?_
  refine bR ?_
  refine sMx ?_
  refine sMx ?_
  refine sS rfl rfl rfl (z17 Try.underlying27 rfl rfl) ?_
  refine sS rfl rfl rfl ((z06 rfl rfl rfl rfl).cast (y := (BO ((decide (((s2 : Nat) : Int) < (((a0).length : Nat) : Int)))))) rfl rfl) (z00 ?_)
  refine cBx ?_
  refine z2z (t := 7) rfl fun hb4 => ?_
  try rw [List.length_map] at hb4
  refine z05 rfl ?_ ?_
  ·intro hc3; replace h := z02 hc3 h
   have hc3_ := of_decide_eq_true hc3
   refine z0l ?_
   refine cBx ?_
   refine z0o ?_
   refine z0x ?_
   refine cBx ?_
   refine z2e 14 [13] [] mo (by kernel_rfl) ?_
   refine z0y rfl rfl rfl rfl (fun H hp => z0k rfl rfl) ?_
   refine z0y rfl rfl rfl rfl (fun H hp => z0k rfl rfl) ?_
   refine z0y rfl rfl rfl rfl (fun H hp => z0k rfl rfl) ?_
   obtain ⟨x5, hx5, h⟩ := obind h
   refine z0y rfl rfl rfl rfl (fun H hp => z1i (i := s2) Try.underlying27 z44 rfl rfl rfl hx5 (z3b _)) ?_
   refine z0y rfl rfl rfl rfl (fun H hp => z1a z9a (i := 0) rfl rfl rfl) ?_
   refine z0y rfl rfl rfl rfl (fun H hp => z13 (y := (z0f x5.1)) Try.underlying9 rfl rfl rfl rfl) ?_
   refine z0y rfl rfl rfl rfl (fun H hp => z0k rfl rfl) ?_
   refine z0y rfl rfl rfl rfl (fun H hp => z0k rfl rfl) ?_
   obtain ⟨x6, hx6, h⟩ := obind h
   refine z0y rfl rfl rfl rfl (fun H hp => z1i (i := s2) Try.underlying27 z44 rfl rfl rfl hx6 (z3b _)) ?_
   refine z0y rfl rfl rfl rfl (fun H hp => z1a z9a (i := 1) rfl rfl rfl) ?_
   refine z0y rfl rfl rfl rfl (fun H hp => (zc9 z2g Try.underlying29 rfl rfl rfl rfl rfl)) ?_
   obtain ⟨x7, hx7, h⟩ := obind h
   refine z0y rfl rfl rfl rfl (fun H hp => z0b rfl Z4s rfl (.cons (Wk.refl _) .nil) ⟨(z20 (x6.2)), trivial⟩ (c_q21 (x6.2) x7 hx7) (ids_V x7)) ?_
   refine z0y rfl rfl rfl rfl (fun H hp => z1w (cs := [(z0f x5.1), (ofV x7)]) z6x z2d rfl rfl (by simp only [List.all_cons, List.all_nil, ziz, z5m, Bool.and_true, Bool.true_and]; try rfl) (by simp only [z8n, List.getElem?_cons_zero, List.getElem?_cons_succ, z30, z2j]; rfl)) ?_
   refine zab rfl rfl rfl rfl ((z1t (xs := [(PV.agg [(z0f x5.1), (ofV x7)])]) Try.underlying45 z2d rfl rfl rfl (by simp only [List.all_cons, List.all_nil, ziz, z5m, Bool.and_true, Bool.true_and]; try rfl) (by simp only [List.all_cons, List.all_nil, ziy, z8i, z30, z2j]; try rfl) rfl ⟨lbE rfl, lbE rfl⟩ (by simp only [zgo, z8n, List.flatMap_cons, List.flatMap_nil, z30, z2j]; try rfl)).cast (y := (PV.sl (some 1) 43 2 (List.map z1h ([(x5.1, x7)] : (List (Str × V)))))) rfl rfl) trivial ?_
   refine z2b ?_
   change AO _ _ _ _ _
   obtain ⟨x8, hx8, h⟩ := obind h
   refine sS rfl rfl rfl (z34 Try.underlying45 z2d rfl Try.underlying45 rfl rfl rfl rfl zsv zj3 hx8 rfl) ?_
   refine sAx (z00 ?_)
   refine cBx ?_
   refine z0s ?_
   refine sMx ?_
   refine sS rfl rfl rfl (z1y (k := s2) (c := 1) rfl rfl rfl (by omega)) ?_
   refine sAx (z00 ?_)
   exact ⟨rfl, (x8, (s2 + 1)), h, ⟨(.cons .same .nil), (sC rfl (sC rfl (sC rfl z09)))⟩⟩
  ·intro hc3; replace h := z03 hc3 h
   refine z22 ?_
   refine cBx ?_
   refine bR ?_
   refine sMx ?_
   refine sAx (z00 ?_)
   refine cBx ?_
   refine z0a ?_
   change ∃ xs, _ = some xs ∧ EndOk _ _ _ _
   obtain rfl := Option.some.inj h
   exact ⟨_, rfl, z0d (y := (PV.sl none 43 2 (List.map z1h s1))) Wk.tok (z0q z1z s1) ⟨rfl, rfl⟩⟩
theorem zn1 (r_q23 : (List (Str × Term)) → Option (List (Str × V))) (c_q23 : ∀ (a0 : (List (Str × Term))) r, r_q23 a0 = some r → z0g Try.prog 28 [(PV.sl none 101 12 (List.map z18 a0))] (PV.sl none 43 2 (List.map z1h r))) (r_q21 : Term → Option V) (c_q21 : ∀ (a0 : Term) r, r_q21 a0 = some r → z0g Try.prog 9 [(z1o a0)] (ofV r)) (a0 : Term) (r : V) (h : zkj r_q23 r_q21 a0 = some r) : z0g Try.prog 9 [(z1o a0)] (ofV r) := by
 unfold zkj at h
 refine z0w Try.func9 rfl Try.ntmps9 Try.results9 rfl (z10 ?_)
 change BW _ _ _ ⟨[(0, (z1o a0))], [], _⟩ _
 refine bR ?_
 refine sS rfl rfl rfl (z1x rfl rfl rfl) ?_
 refine sAx (z00 ?_)
 refine cBx ?_
 refine z0o ?_
 refine bR ?_
 refine sS rfl rfl rfl (z0e z23 (i := 0) rfl rfl rfl) ?_
 refine sS rfl rfl rfl ((z0n Try.underlying3 rfl rfl rfl rfl rfl)) (z00 ?_)
 refine cBx ?_
 refine z0x ?_
 refine cBx ?_
 refine bR ?_
 refine sS rfl rfl rfl ((z06 rfl rfl rfl rfl).cast (y := (BO ((a0.kind == 1)))) rfl rfl) ?_
 refine sAx (z00 ?_)
 refine cBx ?_
 refine z05 rfl ?_ ?_
 ·intro hc1; replace h := z02 hc1 h
  refine bR ?_
  refine sAx (z00 ?_)
  refine cBx ?_
  refine z0a ?_
  change ∃ xs, _ = some xs ∧ EndOk _ _ _ _
  obtain rfl := Option.some.inj h
  exact ⟨_, rfl, z0d (y := (ofV V.nil)) (Wk.eq mk_nil.symm) (ids_V V.nil) ⟨rfl, rfl⟩⟩
 ·intro hc1; replace h := z03 hc1 h
  refine bR ?_
  refine sS rfl rfl rfl ((z06 rfl rfl rfl rfl).cast (y := (BO ((a0.kind == 2)))) rfl rfl) ?_
  refine sAx (z00 ?_)
  refine cBx ?_
  refine z05 rfl ?_ ?_
  ·intro hc2; replace h := z02 hc2 h
   refine bR ?_
   refine sS rfl rfl rfl (z0e z23 (i := 1) rfl rfl rfl) ?_
   refine sS rfl rfl rfl ((z0n Try.underlying4 rfl rfl rfl rfl rfl)) ?_
   refine sS rfl rfl rfl ((z1u Try.underlying4 rfl rfl rfl).wk ((Wk.iface (Wk.refl _)).trans (Wk.eq (zg6 _).symm))) ?_
   refine sAx (z00 ?_)
   refine cBx ?_
   refine z0a ?_
   change ∃ xs, _ = some xs ∧ EndOk _ _ _ _
   obtain rfl := Option.some.inj h
   exact ⟨_, rfl, z0d (y := (ofV (V.bool a0.bool))) (Wk.refl _) (ids_V (V.bool a0.bool)) ⟨rfl, rfl⟩⟩
  ·intro hc2; replace h := z03 hc2 h
   refine bR ?_
   refine sS rfl rfl rfl ((z06 rfl rfl rfl rfl).cast (y := (BO ((a0.kind == 3)))) rfl rfl) ?_
   refine sAx (z00 ?_)
   refine cBx ?_
   refine z05 rfl ?_ ?_
   ·intro hc3; replace h := z02 hc3 h
    refine bR ?_
    refine sS rfl rfl rfl (z0e z23 (i := 2) rfl rfl rfl) ?_
    refine sS rfl rfl rfl ((z0n Try.underlying2 rfl rfl rfl rfl rfl)) ?_
    refine sS rfl rfl rfl ((z1u Try.underlying2 rfl rfl rfl).wk ((Wk.iface (Wk.refl _)).trans (Wk.eq (zxf _).symm))) ?_
    refine sAx (z00 ?_)
    refine cBx ?_
    refine z0a ?_
    change ∃ xs, _ = some xs ∧ EndOk _ _ _ _
    obtain rfl := Option.some.inj h
    exact ⟨_, rfl, z0d (y := (ofV (V.int a0.int))) (Wk.refl _) (ids_V (V.int a0.int)) ⟨rfl, rfl⟩⟩
   ·intro hc3; replace h := z03 hc3 h
    refine bR ?_
    refine sS rfl rfl rfl ((z06 rfl rfl rfl rfl).cast (y := (BO ((a0.kind == 4)))) rfl rfl) ?_
    refine sAx (z00 ?_)
    refine cBx ?_
    refine z05 rfl ?_ ?_
    ·intro hc4; replace h := z02 hc4 h
     refine bR ?_
     refine sS rfl rfl rfl (z0e z23 (i := 3) rfl rfl rfl) ?_
     refine sS rfl rfl rfl ((z0n Try.underlying22 rfl rfl rfl rfl rfl)) ?_
     refine sS rfl rfl rfl ((z1u Try.underlying22 rfl rfl rfl).wk ((Wk.iface (Wk.refl _)).trans (Wk.eq (zlu _).symm))) ?_
     refine sAx (z00 ?_)
     refine cBx ?_
     refine z0a ?_
     change ∃ xs, _ = some xs ∧ EndOk _ _ _ _
     obtain rfl := Option.some.inj h
     exact ⟨_, rfl, z0d (y := (ofV (V.float a0.float))) (Wk.refl _) (ids_V (V.float a0.float)) ⟨rfl, rfl⟩⟩
    ·intro hc4; replace h := z03 hc4 h
     refine bR ?_
     refine sS rfl rfl rfl ((z06 rfl rfl rfl rfl).cast (y := (BO ((a0.kind == 5)))) rfl rfl) ?_
     refine sAx (z00 ?_)
     refine cBx ?_
     refine z05 rfl ?_ ?_
     ·intro hc5; replace h := z02 hc5 h
      refine bR ?_
      refine sS rfl rfl rfl (z0e z23 (i := 4) rfl rfl rfl) ?_
      refine sS rfl rfl rfl ((z0n Try.underlying9 rfl rfl rfl rfl rfl)) ?_
      refine sS rfl rfl rfl ((z1u Try.underlying9 rfl rfl rfl).wk ((Wk.iface (Wk.refl _)).trans (Wk.eq (zrq _).symm))) ?_
      refine sAx (z00 ?_)
      refine cBx ?_
      refine z0a ?_
      change ∃ xs, _ = some xs ∧ EndOk _ _ _ _
      obtain rfl := Option.some.inj h
      exact ⟨_, rfl, z0d (y := (ofV (V.text a0.text))) (Wk.refl _) (ids_V (V.text a0.text)) ⟨rfl, rfl⟩⟩
     ·intro hc5; replace h := z03 hc5 h
      refine bR ?_
      refine sS rfl rfl rfl ((z06 rfl rfl rfl rfl).cast (y := (BO ((a0.kind == 6)))) rfl rfl) ?_
      refine sAx (z00 ?_)
      refine cBx ?_
      refine z05 rfl ?_ ?_
      ·intro hc6; replace h := z02 hc6 h
       refine bR ?_
       refine sS rfl rfl rfl ((z1t (xs := []) Try.underlying23 inf_5 rfl rfl rfl rfl rfl rfl ⟨lbE rfl, lbE rfl⟩ rfl).cast (y := (PV.sl (some 1) 5 1 (List.map ofB ([] : Str)))) rfl rfl) ?_
       refine sS rfl rfl rfl (z0e z23 (i := 5) rfl rfl rfl) ?_
       refine sS rfl rfl rfl ((z0n Try.underlying23 rfl rfl rfl rfl rfl)) ?_
       obtain ⟨x7, hx7, h⟩ := obind h
       refine sS rfl rfl rfl (z34 Try.underlying23 inf_5 rfl Try.underlying23 rfl rfl rfl rfl (fun _ => rfl) (fun _ => rfl) hx7 rfl) ?_
       refine sS rfl rfl rfl ((z1u Try.underlying23 rfl rfl rfl).wk ((Wk.iface Wk.tok).trans (Wk.eq (zlv _).symm))) ?_
       refine sAx (z00 ?_)
       refine cBx ?_
       refine z0a ?_
       change ∃ xs, _ = some xs ∧ EndOk _ _ _ _
       obtain rfl := Option.some.inj h
       exact ⟨_, rfl, z0d (y := (ofV (V.bytes x7))) (Wk.refl _) (ids_V (V.bytes x7)) ⟨rfl, rfl⟩⟩
      ·intro hc6; replace h := z03 hc6 h
       refine bR ?_
       refine sS rfl rfl rfl ((z06 rfl rfl rfl rfl).cast (y := (BO ((a0.kind == 7)))) rfl rfl) ?_
       refine sAx (z00 ?_)
       refine cBx ?_
       refine z05 rfl ?_ ?_
       ·intro hc8; replace h := z02 hc8 h
        refine bR ?_
        refine sS rfl rfl rfl (z0e z23 (i := 6) rfl rfl rfl) ?_
        refine sS rfl rfl rfl ((z0n Try.underlying25 rfl rfl rfl rfl rfl)) ?_
        refine sS rfl rfl rfl ((z1u Try.underlying25 rfl rfl rfl).wk ((Wk.iface (Wk.refl _)).trans (Wk.eq (zxe _).symm))) ?_
        refine sAx (z00 ?_)
        refine cBx ?_
        refine z0a ?_
        change ∃ xs, _ = some xs ∧ EndOk _ _ _ _
        obtain rfl := Option.some.inj h
        exact ⟨_, rfl, z0d (y := (ofV (V.ref a0.ref))) (Wk.refl _) (ids_V (V.ref a0.ref)) ⟨rfl, rfl⟩⟩
       ·intro hc8; replace h := z03 hc8 h
        refine bR ?_
        refine sS rfl rfl rfl ((z06 rfl rfl rfl rfl).cast (y := (BO ((a0.kind == 8)))) rfl rfl) ?_
        refine sAx (z00 ?_)
        refine cBx ?_
        refine z05 rfl ?_ ?_
        ·intro hc9; replace h := z02 hc9 h
         refine bR ?_
         refine sS rfl rfl rfl ((z1t (xs := []) Try.underlying37 z6r rfl rfl rfl rfl rfl rfl ⟨lbE rfl, lbE rfl⟩ rfl).cast (y := (PV.sl (some 1) 20 1 (List.map ofV ([] : (List V))))) rfl rfl) ?_
         refine sAx (z00 ?_)
         refine cBx ?_
         refine z0o ?_
         refine bR ?_
         refine sAx (z00 ?_)
         refine cBx ?_
         refine z0x ?_
         refine cBx ?_
         unfold zcy at h
         refine z26 (σ := ((List V) × Nat)) (fun i => [(1, (PV.rf 0 0)), (3, (PV.sl (some 1) 20 1 (List.map ofV i.1))), (4, (I64 (((i.2 : Nat) : Int))))]) (fun i => [.box 29 (z4l a0), .arr 20 (i.1).length]) (([] : (List V)), 0) h ?_ ?_ ?_
         ·intro i; exact ⟨lbE rfl, ⟨(il_rf rfl), ⟨(z5j rfl (z3j ids_V _)), ⟨(z01 rfl), trivial⟩⟩⟩, ⟨wfC29, trivial⟩⟩
         ·exact ⟨(.cons .same (.cons .same .nil)), (sC rfl (sC rfl (sC rfl z09)))⟩
         ·rintro g1_f ⟨s10, s11⟩ h; replace h : z5q r_q21 a0 (fun y0 y1 => g1_f (y0, y1)) s10 s11 = some r := h; unfold z5q at h
          change BW _ _ _ ⟨[(1, (PV.rf 0 0)), (3, (PV.sl (some 1) 20 1 (List.map ofV s10))), (4, (I64 (((s11 : Nat) : Int))))], [.box 29 (z4l a0), .arr 20 (s10).length], _⟩ _
          refine z0o ?_
          refine bR ?_
          refine sMx ?_
          refine sS rfl rfl rfl (z0e z23 (i := 7) rfl rfl rfl) ?_
          refine sS rfl rfl rfl ((z0n Try.underlying26 rfl rfl rfl rfl rfl)) ?_
          refine sS rfl rfl rfl (z17 Try.underlying26 rfl rfl) ?_
          refine sS rfl rfl rfl ((z06 rfl rfl rfl rfl).cast (y := (BO ((decide (((s11 : Nat) : Int) < (((a0.list).length : Nat) : Int)))))) rfl rfl) (z00 ?_)
          refine cBx ?_
          refine z2z (t := 47) rfl fun hb13 => ?_
          try rw [List.length_map] at hb13
          refine z05 rfl ?_ ?_
          ·intro hc12; replace h := z02 hc12 h
           have hc12_ := of_decide_eq_true hc12
           refine z0l ?_
           refine cBx ?_
           refine z0o ?_
           refine z0x ?_
           refine cBx ?_
           refine z0s ?_
           refine sMx ?_
           refine sS rfl rfl rfl (z0e z23 (i := 7) rfl rfl rfl) ?_
           refine sS rfl rfl rfl ((z0n Try.underlying26 rfl rfl rfl rfl rfl)) ?_
           refine sMx ?_
           obtain ⟨x14, hx14, h⟩ := obind h
           refine sS rfl rfl rfl (z1i (i := s11) Try.underlying26 z2g rfl rfl rfl hx14 (z3w _)) ?_
           refine sS rfl rfl rfl (z1s z2g Try.underlying29 rfl rfl rfl rfl rfl) ?_
           obtain ⟨x15, hx15, h⟩ := obind h
           refine sS rfl rfl rfl (z0b rfl Z4s rfl (.cons (Wk.refl _) .nil) ⟨(z20 x14), trivial⟩ (c_q21 x14 x15 hx15) (ids_V x15)) ?_
           refine sS rfl rfl rfl ((z1t (xs := [(ofV x15)]) Try.underlying37 z6r rfl rfl rfl (by simp only [List.all_cons, List.all_nil, ziz, z5m, Bool.and_true, Bool.true_and]; try rfl) (by simp only [List.all_cons, List.all_nil, ziy, z8i, z30, z2j]; try rfl) rfl ⟨lbE rfl, lbE rfl⟩ (by simp only [zgo, z8n, List.flatMap_cons, List.flatMap_nil, z30, z2j]; try rfl)).cast (y := (PV.sl (some 2) 20 1 (List.map ofV ([x15] : (List V))))) rfl rfl) ?_
           obtain ⟨x16, hx16, h⟩ := obind h
           refine sS rfl rfl rfl (z34 Try.underlying37 z6r rfl Try.underlying37 rfl rfl rfl rfl ziy zt3 hx16 rfl) ?_
           refine sAx (z00 ?_)
           refine cBx ?_
           refine z0s ?_
           refine sMx ?_
           refine sS rfl rfl rfl (z1y (k := s11) (c := 1) rfl rfl rfl (by omega)) ?_
           refine sAx (z00 ?_)
           exact ⟨rfl, (x16, (s11 + 1)), h, ⟨(.cons .same (.cons .same .nil)), (sC rfl (sC rfl (sC rfl z09)))⟩⟩
          ·intro hc12; replace h := z03 hc12 h
           refine z22 ?_
           refine cBx ?_
           refine bR ?_
           refine sMx ?_
           refine sS rfl rfl rfl ((z1u Try.underlying37 rfl rfl rfl).wk ((Wk.iface Wk.tok).trans (Wk.eq (zrr _).symm))) ?_
           refine sAx (z00 ?_)
           refine cBx ?_
           refine z0a ?_
           change ∃ xs, _ = some xs ∧ EndOk _ _ _ _
           obtain rfl := Option.some.inj h
           exact ⟨_, rfl, z0d (y := (ofV (V.list s10))) (Wk.refl _) (ids_V (V.list s10)) ⟨rfl, rfl⟩⟩
        ·intro hc9; replace h := z03 hc9 h
         refine bR ?_
         refine sS rfl rfl rfl ((z06 rfl rfl rfl rfl).cast (y := (BO ((a0.kind == 9)))) rfl rfl) ?_
         refine sAx (z00 ?_)
         refine cBx ?_
         refine z05 rfl ?_ ?_
         ·intro hc17; replace h := z02 hc17 h
          refine bR ?_
          refine sS rfl rfl rfl (z0e z23 (i := 8) rfl rfl rfl) ?_
          refine sS rfl rfl rfl ((z0n Try.underlying27 rfl rfl rfl rfl rfl)) ?_
          obtain ⟨x18, hx18, h⟩ := obind h
          refine sS rfl rfl rfl (z0b rfl Z2a rfl (.cons (Wk.refl _) .nil) ⟨(z0q z2x a0.fields), trivial⟩ (c_q23 a0.fields x18 hx18) (z0q z1z x18)) ?_
          refine sS rfl rfl rfl ((z1u Try.underlying45 rfl rfl rfl).wk ((Wk.iface (Wk.refl _)).trans (Wk.eq (zk0 _).symm))) ?_
          refine sAx (z00 ?_)
          refine cBx ?_
          refine z0a ?_
          change ∃ xs, _ = some xs ∧ EndOk _ _ _ _
          obtain rfl := Option.some.inj h
          exact ⟨_, rfl, z0d (y := (ofV (V.dict x18))) (Wk.refl _) (ids_V (V.dict x18)) ⟨rfl, rfl⟩⟩
         ·intro hc17; replace h := z03 hc17 h
          refine bR ?_
          refine sS rfl rfl rfl ((z06 rfl rfl rfl rfl).cast (y := (BO ((a0.kind == 10)))) rfl rfl) ?_
          refine sAx (z00 ?_)
          refine cBx ?_
          refine z05 rfl ?_ ?_
          ·intro hc19; replace h := z02 hc19 h
           refine z0o (z2e 7 [] [0] mo (by kernel_rfl) ?_)
           refine z0y rfl rfl rfl rfl (fun H hp => z0e z23 (i := 9) rfl rfl rfl) ?_
           refine z0y rfl rfl rfl rfl (fun H hp => (z0n Try.underlying9 rfl rfl rfl (hp.at rfl rfl) rfl)) ?_
           refine z0y rfl rfl rfl rfl (fun H hp => z0e z23 (i := 10) rfl rfl rfl) ?_
           refine z0y rfl rfl rfl rfl (fun H hp => (z0n Try.underlying3 rfl rfl rfl (hp.at rfl rfl) rfl)) ?_
           refine z0y rfl rfl rfl rfl (fun H hp => z0e z23 (i := 8) rfl rfl rfl) ?_
           refine z0y rfl rfl rfl rfl (fun H hp => (z0n Try.underlying27 rfl rfl rfl (hp.at rfl rfl) rfl)) ?_
           obtain ⟨x20, hx20, h⟩ := obind h
           refine z0y rfl rfl rfl rfl (fun H hp => z0b rfl Z2a rfl (.cons (Wk.refl _) .nil) ⟨(z0q z2x a0.fields), trivial⟩ (c_q23 a0.fields x20 hx20) (z0q z1z x20)) ?_
           refine z2b ?_
           change AO _ _ _ _ _
           refine sS rfl rfl rfl (z1w (cs := [(z0f a0.cls), (I64 a0.ver), (PV.sl none 43 2 (List.map z1h x20))]) z6w zs6 rfl rfl rfl rfl) ?_
           refine sS rfl rfl rfl (z1x rfl rfl rfl) ?_
           refine sS rfl rfl rfl (z1u Try.underlying70 rfl rfl rfl) ?_
           refine sAx (z00 ?_)
           refine cBx ?_
           refine zbe 1 2 (y := (ofV (V.record a0.cls a0.ver x20))) rfl rfl ((Wk.iface (Wk.pt (x := .agg [(z0f a0.cls), (I64 a0.ver), (PV.sl none 43 2 (List.map z1h x20))]) (y := zo6 (Rec.mk a0.cls a0.ver x20)) (.cons (Wk.refl _) (.cons (Wk.refl _) (.cons (Wk.refl _) .nil))))).trans (Wk.eq (zlt (some (Rec.mk a0.cls a0.ver x20))).symm)) ?_
           refine z0a ?_
           change ∃ xs, _ = some xs ∧ EndOk _ _ _ _
           obtain rfl := Option.some.inj h
           exact ⟨_, rfl, z0d (y := (ofV (V.record a0.cls a0.ver x20))) (Wk.refl _) (ids_V (V.record a0.cls a0.ver x20)) ⟨rfl, rfl⟩⟩
          ·intro hc19; replace h := z03 hc19 h
           refine bR ?_
           refine sS rfl rfl rfl ((z06 rfl rfl rfl rfl).cast (y := (BO ((a0.kind == 11)))) rfl rfl) ?_
           refine sAx (z00 ?_)
           refine cBx ?_
           refine z05 rfl ?_ ?_
           ·intro hc21; replace h := z02 hc21 h
            refine bR ?_
            refine sAx (z00 ?_)
            refine cBx ?_
            refine bR ?_
            refine sMx ?_
            refine sS rfl rfl rfl ((z1u Try.underlying70 rfl rfl rfl).wk (Wk.eq (zlt none).symm)) ?_
            refine sAx (z00 ?_)
            refine cBx ?_
            refine z0a ?_
            change ∃ xs, _ = some xs ∧ EndOk _ _ _ _
            obtain rfl := Option.some.inj h
            exact ⟨_, rfl, z0d (y := (ofV V.nothing)) (Wk.refl _) (ids_V V.nothing) ⟨rfl, rfl⟩⟩
           ·intro hc21; replace h := z03 hc21 h
            refine z0l ?_
            refine cBx ?_
            refine bR ?_
            refine sS rfl rfl rfl (z0e z23 (i := 2) rfl rfl rfl) ?_
            refine sS rfl rfl rfl ((z0n Try.underlying2 rfl rfl rfl rfl rfl)) ?_
            obtain ⟨x22, hx22, h⟩ := obind h
            refine sS rfl rfl rfl (z0b rfl Z55 rfl (.cons (Wk.refl _) .nil) ⟨rfl, trivial⟩ (Z3g a0.int x22 hx22) (ids_V x22)) ?_
            refine sAx (z00 ?_)
            refine cBx ?_
            refine z0a ?_
            change ∃ xs, _ = some xs ∧ EndOk _ _ _ _
            obtain rfl := Option.some.inj h
            exact ⟨_, rfl, z0d (y := (ofV x22)) (Wk.refl _) (ids_V x22) ⟨rfl, rfl⟩⟩
theorem C_q23.sound : ∀ (i : C_q23) (r : i.R), z38 C_q23.F i = some r → C_q23.Q i r := by
 refine z4a (Φ := C_q23.F) (Q := C_q23.Q) ?_
 intro g hg i r h
 cases i with
 | k_q23 a0 => exact zot (fun a0 => g (.k_q23 a0)) (fun a0 r hr => hg (.k_q23 a0) r hr) (fun a0 => g (.k_q21 a0)) (fun a0 r hr => hg (.k_q21 a0) r hr) a0 r h
 | k_q21 a0 => exact zn1 (fun a0 => g (.k_q23 a0)) (fun a0 r hr => hg (.k_q23 a0) r hr) (fun a0 => g (.k_q21 a0)) (fun a0 r hr => hg (.k_q21 a0) r hr) a0 r h
theorem Z3f (a0 : Term) (r : V) (h : z9o a0 = some r) : z0g Try.prog 9 [(z1o a0)] (ofV r) := C_q23.sound (.k_q21 a0) r h
noncomputable def zg0 (a0 : V) : Option Int :=
 bif (a0).isNil then (
  some 1
 ) else (
  bif (a0).isBool then (
   some 2
  ) else (
   bif (a0).isInt then (
    some 3
   ) else (
    bif (a0).isFloat then (
     some 4
    ) else (
     bif (a0).isText then (
      some 5
     ) else (
      bif (a0).isBytes then (
       some 6
      ) else (
       bif (a0).isRef then (
        some 7
       ) else (
        bif (a0).isList then (
         some 8
        ) else (
         bif (a0).isDict then (
          some 9
         ) else (
          bif (a0).isRec then (
           bif ((a0).asRec).isNone then (
            some 11
           ) else (
            some 10
           )
          ) else (
           some 0
          )
         )
        )
       )
      )
     )
    )
   )
  )
 )
theorem zn3 (a0 : V) (r : Int) (h : zg0 a0 = some r) : z0g Try.prog 86 [(ofV a0)] (I64 r) := by
 unfold zg0 at h
 refine z0w Try.func86 rfl Try.ntmps86 Try.results86 rfl (z10 ?_)
 change BW _ _ _ ⟨[(0, (ofV a0))], [], _⟩ _
 refine bR ?_
 refine sAx (z00 ?_)
 refine cBx ?_
 refine z0o ?_
 refine bR ?_
 refine sMx (z00 ?_)
 refine cBx ?_
 refine z0x ?_
 refine cBx ?_
 refine bR ?_
 refine sS rfl rfl rfl (zo1 Try.underlying20 rfl rfl) (z00 ?_)
 refine cBx ?_
 refine z05 rfl ?_ ?_
 ·intro hc1; replace h := z02 hc1 h
  refine bR ?_
  refine sAx (z00 ?_)
  refine cBx ?_
  refine bR ?_
  refine sAx (z00 ?_)
  refine cBx ?_
  refine z0a ?_
  change ∃ xs, _ = some xs ∧ EndOk _ _ _ _
  obtain rfl := Option.some.inj h
  exact ⟨_, rfl, z0d (y := (I64 1)) (Wk.refl _) rfl ⟨rfl, rfl⟩⟩
 ·intro hc1; replace h := z03 hc1 h
  refine bR ?_
  refine sS rfl rfl rfl (zb9 rfl rfl) ?_
  refine sS rfl rfl rfl (z0j rfl rfl rfl) ?_
  refine sS rfl rfl rfl (z0j rfl rfl rfl) (z00 ?_)
  refine cBx ?_
  refine z05 rfl ?_ ?_
  ·intro hc2; replace h := z02 hc2 h
   refine bR ?_
   refine sAx (z00 ?_)
   refine cBx ?_
   refine bR ?_
   refine sAx (z00 ?_)
   refine cBx ?_
   refine z0a ?_
   change ∃ xs, _ = some xs ∧ EndOk _ _ _ _
   obtain rfl := Option.some.inj h
   exact ⟨_, rfl, z0d (y := (I64 2)) (Wk.refl _) rfl ⟨rfl, rfl⟩⟩
  ·intro hc2; replace h := z03 hc2 h
   refine bR ?_
   refine sS rfl rfl rfl (zdk rfl rfl) ?_
   refine sS rfl rfl rfl (z0j rfl rfl rfl) ?_
   refine sS rfl rfl rfl (z0j rfl rfl rfl) (z00 ?_)
   refine cBx ?_
   refine z05 rfl ?_ ?_
   ·intro hc3; replace h := z02 hc3 h
    refine bR ?_
    refine sAx (z00 ?_)
    refine cBx ?_
    refine bR ?_
    refine sAx (z00 ?_)
    refine cBx ?_
    refine z0a ?_
    change ∃ xs, _ = some xs ∧ EndOk _ _ _ _
    obtain rfl := Option.some.inj h
    exact ⟨_, rfl, z0d (y := (I64 3)) (Wk.refl _) rfl ⟨rfl, rfl⟩⟩
   ·intro hc3; replace h := z03 hc3 h
    refine bR ?_
    refine sS rfl rfl rfl (z8u rfl rfl) ?_
    refine sS rfl rfl rfl (z0j rfl rfl rfl) ?_
    refine sS rfl rfl rfl (z0j rfl rfl rfl) (z00 ?_)
    refine cBx ?_
    refine z05 rfl ?_ ?_
    ·intro hc4; replace h := z02 hc4 h
     refine bR ?_
     refine sAx (z00 ?_)
     refine cBx ?_
     refine bR ?_
     refine sAx (z00 ?_)
     refine cBx ?_
     refine z0a ?_
     change ∃ xs, _ = some xs ∧ EndOk _ _ _ _
     obtain rfl := Option.some.inj h
     exact ⟨_, rfl, z0d (y := (I64 4)) (Wk.refl _) rfl ⟨rfl, rfl⟩⟩
    ·intro hc4; replace h := z03 hc4 h
     refine bR ?_
     refine sS rfl rfl rfl (z8a rfl rfl) ?_
     refine sS rfl rfl rfl (z0j rfl rfl rfl) ?_
     refine sS rfl rfl rfl (z0j rfl rfl rfl) (z00 ?_)
     refine cBx ?_
     refine z05 rfl ?_ ?_
     ·intro hc5; replace h := z02 hc5 h
      refine bR ?_
      refine sAx (z00 ?_)
      refine cBx ?_
      refine bR ?_
      refine sAx (z00 ?_)
      refine cBx ?_
      refine z0a ?_
      change ∃ xs, _ = some xs ∧ EndOk _ _ _ _
      obtain rfl := Option.some.inj h
      exact ⟨_, rfl, z0d (y := (I64 5)) (Wk.refl _) rfl ⟨rfl, rfl⟩⟩
     ·intro hc5; replace h := z03 hc5 h
      refine bR ?_
      refine sS rfl rfl rfl (z7a rfl rfl) ?_
      refine sS rfl rfl rfl (z0j rfl rfl rfl) ?_
      refine sS rfl rfl rfl (z0j rfl rfl rfl) (z00 ?_)
      refine cBx ?_
      refine z05 rfl ?_ ?_
      ·intro hc6; replace h := z02 hc6 h
       refine bR ?_
       refine sAx (z00 ?_)
       refine cBx ?_
       refine bR ?_
       refine sAx (z00 ?_)
       refine cBx ?_
       refine z0a ?_
       change ∃ xs, _ = some xs ∧ EndOk _ _ _ _
       obtain rfl := Option.some.inj h
       exact ⟨_, rfl, z0d (y := (I64 6)) (Wk.refl _) rfl ⟨rfl, rfl⟩⟩
      ·intro hc6; replace h := z03 hc6 h
       refine bR ?_
       refine sS rfl rfl rfl (zdj rfl rfl) ?_
       refine sS rfl rfl rfl (z0j rfl rfl rfl) ?_
       refine sS rfl rfl rfl (z0j rfl rfl rfl) (z00 ?_)
       refine cBx ?_
       refine z05 rfl ?_ ?_
       ·intro hc7; replace h := z02 hc7 h
        refine bR ?_
        refine sAx (z00 ?_)
        refine cBx ?_
        refine bR ?_
        refine sAx (z00 ?_)
        refine cBx ?_
        refine z0a ?_
        change ∃ xs, _ = some xs ∧ EndOk _ _ _ _
        obtain rfl := Option.some.inj h
        exact ⟨_, rfl, z0d (y := (I64 7)) (Wk.refl _) rfl ⟨rfl, rfl⟩⟩
       ·intro hc7; replace h := z03 hc7 h
        refine bR ?_
        refine sS rfl rfl rfl (z4f rfl rfl) ?_
        refine sS rfl rfl rfl (z0j rfl rfl rfl) ?_
        refine sS rfl rfl rfl (z0j rfl rfl rfl) (z00 ?_)
        refine cBx ?_
        refine z05 rfl ?_ ?_
        ·intro hc8; replace h := z02 hc8 h
         refine bR ?_
         refine sAx (z00 ?_)
         refine cBx ?_
         refine bR ?_
         refine sAx (z00 ?_)
         refine cBx ?_
         refine z0a ?_
         change ∃ xs, _ = some xs ∧ EndOk _ _ _ _
         obtain rfl := Option.some.inj h
         exact ⟨_, rfl, z0d (y := (I64 8)) (Wk.refl _) rfl ⟨rfl, rfl⟩⟩
        ·intro hc8; replace h := z03 hc8 h
         refine bR ?_
         refine sS rfl rfl rfl (z4g rfl rfl) ?_
         refine sS rfl rfl rfl (z0j rfl rfl rfl) ?_
         refine sS rfl rfl rfl (z0j rfl rfl rfl) (z00 ?_)
         refine cBx ?_
         refine z05 rfl ?_ ?_
         ·intro hc9; replace h := z02 hc9 h
          refine bR ?_
          refine sAx (z00 ?_)
          refine cBx ?_
          refine bR ?_
          refine sAx (z00 ?_)
          refine cBx ?_
          refine z0a ?_
          change ∃ xs, _ = some xs ∧ EndOk _ _ _ _
          obtain rfl := Option.some.inj h
          exact ⟨_, rfl, z0d (y := (I64 9)) (Wk.refl _) rfl ⟨rfl, rfl⟩⟩
         ·intro hc9; replace h := z03 hc9 h
          refine bR ?_
          refine sS rfl rfl rfl (z55 rfl rfl) ?_
          refine sS rfl rfl rfl (z0j rfl rfl rfl) ?_
          refine sS rfl rfl rfl (z0j rfl rfl rfl) (z00 ?_)
          refine cBx ?_
          refine z05 rfl ?_ ?_
          ·intro hc10; replace h := z02 hc10 h
           refine bR ?_
           refine sAx (z00 ?_)
           refine cBx ?_
           refine z0o ?_
           refine bR ?_
           refine sMx ?_
           refine sS rfl rfl rfl (zf8 Try.underlying70 rfl rfl) (z00 ?_)
           refine cBx ?_
           refine z05 rfl ?_ ?_
           ·intro hc11; replace h := z02 hc11 h
            refine bR ?_
            refine sAx (z00 ?_)
            refine cBx ?_
            refine z0a ?_
            change ∃ xs, _ = some xs ∧ EndOk _ _ _ _
            obtain rfl := Option.some.inj h
            exact ⟨_, rfl, z0d (y := (I64 11)) (Wk.refl _) rfl ⟨rfl, rfl⟩⟩
           ·intro hc11; replace h := z03 hc11 h
            refine z0l ?_
            refine cBx ?_
            refine bR ?_
            refine sAx (z00 ?_)
            refine cBx ?_
            refine z0a ?_
            change ∃ xs, _ = some xs ∧ EndOk _ _ _ _
            obtain rfl := Option.some.inj h
            exact ⟨_, rfl, z0d (y := (I64 10)) (Wk.refl _) rfl ⟨rfl, rfl⟩⟩
          ·intro hc10; replace h := z03 hc10 h
           refine z0l ?_
           refine cBx ?_
           refine bR ?_
           refine sAx (z00 ?_)
           refine cBx ?_
           refine z0a ?_
           change ∃ xs, _ = some xs ∧ EndOk _ _ _ _
           obtain rfl := Option.some.inj h
           exact ⟨_, rfl, z0d (y := (I64 0)) (Wk.refl _) rfl ⟨rfl, rfl⟩⟩
noncomputable def z6h (g1 : Nat → Option Bool) (s4 : Nat) (s8 : Bool) : Option Bool :=
 bif s8 then (
  some false
 ) else (
  g1 (s4 + 1)
 )
theorem zpd (g1 : OF ρ → Nat → Option Bool) (h_g1 : ∀ y0, CM (fun G => g1 G y0)) (s4 : Nat) (s8 : Bool) : CM (fun G : OF ρ => z6h (g1 G) s4 s8) := by
 simp only [z6h]
 repeat (first | exact z0c | exact h_g1 _ | refine z14 ?_ ?_ | refine z15 ?_ (fun _ => ?_))
noncomputable def z5s (a0 : Str) (g1 : Nat → Option Bool) (s4 : Nat) : Option Bool :=
 bif (decide (((s4 : Nat) : Int) < (((a0).length : Nat) : Int))) then (
  Option.bind ((a0)[s4]?) fun x7 =>
  bif (decide (((x7).toNat : Int) < (((97 : UInt8)).toNat : Int))) then (
   bif (decide (((x7).toNat : Int) < (((48 : UInt8)).toNat : Int))) then (
    z6h g1 s4 (((x7).toNat : Int) != (((95 : UInt8)).toNat : Int))
   ) else (
    bif (decide (((x7).toNat : Int) > (((57 : UInt8)).toNat : Int))) then (
     z6h g1 s4 (((x7).toNat : Int) != (((95 : UInt8)).toNat : Int))
    ) else (
     z6h g1 s4 false
    )
   )
  ) else (
   bif (decide (((x7).toNat : Int) > (((122 : UInt8)).toNat : Int))) then (
    bif (decide (((x7).toNat : Int) < (((48 : UInt8)).toNat : Int))) then (
     z6h g1 s4 (((x7).toNat : Int) != (((95 : UInt8)).toNat : Int))
    ) else (
     bif (decide (((x7).toNat : Int) > (((57 : UInt8)).toNat : Int))) then (
      z6h g1 s4 (((x7).toNat : Int) != (((95 : UInt8)).toNat : Int))
     ) else (
      z6h g1 s4 false
     )
    )
   ) else (
    z6h g1 s4 false
   )
  )
 ) else (
  some true
 )
theorem zn9 (g1 : OF ρ → Nat → Option Bool) (h_g1 : ∀ y0, CM (fun G => g1 G y0)) (a0 : Str) (s4 : Nat) : CM (fun G : OF ρ => z5s a0 (g1 G) s4) := by
 simp only [z5s]
 repeat (first | exact z0c | exact h_g1 _ | apply zpd | refine z14 ?_ ?_ | refine z15 ?_ (fun _ => ?_) | intro _ | assumption)
noncomputable def zh4 (a0 : Str) (s4 : Nat) : Option Bool :=
 z38 (ι := Nat) (ρ := fun _ => Bool) (fun g i => z5s a0 (fun s4 => g s4) i) s4
theorem zh3 (a0 : Str) (s4 : Nat) : zh4 a0 s4 = z5s a0 (zh4 a0) s4 :=
 z1d (ι := Nat) (ρ := fun _ => Bool) (Φ := fun g i => z5s a0 (fun s4 => g s4) i) (fun i => zn9 (ι := Nat) (ρ := fun _ => Bool) (fun g => (fun s4 => g s4)) (fun _ => z1c) a0 i) s4
noncomputable def zbn (a0 : Str) (s1 : Bool) : Option Bool :=
 bif s1 then (
  some false
 ) else (
  Option.bind (zed (a0).length) fun x3 =>
  zh4 a0 0
 )
noncomputable def zjn (a0 : Str) : Option Bool :=
 bif (a0 == ([] : Str)) then (
  zbn a0 true
 ) else (
  bif (decide ((((a0).length : Nat) : Int) > 32)) then (
   zbn a0 true
  ) else (
   Option.bind ((a0)[0]?) fun x18 =>
   bif (decide (((x18).toNat : Int) < (((97 : UInt8)).toNat : Int))) then (
    zbn a0 true
   ) else (
    Option.bind ((a0)[0]?) fun x20 =>
    zbn a0 (decide (((x20).toNat : Int) > (((122 : UInt8)).toNat : Int)))
   )
  )
 )
theorem Z0h (a0 : Str) (r : Bool) (h : zjn a0 = some r) : z0g Try.prog 122 [(z0f a0)] (BO r) := by
 unfold zjn at h
 refine z0w Try.func122 rfl Try.ntmps122 Try.results122 rfl (z10 ?_)
 change BW _ _ _ ⟨[(0, (z0f a0))], [], _⟩ _
 refine bR ?_
 refine sAx (z00 ?_)
 refine cBx ?_
 refine z0o ?_
 refine z1n (ι := Bool) (fun i => zbn a0 i = some r) (fun i => [(0, (z0f a0)), (21, (BO i))]) (fun i => []) ?_ ?_ ?_
 ·intro i; exact ⟨lbE rfl, ⟨(z01 rfl), ⟨(z01 rfl), trivial⟩⟩, trivial⟩
 ·rintro s1 h; replace h : zbn a0 s1 = some r := h; unfold zbn at h
  change BW _ _ _ ⟨[(0, (z0f a0)), (21, (BO s1))], [], _⟩ _
  refine z05 rfl ?_ ?_
  ·intro hc2; replace h := z02 hc2 h
   refine bR ?_
   refine sAx (z00 ?_)
   refine cBx ?_
   refine z0a ?_
   change ∃ xs, _ = some xs ∧ EndOk _ _ _ _
   obtain rfl := Option.some.inj h
   exact ⟨_, rfl, z0d (y := (BO false)) (Wk.refl _) rfl ⟨rfl, rfl⟩⟩
  ·intro hc2; replace h := z03 hc2 h
   refine z0l ?_
   refine cBx ?_
   refine z0o ?_
   refine bR ?_
   refine sMx ?_
   obtain ⟨x3, hx3, h⟩ := obind h
   refine sS rfl rfl rfl (zri Try.underlying9 Try.underlying23 Try.underlying5 rfl rfl hx3) ?_
   refine sS rfl rfl rfl (z17 Try.underlying23 rfl rfl) ?_
   refine sMx (z00 ?_)
   refine cBx ?_
   refine z0x ?_
   refine cBx ?_
   unfold zh4 at h
   refine z26 (σ := Nat) (fun i => [(23, (PV.sl none 5 1 (List.map ofB a0))), (24, (I64 ((((a0).length : Nat) : Int)))), (25, (I64 (((i : Nat) : Int))))]) (fun i => []) 0 h ?_ ?_ ?_
   ·intro i; exact ⟨lbE rfl, ⟨(z01 (z0q (fun _ => rfl) _)), ⟨(z01 rfl), ⟨(z01 rfl), trivial⟩⟩⟩, trivial⟩
   ·exact ⟨.nil, (sC rfl (sC rfl (sC rfl z09)))⟩
   ·rintro g1_f s4 h; replace h : z5s a0 (fun y0 => g1_f y0) s4 = some r := h; unfold z5s at h
    change BW _ _ _ ⟨[(23, (PV.sl none 5 1 (List.map ofB a0))), (24, (I64 ((((a0).length : Nat) : Int)))), (25, (I64 (((s4 : Nat) : Int))))], [], _⟩ _
    refine bR ?_
    refine sS rfl rfl rfl ((z06 rfl rfl rfl rfl).cast (y := (BO ((decide (((s4 : Nat) : Int) < (((a0).length : Nat) : Int)))))) rfl rfl) (z00 ?_)
    refine cBx ?_
    refine z0o ?_
    refine z2z (t := 23) rfl fun hb6 => ?_
    try rw [List.length_map] at hb6
    refine z05 rfl ?_ ?_
    ·intro hc5; replace h := z02 hc5 h
     have hc5_ := of_decide_eq_true hc5
     refine z0l ?_
     refine cBx ?_
     refine z0o ?_
     refine z0x ?_
     refine cBx ?_
     refine bR ?_
     obtain ⟨x7, hx7, h⟩ := obind h
     refine sS rfl rfl rfl (z1i (i := s4) Try.underlying23 inf_5 rfl rfl rfl hx7 rfl) ?_
     refine sS rfl rfl rfl (z13 (y := (ofB x7)) Try.underlying5 rfl rfl rfl rfl) ?_
     refine sAx (z00 ?_)
     refine cBx ?_
     refine z1n (ι := Bool) (fun i => z6h (fun y0 => g1_f y0) s4 i = some r) (fun i => [(23, (PV.sl none 5 1 (List.map ofB a0))), (24, (I64 ((((a0).length : Nat) : Int)))), (25, (I64 (((s4 : Nat) : Int)))), (46, (BO i))]) (fun i => []) ?_ ?_ ?_
     ·intro i; exact ⟨lbE rfl, ⟨(z01 (z0q (fun _ => rfl) _)), ⟨(z01 rfl), ⟨(z01 rfl), ⟨(z01 rfl), trivial⟩⟩⟩⟩, trivial⟩
     ·rintro s8 h; replace h : z6h (fun y0 => g1_f y0) s4 s8 = some r := h; unfold z6h at h
      change BW _ _ _ ⟨[(23, (PV.sl none 5 1 (List.map ofB a0))), (24, (I64 ((((a0).length : Nat) : Int)))), (25, (I64 (((s4 : Nat) : Int)))), (46, (BO s8))], [], _⟩ _
      refine z05 rfl ?_ ?_
      ·intro hc9; replace h := z02 hc9 h
       refine bR ?_
       refine sAx (z00 ?_)
       refine cBx ?_
       refine z0a ?_
       change ∃ xs, _ = some xs ∧ EndOk _ _ _ _
       obtain rfl := Option.some.inj h
       exact ⟨_, rfl, z0d (y := (BO false)) (Wk.refl _) rfl ⟨rfl, rfl⟩⟩
      ·intro hc9; replace h := z03 hc9 h
       refine z0l ?_
       refine cBx ?_
       refine z0s ?_
       refine sS rfl rfl rfl (z1y (k := s4) (c := 1) rfl rfl rfl (by omega)) ?_
       refine sMx (z00 ?_)
       exact ⟨rfl, (s4 + 1), h, ⟨.nil, (sC rfl (sC rfl (sC rfl z09)))⟩⟩
     ·refine z0s ?_
      refine sMx ?_
      refine sS rfl rfl rfl ((z06 rfl rfl rfl rfl).cast (y := (BO ((decide (((x7).toNat : Int) < (((97 : UInt8)).toNat : Int)))))) rfl rfl) ?_
      refine sMx ?_
      refine z16 (t := 31) rfl ?_ ?_
      ·intro hb10; replace h := z02 hb10 h
       refine z0h rfl rfl rfl rfl rfl rfl ?_
       refine z0h rfl rfl rfl rfl rfl rfl ?_
       refine sS rfl rfl rfl (z0p rfl rfl rfl) ?_
       refine sMx ?_
       refine z08 rfl rfl rfl rfl rfl rfl (z0k rfl rfl) ?_
       refine z08 rfl rfl rfl rfl rfl rfl ((z06 rfl rfl rfl rfl).cast (y := (BO ((decide (((x7).toNat : Int) < (((48 : UInt8)).toNat : Int)))))) rfl rfl) ?_
       refine z08 rfl rfl rfl rfl rfl rfl (z0k rfl rfl) ?_
       refine z16 (t := 38) rfl ?_ ?_
       ·intro hb11; replace h := z02 hb11 h
        refine z0h rfl rfl rfl rfl rfl rfl ?_
        refine z0h rfl rfl rfl rfl rfl rfl ?_
        refine z08 rfl rfl rfl rfl rfl rfl (z0p rfl rfl rfl) ?_
        refine sS rfl rfl rfl (z0p rfl rfl rfl) ?_
        refine sMx ?_
        refine z08 rfl rfl rfl rfl rfl rfl (z0k rfl rfl) ?_
        refine z08 rfl rfl rfl rfl rfl rfl ((z06 rfl rfl rfl rfl).cast (y := (BO ((((x7).toNat : Int) != (((95 : UInt8)).toNat : Int))))) rfl rfl) ?_
        refine sS rfl rfl rfl (z0p rfl rfl rfl) (z00 ?_)
        exact ⟨rfl, (((x7).toNat : Int) != (((95 : UInt8)).toNat : Int)), h, ⟨.nil, (sC rfl (sC rfl (sC rfl (sC rfl z09))))⟩⟩
       ·intro hb11; replace h := z03 hb11 h
        refine z08 rfl rfl rfl rfl rfl rfl (z0k rfl rfl) ?_
        refine z08 rfl rfl rfl rfl rfl rfl ((z06 rfl rfl rfl rfl).cast (y := (BO ((decide (((x7).toNat : Int) > (((57 : UInt8)).toNat : Int)))))) rfl rfl) ?_
        refine z08 rfl rfl rfl rfl rfl rfl (z0i rfl rfl rfl) ?_
        refine sS rfl rfl rfl (z0p rfl rfl rfl) ?_
        refine sMx ?_
        refine z16 (t := 43) rfl ?_ ?_
        ·intro hb12; replace h := z02 hb12 h
         refine z08 rfl rfl rfl rfl rfl rfl (z0k rfl rfl) ?_
         refine z08 rfl rfl rfl rfl rfl rfl ((z06 rfl rfl rfl rfl).cast (y := (BO ((((x7).toNat : Int) != (((95 : UInt8)).toNat : Int))))) rfl rfl) ?_
         refine sS rfl rfl rfl (z0p rfl rfl rfl) (z00 ?_)
         exact ⟨rfl, (((x7).toNat : Int) != (((95 : UInt8)).toNat : Int)), h, ⟨.nil, (sC rfl (sC rfl (sC rfl (sC rfl z09))))⟩⟩
        ·intro hb12; replace h := z03 hb12 h
         refine z0h rfl rfl rfl rfl rfl rfl ?_
         refine z0h rfl rfl rfl rfl rfl rfl ?_
         refine sS rfl rfl rfl (z0i rfl rfl rfl) (z00 ?_)
         exact ⟨rfl, false, h, ⟨.nil, (sC rfl (sC rfl (sC rfl (sC rfl z09))))⟩⟩
      ·intro hb10; replace h := z03 hb10 h
       refine z08 rfl rfl rfl rfl rfl rfl (z0k rfl rfl) ?_
       refine z08 rfl rfl rfl rfl rfl rfl ((z06 rfl rfl rfl rfl).cast (y := (BO ((decide (((x7).toNat : Int) > (((122 : UInt8)).toNat : Int)))))) rfl rfl) ?_
       refine sS rfl rfl rfl (z0i rfl rfl rfl) ?_
       refine sMx ?_
       refine z16 (t := 35) rfl ?_ ?_
       ·intro hb13; replace h := z02 hb13 h
        refine z08 rfl rfl rfl rfl rfl rfl (z0k rfl rfl) ?_
        refine z08 rfl rfl rfl rfl rfl rfl ((z06 rfl rfl rfl rfl).cast (y := (BO ((decide (((x7).toNat : Int) < (((48 : UInt8)).toNat : Int)))))) rfl rfl) ?_
        refine z08 rfl rfl rfl rfl rfl rfl (z0k rfl rfl) ?_
        refine z16 (t := 38) rfl ?_ ?_
        ·intro hb14; replace h := z02 hb14 h
         refine z0h rfl rfl rfl rfl rfl rfl ?_
         refine z0h rfl rfl rfl rfl rfl rfl ?_
         refine z08 rfl rfl rfl rfl rfl rfl (z0p rfl rfl rfl) ?_
         refine sS rfl rfl rfl (z0p rfl rfl rfl) ?_
         refine sMx ?_
         refine z08 rfl rfl rfl rfl rfl rfl (z0k rfl rfl) ?_
         refine z08 rfl rfl rfl rfl rfl rfl ((z06 rfl rfl rfl rfl).cast (y := (BO ((((x7).toNat : Int) != (((95 : UInt8)).toNat : Int))))) rfl rfl) ?_
         refine sS rfl rfl rfl (z0p rfl rfl rfl) (z00 ?_)
         exact ⟨rfl, (((x7).toNat : Int) != (((95 : UInt8)).toNat : Int)), h, ⟨.nil, (sC rfl (sC rfl (sC rfl (sC rfl z09))))⟩⟩
        ·intro hb14; replace h := z03 hb14 h
         refine z08 rfl rfl rfl rfl rfl rfl (z0k rfl rfl) ?_
         refine z08 rfl rfl rfl rfl rfl rfl ((z06 rfl rfl rfl rfl).cast (y := (BO ((decide (((x7).toNat : Int) > (((57 : UInt8)).toNat : Int)))))) rfl rfl) ?_
         refine z08 rfl rfl rfl rfl rfl rfl (z0i rfl rfl rfl) ?_
         refine sS rfl rfl rfl (z0p rfl rfl rfl) ?_
         refine sMx ?_
         refine z16 (t := 43) rfl ?_ ?_
         ·intro hb15; replace h := z02 hb15 h
          refine z08 rfl rfl rfl rfl rfl rfl (z0k rfl rfl) ?_
          refine z08 rfl rfl rfl rfl rfl rfl ((z06 rfl rfl rfl rfl).cast (y := (BO ((((x7).toNat : Int) != (((95 : UInt8)).toNat : Int))))) rfl rfl) ?_
          refine sS rfl rfl rfl (z0p rfl rfl rfl) (z00 ?_)
          exact ⟨rfl, (((x7).toNat : Int) != (((95 : UInt8)).toNat : Int)), h, ⟨.nil, (sC rfl (sC rfl (sC rfl (sC rfl z09))))⟩⟩
         ·intro hb15; replace h := z03 hb15 h
          refine z0h rfl rfl rfl rfl rfl rfl ?_
          refine z0h rfl rfl rfl rfl rfl rfl ?_
          refine sS rfl rfl rfl (z0i rfl rfl rfl) (z00 ?_)
          exact ⟨rfl, false, h, ⟨.nil, (sC rfl (sC rfl (sC rfl (sC rfl z09))))⟩⟩
       ·intro hb13; replace h := z03 hb13 h
        refine z0h rfl rfl rfl rfl rfl rfl ?_
        refine z0h rfl rfl rfl rfl rfl rfl ?_
        refine z0h rfl rfl rfl rfl rfl rfl ?_
        refine z0h rfl rfl rfl rfl rfl rfl ?_
        refine z0h rfl rfl rfl rfl rfl rfl ?_
        refine z0h rfl rfl rfl rfl rfl rfl ?_
        refine sS rfl rfl rfl (z0i rfl rfl rfl) ?_
        refine sMx ?_
        refine z0h rfl rfl rfl rfl rfl rfl ?_
        refine z0h rfl rfl rfl rfl rfl rfl ?_
        refine sS rfl rfl rfl (z0i rfl rfl rfl) (z00 ?_)
        exact ⟨rfl, false, h, ⟨.nil, (sC rfl (sC rfl (sC rfl (sC rfl z09))))⟩⟩
    ·intro hc5; replace h := z03 hc5 h
     refine z22 ?_
     refine cBx ?_
     refine bR ?_
     refine sAx (z00 ?_)
     refine cBx ?_
     refine z0a ?_
     change ∃ xs, _ = some xs ∧ EndOk _ _ _ _
     obtain rfl := Option.some.inj h
     exact ⟨_, rfl, z0d (y := (BO true)) (Wk.refl _) rfl ⟨rfl, rfl⟩⟩
 ·refine z0s ?_
  refine sMx ?_
  refine sS rfl rfl rfl ((z40 (a := a0) (b := ([] : Str)) rfl rfl rfl rfl).cast (y := (BO ((a0 == ([] : Str))))) rfl rfl) ?_
  refine sMx ?_
  refine z16 (t := 7) rfl ?_ ?_
  ·intro hb16; replace h := z02 hb16 h
   refine z0h rfl rfl rfl rfl rfl rfl ?_
   refine z0h rfl rfl rfl rfl rfl rfl ?_
   refine z0h rfl rfl rfl rfl rfl rfl ?_
   refine sS rfl rfl rfl (z0p rfl rfl rfl) ?_
   refine sMx ?_
   refine z0h rfl rfl rfl rfl rfl rfl ?_
   refine z0h rfl rfl rfl rfl rfl rfl ?_
   refine z0h rfl rfl rfl rfl rfl rfl ?_
   refine sS rfl rfl rfl (z0p rfl rfl rfl) ?_
   refine sMx ?_
   refine z0h rfl rfl rfl rfl rfl rfl ?_
   refine z0h rfl rfl rfl rfl rfl rfl ?_
   refine z0h rfl rfl rfl rfl rfl rfl ?_
   refine sS rfl rfl rfl (z0p rfl rfl rfl) (z00 ?_)
   exact ⟨rfl, true, h, ⟨.nil, (sC rfl (sC rfl z09))⟩⟩
  ·intro hb16; replace h := z03 hb16 h
   refine z08 rfl rfl rfl rfl rfl rfl (z0k rfl rfl) ?_
   refine z08 rfl rfl rfl rfl rfl rfl (z8c (s := a0) Try.underlying9 rfl rfl) ?_
   refine z08 rfl rfl rfl rfl rfl rfl ((z06 rfl rfl rfl rfl).cast (y := (BO ((decide ((((a0).length : Nat) : Int) > 32))))) rfl rfl) ?_
   refine sS rfl rfl rfl (z0i rfl rfl rfl) ?_
   refine sMx ?_
   refine z16 (t := 12) rfl ?_ ?_
   ·intro hb17; replace h := z02 hb17 h
    refine z0h rfl rfl rfl rfl rfl rfl ?_
    refine z0h rfl rfl rfl rfl rfl rfl ?_
    refine z0h rfl rfl rfl rfl rfl rfl ?_
    refine sS rfl rfl rfl (z0p rfl rfl rfl) ?_
    refine sMx ?_
    refine z0h rfl rfl rfl rfl rfl rfl ?_
    refine z0h rfl rfl rfl rfl rfl rfl ?_
    refine z0h rfl rfl rfl rfl rfl rfl ?_
    refine sS rfl rfl rfl (z0p rfl rfl rfl) (z00 ?_)
    exact ⟨rfl, true, h, ⟨.nil, (sC rfl (sC rfl z09))⟩⟩
   ·intro hb17; replace h := z03 hb17 h
    refine z08 rfl rfl rfl rfl rfl rfl (z0k rfl rfl) ?_
    obtain ⟨x18, hx18, h⟩ := obind h
    refine z08 rfl rfl rfl rfl rfl rfl (zi9 (s := a0) (i := 0) Try.underlying9 rfl rfl rfl hx18) ?_
    refine z08 rfl rfl rfl rfl rfl rfl ((z06 rfl rfl rfl rfl).cast (y := (BO ((decide (((x18).toNat : Int) < (((97 : UInt8)).toNat : Int)))))) rfl rfl) ?_
    refine sS rfl rfl rfl (z0i rfl rfl rfl) ?_
    refine sMx ?_
    refine z16 (t := 17) rfl ?_ ?_
    ·intro hb19; replace h := z02 hb19 h
     refine z0h rfl rfl rfl rfl rfl rfl ?_
     refine z0h rfl rfl rfl rfl rfl rfl ?_
     refine z0h rfl rfl rfl rfl rfl rfl ?_
     refine sS rfl rfl rfl (z0p rfl rfl rfl) (z00 ?_)
     exact ⟨rfl, true, h, ⟨.nil, (sC rfl (sC rfl z09))⟩⟩
    ·intro hb19; replace h := z03 hb19 h
     refine z08 rfl rfl rfl rfl rfl rfl (z0k rfl rfl) ?_
     obtain ⟨x20, hx20, h⟩ := obind h
     refine z08 rfl rfl rfl rfl rfl rfl (zi9 (s := a0) (i := 0) Try.underlying9 rfl rfl rfl hx20) ?_
     refine z08 rfl rfl rfl rfl rfl rfl ((z06 rfl rfl rfl rfl).cast (y := (BO ((decide (((x20).toNat : Int) > (((122 : UInt8)).toNat : Int)))))) rfl rfl) ?_
     refine sS rfl rfl rfl (z0i rfl rfl rfl) (z00 ?_)
     exact ⟨rfl, (decide (((x20).toNat : Int) > (((122 : UInt8)).toNat : Int))), h, ⟨.nil, (sC rfl (sC rfl z09))⟩⟩
noncomputable def z9f (g1 : Nat → Option Int) (s2 : Nat) (s6 : Bool) : Option Int :=
 bif s6 then (
  some 8
 ) else (
  g1 (s2 + 1)
 )
theorem zps (g1 : OF ρ → Nat → Option Int) (h_g1 : ∀ y0, CM (fun G => g1 G y0)) (s2 : Nat) (s6 : Bool) : CM (fun G : OF ρ => z9f (g1 G) s2 s6) := by
 simp only [z9f]
 repeat (first | exact z0c | exact h_g1 _ | refine z14 ?_ ?_ | refine z15 ?_ (fun _ => ?_))
noncomputable def z70 (a0 : (List (Str × V))) (g1 : Nat → Option Int) (s2 : Nat) : Option Int :=
 bif (decide (((s2 : Nat) : Int) < (((a0).length : Nat) : Int))) then (
  Option.bind ((a0)[s2]?) fun x5 =>
  Option.bind (zjn x5.1) fun x8 =>
  bif (!x8) then (
   z9f g1 s2 true
  ) else (
   bif (decide (((s2 : Nat) : Int) > 0)) then (
    Option.bind (zc1 a0 (IntKind.i64.wrap (((s2 : Nat) : Int) - 1))) fun x11 =>
    z9f g1 s2 (Op.bytesLess x5.1 x11.1 || x5.1 == x11.1)
   ) else (
    z9f g1 s2 false
   )
  )
 ) else (
  some 0
 )
theorem znb (g1 : OF ρ → Nat → Option Int) (h_g1 : ∀ y0, CM (fun G => g1 G y0)) (a0 : (List (Str × V))) (s2 : Nat) : CM (fun G : OF ρ => z70 a0 (g1 G) s2) := by
 simp only [z70]
 repeat (first | exact z0c | exact h_g1 _ | apply zps | refine z14 ?_ ?_ | refine z15 ?_ (fun _ => ?_) | intro _ | assumption)
noncomputable def zhi (a0 : (List (Str × V))) (s2 : Nat) : Option Int :=
 z38 (ι := Nat) (ρ := fun _ => Int) (fun g i => z70 a0 (fun s2 => g s2) i) s2
theorem zhh (a0 : (List (Str × V))) (s2 : Nat) : zhi a0 s2 = z70 a0 (zhi a0) s2 :=
 z1d (ι := Nat) (ρ := fun _ => Int) (Φ := fun g i => z70 a0 (fun s2 => g s2) i) (fun i => znb (ι := Nat) (ρ := fun _ => Int) (fun g => (fun s2 => g s2)) (fun _ => z1c) a0 i) s2
noncomputable def zjq (a0 : (List (Str × V))) : Option Int :=
 bif (decide ((((a0).length : Nat) : Int) > 4096)) then (
  some 2
 ) else (
  zhi a0 0
 )
theorem Z0q (a0 : (List (Str × V))) (r : Int) (h : zjq a0 = some r) : z0g Try.prog 121 [(PV.sl none 43 2 (List.map z1h a0))] (I64 r) := by
 unfold zjq at h
 refine z0w Try.func121 rfl Try.ntmps121 Try.results121 rfl (z10 ?_)
 change BW _ _ _ ⟨[(0, (PV.sl none 43 2 (List.map z1h a0)))], [], _⟩ _
 refine bR ?_
 refine sAx (z00 ?_)
 refine cBx ?_
 refine z0o ?_
 refine bR ?_
 refine sMx ?_
 refine sS rfl rfl rfl (z17 Try.underlying45 rfl rfl) ?_
 refine sS rfl rfl rfl ((z06 rfl rfl rfl rfl).cast (y := (BO ((decide ((((a0).length : Nat) : Int) > 4096))))) rfl rfl) (z00 ?_)
 refine cBx ?_
 refine z05 rfl ?_ ?_
 ·intro hc1; replace h := z02 hc1 h
  refine bR ?_
  refine sAx (z00 ?_)
  refine cBx ?_
  refine z0a ?_
  change ∃ xs, _ = some xs ∧ EndOk _ _ _ _
  obtain rfl := Option.some.inj h
  exact ⟨_, rfl, z0d (y := (I64 2)) (Wk.refl _) rfl ⟨rfl, rfl⟩⟩
 ·intro hc1; replace h := z03 hc1 h
  refine z0l ?_
  refine cBx ?_
  refine z0o ?_
  refine bR ?_
  refine sMx ?_
  refine sS rfl rfl rfl (z17 Try.underlying45 rfl rfl) ?_
  refine sMx (z00 ?_)
  refine cBx ?_
  refine z0x ?_
  refine cBx ?_
  unfold zhi at h
  refine z26 (σ := Nat) (fun i => [(0, (PV.sl none 43 2 (List.map z1h a0))), (8, (PV.sl none 43 2 (List.map z1h a0))), (9, (I64 ((((a0).length : Nat) : Int)))), (10, (I64 (((i : Nat) : Int))))]) (fun i => []) 0 h ?_ ?_ ?_
  ·intro i; exact ⟨lbE rfl, ⟨(z01 (z0q z1z _)), ⟨(z01 (z0q z1z _)), ⟨(z01 rfl), ⟨(z01 rfl), trivial⟩⟩⟩⟩, trivial⟩
  ·exact ⟨.nil, (sC rfl (sC rfl (sC rfl (sC rfl z09))))⟩
  ·rintro g1_f s2 h; replace h : z70 a0 (fun y0 => g1_f y0) s2 = some r := h; unfold z70 at h
   change BW _ _ _ ⟨[(0, (PV.sl none 43 2 (List.map z1h a0))), (8, (PV.sl none 43 2 (List.map z1h a0))), (9, (I64 ((((a0).length : Nat) : Int)))), (10, (I64 (((s2 : Nat) : Int))))], [], _⟩ _
   refine bR ?_
   refine sS rfl rfl rfl ((z06 rfl rfl rfl rfl).cast (y := (BO ((decide (((s2 : Nat) : Int) < (((a0).length : Nat) : Int)))))) rfl rfl) (z00 ?_)
   refine cBx ?_
   refine z0o ?_
   refine z2z (t := 8) rfl fun hb4 => ?_
   try rw [List.length_map] at hb4
   refine z05 rfl ?_ ?_
   ·intro hc3; replace h := z02 hc3 h
    have hc3_ := of_decide_eq_true hc3
    refine z0l ?_
    refine cBx ?_
    refine z0o ?_
    refine z0x ?_
    refine cBx ?_
    refine bR ?_
    refine sMx ?_
    obtain ⟨x5, hx5, h⟩ := obind h
    refine sS rfl rfl rfl (z1i (i := s2) Try.underlying45 z2d rfl rfl rfl hx5 rfl) ?_
    refine sS rfl rfl rfl (z1s z2d Try.underlying43 rfl rfl rfl rfl rfl) ?_
    refine sS rfl rfl rfl ((z1j z2d rfl).cast (H'' := [.box 43 [(z0f []), (ofV V.nil)]]) rfl (by simp only [mk_nil]; rfl)) ?_
    refine sAx ?_
    refine z11 rfl rfl (z0v z2d rfl rfl rfl rfl rfl rfl (lbE rfl) (by show List.all [(z0f x5.1), (ofV x5.2)] z96 = true; simp only [List.all_cons, List.all_nil, zg4, z7d, Bool.and_true, Bool.true_and]; try rfl)) ?_
    refine z00 ?_
    refine cBx ?_
    refine z1n (ι := Bool) (fun i => z9f (fun y0 => g1_f y0) s2 i = some r) (fun i => [(0, (PV.sl none 43 2 (List.map z1h a0))), (8, (PV.sl none 43 2 (List.map z1h a0))), (9, (I64 ((((a0).length : Nat) : Int)))), (10, (I64 (((s2 : Nat) : Int)))), (33, (BO i))]) (fun i => []) ?_ ?_ ?_
    ·intro i; exact ⟨lbE rfl, ⟨(z01 (z0q z1z _)), ⟨(z01 (z0q z1z _)), ⟨(z01 rfl), ⟨(z01 rfl), ⟨(z01 rfl), trivial⟩⟩⟩⟩⟩, trivial⟩
    ·rintro s6 h; replace h : z9f (fun y0 => g1_f y0) s2 s6 = some r := h; unfold z9f at h
     change BW _ _ _ ⟨[(0, (PV.sl none 43 2 (List.map z1h a0))), (8, (PV.sl none 43 2 (List.map z1h a0))), (9, (I64 ((((a0).length : Nat) : Int)))), (10, (I64 (((s2 : Nat) : Int)))), (33, (BO s6))], [], _⟩ _
     refine z05 rfl ?_ ?_
     ·intro hc7; replace h := z02 hc7 h
      refine bR ?_
      refine sAx (z00 ?_)
      refine cBx ?_
      refine z0a ?_
      change ∃ xs, _ = some xs ∧ EndOk _ _ _ _
      obtain rfl := Option.some.inj h
      exact ⟨_, rfl, z0d (y := (I64 8)) (Wk.refl _) rfl ⟨rfl, rfl⟩⟩
     ·intro hc7; replace h := z03 hc7 h
      refine z0l ?_
      refine cBx ?_
      refine z0s ?_
      refine sS rfl rfl rfl (z1y (k := s2) (c := 1) rfl rfl rfl (by omega)) ?_
      refine sMx (z00 ?_)
      exact ⟨rfl, (s2 + 1), h, ⟨.nil, (sC rfl (sC rfl (sC rfl (sC rfl z09))))⟩⟩
    ·refine z2e 16 [] [0] mo (by kernel_rfl) ?_
     refine z0y rfl rfl rfl rfl (fun H hp => z0e z6x (i := 0) rfl rfl rfl) ?_
     refine z0y rfl rfl rfl rfl (fun H hp => (z0n Try.underlying9 rfl rfl rfl (hp.at rfl rfl) rfl)) ?_
     obtain ⟨x8, hx8, h⟩ := obind h
     refine z0y rfl rfl rfl rfl (fun H hp => z0b rfl zxu rfl (.cons (Wk.refl _) .nil) ⟨rfl, trivial⟩ (Z0h x5.1 x8 hx8) rfl) ?_
     refine z0y rfl rfl rfl rfl (fun H hp => z2a rfl rfl) ?_
     refine z0y rfl rfl rfl rfl (fun H hp => z0k rfl rfl) ?_
     refine z3s 19 rfl ?_ ?_
     ·intro hb9; replace h := z02 hb9 h
      refine z1g rfl rfl rfl rfl rfl rfl rfl ?_
      refine z1g rfl rfl rfl rfl rfl rfl rfl ?_
      refine z1g rfl rfl rfl rfl rfl rfl rfl ?_
      refine z1g rfl rfl rfl rfl rfl rfl rfl ?_
      refine z1g rfl rfl rfl rfl rfl rfl rfl ?_
      refine z1g rfl rfl rfl rfl rfl rfl rfl ?_
      refine z1g rfl rfl rfl rfl rfl rfl rfl ?_
      refine z1g rfl rfl rfl rfl rfl rfl rfl ?_
      refine z1g rfl rfl rfl rfl rfl rfl rfl ?_
      refine z1g rfl rfl rfl rfl rfl rfl rfl ?_
      refine z1g rfl rfl rfl rfl rfl rfl rfl ?_
      refine z2b ?_
      change AO _ _ _ _ _
      refine z0h rfl rfl rfl rfl rfl rfl ?_
      refine z0h rfl rfl rfl rfl rfl rfl ?_
      refine sS rfl rfl rfl (z0p rfl rfl rfl) (z00 ?_)
      exact ⟨rfl, true, h, ⟨.nil, (sC rfl (sC rfl (sC rfl (sC rfl (sC rfl z09)))))⟩⟩
     ·intro hb9; replace h := z03 hb9 h
      refine z1b rfl rfl rfl rfl rfl rfl rfl (fun H hp => z0k rfl rfl) ?_
      refine z1b rfl rfl rfl rfl rfl rfl rfl (fun H hp => (z06 rfl rfl rfl rfl).cast (y := (BO ((decide (((s2 : Nat) : Int) > 0))))) rfl rfl) ?_
      refine z1b rfl rfl rfl rfl rfl rfl rfl (fun H hp => z0k rfl rfl) ?_
      refine z3s 22 rfl ?_ ?_
      ·intro hb10; replace h := z02 hb10 h
       refine z1b rfl rfl rfl rfl rfl rfl rfl (fun H hp => z0e z6x (i := 0) rfl rfl rfl) ?_
       refine z1b rfl rfl rfl rfl rfl rfl rfl (fun H hp => (z0n Try.underlying9 rfl rfl rfl (hp.at rfl rfl) rfl)) ?_
       refine z1b rfl rfl rfl rfl rfl rfl rfl (fun H hp => z0k rfl rfl) ?_
       refine z1b rfl rfl rfl rfl rfl rfl rfl (fun H hp => z0k rfl rfl) ?_
       refine z1b rfl rfl rfl rfl rfl rfl rfl (fun H hp => zc8 rfl rfl rfl) ?_
       obtain ⟨x11, hx11, h⟩ := obind h
       refine z1b rfl rfl rfl rfl rfl rfl rfl (fun H hp => z47 Try.underlying45 z2d rfl rfl rfl hx11 rfl) ?_
       refine z1b rfl rfl rfl rfl rfl rfl rfl (fun H hp => z1a z6x (i := 0) rfl rfl rfl) ?_
       refine z1b rfl rfl rfl rfl rfl rfl rfl (fun H hp => z13 (y := (z0f x11.1)) Try.underlying9 rfl rfl rfl rfl) ?_
       refine z2b ?_
       change AO _ _ _ _ _
       refine z08 rfl rfl rfl rfl rfl rfl ((z40 (a := x5.1) (b := x11.1) rfl rfl rfl rfl).cast (y := (BO ((Op.bytesLess x5.1 x11.1 || x5.1 == x11.1)))) rfl rfl) ?_
       refine z08 rfl rfl rfl rfl rfl rfl (z0p rfl rfl rfl) ?_
       refine sS rfl rfl rfl (z0i rfl rfl rfl) (z00 ?_)
       exact ⟨rfl, (Op.bytesLess x5.1 x11.1 || x5.1 == x11.1), h, ⟨.nil, (sC rfl (sC rfl (sC rfl (sC rfl (sC rfl z09)))))⟩⟩
      ·intro hb10; replace h := z03 hb10 h
       refine z1g rfl rfl rfl rfl rfl rfl rfl ?_
       refine z1g rfl rfl rfl rfl rfl rfl rfl ?_
       refine z1g rfl rfl rfl rfl rfl rfl rfl ?_
       refine z1g rfl rfl rfl rfl rfl rfl rfl ?_
       refine z1g rfl rfl rfl rfl rfl rfl rfl ?_
       refine z1g rfl rfl rfl rfl rfl rfl rfl ?_
       refine z1g rfl rfl rfl rfl rfl rfl rfl ?_
       refine z1g rfl rfl rfl rfl rfl rfl rfl ?_
       refine z2b ?_
       change AO _ _ _ _ _
       refine z0h rfl rfl rfl rfl rfl rfl ?_
       refine z08 rfl rfl rfl rfl rfl rfl (z0i rfl rfl rfl) ?_
       refine sS rfl rfl rfl (z0i rfl rfl rfl) (z00 ?_)
       exact ⟨rfl, false, h, ⟨.nil, (sC rfl (sC rfl (sC rfl (sC rfl (sC rfl z09)))))⟩⟩
   ·intro hc3; replace h := z03 hc3 h
    refine z22 ?_
    refine cBx ?_
    refine bR ?_
    refine sAx (z00 ?_)
    refine cBx ?_
    refine z0a ?_
    change ∃ xs, _ = some xs ∧ EndOk _ _ _ _
    obtain rfl := Option.some.inj h
    exact ⟨_, rfl, z0d (y := (I64 0)) (Wk.refl _) rfl ⟨rfl, rfl⟩⟩
end Go.Proofs.Ytiapdjdhaclmnaa
