/- Pure functions, and that calls answer as they say. Written by gen.py. -/
import Derived.Test.YtiapdjdhaclmnaaG0
namespace Go.Proofs.Ytiapdjdhaclmnaa
open Go Aw
set_option linter.unusedVariables false
set_option linter.unusedSimpArgs false
set_option maxRecDepth 20000
set_option maxHeartbeats 2000000
variable {ι : Type} {ρ : ι → Type}
noncomputable def zbj : Option Int :=
 some 0
noncomputable def zbi (x16 : Rec) (s19 : Bool) : Option Int :=
 bif s19 then (
  some 1
 ) else (
  Option.bind (zjq x16.fields) fun x21 =>
  some x21
 )
noncomputable def z8p (a0 : V) (s1 : Bool) : Option Int :=
 bif s1 then (
  Option.bind (zg0 a0) fun x3 =>
  bif (x3 == 11) then (
   some 7
  ) else (
   bif (x3 == 0) then (
    some 6
   ) else (
    some 2
   )
  )
 ) else (
  bif (a0).isText then (
   bif (decide (((((a0).asText).length : Nat) : Int) > 65536)) then (
    some 2
   ) else (
    zbj
   )
  ) else (
   bif (a0).isBytes then (
    bif (decide (((((a0).asBytes).length : Nat) : Int) > 65536)) then (
     some 2
    ) else (
     zbj
    )
   ) else (
    bif (a0).isList then (
     bif (decide (((((a0).asList).length : Nat) : Int) > 4096)) then (
      some 2
     ) else (
      zbj
     )
    ) else (
     bif (a0).isDict then (
      Option.bind (zjq ((a0).asDict)) fun x13 =>
      some x13
     ) else (
      bif (a0).isRec then (
       bif ((a0).asRec).isNone then (
        some 7
       ) else (
        Option.bind ((a0).asRec) fun x16 =>
        Option.bind (zjn x16.cls) fun x17 =>
        bif (!x17) then (
         some 8
        ) else (
         bif (decide (x16.ver < 1)) then (
          zbi x16 true
         ) else (
          zbi x16 (decide (x16.ver > 1000))
         )
        )
       )
      ) else (
       Option.bind (zg0 a0) fun x23 =>
       bif (x23 == 0) then (
        some 6
       ) else (
        zbj
       )
      )
     )
    )
   )
  )
 )
noncomputable def zqo (a0 : V) (a1 : Int) (a2 : Int) : Option Int :=
 bif (decide (a1 ≥ 16384)) then (
  z8p a0 true
 ) else (
  z8p a0 (decide (a2 > 64))
 )
theorem Z3h (a0 : V) (a1 : Int) (a2 : Int) (r : Int) (h : zqo a0 a1 a2 = some r) : z0g Try.prog 117 [(ofV a0), (I64 a1), (I64 a2)] (I64 r) := by
 unfold zqo at h
 refine z0w Try.func117 rfl Try.ntmps117 Try.results117 rfl (z10 ?_)
 change BW _ _ _ ⟨[(0, (ofV a0)), (1, (I64 a1)), (2, (I64 a2))], [], _⟩ _
 refine bR ?_
 refine sAx (z00 ?_)
 refine cBx ?_
 refine z0o ?_
 refine z1n (ι := Bool) (fun i => z8p a0 i = some r) (fun i => [(0, (ofV a0)), (18, (BO i))]) (fun i => []) ?_ ?_ ?_
 ·intro i; exact ⟨lbE rfl, ⟨(z01 (ids_V _)), ⟨(z01 rfl), trivial⟩⟩, trivial⟩
 ·rintro s1 h; replace h : z8p a0 s1 = some r := h; unfold z8p at h
  change BW _ _ _ ⟨[(0, (ofV a0)), (18, (BO s1))], [], _⟩ _
  refine z05 rfl ?_ ?_
  ·intro hc2; replace h := z02 hc2 h
   refine z0o ?_
   refine bR ?_
   refine sMx ?_
   obtain ⟨x3, hx3, h⟩ := obind h
   refine sS rfl rfl rfl (z0b rfl zod rfl (.cons (Wk.refl _) .nil) ⟨(ids_V a0), trivial⟩ (zn3 a0 x3 hx3) rfl) (z00 ?_)
   refine cBx ?_
   refine z0x ?_
   refine cBx ?_
   refine bR ?_
   refine sS rfl rfl rfl ((z06 rfl rfl rfl rfl).cast (y := (BO ((x3 == 11)))) rfl rfl) ?_
   refine sAx (z00 ?_)
   refine cBx ?_
   refine z05 rfl ?_ ?_
   ·intro hc4; replace h := z02 hc4 h
    refine bR ?_
    refine sAx (z00 ?_)
    refine cBx ?_
    refine z0a ?_
    change ∃ xs, _ = some xs ∧ EndOk _ _ _ _
    obtain rfl := Option.some.inj h
    exact ⟨_, rfl, z0d (y := (I64 7)) (Wk.refl _) rfl ⟨rfl, rfl⟩⟩
   ·intro hc4; replace h := z03 hc4 h
    refine bR ?_
    refine sS rfl rfl rfl ((z06 rfl rfl rfl rfl).cast (y := (BO ((x3 == 0)))) rfl rfl) ?_
    refine sAx (z00 ?_)
    refine cBx ?_
    refine z05 rfl ?_ ?_
    ·intro hc5; replace h := z02 hc5 h
     refine bR ?_
     refine sAx (z00 ?_)
     refine cBx ?_
     refine z0a ?_
     change ∃ xs, _ = some xs ∧ EndOk _ _ _ _
     obtain rfl := Option.some.inj h
     exact ⟨_, rfl, z0d (y := (I64 6)) (Wk.refl _) rfl ⟨rfl, rfl⟩⟩
    ·intro hc5; replace h := z03 hc5 h
     refine z0l ?_
     refine cBx ?_
     refine bR ?_
     refine sAx (z00 ?_)
     refine cBx ?_
     refine z0a ?_
     change ∃ xs, _ = some xs ∧ EndOk _ _ _ _
     obtain rfl := Option.some.inj h
     exact ⟨_, rfl, z0d (y := (I64 2)) (Wk.refl _) rfl ⟨rfl, rfl⟩⟩
  ·intro hc2; replace h := z03 hc2 h
   refine z0l ?_
   refine cBx ?_
   refine z1n (ι := Unit) (fun i => zbj = some r) (fun i => []) (fun i => []) ?_ ?_ ?_
   ·intro i; exact ⟨lbE rfl, trivial, trivial⟩
   ·rintro ⟨⟩ h; replace h : zbj = some r := h; unfold zbj at h
    change BW _ _ _ ⟨[], [], _⟩ _
    refine bR ?_
    refine sAx (z00 ?_)
    refine cBx ?_
    refine z0a ?_
    change ∃ xs, _ = some xs ∧ EndOk _ _ _ _
    obtain rfl := Option.some.inj h
    exact ⟨_, rfl, z0d (y := (I64 0)) (Wk.refl _) rfl ⟨rfl, rfl⟩⟩
   ·refine bR ?_
    refine sMx (z00 ?_)
    refine cBx ?_
    refine z0x ?_
    refine cBx ?_
    refine bR ?_
    refine sS rfl rfl rfl (z8a rfl rfl) ?_
    refine sS rfl rfl rfl (z0j rfl rfl rfl) ?_
    refine sS rfl rfl rfl (z0j rfl rfl rfl) (z00 ?_)
    refine cBx ?_
    refine z05 rfl ?_ ?_
    ·intro hc6; replace h := z02 hc6 h
     refine bR ?_
     refine sAx (z00 ?_)
     refine cBx ?_
     refine bR ?_
     refine sMx ?_
     refine sS rfl rfl rfl (z8c (s := ((a0).asText)) Try.underlying9 rfl rfl) ?_
     refine sS rfl rfl rfl ((z06 rfl rfl rfl rfl).cast (y := (BO ((decide (((((a0).asText).length : Nat) : Int) > 65536))))) rfl rfl) (z00 ?_)
     refine cBx ?_
     refine z05 rfl ?_ ?_
     ·intro hc7; replace h := z02 hc7 h
      refine bR ?_
      refine sAx (z00 ?_)
      refine cBx ?_
      refine z0a ?_
      change ∃ xs, _ = some xs ∧ EndOk _ _ _ _
      obtain rfl := Option.some.inj h
      exact ⟨_, rfl, z0d (y := (I64 2)) (Wk.refl _) rfl ⟨rfl, rfl⟩⟩
     ·intro hc7; replace h := z03 hc7 h
      refine z0l ?_
      exact ⟨rfl, (), h, ⟨.nil, z09⟩⟩
    ·intro hc6; replace h := z03 hc6 h
     refine bR ?_
     refine sS rfl rfl rfl (z7a rfl rfl) ?_
     refine sS rfl rfl rfl (z0j rfl rfl rfl) ?_
     refine sS rfl rfl rfl (z0j rfl rfl rfl) (z00 ?_)
     refine cBx ?_
     refine z05 rfl ?_ ?_
     ·intro hc8; replace h := z02 hc8 h
      refine bR ?_
      refine sAx (z00 ?_)
      refine cBx ?_
      refine bR ?_
      refine sMx ?_
      refine sS rfl rfl rfl (z17 Try.underlying23 rfl rfl) ?_
      refine sS rfl rfl rfl ((z06 rfl rfl rfl rfl).cast (y := (BO ((decide (((((a0).asBytes).length : Nat) : Int) > 65536))))) rfl rfl) (z00 ?_)
      refine cBx ?_
      refine z05 rfl ?_ ?_
      ·intro hc9; replace h := z02 hc9 h
       refine bR ?_
       refine sAx (z00 ?_)
       refine cBx ?_
       refine z0a ?_
       change ∃ xs, _ = some xs ∧ EndOk _ _ _ _
       obtain rfl := Option.some.inj h
       exact ⟨_, rfl, z0d (y := (I64 2)) (Wk.refl _) rfl ⟨rfl, rfl⟩⟩
      ·intro hc9; replace h := z03 hc9 h
       refine z0l ?_
       exact ⟨rfl, (), h, ⟨.nil, z09⟩⟩
     ·intro hc8; replace h := z03 hc8 h
      refine bR ?_
      refine sS rfl rfl rfl (z4f rfl rfl) ?_
      refine sS rfl rfl rfl (z0j rfl rfl rfl) ?_
      refine sS rfl rfl rfl (z0j rfl rfl rfl) (z00 ?_)
      refine cBx ?_
      refine z05 rfl ?_ ?_
      ·intro hc10; replace h := z02 hc10 h
       refine bR ?_
       refine sAx (z00 ?_)
       refine cBx ?_
       refine bR ?_
       refine sMx ?_
       refine sS rfl rfl rfl (z17 Try.underlying37 rfl rfl) ?_
       refine sS rfl rfl rfl ((z06 rfl rfl rfl rfl).cast (y := (BO ((decide (((((a0).asList).length : Nat) : Int) > 4096))))) rfl rfl) (z00 ?_)
       refine cBx ?_
       refine z05 rfl ?_ ?_
       ·intro hc11; replace h := z02 hc11 h
        refine bR ?_
        refine sAx (z00 ?_)
        refine cBx ?_
        refine z0a ?_
        change ∃ xs, _ = some xs ∧ EndOk _ _ _ _
        obtain rfl := Option.some.inj h
        exact ⟨_, rfl, z0d (y := (I64 2)) (Wk.refl _) rfl ⟨rfl, rfl⟩⟩
       ·intro hc11; replace h := z03 hc11 h
        refine z0l ?_
        exact ⟨rfl, (), h, ⟨.nil, z09⟩⟩
      ·intro hc10; replace h := z03 hc10 h
       refine bR ?_
       refine sS rfl rfl rfl (z4g rfl rfl) ?_
       refine sS rfl rfl rfl (z0j rfl rfl rfl) ?_
       refine sS rfl rfl rfl (z0j rfl rfl rfl) (z00 ?_)
       refine cBx ?_
       refine z05 rfl ?_ ?_
       ·intro hc12; replace h := z02 hc12 h
        refine bR ?_
        refine sAx (z00 ?_)
        refine cBx ?_
        refine bR ?_
        refine sMx ?_
        obtain ⟨x13, hx13, h⟩ := obind h
        refine sS rfl rfl rfl (z0b rfl zxv rfl (.cons (Wk.refl _) .nil) ⟨(z0q z1z ((a0).asDict)), trivial⟩ (Z0q ((a0).asDict) x13 hx13) rfl) ?_
        refine sAx (z00 ?_)
        refine cBx ?_
        refine z0a ?_
        change ∃ xs, _ = some xs ∧ EndOk _ _ _ _
        obtain rfl := Option.some.inj h
        exact ⟨_, rfl, z0d (y := (I64 x13)) (Wk.refl _) rfl ⟨rfl, rfl⟩⟩
       ·intro hc12; replace h := z03 hc12 h
        refine bR ?_
        refine sS rfl rfl rfl (z55 rfl rfl) ?_
        refine sS rfl rfl rfl (z0j rfl rfl rfl) ?_
        refine sS rfl rfl rfl (z0j rfl rfl rfl) (z00 ?_)
        refine cBx ?_
        refine z05 rfl ?_ ?_
        ·intro hc14; replace h := z02 hc14 h
         refine bR ?_
         refine sAx (z00 ?_)
         refine cBx ?_
         refine z0o ?_
         refine z0x ?_
         refine cBx ?_
         refine bR ?_
         refine sMx ?_
         refine sS rfl rfl rfl (zf8 Try.underlying70 rfl rfl) ?_
         refine sAx (z00 ?_)
         refine cBx ?_
         refine z05 rfl ?_ ?_
         ·intro hc15; replace h := z02 hc15 h
          refine bR ?_
          refine sAx (z00 ?_)
          refine cBx ?_
          refine z0a ?_
          change ∃ xs, _ = some xs ∧ EndOk _ _ _ _
          obtain rfl := Option.some.inj h
          exact ⟨_, rfl, z0d (y := (I64 7)) (Wk.refl _) rfl ⟨rfl, rfl⟩⟩
         ·intro hc15; replace h := z03 hc15 h
          refine bR ?_
          refine sMx ?_
          obtain ⟨x16, hx16, h⟩ := obind h
          refine sS rfl rfl rfl (z39 rfl rfl hx16) ?_
          refine sS rfl rfl rfl (z1a z6w (i := 0) rfl rfl rfl) ?_
          refine sS rfl rfl rfl (z13 (y := (z0f x16.cls)) Try.underlying9 rfl rfl rfl rfl) ?_
          obtain ⟨x17, hx17, h⟩ := obind h
          refine sS rfl rfl rfl (z0b rfl zxu rfl (.cons (Wk.refl _) .nil) ⟨rfl, trivial⟩ (Z0h x16.cls x17 hx17) rfl) ?_
          refine sS rfl rfl rfl (z2a rfl rfl) ?_
          refine sAx (z00 ?_)
          refine cBx ?_
          refine z05 rfl ?_ ?_
          ·intro hc18; replace h := z02 hc18 h
           refine bR ?_
           refine sAx (z00 ?_)
           refine cBx ?_
           refine z0a ?_
           change ∃ xs, _ = some xs ∧ EndOk _ _ _ _
           obtain rfl := Option.some.inj h
           exact ⟨_, rfl, z0d (y := (I64 8)) (Wk.refl _) rfl ⟨rfl, rfl⟩⟩
          ·intro hc18; replace h := z03 hc18 h
           refine z1n (ι := Bool) (fun i => zbi x16 i = some r) (fun i => [(11, (ofRecP (a0).asRec)), (65, (BO i))]) (fun i => []) ?_ ?_ ?_
           ·intro i; exact ⟨lbE rfl, ⟨(z01 (zuv _)), ⟨(z01 rfl), trivial⟩⟩, trivial⟩
           ·rintro s19 h; replace h : zbi x16 s19 = some r := h; unfold zbi at h
            change BW _ _ _ ⟨[(11, (ofRecP (a0).asRec)), (65, (BO s19))], [], _⟩ _
            refine z05 rfl ?_ ?_
            ·intro hc20; replace h := z02 hc20 h
             refine bR ?_
             refine sAx (z00 ?_)
             refine cBx ?_
             refine z0a ?_
             change ∃ xs, _ = some xs ∧ EndOk _ _ _ _
             obtain rfl := Option.some.inj h
             exact ⟨_, rfl, z0d (y := (I64 1)) (Wk.refl _) rfl ⟨rfl, rfl⟩⟩
            ·intro hc20; replace h := z03 hc20 h
             refine z0l ?_
             refine cBx ?_
             refine bR ?_
             refine sMx ?_
             refine sS rfl rfl rfl (z39 rfl rfl hx16) ?_
             refine sS rfl rfl rfl (z1a z6w (i := 2) rfl rfl rfl) ?_
             refine sS rfl rfl rfl (z13 (y := (PV.sl none 43 2 (List.map z1h x16.fields))) Try.underlying45 rfl rfl rfl rfl) ?_
             obtain ⟨x21, hx21, h⟩ := obind h
             refine sS rfl rfl rfl (z0b rfl zxv rfl (.cons (Wk.refl _) .nil) ⟨(z0q z1z x16.fields), trivial⟩ (Z0q x16.fields x21 hx21) rfl) ?_
             refine sAx (z00 ?_)
             refine cBx ?_
             refine z0a ?_
             change ∃ xs, _ = some xs ∧ EndOk _ _ _ _
             obtain rfl := Option.some.inj h
             exact ⟨_, rfl, z0d (y := (I64 x21)) (Wk.refl _) rfl ⟨rfl, rfl⟩⟩
           ·refine z0s ?_
            refine sMx ?_
            refine sS rfl rfl rfl (z39 rfl rfl hx16) ?_
            refine sS rfl rfl rfl (z1a z6w (i := 1) rfl rfl rfl) ?_
            refine sS rfl rfl rfl (z13 (y := (I64 x16.ver)) Try.underlying3 rfl rfl rfl rfl) ?_
            refine sS rfl rfl rfl ((z06 rfl rfl rfl rfl).cast (y := (BO ((decide (x16.ver < 1))))) rfl rfl) ?_
            refine sMx ?_
            refine z16 (t := 71) rfl ?_ ?_
            ·intro hb22; replace h := z02 hb22 h
             refine z0h rfl rfl rfl rfl rfl rfl ?_
             refine z0h rfl rfl rfl rfl rfl rfl ?_
             refine z0h rfl rfl rfl rfl rfl rfl ?_
             refine z0h rfl rfl rfl rfl rfl rfl ?_
             refine z0h rfl rfl rfl rfl rfl rfl ?_
             refine sS rfl rfl rfl (z0p rfl rfl rfl) ?_
             refine sAx (z00 ?_)
             exact ⟨rfl, true, h, ⟨.nil, (sC rfl (sC rfl z09))⟩⟩
            ·intro hb22; replace h := z03 hb22 h
             refine z08 rfl rfl rfl rfl rfl rfl (z0k rfl rfl) ?_
             refine z08 rfl rfl rfl rfl rfl rfl (z39 rfl rfl hx16) ?_
             refine z08 rfl rfl rfl rfl rfl rfl (z1a z6w (i := 1) rfl rfl rfl) ?_
             refine z08 rfl rfl rfl rfl rfl rfl (z13 (y := (I64 x16.ver)) Try.underlying3 rfl rfl rfl rfl) ?_
             refine z08 rfl rfl rfl rfl rfl rfl ((z06 rfl rfl rfl rfl).cast (y := (BO ((decide (x16.ver > 1000))))) rfl rfl) ?_
             refine sS rfl rfl rfl (z0i rfl rfl rfl) ?_
             refine sAx (z00 ?_)
             exact ⟨rfl, (decide (x16.ver > 1000)), h, ⟨.nil, (sC rfl (sC rfl z09))⟩⟩
        ·intro hc14; replace h := z03 hc14 h
         refine bR ?_
         refine sAx (z00 ?_)
         refine cBx ?_
         refine bR ?_
         refine sMx ?_
         obtain ⟨x23, hx23, h⟩ := obind h
         refine sS rfl rfl rfl (z0b rfl zod rfl (.cons (Wk.refl _) .nil) ⟨(ids_V a0), trivial⟩ (zn3 a0 x23 hx23) rfl) ?_
         refine sS rfl rfl rfl ((z06 rfl rfl rfl rfl).cast (y := (BO ((x23 == 0)))) rfl rfl) (z00 ?_)
         refine cBx ?_
         refine z05 rfl ?_ ?_
         ·intro hc24; replace h := z02 hc24 h
          refine bR ?_
          refine sAx (z00 ?_)
          refine cBx ?_
          refine z0a ?_
          change ∃ xs, _ = some xs ∧ EndOk _ _ _ _
          obtain rfl := Option.some.inj h
          exact ⟨_, rfl, z0d (y := (I64 6)) (Wk.refl _) rfl ⟨rfl, rfl⟩⟩
         ·intro hc24; replace h := z03 hc24 h
          refine z0l ?_
          exact ⟨rfl, (), h, ⟨.nil, z09⟩⟩
 ·refine z0s ?_
  refine sMx ?_
  refine sS rfl rfl rfl ((z06 rfl rfl rfl rfl).cast (y := (BO ((decide (a1 ≥ 16384))))) rfl rfl) ?_
  refine sMx ?_
  refine z16 (t := 15) rfl ?_ ?_
  ·intro hb25; replace h := z02 hb25 h
   refine z0h rfl rfl rfl rfl rfl rfl ?_
   refine z0h rfl rfl rfl rfl rfl rfl ?_
   refine sS rfl rfl rfl (z0p rfl rfl rfl) (z00 ?_)
   exact ⟨rfl, true, h, ⟨.nil, (sC rfl (sC rfl z09))⟩⟩
  ·intro hb25; replace h := z03 hb25 h
   refine z08 rfl rfl rfl rfl rfl rfl (z0k rfl rfl) ?_
   refine z08 rfl rfl rfl rfl rfl rfl ((z06 rfl rfl rfl rfl).cast (y := (BO ((decide (a2 > 64))))) rfl rfl) ?_
   refine sS rfl rfl rfl (z0i rfl rfl rfl) (z00 ?_)
   exact ⟨rfl, (decide (a2 > 64)), h, ⟨.nil, (sC rfl (sC rfl z09))⟩⟩
noncomputable def z64 (r_q0j : S_value_count → V → Int → Option (Bool × S_value_count)) (a1 : (List (Str × V))) (a2 : Int) (g1 : Nat → Int → Int → Int → Option (Bool × S_value_count)) (s1 : Nat) (s2 : Int) (s3 : Int) (s4 : Int) : Option (Bool × S_value_count) :=
 bif (decide (((s1 : Nat) : Int) < (((a1).length : Nat) : Int))) then (
  Option.bind ((a1)[s1]?) fun x7 =>
  Option.bind (r_q0j (S_value_count.mk s2 s3 s4) x7.2 (IntKind.i64.wrap (a2 + 1))) fun x8 =>
  bif (!x8.1) then (
   some (false, (x8.2))
  ) else (
   g1 (s1 + 1) ((x8.2).f_n) ((x8.2).f_deep) ((x8.2).f_why)
  )
 ) else (
  some (true, (S_value_count.mk s2 s3 s4))
 )
theorem zb2 (r_q0j : OF ρ → S_value_count → V → Int → Option (Bool × S_value_count)) (h_r_q0j : ∀ y0 y1 y2, CM (fun G => r_q0j G y0 y1 y2)) (g1 : OF ρ → Nat → Int → Int → Int → Option (Bool × S_value_count)) (h_g1 : ∀ y0 y1 y2 y3, CM (fun G => g1 G y0 y1 y2 y3)) (a1 : (List (Str × V))) (a2 : Int) (s1 : Nat) (s2 : Int) (s3 : Int) (s4 : Int) : CM (fun G : OF ρ => z64 (r_q0j G) a1 a2 (g1 G) s1 s2 s3 s4) := by
 simp only [z64]
 repeat (first | exact z0c | exact h_r_q0j _ _ _ | exact h_g1 _ _ _ _ | refine z14 ?_ ?_ | refine z15 ?_ (fun _ => ?_))
noncomputable def zf1 (r_q0j : S_value_count → V → Int → Option (Bool × S_value_count)) (a1 : (List (Str × V))) (a2 : Int) (s1 : Nat) (s2 : Int) (s3 : Int) (s4 : Int) : Option (Bool × S_value_count) :=
 z38 (ι := (Nat × Int × Int × Int)) (ρ := fun _ => (Bool × S_value_count)) (fun g i => z64 r_q0j a1 a2 (fun s1 s2 s3 s4 => g (s1, s2, s3, s4)) i.1 i.2.1 i.2.2.1 i.2.2.2) (s1, s2, s3, s4)
theorem zhp (r_q0j : S_value_count → V → Int → Option (Bool × S_value_count)) (a1 : (List (Str × V))) (a2 : Int) (s1 : Nat) (s2 : Int) (s3 : Int) (s4 : Int) : zf1 r_q0j a1 a2 s1 s2 s3 s4 = z64 r_q0j a1 a2 (zf1 r_q0j a1 a2) s1 s2 s3 s4 :=
 z1d (ι := (Nat × Int × Int × Int)) (ρ := fun _ => (Bool × S_value_count)) (Φ := fun g i => z64 r_q0j a1 a2 (fun s1 s2 s3 s4 => g (s1, s2, s3, s4)) i.1 i.2.1 i.2.2.1 i.2.2.2) (fun i => zb2 (ι := (Nat × Int × Int × Int)) (ρ := fun _ => (Bool × S_value_count)) (fun _ => r_q0j) (fun _ _ _ => z0c) (fun g => (fun s1 s2 s3 s4 => g (s1, s2, s3, s4))) (fun _ _ _ _ => z1c) a1 a2 i.1 i.2.1 i.2.2.1 i.2.2.2) (s1, s2, s3, s4)
theorem zq9 (r_q0j : OF ρ → S_value_count → V → Int → Option (Bool × S_value_count)) (h_r_q0j : ∀ y0 y1 y2, CM (fun G => r_q0j G y0 y1 y2)) (a1 : (List (Str × V))) (a2 : Int) (s1 : Nat) (s2 : Int) (s3 : Int) (s4 : Int) : CM (fun G : OF ρ => zf1 (r_q0j G) a1 a2 s1 s2 s3 s4) :=
 z3o (κ := (Nat × Int × Int × Int)) (τ := fun _ => (Bool × S_value_count)) (Φ := fun G g i => z64 (r_q0j G) a1 a2 (fun s1 s2 s3 s4 => g (s1, s2, s3, s4)) i.1 i.2.1 i.2.2.1 i.2.2.2) (fun g i => zb2 r_q0j h_r_q0j (fun _ => (fun s1 s2 s3 s4 => g (s1, s2, s3, s4))) (fun _ _ _ _ => z0c) a1 a2 i.1 i.2.1 i.2.2.1 i.2.2.2) (fun G i => zb2 (ι := (Nat × Int × Int × Int)) (ρ := fun _ => (Bool × S_value_count)) (fun _ => r_q0j G) (fun _ _ _ => z0c) (fun g => (fun s1 s2 s3 s4 => g (s1, s2, s3, s4))) (fun _ _ _ _ => z1c) a1 a2 i.1 i.2.1 i.2.2.1 i.2.2.2) (s1, s2, s3, s4)
noncomputable def zl0 (r_q0k : S_value_count → (List (Str × V)) → Int → Option (Bool × S_value_count)) (r_q0j : S_value_count → V → Int → Option (Bool × S_value_count)) (a0 : S_value_count) (a1 : (List (Str × V))) (a2 : Int) : Option (Bool × S_value_count) :=
 zf1 r_q0j a1 a2 0 a0.f_n a0.f_deep a0.f_why
theorem zwk (r_q0k : OF ρ → S_value_count → (List (Str × V)) → Int → Option (Bool × S_value_count)) (h_r_q0k : ∀ y0 y1 y2, CM (fun G => r_q0k G y0 y1 y2)) (r_q0j : OF ρ → S_value_count → V → Int → Option (Bool × S_value_count)) (h_r_q0j : ∀ y0 y1 y2, CM (fun G => r_q0j G y0 y1 y2)) (a0 : S_value_count) (a1 : (List (Str × V))) (a2 : Int) : CM (fun G : OF ρ => zl0 (r_q0k G) (r_q0j G) a0 a1 a2) := by
 simp only [zl0]
 repeat (first | exact z0c | exact h_r_q0k _ _ _ | exact h_r_q0j _ _ _ | apply zq9 | refine z14 ?_ ?_ | refine z15 ?_ (fun _ => ?_) | intro _ | assumption)
noncomputable def zf3 (s3 : Int) (s4 : Int) (s5 : Int) : Option (Bool × S_value_count) :=
 some (true, (S_value_count.mk s3 s4 s5))
noncomputable def z65 (r_q0j : S_value_count → V → Int → Option (Bool × S_value_count)) (a1 : V) (a2 : Int) (g1 : Nat → Int → Int → Int → Option (Bool × S_value_count)) (s7 : Nat) (s8 : Int) (s9 : Int) (s10 : Int) : Option (Bool × S_value_count) :=
 bif (decide (((s7 : Nat) : Int) < ((((a1).asList).length : Nat) : Int))) then (
  Option.bind (((a1).asList)[s7]?) fun x13 =>
  Option.bind (r_q0j (S_value_count.mk s8 s9 s10) x13 (IntKind.i64.wrap (a2 + 1))) fun x14 =>
  bif (!x14.1) then (
   some (false, (x14.2))
  ) else (
   g1 (s7 + 1) ((x14.2).f_n) ((x14.2).f_deep) ((x14.2).f_why)
  )
 ) else (
  zf3 s8 s9 s10
 )
theorem zb3 (r_q0j : OF ρ → S_value_count → V → Int → Option (Bool × S_value_count)) (h_r_q0j : ∀ y0 y1 y2, CM (fun G => r_q0j G y0 y1 y2)) (g1 : OF ρ → Nat → Int → Int → Int → Option (Bool × S_value_count)) (h_g1 : ∀ y0 y1 y2 y3, CM (fun G => g1 G y0 y1 y2 y3)) (a1 : V) (a2 : Int) (s7 : Nat) (s8 : Int) (s9 : Int) (s10 : Int) : CM (fun G : OF ρ => z65 (r_q0j G) a1 a2 (g1 G) s7 s8 s9 s10) := by
 simp only [z65]
 repeat (first | exact z0c | exact h_r_q0j _ _ _ | exact h_g1 _ _ _ _ | apply q0j_j1_cm | refine z14 ?_ ?_ | refine z15 ?_ (fun _ => ?_) | intro _ | assumption)
noncomputable def zf2 (r_q0j : S_value_count → V → Int → Option (Bool × S_value_count)) (a1 : V) (a2 : Int) (s7 : Nat) (s8 : Int) (s9 : Int) (s10 : Int) : Option (Bool × S_value_count) :=
 z38 (ι := (Nat × Int × Int × Int)) (ρ := fun _ => (Bool × S_value_count)) (fun g i => z65 r_q0j a1 a2 (fun s7 s8 s9 s10 => g (s7, s8, s9, s10)) i.1 i.2.1 i.2.2.1 i.2.2.2) (s7, s8, s9, s10)
theorem zhq (r_q0j : S_value_count → V → Int → Option (Bool × S_value_count)) (a1 : V) (a2 : Int) (s7 : Nat) (s8 : Int) (s9 : Int) (s10 : Int) : zf2 r_q0j a1 a2 s7 s8 s9 s10 = z65 r_q0j a1 a2 (zf2 r_q0j a1 a2) s7 s8 s9 s10 :=
 z1d (ι := (Nat × Int × Int × Int)) (ρ := fun _ => (Bool × S_value_count)) (Φ := fun g i => z65 r_q0j a1 a2 (fun s7 s8 s9 s10 => g (s7, s8, s9, s10)) i.1 i.2.1 i.2.2.1 i.2.2.2) (fun i => zb3 (ι := (Nat × Int × Int × Int)) (ρ := fun _ => (Bool × S_value_count)) (fun _ => r_q0j) (fun _ _ _ => z0c) (fun g => (fun s7 s8 s9 s10 => g (s7, s8, s9, s10))) (fun _ _ _ _ => z1c) a1 a2 i.1 i.2.1 i.2.2.1 i.2.2.2) (s7, s8, s9, s10)
theorem zqa (r_q0j : OF ρ → S_value_count → V → Int → Option (Bool × S_value_count)) (h_r_q0j : ∀ y0 y1 y2, CM (fun G => r_q0j G y0 y1 y2)) (a1 : V) (a2 : Int) (s7 : Nat) (s8 : Int) (s9 : Int) (s10 : Int) : CM (fun G : OF ρ => zf2 (r_q0j G) a1 a2 s7 s8 s9 s10) :=
 z3o (κ := (Nat × Int × Int × Int)) (τ := fun _ => (Bool × S_value_count)) (Φ := fun G g i => z65 (r_q0j G) a1 a2 (fun s7 s8 s9 s10 => g (s7, s8, s9, s10)) i.1 i.2.1 i.2.2.1 i.2.2.2) (fun g i => zb3 r_q0j h_r_q0j (fun _ => (fun s7 s8 s9 s10 => g (s7, s8, s9, s10))) (fun _ _ _ _ => z0c) a1 a2 i.1 i.2.1 i.2.2.1 i.2.2.2) (fun G i => zb3 (ι := (Nat × Int × Int × Int)) (ρ := fun _ => (Bool × S_value_count)) (fun _ => r_q0j G) (fun _ _ _ => z0c) (fun g => (fun s7 s8 s9 s10 => g (s7, s8, s9, s10))) (fun _ _ _ _ => z1c) a1 a2 i.1 i.2.1 i.2.2.1 i.2.2.2) (s7, s8, s9, s10)
noncomputable def zl1 (r_q0k : S_value_count → (List (Str × V)) → Int → Option (Bool × S_value_count)) (r_q0j : S_value_count → V → Int → Option (Bool × S_value_count)) (a0 : S_value_count) (a1 : V) (a2 : Int) : Option (Bool × S_value_count) :=
 Option.bind (zqo a1 a0.f_n a2) fun x1 =>
 bif (x1 != 0) then (
  some (false, (S_value_count.mk a0.f_n a0.f_deep x1))
 ) else (
  bif (a1).isList then (
   zf2 r_q0j a1 a2 0 (IntKind.i64.wrap (a0.f_n + 1)) (if a2 > a0.f_deep then a2 else a0.f_deep) x1
  ) else (
   bif (a1).isDict then (
    Option.bind (r_q0k (S_value_count.mk (IntKind.i64.wrap (a0.f_n + 1)) (if a2 > a0.f_deep then a2 else a0.f_deep) x1) ((a1).asDict) a2) fun x17 =>
    some (x17.1, (x17.2))
   ) else (
    bif (a1).isRec then (
     Option.bind ((a1).asRec) fun x19 =>
     Option.bind (r_q0k (S_value_count.mk (IntKind.i64.wrap (a0.f_n + 1)) (if a2 > a0.f_deep then a2 else a0.f_deep) x1) x19.fields a2) fun x20 =>
     some (x20.1, (x20.2))
    ) else (
     zf3 (IntKind.i64.wrap (a0.f_n + 1)) (if a2 > a0.f_deep then a2 else a0.f_deep) x1
    )
   )
  )
 )
theorem zwl (r_q0k : OF ρ → S_value_count → (List (Str × V)) → Int → Option (Bool × S_value_count)) (h_r_q0k : ∀ y0 y1 y2, CM (fun G => r_q0k G y0 y1 y2)) (r_q0j : OF ρ → S_value_count → V → Int → Option (Bool × S_value_count)) (h_r_q0j : ∀ y0 y1 y2, CM (fun G => r_q0j G y0 y1 y2)) (a0 : S_value_count) (a1 : V) (a2 : Int) : CM (fun G : OF ρ => zl1 (r_q0k G) (r_q0j G) a0 a1 a2) := by
 simp only [zl1]
 repeat (first | exact z0c | exact h_r_q0k _ _ _ | exact h_r_q0j _ _ _ | apply q0j_j1_cm | apply zqa | refine z14 ?_ ?_ | refine z15 ?_ (fun _ => ?_) | intro _ | assumption)
inductive C_q0k where
 | k_q0k (a0 : S_value_count) (a1 : (List (Str × V))) (a2 : Int)
 | k_q0j (a0 : S_value_count) (a1 : V) (a2 : Int)
def C_q0k.R : C_q0k → Type
 | .k_q0k _ _ _ => (Bool × S_value_count)
 | .k_q0j _ _ _ => (Bool × S_value_count)
noncomputable def C_q0k.F (g : ∀ i : C_q0k, Option i.R) : ∀ i : C_q0k, Option i.R
 | .k_q0k a0 a1 a2 => zl0 (fun a0 a1 a2 => g (.k_q0k a0 a1 a2)) (fun a0 a1 a2 => g (.k_q0j a0 a1 a2)) a0 a1 a2
 | .k_q0j a0 a1 a2 => zl1 (fun a0 a1 a2 => g (.k_q0k a0 a1 a2)) (fun a0 a1 a2 => g (.k_q0j a0 a1 a2)) a0 a1 a2
noncomputable def zny (a0 : S_value_count) (a1 : (List (Str × V))) (a2 : Int) : Option (Bool × S_value_count) := z38 C_q0k.F (.k_q0k a0 a1 a2)
noncomputable def zg2 (a0 : S_value_count) (a1 : V) (a2 : Int) : Option (Bool × S_value_count) := z38 C_q0k.F (.k_q0j a0 a1 a2)
abbrev gg3 := fun (g : ∀ i : C_q0k, Option i.R) a0 a1 a2 => g (.k_q0k a0 a1 a2)
theorem hh3 (a0 : _) (a1 : _) (a2 : _) : CM (ρ := C_q0k.R) (fun g => g (C_q0k.k_q0k a0 a1 a2)) := z1c
abbrev gg4 := fun (g : ∀ i : C_q0k, Option i.R) a0 a1 a2 => g (.k_q0j a0 a1 a2)
theorem hh4 (a0 : _) (a1 : _) (a2 : _) : CM (ρ := C_q0k.R) (fun g => g (C_q0k.k_q0j a0 a1 a2)) := z1c
theorem C_q0k.cm (i : C_q0k) : CM (fun g : (∀ i : C_q0k, Option i.R) => C_q0k.F g i) := by
 cases i with
 | k_q0k a0 a1 a2 => exact zwk gg3 hh3 gg4 hh4 a0 a1 a2
 | k_q0j a0 a1 a2 => exact zwl gg3 hh3 gg4 hh4 a0 a1 a2
theorem Z5p (a0 : S_value_count) (a1 : (List (Str × V))) (a2 : Int) : zny a0 a1 a2 = zl0 zny zg2 a0 a1 a2 := z1d C_q0k.cm (.k_q0k a0 a1 a2)
theorem Z5q (a0 : S_value_count) (a1 : V) (a2 : Int) : zg2 a0 a1 a2 = zl1 zny zg2 a0 a1 a2 := z1d C_q0k.cm (.k_q0j a0 a1 a2)
def C_q0k.Q : ∀ i : C_q0k, i.R → Prop
 | .k_q0k a0 a1 a2 => fun (r : (Bool × S_value_count)) => z4c Try.prog 118 [(PV.rf 0 0), (PV.sl none 43 2 (List.map z1h a1)), (I64 a2)] (.box 148 [(I64 a0.f_n), (I64 a0.f_deep), (I64 a0.f_why)]) (BO r.1) (.box 148 [(I64 ((r.2).f_n)), (I64 ((r.2).f_deep)), (I64 ((r.2).f_why))])
 | .k_q0j a0 a1 a2 => fun (r : (Bool × S_value_count)) => z4c Try.prog 98 [(PV.rf 0 0), (ofV a1), (I64 a2)] (.box 148 [(I64 a0.f_n), (I64 a0.f_deep), (I64 a0.f_why)]) (BO r.1) (.box 148 [(I64 ((r.2).f_n)), (I64 ((r.2).f_deep)), (I64 ((r.2).f_why))])
theorem zah (r_q0k : S_value_count → (List (Str × V)) → Int → Option (Bool × S_value_count)) (c_q0k : ∀ (a0 : S_value_count) (a1 : (List (Str × V))) (a2 : Int) r, r_q0k a0 a1 a2 = some r → z4c Try.prog 118 [(PV.rf 0 0), (PV.sl none 43 2 (List.map z1h a1)), (I64 a2)] (.box 148 [(I64 a0.f_n), (I64 a0.f_deep), (I64 a0.f_why)]) (BO r.1) (.box 148 [(I64 ((r.2).f_n)), (I64 ((r.2).f_deep)), (I64 ((r.2).f_why))])) (r_q0j : S_value_count → V → Int → Option (Bool × S_value_count)) (c_q0j : ∀ (a0 : S_value_count) (a1 : V) (a2 : Int) r, r_q0j a0 a1 a2 = some r → z4c Try.prog 98 [(PV.rf 0 0), (ofV a1), (I64 a2)] (.box 148 [(I64 a0.f_n), (I64 a0.f_deep), (I64 a0.f_why)]) (BO r.1) (.box 148 [(I64 ((r.2).f_n)), (I64 ((r.2).f_deep)), (I64 ((r.2).f_why))])) (a0 : S_value_count) (a1 : (List (Str × V))) (a2 : Int) (r : (Bool × S_value_count)) (h : zl0 r_q0k r_q0j a0 a1 a2 = some r) : z4c Try.prog 118 [(PV.rf 0 0), (PV.sl none 43 2 (List.map z1h a1)), (I64 a2)] (.box 148 [(I64 a0.f_n), (I64 a0.f_deep), (I64 a0.f_why)]) (BO r.1) (.box 148 [(I64 ((r.2).f_n)), (I64 ((r.2).f_deep)), (I64 ((r.2).f_why))]) := by
 unfold zl0 at h
 refine z0w Try.func118 rfl Try.ntmps118 Try.results118 rfl (z10 ?_)
 change BW _ _ _ ⟨[(0, (PV.rf 0 0)), (1, (PV.sl none 43 2 (List.map z1h a1))), (2, (I64 a2))], [.box 148 [(I64 a0.f_n), (I64 a0.f_deep), (I64 a0.f_why)]], _⟩ _
 refine bR ?_
 refine sAx (z00 ?_)
 refine cBx ?_
 refine z0o ?_
 refine bR ?_
 refine sMx ?_
 refine sS rfl rfl rfl (z17 Try.underlying45 rfl rfl) ?_
 refine sMx (z00 ?_)
 refine cBx ?_
 refine z0x ?_
 refine cBx ?_
 unfold zf1 at h
 refine z26 (σ := (Nat × Int × Int × Int)) (fun i => [(0, (PV.rf 0 0)), (2, (I64 a2)), (9, (PV.sl none 43 2 (List.map z1h a1))), (10, (I64 ((((a1).length : Nat) : Int)))), (11, (I64 (((i.1 : Nat) : Int))))]) (fun i => [.box 148 [(I64 i.2.1), (I64 i.2.2.1), (I64 i.2.2.2)]]) (0, a0.f_n, a0.f_deep, a0.f_why) h ?_ ?_ ?_
 ·intro i; exact ⟨lbE rfl, ⟨(il_rf rfl), ⟨(z01 rfl), ⟨(z01 (z0q z1z _)), ⟨(z01 rfl), ⟨(z01 rfl), trivial⟩⟩⟩⟩⟩, ⟨⟨(z01 rfl), ⟨(z01 rfl), ⟨(z01 rfl), trivial⟩⟩⟩, trivial⟩⟩
 ·exact ⟨(.cons .same .nil), (sC rfl (sC rfl (sC rfl (sC rfl (sC rfl z09)))))⟩
 ·rintro g1_f ⟨s1, s2, s3, s4⟩ h; replace h : z64 r_q0j a1 a2 (fun y0 y1 y2 y3 => g1_f (y0, y1, y2, y3)) s1 s2 s3 s4 = some r := h; unfold z64 at h
  change BW _ _ _ ⟨[(0, (PV.rf 0 0)), (2, (I64 a2)), (9, (PV.sl none 43 2 (List.map z1h a1))), (10, (I64 ((((a1).length : Nat) : Int)))), (11, (I64 (((s1 : Nat) : Int))))], [.box 148 [(I64 s2), (I64 s3), (I64 s4)]], _⟩ _
  refine bR ?_
  refine sS rfl rfl rfl ((z06 rfl rfl rfl rfl).cast (y := (BO ((decide (((s1 : Nat) : Int) < (((a1).length : Nat) : Int)))))) rfl rfl) (z00 ?_)
  refine cBx ?_
  refine z0o ?_
  refine z2z (t := 9) rfl fun hb6 => ?_
  try rw [List.length_map] at hb6
  refine z05 rfl ?_ ?_
  ·intro hc5; replace h := z02 hc5 h
   have hc5_ := of_decide_eq_true hc5
   refine z0l ?_
   refine cBx ?_
   refine z0o ?_
   refine z0x ?_
   refine cBx ?_
   refine bR ?_
   obtain ⟨x7, hx7, h⟩ := obind h
   refine sS rfl rfl rfl (z1i (i := s1) Try.underlying45 z2d rfl rfl rfl hx7 rfl) ?_
   refine sS rfl rfl rfl (z1s z2d Try.underlying43 rfl rfl rfl rfl rfl) ?_
   refine sS rfl rfl rfl ((z1j z2d rfl).cast (H'' := [.box 148 [(I64 s2), (I64 s3), (I64 s4)], .box 43 [(z0f []), (ofV V.nil)]]) rfl (by simp only [mk_nil]; rfl)) ?_
   refine z11 rfl rfl (z0v z2d rfl rfl rfl rfl rfl rfl (lbE rfl) (by show List.all [(z0f x7.1), (ofV x7.2)] z96 = true; simp only [List.all_cons, List.all_nil, zg4, z7d, Bool.and_true, Bool.true_and]; try rfl)) ?_
   refine z00 ?_
   refine cBx ?_
   refine bR ?_
   refine sMx ?_
   refine sS rfl rfl rfl (z0e z6x (i := 1) rfl rfl rfl) ?_
   refine sS rfl rfl rfl ((z0n Try.underlying20 rfl rfl rfl rfl rfl)) ?_
   refine sMx ?_
   refine sS rfl rfl rfl (z3a rfl rfl rfl) ?_
   obtain ⟨x8, hx8, h⟩ := obind h
   refine sS rfl rfl rfl (z3k 0 rfl zvo rfl (.cons (Wk.refl _) (.cons (Wk.refl _) (.cons (Wk.refl _) .nil))) (.box (.val (ids_V x7.2) (.val rfl .nil))) rfl (z0u rfl (z0u rfl (z0u rfl rfl))) (c_q0j (S_value_count.mk s2 s3 s4) x7.2 (IntKind.i64.wrap (a2 + 1)) x8 hx8) rfl (z0u rfl (z0u rfl (z0u rfl rfl)))) ?_
   refine sS rfl rfl rfl (z2a rfl rfl) (z00 ?_)
   refine cBx ?_
   refine z05 rfl ?_ ?_
   ·intro hc9; replace h := z02 hc9 h
    refine bR ?_
    refine sAx (z00 ?_)
    refine cBx ?_
    refine z0a ?_
    change ∃ xs, _ = some xs ∧ EndOk _ _ _ _
    obtain rfl := Option.some.inj h
    exact ⟨_, rfl, z3n (y := (BO false)) (e := .box 148 [(I64 (((x8.2)).f_n)), (I64 (((x8.2)).f_deep)), (I64 (((x8.2)).f_why))]) (Wk.refl _) rfl rfl (z0u rfl (z0u rfl (z0u rfl rfl))) ⟨rfl, rfl⟩⟩
   ·intro hc9; replace h := z03 hc9 h
    refine z0l ?_
    refine cBx ?_
    refine z0s ?_
    refine sS rfl rfl rfl (z1y (k := s1) (c := 1) rfl rfl rfl (by omega)) ?_
    refine sMx (z00 ?_)
    exact ⟨rfl, ((s1 + 1), (x8.2).f_n, (x8.2).f_deep, (x8.2).f_why), h, ⟨(.cons .same .nil), (sC rfl (sC rfl (sC rfl (sC rfl (sC rfl z09)))))⟩⟩
  ·intro hc5; replace h := z03 hc5 h
   refine z22 ?_
   refine cBx ?_
   refine bR ?_
   refine sAx (z00 ?_)
   refine cBx ?_
   refine z0a ?_
   change ∃ xs, _ = some xs ∧ EndOk _ _ _ _
   obtain rfl := Option.some.inj h
   exact ⟨_, rfl, z3n (y := (BO true)) (e := .box 148 [(I64 (((S_value_count.mk s2 s3 s4)).f_n)), (I64 (((S_value_count.mk s2 s3 s4)).f_deep)), (I64 (((S_value_count.mk s2 s3 s4)).f_why))]) (Wk.refl _) rfl rfl (z0u rfl (z0u rfl (z0u rfl rfl))) ⟨rfl, rfl⟩⟩
theorem z99 (r_q0k : S_value_count → (List (Str × V)) → Int → Option (Bool × S_value_count)) (c_q0k : ∀ (a0 : S_value_count) (a1 : (List (Str × V))) (a2 : Int) r, r_q0k a0 a1 a2 = some r → z4c Try.prog 118 [(PV.rf 0 0), (PV.sl none 43 2 (List.map z1h a1)), (I64 a2)] (.box 148 [(I64 a0.f_n), (I64 a0.f_deep), (I64 a0.f_why)]) (BO r.1) (.box 148 [(I64 ((r.2).f_n)), (I64 ((r.2).f_deep)), (I64 ((r.2).f_why))])) (r_q0j : S_value_count → V → Int → Option (Bool × S_value_count)) (c_q0j : ∀ (a0 : S_value_count) (a1 : V) (a2 : Int) r, r_q0j a0 a1 a2 = some r → z4c Try.prog 98 [(PV.rf 0 0), (ofV a1), (I64 a2)] (.box 148 [(I64 a0.f_n), (I64 a0.f_deep), (I64 a0.f_why)]) (BO r.1) (.box 148 [(I64 ((r.2).f_n)), (I64 ((r.2).f_deep)), (I64 ((r.2).f_why))])) (a0 : S_value_count) (a1 : V) (a2 : Int) (r : (Bool × S_value_count)) (h : zl1 r_q0k r_q0j a0 a1 a2 = some r) : z4c Try.prog 98 [(PV.rf 0 0), (ofV a1), (I64 a2)] (.box 148 [(I64 a0.f_n), (I64 a0.f_deep), (I64 a0.f_why)]) (BO r.1) (.box 148 [(I64 ((r.2).f_n)), (I64 ((r.2).f_deep)), (I64 ((r.2).f_why))]) := by
 unfold zl1 at h
 refine z0w Try.func98 rfl Try.ntmps98 Try.results98 rfl (z10 ?_)
 change BW _ _ _ ⟨[(0, (PV.rf 0 0)), (1, (ofV a1)), (2, (I64 a2))], [.box 148 [(I64 a0.f_n), (I64 a0.f_deep), (I64 a0.f_why)]], _⟩ _
 refine bR ?_
 refine sAx (z00 ?_)
 refine cBx ?_
 refine z0o ?_
 refine bR ?_
 refine sMx ?_
 refine sMx ?_
 refine sMx ?_
 refine sS rfl rfl rfl (z4j rfl rfl) ?_
 refine sS rfl rfl rfl (z0e z7j (i := 0) rfl rfl rfl) ?_
 refine sS rfl rfl rfl ((z0n Try.underlying3 rfl rfl rfl rfl rfl)) ?_
 refine sMx ?_
 obtain ⟨x1, hx1, h⟩ := obind h
 refine sS rfl rfl rfl (z0b rfl Z2e rfl (.cons (Wk.refl _) (.cons (Wk.refl _) (.cons (Wk.refl _) .nil))) ⟨(ids_V a1), ⟨rfl, ⟨rfl, trivial⟩⟩⟩ (Z3h a1 a0.f_n a2 x1 hx1) rfl) ?_
 refine sS rfl rfl rfl (z4j rfl rfl) ?_
 refine sS rfl rfl rfl (z0e z7j (i := 2) rfl rfl rfl) ?_
 refine z11 rfl rfl (z0v zxj rfl rfl rfl rfl rfl rfl (lbE rfl) rfl) ?_
 refine z00 ?_
 refine cBx ?_
 refine bR ?_
 refine sMx ?_
 refine sS rfl rfl rfl (z4j rfl rfl) ?_
 refine sS rfl rfl rfl (z0e z7j (i := 2) rfl rfl rfl) ?_
 refine sS rfl rfl rfl ((z0n Try.underlying39 rfl rfl rfl rfl rfl)) ?_
 refine sS rfl rfl rfl ((z06 rfl rfl rfl rfl).cast (y := (BO ((x1 != 0)))) rfl rfl) (z00 ?_)
 refine cBx ?_
 refine z05 rfl ?_ ?_
 ·intro hc2; replace h := z02 hc2 h
  refine bR ?_
  refine sAx (z00 ?_)
  refine cBx ?_
  refine z0a ?_
  change ∃ xs, _ = some xs ∧ EndOk _ _ _ _
  obtain rfl := Option.some.inj h
  exact ⟨_, rfl, z3n (y := (BO false)) (e := .box 148 [(I64 (((S_value_count.mk a0.f_n a0.f_deep x1)).f_n)), (I64 (((S_value_count.mk a0.f_n a0.f_deep x1)).f_deep)), (I64 (((S_value_count.mk a0.f_n a0.f_deep x1)).f_why))]) (Wk.refl _) rfl rfl (z0u rfl (z0u rfl (z0u rfl rfl))) ⟨rfl, rfl⟩⟩
 ·intro hc2; replace h := z03 hc2 h
  refine z0l ?_
  refine cBx ?_
  refine bR ?_
  refine sMx ?_
  refine sS rfl rfl rfl (z4j rfl rfl) ?_
  refine sS rfl rfl rfl (z0e z7j (i := 0) rfl rfl rfl) ?_
  refine sS rfl rfl rfl ((z0n Try.underlying3 rfl rfl rfl rfl rfl)) ?_
  refine sS rfl rfl rfl (z3a rfl rfl rfl) ?_
  refine sS rfl rfl rfl (z4j rfl rfl) ?_
  refine sS rfl rfl rfl (z0e z7j (i := 0) rfl rfl rfl) ?_
  refine z11 rfl rfl (z0v zea rfl rfl rfl rfl rfl rfl (lbE rfl) rfl) ?_
  refine z00 ?_
  refine cBx ?_
  refine bR ?_
  refine sMx ?_
  refine sMx ?_
  refine sS rfl rfl rfl (z4j rfl rfl) ?_
  refine sS rfl rfl rfl (z0e z7j (i := 1) rfl rfl rfl) ?_
  refine sS rfl rfl rfl ((z0n Try.underlying3 rfl rfl rfl rfl rfl)) ?_
  refine sMx ?_
  refine sS rfl rfl rfl (zuf (args := []) rfl rfl rfl) ?_
  refine sS rfl rfl rfl (z4j rfl rfl) ?_
  refine sS rfl rfl rfl (z0e z7j (i := 1) rfl rfl rfl) ?_
  refine z11 rfl rfl (z0v zea rfl rfl rfl rfl rfl rfl (lbE rfl) rfl) ?_
  refine z00 ?_
  refine cBx ?_
  refine z1n (ι := (Int × Int × Int)) (fun i => zf3 i.1 i.2.1 i.2.2 = some r) (fun i => [(0, (PV.rf 0 0))]) (fun i => [.box 148 [(I64 i.1), (I64 i.2.1), (I64 i.2.2)]]) ?_ ?_ ?_
  ·intro i; exact ⟨lbE rfl, ⟨(il_rf rfl), trivial⟩, ⟨⟨(z01 rfl), ⟨(z01 rfl), ⟨(z01 rfl), trivial⟩⟩⟩, trivial⟩⟩
  ·rintro ⟨s3, s4, s5⟩ h; replace h : zf3 s3 s4 s5 = some r := h; unfold zf3 at h
   change BW _ _ _ ⟨[(0, (PV.rf 0 0))], [.box 148 [(I64 s3), (I64 s4), (I64 s5)]], _⟩ _
   refine bR ?_
   refine sAx (z00 ?_)
   refine cBx ?_
   refine z0a ?_
   change ∃ xs, _ = some xs ∧ EndOk _ _ _ _
   obtain rfl := Option.some.inj h
   exact ⟨_, rfl, z3n (y := (BO true)) (e := .box 148 [(I64 (((S_value_count.mk s3 s4 s5)).f_n)), (I64 (((S_value_count.mk s3 s4 s5)).f_deep)), (I64 (((S_value_count.mk s3 s4 s5)).f_why))]) (Wk.refl _) rfl rfl (z0u rfl (z0u rfl (z0u rfl rfl))) ⟨rfl, rfl⟩⟩
  ·refine bR ?_
   refine sMx (z00 ?_)
   refine cBx ?_
   refine z0x ?_
   refine cBx ?_
   refine bR ?_
   refine sS rfl rfl rfl (z4f rfl rfl) ?_
   refine sS rfl rfl rfl (z0j rfl rfl rfl) ?_
   refine sS rfl rfl rfl (z0j rfl rfl rfl) (z00 ?_)
   refine cBx ?_
   refine z05 rfl ?_ ?_
   ·intro hc6; replace h := z02 hc6 h
    refine bR ?_
    refine sAx (z00 ?_)
    refine cBx ?_
    refine bR ?_
    refine sMx ?_
    refine sS rfl rfl rfl (z17 Try.underlying37 rfl rfl) ?_
    refine sMx (z00 ?_)
    refine cBx ?_
    refine z0x ?_
    refine cBx ?_
    unfold zf2 at h
    refine z26 (σ := (Nat × Int × Int × Int)) (fun i => [(0, (PV.rf 0 0)), (2, (I64 a2)), (47, (PV.sl none 20 1 (List.map ofV (a1).asList))), (48, (I64 (((((a1).asList).length : Nat) : Int)))), (49, (I64 (((i.1 : Nat) : Int))))]) (fun i => [.box 148 [(I64 i.2.1), (I64 i.2.2.1), (I64 i.2.2.2)]]) (0, (IntKind.i64.wrap (a0.f_n + 1)), (if a2 > a0.f_deep then a2 else a0.f_deep), x1) h ?_ ?_ ?_
    ·intro i; exact ⟨lbE rfl, ⟨(il_rf rfl), ⟨(z01 rfl), ⟨(z01 (z0q ids_V _)), ⟨(z01 rfl), ⟨(z01 rfl), trivial⟩⟩⟩⟩⟩, ⟨⟨(z01 rfl), ⟨(z01 rfl), ⟨(z01 rfl), trivial⟩⟩⟩, trivial⟩⟩
    ·exact ⟨(.cons .same .nil), (sC rfl (sC rfl (sC rfl (sC rfl (sC rfl z09)))))⟩
    ·rintro g1_f ⟨s7, s8, s9, s10⟩ h; replace h : z65 r_q0j a1 a2 (fun y0 y1 y2 y3 => g1_f (y0, y1, y2, y3)) s7 s8 s9 s10 = some r := h; unfold z65 at h
     change BW _ _ _ ⟨[(0, (PV.rf 0 0)), (2, (I64 a2)), (47, (PV.sl none 20 1 (List.map ofV (a1).asList))), (48, (I64 (((((a1).asList).length : Nat) : Int)))), (49, (I64 (((s7 : Nat) : Int))))], [.box 148 [(I64 s8), (I64 s9), (I64 s10)]], _⟩ _
     refine bR ?_
     refine sS rfl rfl rfl ((z06 rfl rfl rfl rfl).cast (y := (BO ((decide (((s7 : Nat) : Int) < ((((a1).asList).length : Nat) : Int)))))) rfl rfl) (z00 ?_)
     refine cBx ?_
     refine z0o ?_
     refine z2z (t := 47) rfl fun hb12 => ?_
     try rw [List.length_map] at hb12
     refine z05 rfl ?_ ?_
     ·intro hc11; replace h := z02 hc11 h
      have hc11_ := of_decide_eq_true hc11
      refine z0l ?_
      refine cBx ?_
      refine z0o ?_
      refine z0x ?_
      refine cBx ?_
      refine bR ?_
      obtain ⟨x13, hx13, h⟩ := obind h
      refine sS rfl rfl rfl (z1i (i := s7) Try.underlying37 z6r rfl rfl rfl hx13 rfl) ?_
      refine sS rfl rfl rfl (z13 (y := (ofV x13)) Try.underlying20 rfl rfl rfl (by rw [z30]; rfl)) ?_
      refine sAx (z00 ?_)
      refine cBx ?_
      refine bR ?_
      refine sMx ?_
      refine sMx ?_
      refine sMx ?_
      refine sS rfl rfl rfl (z3a rfl rfl rfl) ?_
      obtain ⟨x14, hx14, h⟩ := obind h
      refine sS rfl rfl rfl (z3k 0 rfl zvo rfl (.cons (Wk.refl _) (.cons (Wk.refl _) (.cons (Wk.refl _) .nil))) (.box (.val (ids_V x13) (.val rfl .nil))) rfl (z0u rfl (z0u rfl (z0u rfl rfl))) (c_q0j (S_value_count.mk s8 s9 s10) x13 (IntKind.i64.wrap (a2 + 1)) x14 hx14) rfl (z0u rfl (z0u rfl (z0u rfl rfl)))) ?_
      refine sS rfl rfl rfl (z2a rfl rfl) (z00 ?_)
      refine cBx ?_
      refine z05 rfl ?_ ?_
      ·intro hc15; replace h := z02 hc15 h
       refine bR ?_
       refine sAx (z00 ?_)
       refine cBx ?_
       refine z0a ?_
       change ∃ xs, _ = some xs ∧ EndOk _ _ _ _
       obtain rfl := Option.some.inj h
       exact ⟨_, rfl, z3n (y := (BO false)) (e := .box 148 [(I64 (((x14.2)).f_n)), (I64 (((x14.2)).f_deep)), (I64 (((x14.2)).f_why))]) (Wk.refl _) rfl rfl (z0u rfl (z0u rfl (z0u rfl rfl))) ⟨rfl, rfl⟩⟩
      ·intro hc15; replace h := z03 hc15 h
       refine z0l ?_
       refine cBx ?_
       refine z0s ?_
       refine sS rfl rfl rfl (z1y (k := s7) (c := 1) rfl rfl rfl (by omega)) ?_
       refine sMx (z00 ?_)
       exact ⟨rfl, ((s7 + 1), (x14.2).f_n, (x14.2).f_deep, (x14.2).f_why), h, ⟨(.cons .same .nil), (sC rfl (sC rfl (sC rfl (sC rfl (sC rfl z09)))))⟩⟩
     ·intro hc11; replace h := z03 hc11 h
      refine z22 ?_
      exact ⟨rfl, (s8, s9, s10), h, ⟨(.cons .same .nil), (sC rfl z09)⟩⟩
   ·intro hc6; replace h := z03 hc6 h
    refine bR ?_
    refine sS rfl rfl rfl (z4g rfl rfl) ?_
    refine sS rfl rfl rfl (z0j rfl rfl rfl) ?_
    refine sS rfl rfl rfl (z0j rfl rfl rfl) (z00 ?_)
    refine cBx ?_
    refine z05 rfl ?_ ?_
    ·intro hc16; replace h := z02 hc16 h
     refine bR ?_
     refine sAx (z00 ?_)
     refine cBx ?_
     refine bR ?_
     refine sMx ?_
     refine sMx ?_
     refine sMx ?_
     obtain ⟨x17, hx17, h⟩ := obind h
     refine sS rfl rfl rfl (z3k 0 rfl zxx rfl (.cons (Wk.refl _) (.cons (Wk.refl _) (.cons (Wk.refl _) .nil))) (.box (.val (z0q z1z ((a1).asDict)) (.val rfl .nil))) rfl (z0u rfl (z0u rfl (z0u rfl rfl))) (c_q0k (S_value_count.mk (IntKind.i64.wrap (a0.f_n + 1)) (if a2 > a0.f_deep then a2 else a0.f_deep) x1) ((a1).asDict) a2 x17 hx17) rfl (z0u rfl (z0u rfl (z0u rfl rfl)))) ?_
     refine sAx (z00 ?_)
     refine cBx ?_
     refine z0a ?_
     change ∃ xs, _ = some xs ∧ EndOk _ _ _ _
     obtain rfl := Option.some.inj h
     exact ⟨_, rfl, z3n (y := (BO x17.1)) (e := .box 148 [(I64 (((x17.2)).f_n)), (I64 (((x17.2)).f_deep)), (I64 (((x17.2)).f_why))]) (Wk.refl _) rfl rfl (z0u rfl (z0u rfl (z0u rfl rfl))) ⟨rfl, rfl⟩⟩
    ·intro hc16; replace h := z03 hc16 h
     refine bR ?_
     refine sS rfl rfl rfl (z55 rfl rfl) ?_
     refine sS rfl rfl rfl (z0j rfl rfl rfl) ?_
     refine sS rfl rfl rfl (z0j rfl rfl rfl) (z00 ?_)
     refine cBx ?_
     refine z05 rfl ?_ ?_
     ·intro hc18; replace h := z02 hc18 h
      refine bR ?_
      refine sAx (z00 ?_)
      refine cBx ?_
      refine bR ?_
      refine sMx ?_
      refine sMx ?_
      obtain ⟨x19, hx19, h⟩ := obind h
      refine sS rfl rfl rfl (z39 rfl rfl hx19) ?_
      refine sS rfl rfl rfl (z1a z6w (i := 2) rfl rfl rfl) ?_
      refine sS rfl rfl rfl (z13 (y := (PV.sl none 43 2 (List.map z1h x19.fields))) Try.underlying45 rfl rfl rfl rfl) ?_
      refine sMx ?_
      obtain ⟨x20, hx20, h⟩ := obind h
      refine sS rfl rfl rfl (z3k 0 rfl zxx rfl (.cons (Wk.refl _) (.cons (Wk.refl _) (.cons (Wk.refl _) .nil))) (.box (.val (z0q z1z x19.fields) (.val rfl .nil))) rfl (z0u rfl (z0u rfl (z0u rfl rfl))) (c_q0k (S_value_count.mk (IntKind.i64.wrap (a0.f_n + 1)) (if a2 > a0.f_deep then a2 else a0.f_deep) x1) x19.fields a2 x20 hx20) rfl (z0u rfl (z0u rfl (z0u rfl rfl)))) ?_
      refine sAx (z00 ?_)
      refine cBx ?_
      refine z0a ?_
      change ∃ xs, _ = some xs ∧ EndOk _ _ _ _
      obtain rfl := Option.some.inj h
      exact ⟨_, rfl, z3n (y := (BO x20.1)) (e := .box 148 [(I64 (((x20.2)).f_n)), (I64 (((x20.2)).f_deep)), (I64 (((x20.2)).f_why))]) (Wk.refl _) rfl rfl (z0u rfl (z0u rfl (z0u rfl rfl))) ⟨rfl, rfl⟩⟩
     ·intro hc18; replace h := z03 hc18 h
      refine z0l ?_
      exact ⟨rfl, ((IntKind.i64.wrap (a0.f_n + 1)), (if a2 > a0.f_deep then a2 else a0.f_deep), x1), h, ⟨(.cons .same .nil), (sC rfl z09)⟩⟩
theorem C_q0k.sound : ∀ (i : C_q0k) (r : i.R), z38 C_q0k.F i = some r → C_q0k.Q i r := by
 refine z4a (Φ := C_q0k.F) (Q := C_q0k.Q) ?_
 intro g hg i r h
 cases i with
 | k_q0k a0 a1 a2 => exact zah (fun a0 a1 a2 => g (.k_q0k a0 a1 a2)) (fun a0 a1 a2 r hr => hg (.k_q0k a0 a1 a2) r hr) (fun a0 a1 a2 => g (.k_q0j a0 a1 a2)) (fun a0 a1 a2 r hr => hg (.k_q0j a0 a1 a2) r hr) a0 a1 a2 r h
 | k_q0j a0 a1 a2 => exact z99 (fun a0 a1 a2 => g (.k_q0k a0 a1 a2)) (fun a0 a1 a2 r hr => hg (.k_q0k a0 a1 a2) r hr) (fun a0 a1 a2 => g (.k_q0j a0 a1 a2)) (fun a0 a1 a2 r hr => hg (.k_q0j a0 a1 a2) r hr) a0 a1 a2 r h
theorem Z0t (a0 : S_value_count) (a1 : V) (a2 : Int) (r : (Bool × S_value_count)) (h : zg2 a0 a1 a2 = some r) : z4c Try.prog 98 [(PV.rf 0 0), (ofV a1), (I64 a2)] (.box 148 [(I64 a0.f_n), (I64 a0.f_deep), (I64 a0.f_why)]) (BO r.1) (.box 148 [(I64 ((r.2).f_n)), (I64 ((r.2).f_deep)), (I64 ((r.2).f_why))]) := C_q0k.sound (.k_q0j a0 a1 a2) r h
noncomputable def zg1 (a0 : V) : Option (Int × Int) :=
 Option.bind (zg2 (S_value_count.mk 0 0 0) a0 1) fun x1 =>
 bif (!x1.1) then (
  some ((x1.2).f_n, (x1.2).f_why)
 ) else (
  some (0, 0)
 )
theorem zow (a0 : V) (r : (Int × Int)) (h : zg1 a0 = some r) : z0g Try.prog 68 [(ofV a0)] (PV.tup [(I64 r.1), (I64 r.2)]) := by
 unfold zg1 at h
 refine z0w Try.func68 rfl Try.ntmps68 Try.results68 rfl (z10 ?_)
 change BW _ _ _ ⟨[(0, (ofV a0))], [], _⟩ _
 refine bR ?_
 refine sAx ?_
 refine sAx (z00 ?_)
 refine cBx ?_
 refine bR ?_
 refine sS rfl rfl rfl (z1j zs8 rfl) (z00 ?_)
 refine cBx ?_
 refine z0o ?_
 refine bR ?_
 refine sMx ?_
 obtain ⟨x1, hx1, h⟩ := obind h
 refine sS rfl rfl rfl (z3k 0 rfl zvo rfl (.cons (Wk.refl _) (.cons (Wk.refl _) (.cons (Wk.refl _) .nil))) (.box (.val (ids_V a0) (.val rfl .nil))) rfl (z0u rfl (z0u rfl (z0u rfl rfl))) (Z0t (S_value_count.mk 0 0 0) a0 1 x1 hx1) rfl (z0u rfl (z0u rfl (z0u rfl rfl)))) ?_
 refine sS rfl rfl rfl (z2a rfl rfl) (z00 ?_)
 refine cBx ?_
 refine z05 rfl ?_ ?_
 ·intro hc2; replace h := z02 hc2 h
  refine z0o (z2e 5 [] [0] mo (by kernel_rfl) ?_)
  refine z0y rfl rfl rfl rfl (fun H hp => z0e z7j (i := 0) rfl rfl rfl) ?_
  refine z0y rfl rfl rfl rfl (fun H hp => (z0n Try.underlying3 rfl rfl rfl (hp.at rfl rfl) rfl)) ?_
  refine z0y rfl rfl rfl rfl (fun H hp => z0e z7j (i := 2) rfl rfl rfl) ?_
  refine z0y rfl rfl rfl rfl (fun H hp => (z0n Try.underlying39 rfl rfl rfl (hp.at rfl rfl) rfl)) ?_
  refine z0y rfl rfl rfl rfl (fun H hp => z4h rfl rfl) ?_
  refine z2b ?_
  change AO _ _ _ _ _
  refine sAx (z00 ?_)
  refine cBx ?_
  refine z0a ?_
  change ∃ xs, _ = some xs ∧ EndOk _ _ _ _
  obtain rfl := Option.some.inj h
  exact ⟨_, rfl, z0d (y := (PV.tup [(I64 ((x1.2).f_n)), (I64 ((x1.2).f_why))])) (Wk.refl _) (z04 rfl (z04 rfl z0r)) ⟨rfl, rfl⟩⟩
 ·intro hc2; replace h := z03 hc2 h
  refine z0l ?_
  refine cBx ?_
  refine bR ?_
  refine sAx ?_
  refine sAx (z00 ?_)
  refine cBx ?_
  refine z0a ?_
  change ∃ xs, _ = some xs ∧ EndOk _ _ _ _
  obtain rfl := Option.some.inj h
  exact ⟨_, rfl, z0d (y := (PV.tup [(I64 0), (I64 0)])) (Wk.refl _) (z04 rfl (z04 rfl z0r)) ⟨rfl, rfl⟩⟩
noncomputable def zjo (a0 : V) : Option (Int × Int) :=
 Option.bind (zg1 a0) fun x1 =>
 some (x1.1, x1.2)
theorem zye (a0 : V) (r : (Int × Int)) (h : zjo a0 = some r) : z0g Try.prog 48 [(ofV a0)] (PV.tup [(I64 r.1), (I64 r.2)]) := by
 unfold zjo at h
 refine z0w Try.func48 rfl Try.ntmps48 Try.results48 rfl (z10 ?_)
 change BW _ _ _ ⟨[(0, (ofV a0))], [], _⟩ _
 refine bR ?_
 refine sAx ?_
 refine sAx (z00 ?_)
 refine cBx ?_
 refine bR ?_
 refine sMx ?_
 obtain ⟨x1, hx1, h⟩ := obind h
 refine sS rfl rfl rfl (z0b rfl zsm rfl (.cons (Wk.refl _) .nil) ⟨(ids_V a0), trivial⟩ (zow a0 x1 hx1) (z04 rfl (z04 rfl z0r))) ?_
 refine sS rfl rfl rfl (z0j rfl rfl rfl) ?_
 refine sS rfl rfl rfl (z0j rfl rfl rfl) ?_
 refine sAx ?_
 refine sAx (z00 ?_)
 refine cBx ?_
 refine z0a ?_
 change ∃ xs, _ = some xs ∧ EndOk _ _ _ _
 obtain rfl := Option.some.inj h
 exact ⟨_, rfl, z0d (y := (PV.tup [(I64 x1.1), (I64 x1.2)])) (Wk.refl _) (z04 rfl (z04 rfl z0r)) ⟨rfl, rfl⟩⟩
noncomputable def z5r (r_q1c : Term → Option V) (a0 : (List (Str × Term))) (g1 : (List (Str × V)) → Nat → Option (List (Str × V))) (s2 : (List (Str × V))) (s3 : Nat) : Option (List (Str × V)) :=
 bif (decide (((s3 : Nat) : Int) < (((a0).length : Nat) : Int))) then (
  Option.bind ((a0)[s3]?) fun x6 =>
  Option.bind (r_q1c (x6.2)) fun x7 =>
  Option.bind (zad 32 s2 ([(x6.1, x7)] : (List (Str × V)))) fun x8 =>
  g1 x8 (s3 + 1)
 ) else (
  some s2
 )
theorem zao (r_q1c : OF ρ → Term → Option V) (h_r_q1c : ∀ y0, CM (fun G => r_q1c G y0)) (g1 : OF ρ → (List (Str × V)) → Nat → Option (List (Str × V))) (h_g1 : ∀ y0 y1, CM (fun G => g1 G y0 y1)) (a0 : (List (Str × Term))) (s2 : (List (Str × V))) (s3 : Nat) : CM (fun G : OF ρ => z5r (r_q1c G) a0 (g1 G) s2 s3) := by
 simp only [z5r]
 repeat (first | exact z0c | exact h_r_q1c _ | exact h_g1 _ _ | refine z14 ?_ ?_ | refine z15 ?_ (fun _ => ?_))
noncomputable def zen (r_q1c : Term → Option V) (a0 : (List (Str × Term))) (s2 : (List (Str × V))) (s3 : Nat) : Option (List (Str × V)) :=
 z38 (ι := ((List (Str × V)) × Nat)) (ρ := fun _ => (List (Str × V))) (fun g i => z5r r_q1c a0 (fun s2 s3 => g (s2, s3)) i.1 i.2) (s2, s3)
theorem zh2 (r_q1c : Term → Option V) (a0 : (List (Str × Term))) (s2 : (List (Str × V))) (s3 : Nat) : zen r_q1c a0 s2 s3 = z5r r_q1c a0 (zen r_q1c a0) s2 s3 :=
 z1d (ι := ((List (Str × V)) × Nat)) (ρ := fun _ => (List (Str × V))) (Φ := fun g i => z5r r_q1c a0 (fun s2 s3 => g (s2, s3)) i.1 i.2) (fun i => zao (ι := ((List (Str × V)) × Nat)) (ρ := fun _ => (List (Str × V))) (fun _ => r_q1c) (fun _ => z0c) (fun g => (fun s2 s3 => g (s2, s3))) (fun _ _ => z1c) a0 i.1 i.2) (s2, s3)
theorem zp9 (r_q1c : OF ρ → Term → Option V) (h_r_q1c : ∀ y0, CM (fun G => r_q1c G y0)) (a0 : (List (Str × Term))) (s2 : (List (Str × V))) (s3 : Nat) : CM (fun G : OF ρ => zen (r_q1c G) a0 s2 s3) :=
 z3o (κ := ((List (Str × V)) × Nat)) (τ := fun _ => (List (Str × V))) (Φ := fun G g i => z5r (r_q1c G) a0 (fun s2 s3 => g (s2, s3)) i.1 i.2) (fun g i => zao r_q1c h_r_q1c (fun _ => (fun s2 s3 => g (s2, s3))) (fun _ _ => z0c) a0 i.1 i.2) (fun G i => zao (ι := ((List (Str × V)) × Nat)) (ρ := fun _ => (List (Str × V))) (fun _ => r_q1c G) (fun _ => z0c) (fun g => (fun s2 s3 => g (s2, s3))) (fun _ _ => z1c) a0 i.1 i.2) (s2, s3)
noncomputable def zkl (r_q1s : (List (Str × Term)) → Option (List (Str × V))) (r_q1c : Term → Option V) (a0 : (List (Str × Term))) : Option (List (Str × V)) :=
 Option.bind (zjl ((a0).length) 32) fun x1 =>
 zen r_q1c a0 ([] : (List (Str × V))) 0
theorem zw3 (r_q1s : OF ρ → (List (Str × Term)) → Option (List (Str × V))) (h_r_q1s : ∀ y0, CM (fun G => r_q1s G y0)) (r_q1c : OF ρ → Term → Option V) (h_r_q1c : ∀ y0, CM (fun G => r_q1c G y0)) (a0 : (List (Str × Term))) : CM (fun G : OF ρ => zkl (r_q1s G) (r_q1c G) a0) := by
 simp only [zkl]
 repeat (first | exact z0c | exact h_r_q1s _ | exact h_r_q1c _ | apply zp9 | refine z14 ?_ ?_ | refine z15 ?_ (fun _ => ?_) | intro _ | assumption)
noncomputable def z5t (r_q1c : Term → Option V) (a0 : Term) (g1 : (List V) → Nat → Option V) (s11 : (List V)) (s12 : Nat) : Option V :=
 bif (decide (((s12 : Nat) : Int) < (((a0.list).length : Nat) : Int))) then (
  Option.bind ((a0.list)[s12]?) fun x15 =>
  Option.bind (r_q1c x15) fun x16 =>
  Option.bind (zad 16 s11 ([x16] : (List V))) fun x17 =>
  g1 x17 (s12 + 1)
 ) else (
  some (V.list s11)
 )
theorem zap (r_q1c : OF ρ → Term → Option V) (h_r_q1c : ∀ y0, CM (fun G => r_q1c G y0)) (g1 : OF ρ → (List V) → Nat → Option V) (h_g1 : ∀ y0 y1, CM (fun G => g1 G y0 y1)) (a0 : Term) (s11 : (List V)) (s12 : Nat) : CM (fun G : OF ρ => z5t (r_q1c G) a0 (g1 G) s11 s12) := by
 simp only [z5t]
 repeat (first | exact z0c | exact h_r_q1c _ | exact h_g1 _ _ | refine z14 ?_ ?_ | refine z15 ?_ (fun _ => ?_))
noncomputable def zd1 (r_q1c : Term → Option V) (a0 : Term) (s11 : (List V)) (s12 : Nat) : Option V :=
 z38 (ι := ((List V) × Nat)) (ρ := fun _ => V) (fun g i => z5t r_q1c a0 (fun s11 s12 => g (s11, s12)) i.1 i.2) (s11, s12)
theorem zh8 (r_q1c : Term → Option V) (a0 : Term) (s11 : (List V)) (s12 : Nat) : zd1 r_q1c a0 s11 s12 = z5t r_q1c a0 (zd1 r_q1c a0) s11 s12 :=
 z1d (ι := ((List V) × Nat)) (ρ := fun _ => V) (Φ := fun g i => z5t r_q1c a0 (fun s11 s12 => g (s11, s12)) i.1 i.2) (fun i => zap (ι := ((List V) × Nat)) (ρ := fun _ => V) (fun _ => r_q1c) (fun _ => z0c) (fun g => (fun s11 s12 => g (s11, s12))) (fun _ _ => z1c) a0 i.1 i.2) (s11, s12)
theorem zpe (r_q1c : OF ρ → Term → Option V) (h_r_q1c : ∀ y0, CM (fun G => r_q1c G y0)) (a0 : Term) (s11 : (List V)) (s12 : Nat) : CM (fun G : OF ρ => zd1 (r_q1c G) a0 s11 s12) :=
 z3o (κ := ((List V) × Nat)) (τ := fun _ => V) (Φ := fun G g i => z5t (r_q1c G) a0 (fun s11 s12 => g (s11, s12)) i.1 i.2) (fun g i => zap r_q1c h_r_q1c (fun _ => (fun s11 s12 => g (s11, s12))) (fun _ _ => z0c) a0 i.1 i.2) (fun G i => zap (ι := ((List V) × Nat)) (ρ := fun _ => V) (fun _ => r_q1c G) (fun _ => z0c) (fun g => (fun s11 s12 => g (s11, s12))) (fun _ _ => z1c) a0 i.1 i.2) (s11, s12)
noncomputable def zkn (r_q1s : (List (Str × Term)) → Option (List (Str × V))) (r_q1c : Term → Option V) (a0 : Term) : Option V :=
 bif (a0.kind == 1) then (
  some V.nil
 ) else (
  bif (a0.kind == 2) then (
   some (V.bool a0.bool)
  ) else (
   bif (a0.kind == 3) then (
    some (V.int a0.int)
   ) else (
    bif (a0.kind == 4) then (
     some (V.float a0.float)
    ) else (
     bif (a0.kind == 5) then (
      some (V.text a0.text)
     ) else (
      bif (a0.kind == 6) then (
       Option.bind (zad 1 ([] : Str) a0.bytes) fun x7 =>
       some (V.bytes x7)
      ) else (
       bif (a0.kind == 7) then (
        some (V.ref a0.ref)
       ) else (
        bif (a0.kind == 8) then (
         Option.bind (zjl ((a0.list).length) 16) fun x10 =>
         zd1 r_q1c a0 ([] : (List V)) 0
        ) else (
         bif (a0.kind == 9) then (
          Option.bind (r_q1s a0.fields) fun x19 =>
          some (V.dict x19)
         ) else (
          bif (a0.kind == 10) then (
           Option.bind (r_q1s a0.fields) fun x21 =>
           some (V.record a0.cls a0.ver x21)
          ) else (
           bif (a0.kind == 11) then (
            some V.nothing
           ) else (
            some (V.alien ⟨153, rfl⟩)
           )
          )
         )
        )
       )
      )
     )
    )
   )
  )
 )
theorem zw5 (r_q1s : OF ρ → (List (Str × Term)) → Option (List (Str × V))) (h_r_q1s : ∀ y0, CM (fun G => r_q1s G y0)) (r_q1c : OF ρ → Term → Option V) (h_r_q1c : ∀ y0, CM (fun G => r_q1c G y0)) (a0 : Term) : CM (fun G : OF ρ => zkn (r_q1s G) (r_q1c G) a0) := by
 simp only [zkn]
 repeat (first | exact z0c | exact h_r_q1s _ | exact h_r_q1c _ | apply zpe | refine z14 ?_ ?_ | refine z15 ?_ (fun _ => ?_) | intro _ | assumption)
inductive C_q1s where
 | k_q1s (a0 : (List (Str × Term)))
 | k_q1c (a0 : Term)
def C_q1s.R : C_q1s → Type
 | .k_q1s _ => (List (Str × V))
 | .k_q1c _ => V
noncomputable def C_q1s.F (g : ∀ i : C_q1s, Option i.R) : ∀ i : C_q1s, Option i.R
 | .k_q1s a0 => zkl (fun a0 => g (.k_q1s a0)) (fun a0 => g (.k_q1c a0)) a0
 | .k_q1c a0 => zkn (fun a0 => g (.k_q1s a0)) (fun a0 => g (.k_q1c a0)) a0
noncomputable def zu4 (a0 : (List (Str × Term))) : Option (List (Str × V)) := z38 C_q1s.F (.k_q1s a0)
noncomputable def z7m (a0 : Term) : Option V := z38 C_q1s.F (.k_q1c a0)
abbrev gg5 := fun (g : ∀ i : C_q1s, Option i.R) a0 => g (.k_q1s a0)
theorem hh5 (a0 : _) : CM (ρ := C_q1s.R) (fun g => g (C_q1s.k_q1s a0)) := z1c
abbrev gg6 := fun (g : ∀ i : C_q1s, Option i.R) a0 => g (.k_q1c a0)
theorem hh6 (a0 : _) : CM (ρ := C_q1s.R) (fun g => g (C_q1s.k_q1c a0)) := z1c
theorem C_q1s.cm (i : C_q1s) : CM (fun g : (∀ i : C_q1s, Option i.R) => C_q1s.F g i) := by
 cases i with
 | k_q1s a0 => exact zw3 gg5 hh5 gg6 hh6 a0
 | k_q1c a0 => exact zw5 gg5 hh5 gg6 hh6 a0
theorem Z5c (a0 : (List (Str × Term))) : zu4 a0 = zkl zu4 z7m a0 := z1d C_q1s.cm (.k_q1s a0)
theorem zzj (a0 : Term) : z7m a0 = zkn zu4 z7m a0 := z1d C_q1s.cm (.k_q1c a0)
def C_q1s.Q : ∀ i : C_q1s, i.R → Prop
 | .k_q1s a0 => fun (r : (List (Str × V))) => z0g Try.prog 103 [(PV.sl none 101 12 (List.map z18 a0))] (PV.sl none 43 2 (List.map z1h r))
 | .k_q1c a0 => fun (r : V) => z0g Try.prog 87 [(z1o a0)] (ofV r)
theorem zgr (r_q1s : (List (Str × Term)) → Option (List (Str × V))) (c_q1s : ∀ (a0 : (List (Str × Term))) r, r_q1s a0 = some r → z0g Try.prog 103 [(PV.sl none 101 12 (List.map z18 a0))] (PV.sl none 43 2 (List.map z1h r))) (r_q1c : Term → Option V) (c_q1c : ∀ (a0 : Term) r, r_q1c a0 = some r → z0g Try.prog 87 [(z1o a0)] (ofV r)) (a0 : (List (Str × Term))) (r : (List (Str × V))) (h : zkl r_q1s r_q1c a0 = some r) : z0g Try.prog 103 [(PV.sl none 101 12 (List.map z18 a0))] (PV.sl none 43 2 (List.map z1h r)) := by
 unfold zkl at h
 refine z0w Try.func103 rfl Try.ntmps103 Try.results103 rfl (z10 ?_)
 change BW _ _ _ ⟨[(0, (PV.sl none 101 12 (List.map z18 a0)))], [], _⟩ _
 refine bR ?_
 refine sAx (z00 ?_)
 refine cBx ?_
 refine bR ?_
 refine sMx ?_
 refine sS rfl rfl rfl (z17 Try.underlying27 rfl rfl) ?_
 obtain ⟨x1, hx1, h⟩ := obind h
 refine sS rfl rfl rfl ((zrg (f := z1h) (c := ((a0).length)) Try.underlying45 z2d rfl rfl rfl rfl hx1 (p := (PV.agg [(z0f []), (PV.v .nilIface)])) rfl).cast (y := (PV.sl (some 0) 43 2 (List.map z1h ([] : (List (Str × V)))))) rfl rfl) ?_
 refine sAx (z00 ?_)
 refine cBx ?_
 refine z0o ?_
 refine bR ?_
 refine sMx ?_
 refine sS rfl rfl rfl (z17 Try.underlying27 rfl rfl) ?_
 refine sMx (z00 ?_)
 refine cBx ?_
 refine z0x ?_
 refine cBx ?_
 unfold zen at h
 refine z26 (σ := ((List (Str × V)) × Nat)) (fun i => [(3, (PV.sl (some 0) 43 2 (List.map z1h i.1))), (9, (PV.sl none 101 12 (List.map z18 a0))), (10, (I64 ((((a0).length : Nat) : Int)))), (11, (I64 (((i.2 : Nat) : Int))))]) (fun i => [.arr 43 (i.1).length]) (([] : (List (Str × V))), 0) h ?_ ?_ ?_
 ·intro i; exact ⟨lbE rfl, ⟨(z5j rfl (z3j z1z _)), ⟨(z01 (z0q z2x _)), ⟨(z01 rfl), ⟨(z01 rfl), trivial⟩⟩⟩⟩, trivial⟩
 ·exact ⟨(.cons .same .nil), (sC rfl (sC rfl (sC rfl (sC rfl z09))))⟩
 ·rintro g1_f ⟨s2, s3⟩ h; replace h : z5r r_q1c a0 (fun y0 y1 => g1_f (y0, y1)) s2 s3 = some r := h; unfold z5r at h
  change BW _ _ _ ⟨[(3, (PV.sl (some 0) 43 2 (List.map z1h s2))), (9, (PV.sl none 101 12 (List.map z18 a0))), (10, (I64 ((((a0).length : Nat) : Int)))), (11, (I64 (((s3 : Nat) : Int))))], [.arr 43 (s2).length], _⟩ _
  refine bR ?_
  refine sS rfl rfl rfl ((z06 rfl rfl rfl rfl).cast (y := (BO ((decide (((s3 : Nat) : Int) < (((a0).length : Nat) : Int)))))) rfl rfl) (z00 ?_)
  refine cBx ?_
  refine z0o ?_
  refine z2z (t := 9) rfl fun hb5 => ?_
  try rw [List.length_map] at hb5
  refine z05 rfl ?_ ?_
  ·intro hc4; replace h := z02 hc4 h
   have hc4_ := of_decide_eq_true hc4
   refine z0l ?_
   refine cBx ?_
   refine z0o ?_
   refine z0x ?_
   refine cBx ?_
   refine bR ?_
   obtain ⟨x6, hx6, h⟩ := obind h
   refine sS rfl rfl rfl (z1i (i := s3) Try.underlying27 z44 rfl rfl rfl hx6 (z3b _)) ?_
   refine sS rfl rfl rfl (z1s z44 Try.underlying101 rfl rfl rfl rfl rfl) ?_
   refine sS rfl rfl rfl (z1j z44 rfl) ?_
   refine z11 rfl rfl (z0v z44 rfl rfl rfl rfl rfl rfl (lbE rfl) rfl) ?_
   refine z00 ?_
   refine cBx ?_
   refine z2e 8 [7] [1] mo (by kernel_rfl) ?_
   refine z0y rfl rfl rfl rfl (fun H hp => z0k rfl rfl) ?_
   refine z0y rfl rfl rfl rfl (fun H hp => z0e z9a (i := 0) rfl rfl rfl) ?_
   refine z0y rfl rfl rfl rfl (fun H hp => (z0n Try.underlying9 rfl rfl rfl (hp.at rfl rfl) rfl)) ?_
   refine z0y rfl rfl rfl rfl (fun H hp => z0e z9a (i := 1) rfl rfl rfl) ?_
   refine z0y rfl rfl rfl rfl (fun H hp => (z12 z2g Try.underlying29 rfl rfl rfl (hp.at rfl rfl) rfl rfl)) ?_
   obtain ⟨x7, hx7, h⟩ := obind h
   refine z0y rfl rfl rfl rfl (fun H hp => z0b rfl zzf rfl (.cons (Wk.refl _) .nil) ⟨(z20 (x6.2)), trivial⟩ (c_q1c (x6.2) x7 hx7) (ids_V x7)) ?_
   refine z0y rfl rfl rfl rfl (fun H hp => z1w (cs := [(z0f x6.1), (ofV x7)]) z6x z2d rfl rfl (by simp only [List.all_cons, List.all_nil, ziz, z5m, Bool.and_true, Bool.true_and]; try rfl) (by simp only [z8n, List.getElem?_cons_zero, List.getElem?_cons_succ, z30, z2j]; rfl)) ?_
   refine zab rfl rfl rfl rfl ((z1t (xs := [(PV.agg [(z0f x6.1), (ofV x7)])]) Try.underlying45 z2d rfl rfl rfl (by simp only [List.all_cons, List.all_nil, ziz, z5m, Bool.and_true, Bool.true_and]; try rfl) (by simp only [List.all_cons, List.all_nil, ziy, z8i, z30, z2j]; try rfl) rfl ⟨lbE rfl, lbE rfl⟩ (by simp only [zgo, z8n, List.flatMap_cons, List.flatMap_nil, z30, z2j]; try rfl)).cast (y := (PV.sl (some 2) 43 2 (List.map z1h ([(x6.1, x7)] : (List (Str × V)))))) rfl rfl) ⟨rfl, trivial⟩ ?_
   refine z2b ?_
   change AO _ _ _ _ _
   obtain ⟨x8, hx8, h⟩ := obind h
   refine sS rfl rfl rfl (z34 Try.underlying45 z2d rfl Try.underlying45 rfl rfl rfl rfl zsv zj3 hx8 rfl) ?_
   refine sAx (z00 ?_)
   refine cBx ?_
   refine z0s ?_
   refine sS rfl rfl rfl (z1y (k := s3) (c := 1) rfl rfl rfl (by omega)) ?_
   refine sMx (z00 ?_)
   exact ⟨rfl, (x8, (s3 + 1)), h, ⟨(.cons .same .nil), (sC rfl (sC rfl (sC rfl (sC rfl z09))))⟩⟩
  ·intro hc4; replace h := z03 hc4 h
   refine z22 ?_
   refine cBx ?_
   refine bR ?_
   refine sMx ?_
   refine sAx (z00 ?_)
   refine cBx ?_
   refine z0a ?_
   change ∃ xs, _ = some xs ∧ EndOk _ _ _ _
   obtain rfl := Option.some.inj h
   exact ⟨_, rfl, z0d (y := (PV.sl none 43 2 (List.map z1h s2))) Wk.tok (z0q z1z s2) ⟨rfl, rfl⟩⟩
theorem zfr (r_q1s : (List (Str × Term)) → Option (List (Str × V))) (c_q1s : ∀ (a0 : (List (Str × Term))) r, r_q1s a0 = some r → z0g Try.prog 103 [(PV.sl none 101 12 (List.map z18 a0))] (PV.sl none 43 2 (List.map z1h r))) (r_q1c : Term → Option V) (c_q1c : ∀ (a0 : Term) r, r_q1c a0 = some r → z0g Try.prog 87 [(z1o a0)] (ofV r)) (a0 : Term) (r : V) (h : zkn r_q1s r_q1c a0 = some r) : z0g Try.prog 87 [(z1o a0)] (ofV r) := by
 unfold zkn at h
 refine z0w Try.func87 rfl Try.ntmps87 Try.results87 rfl (z10 ?_)
 change BW _ _ _ ⟨[(0, (z1o a0))], [], _⟩ _
 refine bR ?_
 refine sS rfl rfl rfl (z1x rfl rfl rfl) ?_
 refine sAx (z00 ?_)
 refine cBx ?_
 refine z0o ?_
 refine bR ?_
 refine sS rfl rfl rfl (z0e z23 (i := 0) rfl rfl rfl) ?_
 refine sS rfl rfl rfl ((z0n Try.underlying3 rfl rfl rfl rfl rfl)) (z00 ?_)
 refine cBx ?_
 refine z0x ?_
 refine cBx ?_
 refine bR ?_
 refine sS rfl rfl rfl ((z06 rfl rfl rfl rfl).cast (y := (BO ((a0.kind == 1)))) rfl rfl) ?_
 refine sAx (z00 ?_)
 refine cBx ?_
 refine z05 rfl ?_ ?_
 ·intro hc1; replace h := z02 hc1 h
  refine bR ?_
  refine sAx (z00 ?_)
  refine cBx ?_
  refine z0a ?_
  change ∃ xs, _ = some xs ∧ EndOk _ _ _ _
  obtain rfl := Option.some.inj h
  exact ⟨_, rfl, z0d (y := (ofV V.nil)) (Wk.eq mk_nil.symm) (ids_V V.nil) ⟨rfl, rfl⟩⟩
 ·intro hc1; replace h := z03 hc1 h
  refine bR ?_
  refine sS rfl rfl rfl ((z06 rfl rfl rfl rfl).cast (y := (BO ((a0.kind == 2)))) rfl rfl) ?_
  refine sAx (z00 ?_)
  refine cBx ?_
  refine z05 rfl ?_ ?_
  ·intro hc2; replace h := z02 hc2 h
   refine bR ?_
   refine sS rfl rfl rfl (z0e z23 (i := 1) rfl rfl rfl) ?_
   refine sS rfl rfl rfl ((z0n Try.underlying4 rfl rfl rfl rfl rfl)) ?_
   refine sS rfl rfl rfl ((z1u Try.underlying4 rfl rfl rfl).wk ((Wk.iface (Wk.refl _)).trans (Wk.eq (zg6 _).symm))) ?_
   refine sAx (z00 ?_)
   refine cBx ?_
   refine z0a ?_
   change ∃ xs, _ = some xs ∧ EndOk _ _ _ _
   obtain rfl := Option.some.inj h
   exact ⟨_, rfl, z0d (y := (ofV (V.bool a0.bool))) (Wk.refl _) (ids_V (V.bool a0.bool)) ⟨rfl, rfl⟩⟩
  ·intro hc2; replace h := z03 hc2 h
   refine bR ?_
   refine sS rfl rfl rfl ((z06 rfl rfl rfl rfl).cast (y := (BO ((a0.kind == 3)))) rfl rfl) ?_
   refine sAx (z00 ?_)
   refine cBx ?_
   refine z05 rfl ?_ ?_
   ·intro hc3; replace h := z02 hc3 h
    refine bR ?_
    refine sS rfl rfl rfl (z0e z23 (i := 2) rfl rfl rfl) ?_
    refine sS rfl rfl rfl ((z0n Try.underlying2 rfl rfl rfl rfl rfl)) ?_
    refine sS rfl rfl rfl ((z1u Try.underlying2 rfl rfl rfl).wk ((Wk.iface (Wk.refl _)).trans (Wk.eq (zxf _).symm))) ?_
    refine sAx (z00 ?_)
    refine cBx ?_
    refine z0a ?_
    change ∃ xs, _ = some xs ∧ EndOk _ _ _ _
    obtain rfl := Option.some.inj h
    exact ⟨_, rfl, z0d (y := (ofV (V.int a0.int))) (Wk.refl _) (ids_V (V.int a0.int)) ⟨rfl, rfl⟩⟩
   ·intro hc3; replace h := z03 hc3 h
    refine bR ?_
    refine sS rfl rfl rfl ((z06 rfl rfl rfl rfl).cast (y := (BO ((a0.kind == 4)))) rfl rfl) ?_
    refine sAx (z00 ?_)
    refine cBx ?_
    refine z05 rfl ?_ ?_
    ·intro hc4; replace h := z02 hc4 h
     refine bR ?_
     refine sS rfl rfl rfl (z0e z23 (i := 3) rfl rfl rfl) ?_
     refine sS rfl rfl rfl ((z0n Try.underlying22 rfl rfl rfl rfl rfl)) ?_
     refine sS rfl rfl rfl ((z1u Try.underlying22 rfl rfl rfl).wk ((Wk.iface (Wk.refl _)).trans (Wk.eq (zlu _).symm))) ?_
     refine sAx (z00 ?_)
     refine cBx ?_
     refine z0a ?_
     change ∃ xs, _ = some xs ∧ EndOk _ _ _ _
     obtain rfl := Option.some.inj h
     exact ⟨_, rfl, z0d (y := (ofV (V.float a0.float))) (Wk.refl _) (ids_V (V.float a0.float)) ⟨rfl, rfl⟩⟩
    ·intro hc4; replace h := z03 hc4 h
     refine bR ?_
     refine sS rfl rfl rfl ((z06 rfl rfl rfl rfl).cast (y := (BO ((a0.kind == 5)))) rfl rfl) ?_
     refine sAx (z00 ?_)
     refine cBx ?_
     refine z05 rfl ?_ ?_
     ·intro hc5; replace h := z02 hc5 h
      refine bR ?_
      refine sS rfl rfl rfl (z0e z23 (i := 4) rfl rfl rfl) ?_
      refine sS rfl rfl rfl ((z0n Try.underlying9 rfl rfl rfl rfl rfl)) ?_
      refine sS rfl rfl rfl ((z1u Try.underlying9 rfl rfl rfl).wk ((Wk.iface (Wk.refl _)).trans (Wk.eq (zrq _).symm))) ?_
      refine sAx (z00 ?_)
      refine cBx ?_
      refine z0a ?_
      change ∃ xs, _ = some xs ∧ EndOk _ _ _ _
      obtain rfl := Option.some.inj h
      exact ⟨_, rfl, z0d (y := (ofV (V.text a0.text))) (Wk.refl _) (ids_V (V.text a0.text)) ⟨rfl, rfl⟩⟩
     ·intro hc5; replace h := z03 hc5 h
      refine bR ?_
      refine sS rfl rfl rfl ((z06 rfl rfl rfl rfl).cast (y := (BO ((a0.kind == 6)))) rfl rfl) ?_
      refine sAx (z00 ?_)
      refine cBx ?_
      refine z05 rfl ?_ ?_
      ·intro hc6; replace h := z02 hc6 h
       refine bR ?_
       refine sS rfl rfl rfl ((z1t (xs := []) Try.underlying23 inf_5 rfl rfl rfl rfl rfl rfl ⟨lbE rfl, lbE rfl⟩ rfl).cast (y := (PV.sl (some 1) 5 1 (List.map ofB ([] : Str)))) rfl rfl) ?_
       refine sS rfl rfl rfl (z0e z23 (i := 5) rfl rfl rfl) ?_
       refine sS rfl rfl rfl ((z0n Try.underlying23 rfl rfl rfl rfl rfl)) ?_
       obtain ⟨x7, hx7, h⟩ := obind h
       refine sS rfl rfl rfl (z34 Try.underlying23 inf_5 rfl Try.underlying23 rfl rfl rfl rfl (fun _ => rfl) (fun _ => rfl) hx7 rfl) ?_
       refine sS rfl rfl rfl ((z1u Try.underlying23 rfl rfl rfl).wk ((Wk.iface Wk.tok).trans (Wk.eq (zlv _).symm))) ?_
       refine sAx (z00 ?_)
       refine cBx ?_
       refine z0a ?_
       change ∃ xs, _ = some xs ∧ EndOk _ _ _ _
       obtain rfl := Option.some.inj h
       exact ⟨_, rfl, z0d (y := (ofV (V.bytes x7))) (Wk.refl _) (ids_V (V.bytes x7)) ⟨rfl, rfl⟩⟩
      ·intro hc6; replace h := z03 hc6 h
       refine bR ?_
       refine sS rfl rfl rfl ((z06 rfl rfl rfl rfl).cast (y := (BO ((a0.kind == 7)))) rfl rfl) ?_
       refine sAx (z00 ?_)
       refine cBx ?_
       refine z05 rfl ?_ ?_
       ·intro hc8; replace h := z02 hc8 h
        refine bR ?_
        refine sS rfl rfl rfl (z0e z23 (i := 6) rfl rfl rfl) ?_
        refine sS rfl rfl rfl ((z0n Try.underlying25 rfl rfl rfl rfl rfl)) ?_
        refine sS rfl rfl rfl ((z1u Try.underlying25 rfl rfl rfl).wk ((Wk.iface (Wk.refl _)).trans (Wk.eq (zxe _).symm))) ?_
        refine sAx (z00 ?_)
        refine cBx ?_
        refine z0a ?_
        change ∃ xs, _ = some xs ∧ EndOk _ _ _ _
        obtain rfl := Option.some.inj h
        exact ⟨_, rfl, z0d (y := (ofV (V.ref a0.ref))) (Wk.refl _) (ids_V (V.ref a0.ref)) ⟨rfl, rfl⟩⟩
       ·intro hc8; replace h := z03 hc8 h
        refine bR ?_
        refine sS rfl rfl rfl ((z06 rfl rfl rfl rfl).cast (y := (BO ((a0.kind == 8)))) rfl rfl) ?_
        refine sAx (z00 ?_)
        refine cBx ?_
        refine z05 rfl ?_ ?_
        ·intro hc9; replace h := z02 hc9 h
         refine bR ?_
         refine sS rfl rfl rfl (z0e z23 (i := 7) rfl rfl rfl) ?_
         refine sS rfl rfl rfl ((z0n Try.underlying26 rfl rfl rfl rfl rfl)) ?_
         refine sS rfl rfl rfl (z17 Try.underlying26 rfl rfl) ?_
         obtain ⟨x10, hx10, h⟩ := obind h
         refine sS rfl rfl rfl ((zrg (f := ofV) (c := ((a0.list).length)) Try.underlying37 z6r rfl rfl rfl rfl hx10 (p := (PV.v .nilIface)) rfl).cast (y := (PV.sl (some 1) 20 1 (List.map ofV ([] : (List V))))) rfl rfl) ?_
         refine sAx (z00 ?_)
         refine cBx ?_
         refine z0o ?_
         refine bR ?_
         refine sS rfl rfl rfl (z0e z23 (i := 7) rfl rfl rfl) ?_
         refine sS rfl rfl rfl ((z0n Try.underlying26 rfl rfl rfl rfl rfl)) ?_
         refine sS rfl rfl rfl (z17 Try.underlying26 rfl rfl) ?_
         refine sMx (z00 ?_)
         refine cBx ?_
         refine z0x ?_
         refine cBx ?_
         unfold zd1 at h
         refine z26 (σ := ((List V) × Nat)) (fun i => [(3, (PV.sl (some 1) 20 1 (List.map ofV i.1))), (49, (PV.sl none 29 11 (List.map z1k a0.list))), (50, (I64 ((((a0.list).length : Nat) : Int)))), (51, (I64 (((i.2 : Nat) : Int))))]) (fun i => [.dead, .arr 20 (i.1).length]) (([] : (List V)), 0) h ?_ ?_ ?_
         ·intro i; exact ⟨lbE rfl, ⟨(z5j rfl (z3j ids_V _)), ⟨(z01 (z0q z35 _)), ⟨(z01 rfl), ⟨(z01 rfl), trivial⟩⟩⟩⟩, trivial⟩
         ·exact ⟨(.cons .dead (.cons .same .nil)), (sC rfl (sC rfl (sC rfl (sC rfl z09))))⟩
         ·rintro g1_f ⟨s11, s12⟩ h; replace h : z5t r_q1c a0 (fun y0 y1 => g1_f (y0, y1)) s11 s12 = some r := h; unfold z5t at h
          change BW _ _ _ ⟨[(3, (PV.sl (some 1) 20 1 (List.map ofV s11))), (49, (PV.sl none 29 11 (List.map z1k a0.list))), (50, (I64 ((((a0.list).length : Nat) : Int)))), (51, (I64 (((s12 : Nat) : Int))))], [.dead, .arr 20 (s11).length], _⟩ _
          refine bR ?_
          refine sS rfl rfl rfl ((z06 rfl rfl rfl rfl).cast (y := (BO ((decide (((s12 : Nat) : Int) < (((a0.list).length : Nat) : Int)))))) rfl rfl) (z00 ?_)
          refine cBx ?_
          refine z0o ?_
          refine z2z (t := 49) rfl fun hb14 => ?_
          try rw [List.length_map] at hb14
          refine z05 rfl ?_ ?_
          ·intro hc13; replace h := z02 hc13 h
           have hc13_ := of_decide_eq_true hc13
           refine z0l ?_
           refine cBx ?_
           refine z0o ?_
           refine z0x ?_
           refine cBx ?_
           refine bR ?_
           obtain ⟨x15, hx15, h⟩ := obind h
           refine sS rfl rfl rfl (z1i (i := s12) Try.underlying26 z2g rfl rfl rfl hx15 (z3w _)) ?_
           refine sS rfl rfl rfl (z1s z2g Try.underlying29 rfl rfl rfl rfl rfl) ?_
           refine sS rfl rfl rfl (z1j z2g rfl) ?_
           refine z11 rfl rfl (z0v z2g rfl rfl rfl rfl rfl rfl (lbE rfl) rfl) ?_
           refine z00 ?_
           refine cBx ?_
           refine z0s ?_
           refine sMx ?_
           refine sS rfl rfl rfl ((z12 z2g Try.underlying29 rfl rfl rfl rfl rfl rfl)) ?_
           obtain ⟨x16, hx16, h⟩ := obind h
           refine sS rfl rfl rfl (z0b rfl zzf rfl (.cons (Wk.refl _) .nil) ⟨(z20 x15), trivial⟩ (c_q1c x15 x16 hx16) (ids_V x16)) ?_
           refine sS rfl rfl rfl ((z1t (xs := [(ofV x16)]) Try.underlying37 z6r rfl rfl rfl (by simp only [List.all_cons, List.all_nil, ziz, z5m, Bool.and_true, Bool.true_and]; try rfl) (by simp only [List.all_cons, List.all_nil, ziy, z8i, z30, z2j]; try rfl) rfl ⟨lbE rfl, lbE rfl⟩ (by simp only [zgo, z8n, List.flatMap_cons, List.flatMap_nil, z30, z2j]; try rfl)).cast (y := (PV.sl (some 3) 20 1 (List.map ofV ([x16] : (List V))))) rfl rfl) ?_
           obtain ⟨x17, hx17, h⟩ := obind h
           refine sS rfl rfl rfl (z34 Try.underlying37 z6r rfl Try.underlying37 rfl rfl rfl rfl ziy zt3 hx17 rfl) ?_
           refine sAx (z00 ?_)
           refine cBx ?_
           refine z0s ?_
           refine sS rfl rfl rfl (z1y (k := s12) (c := 1) rfl rfl rfl (by omega)) ?_
           refine sMx (z00 ?_)
           exact ⟨rfl, (x17, (s12 + 1)), h, ⟨(.cons .dead (.cons .same .nil)), (sC rfl (sC rfl (sC rfl (sC rfl z09))))⟩⟩
          ·intro hc13; replace h := z03 hc13 h
           refine z22 ?_
           refine cBx ?_
           refine bR ?_
           refine sMx ?_
           refine sS rfl rfl rfl ((z1u Try.underlying37 rfl rfl rfl).wk ((Wk.iface Wk.tok).trans (Wk.eq (zrr _).symm))) ?_
           refine sAx (z00 ?_)
           refine cBx ?_
           refine z0a ?_
           change ∃ xs, _ = some xs ∧ EndOk _ _ _ _
           obtain rfl := Option.some.inj h
           exact ⟨_, rfl, z0d (y := (ofV (V.list s11))) (Wk.refl _) (ids_V (V.list s11)) ⟨rfl, rfl⟩⟩
        ·intro hc9; replace h := z03 hc9 h
         refine bR ?_
         refine sS rfl rfl rfl ((z06 rfl rfl rfl rfl).cast (y := (BO ((a0.kind == 9)))) rfl rfl) ?_
         refine sAx (z00 ?_)
         refine cBx ?_
         refine z05 rfl ?_ ?_
         ·intro hc18; replace h := z02 hc18 h
          refine bR ?_
          refine sS rfl rfl rfl (z0e z23 (i := 8) rfl rfl rfl) ?_
          refine sS rfl rfl rfl ((z0n Try.underlying27 rfl rfl rfl rfl rfl)) ?_
          obtain ⟨x19, hx19, h⟩ := obind h
          refine sS rfl rfl rfl (z0b rfl zy1 rfl (.cons (Wk.refl _) .nil) ⟨(z0q z2x a0.fields), trivial⟩ (c_q1s a0.fields x19 hx19) (z0q z1z x19)) ?_
          refine sS rfl rfl rfl ((z1u Try.underlying45 rfl rfl rfl).wk ((Wk.iface (Wk.refl _)).trans (Wk.eq (zk0 _).symm))) ?_
          refine sAx (z00 ?_)
          refine cBx ?_
          refine z0a ?_
          change ∃ xs, _ = some xs ∧ EndOk _ _ _ _
          obtain rfl := Option.some.inj h
          exact ⟨_, rfl, z0d (y := (ofV (V.dict x19))) (Wk.refl _) (ids_V (V.dict x19)) ⟨rfl, rfl⟩⟩
         ·intro hc18; replace h := z03 hc18 h
          refine bR ?_
          refine sS rfl rfl rfl ((z06 rfl rfl rfl rfl).cast (y := (BO ((a0.kind == 10)))) rfl rfl) ?_
          refine sAx (z00 ?_)
          refine cBx ?_
          refine z05 rfl ?_ ?_
          ·intro hc20; replace h := z02 hc20 h
           refine z0o (z2e 7 [] [0] mo (by kernel_rfl) ?_)
           refine z0y rfl rfl rfl rfl (fun H hp => z0e z23 (i := 9) rfl rfl rfl) ?_
           refine z0y rfl rfl rfl rfl (fun H hp => (z0n Try.underlying9 rfl rfl rfl (hp.at rfl rfl) rfl)) ?_
           refine z0y rfl rfl rfl rfl (fun H hp => z0e z23 (i := 10) rfl rfl rfl) ?_
           refine z0y rfl rfl rfl rfl (fun H hp => (z0n Try.underlying3 rfl rfl rfl (hp.at rfl rfl) rfl)) ?_
           refine z0y rfl rfl rfl rfl (fun H hp => z0e z23 (i := 8) rfl rfl rfl) ?_
           refine z0y rfl rfl rfl rfl (fun H hp => (z0n Try.underlying27 rfl rfl rfl (hp.at rfl rfl) rfl)) ?_
           obtain ⟨x21, hx21, h⟩ := obind h
           refine z0y rfl rfl rfl rfl (fun H hp => z0b rfl zy1 rfl (.cons (Wk.refl _) .nil) ⟨(z0q z2x a0.fields), trivial⟩ (c_q1s a0.fields x21 hx21) (z0q z1z x21)) ?_
           refine z2b ?_
           change AO _ _ _ _ _
           refine sS rfl rfl rfl (z1w (cs := [(z0f a0.cls), (I64 a0.ver), (PV.sl none 43 2 (List.map z1h x21))]) z6w zs6 rfl rfl rfl rfl) ?_
           refine sS rfl rfl rfl (z1x rfl rfl rfl) ?_
           refine sS rfl rfl rfl (z1u Try.underlying70 rfl rfl rfl) ?_
           refine sAx (z00 ?_)
           refine cBx ?_
           refine zbe 1 2 (y := (ofV (V.record a0.cls a0.ver x21))) rfl rfl ((Wk.iface (Wk.pt (x := .agg [(z0f a0.cls), (I64 a0.ver), (PV.sl none 43 2 (List.map z1h x21))]) (y := zo6 (Rec.mk a0.cls a0.ver x21)) (.cons (Wk.refl _) (.cons (Wk.refl _) (.cons (Wk.refl _) .nil))))).trans (Wk.eq (zlt (some (Rec.mk a0.cls a0.ver x21))).symm)) ?_
           refine z0a ?_
           change ∃ xs, _ = some xs ∧ EndOk _ _ _ _
           obtain rfl := Option.some.inj h
           exact ⟨_, rfl, z0d (y := (ofV (V.record a0.cls a0.ver x21))) (Wk.refl _) (ids_V (V.record a0.cls a0.ver x21)) ⟨rfl, rfl⟩⟩
          ·intro hc20; replace h := z03 hc20 h
           refine bR ?_
           refine sS rfl rfl rfl ((z06 rfl rfl rfl rfl).cast (y := (BO ((a0.kind == 11)))) rfl rfl) ?_
           refine sAx (z00 ?_)
           refine cBx ?_
           refine z05 rfl ?_ ?_
           ·intro hc22; replace h := z02 hc22 h
            refine bR ?_
            refine sS rfl rfl rfl ((z1u Try.underlying70 rfl rfl rfl).wk (Wk.eq (zlt none).symm)) ?_
            refine sAx (z00 ?_)
            refine cBx ?_
            refine z0a ?_
            change ∃ xs, _ = some xs ∧ EndOk _ _ _ _
            obtain rfl := Option.some.inj h
            exact ⟨_, rfl, z0d (y := (ofV V.nothing)) (Wk.refl _) (ids_V V.nothing) ⟨rfl, rfl⟩⟩
           ·intro hc22; replace h := z03 hc22 h
            refine z0l ?_
            refine cBx ?_
            refine bR ?_
            refine sS rfl rfl rfl (z1w (cs := []) Z07 zz5 rfl rfl rfl rfl) ?_
            refine sS rfl rfl rfl ((z1u Try.underlying153 rfl rfl rfl).wk ((Wk.iface Wk.junk).trans (Wk.eq (z3f ⟨153, rfl⟩).symm))) ?_
            refine sAx (z00 ?_)
            refine cBx ?_
            refine z0a ?_
            change ∃ xs, _ = some xs ∧ EndOk _ _ _ _
            obtain rfl := Option.some.inj h
            exact ⟨_, rfl, z0d (y := (ofV (V.alien ⟨153, rfl⟩))) (Wk.refl _) (ids_V (V.alien ⟨153, rfl⟩)) ⟨rfl, rfl⟩⟩
theorem C_q1s.sound : ∀ (i : C_q1s) (r : i.R), z38 C_q1s.F i = some r → C_q1s.Q i r := by
 refine z4a (Φ := C_q1s.F) (Q := C_q1s.Q) ?_
 intro g hg i r h
 cases i with
 | k_q1s a0 => exact zgr (fun a0 => g (.k_q1s a0)) (fun a0 r hr => hg (.k_q1s a0) r hr) (fun a0 => g (.k_q1c a0)) (fun a0 r hr => hg (.k_q1c a0) r hr) a0 r h
 | k_q1c a0 => exact zfr (fun a0 => g (.k_q1s a0)) (fun a0 r hr => hg (.k_q1s a0) r hr) (fun a0 => g (.k_q1c a0)) (fun a0 r hr => hg (.k_q1c a0) r hr) a0 r h
theorem Z3o (a0 : Term) (r : V) (h : z7m a0 = some r) : z0g Try.prog 87 [(z1o a0)] (ofV r) := C_q1s.sound (.k_q1c a0) r h
noncomputable def ze3 (a0 : Term) : Option (V × Int) :=
 Option.bind (z7m a0) fun x1 =>
 Option.bind (zg1 x1) fun x2 =>
 bif (x2.2 != 0) then (
  some (V.nil, x2.2)
 ) else (
  some (x1, 0)
 )
theorem ztu (a0 : Term) (r : (V × Int)) (h : ze3 a0 = some r) : z0g Try.prog 53 [(z1o a0)] (PV.tup [(ofV r.1), (I64 r.2)]) := by
 unfold ze3 at h
 refine z0w Try.func53 rfl Try.ntmps53 Try.results53 rfl (z10 ?_)
 change BW _ _ _ ⟨[(0, (z1o a0))], [], _⟩ _
 refine bR ?_
 refine sS rfl rfl rfl (z1x rfl rfl rfl) ?_
 refine sAx ?_
 refine sAx (z00 ?_)
 refine cBx ?_
 refine bR ?_
 refine sS rfl rfl rfl ((z12 z2g Try.underlying29 rfl rfl rfl rfl rfl rfl)) ?_
 obtain ⟨x1, hx1, h⟩ := obind h
 refine sS rfl rfl rfl (z0b rfl zzf rfl (.cons (Wk.refl _) .nil) ⟨(z20 a0), trivial⟩ (Z3o a0 x1 hx1) (ids_V x1)) ?_
 refine sAx (z00 ?_)
 refine cBx ?_
 refine z0o ?_
 refine bR ?_
 refine sMx ?_
 obtain ⟨x2, hx2, h⟩ := obind h
 refine sS rfl rfl rfl (z0b rfl zsm rfl (.cons (Wk.refl _) .nil) ⟨(ids_V x1), trivial⟩ (zow x1 x2 hx2) (z04 rfl (z04 rfl z0r))) ?_
 refine sMx ?_
 refine sS rfl rfl rfl (z0j rfl rfl rfl) ?_
 refine sS rfl rfl rfl (z0j rfl rfl rfl) ?_
 refine sAx ?_
 refine sAx (z00 ?_)
 refine cBx ?_
 refine bR ?_
 refine sMx ?_
 refine sS rfl rfl rfl ((z06 rfl rfl rfl rfl).cast (y := (BO ((x2.2 != 0)))) rfl rfl) (z00 ?_)
 refine cBx ?_
 refine z05 rfl ?_ ?_
 ·intro hc3; replace h := z02 hc3 h
  refine bR ?_
  refine sMx ?_
  refine sAx ?_
  refine sAx (z00 ?_)
  refine cBx ?_
  refine z0a ?_
  change ∃ xs, _ = some xs ∧ EndOk _ _ _ _
  obtain rfl := Option.some.inj h
  exact ⟨_, rfl, z0d (y := (PV.tup [(ofV V.nil), (I64 x2.2)])) (Wk.tup (.cons (Wk.eq mk_nil.symm) (.cons (Wk.refl _) .nil))) (z04 (ids_V V.nil) (z04 rfl z0r)) ⟨rfl, rfl⟩⟩
 ·intro hc3; replace h := z03 hc3 h
  refine z0l ?_
  refine cBx ?_
  refine bR ?_
  refine sMx ?_
  refine sAx ?_
  refine sAx (z00 ?_)
  refine cBx ?_
  refine z0a ?_
  change ∃ xs, _ = some xs ∧ EndOk _ _ _ _
  obtain rfl := Option.some.inj h
  exact ⟨_, rfl, z0d (y := (PV.tup [(ofV x1), (I64 0)])) (Wk.refl _) (z04 (ids_V x1) (z04 rfl z0r)) ⟨rfl, rfl⟩⟩
noncomputable def znm (a0 : V) : Option Int :=
 Option.bind (zg0 a0) fun x1 =>
 some x1
theorem Z0g (a0 : V) (r : Int) (h : znm a0 = some r) : z0g Try.prog 52 [(ofV a0)] (I64 r) := by
 unfold znm at h
 refine z0w Try.func52 rfl Try.ntmps52 Try.results52 rfl (z10 ?_)
 change BW _ _ _ ⟨[(0, (ofV a0))], [], _⟩ _
 refine bR ?_
 refine sAx (z00 ?_)
 refine cBx ?_
 refine bR ?_
 refine sMx ?_
 obtain ⟨x1, hx1, h⟩ := obind h
 refine sS rfl rfl rfl (z0b rfl zod rfl (.cons (Wk.refl _) .nil) ⟨(ids_V a0), trivial⟩ (zn3 a0 x1 hx1) rfl) ?_
 refine sAx (z00 ?_)
 refine cBx ?_
 refine z0a ?_
 change ∃ xs, _ = some xs ∧ EndOk _ _ _ _
 obtain rfl := Option.some.inj h
 exact ⟨_, rfl, z0d (y := (I64 x1)) (Wk.refl _) rfl ⟨rfl, rfl⟩⟩
end Go.Proofs.Ytiapdjdhaclmnaa
