/- Pure functions, and that calls answer as they say. Written by gen.py. -/
import Derived.Test.YtiapdjdhaclmnaaG7
namespace Go.Proofs.Ytiapdjdhaclmnaa
open Go Aw
set_option linter.unusedVariables false
set_option linter.unusedSimpArgs false
set_option maxRecDepth 20000
set_option maxHeartbeats 2000000
variable {ι : Type} {ρ : ι → Type}
noncomputable def z60 (r_q14 : V → Option Term) (a0 : (List (Str × V))) (g1 : (List (Str × Term)) → Nat → Option (List (Str × Term))) (s1 : (List (Str × Term))) (s2 : Nat) : Option (List (Str × Term)) :=
 bif (decide (((s2 : Nat) : Int) < (((a0).length : Nat) : Int))) then (
  Option.bind ((a0)[s2]?) fun x5 =>
  Option.bind (r_q14 x5.2) fun x6 =>
  Option.bind (zad 168 s1 ([(x5.1, x6)] : (List (Str × Term)))) fun x7 =>
  g1 x7 (s2 + 1)
 ) else (
  some s1
 )
theorem zaw (r_q14 : OF ρ → V → Option Term) (h_r_q14 : ∀ y0, CM (fun G => r_q14 G y0)) (g1 : OF ρ → (List (Str × Term)) → Nat → Option (List (Str × Term))) (h_g1 : ∀ y0 y1, CM (fun G => g1 G y0 y1)) (a0 : (List (Str × V))) (s1 : (List (Str × Term))) (s2 : Nat) : CM (fun G : OF ρ => z60 (r_q14 G) a0 (g1 G) s1 s2) := by
 simp only [z60]
 repeat (first | exact z0c | exact h_r_q14 _ | exact h_g1 _ _ | refine z14 ?_ ?_ | refine z15 ?_ (fun _ => ?_))
noncomputable def zey (r_q14 : V → Option Term) (a0 : (List (Str × V))) (s1 : (List (Str × Term))) (s2 : Nat) : Option (List (Str × Term)) :=
 z38 (ι := ((List (Str × Term)) × Nat)) (ρ := fun _ => (List (Str × Term))) (fun g i => z60 r_q14 a0 (fun s1 s2 => g (s1, s2)) i.1 i.2) (s1, s2)
theorem zhj (r_q14 : V → Option Term) (a0 : (List (Str × V))) (s1 : (List (Str × Term))) (s2 : Nat) : zey r_q14 a0 s1 s2 = z60 r_q14 a0 (zey r_q14 a0) s1 s2 :=
 z1d (ι := ((List (Str × Term)) × Nat)) (ρ := fun _ => (List (Str × Term))) (Φ := fun g i => z60 r_q14 a0 (fun s1 s2 => g (s1, s2)) i.1 i.2) (fun i => zaw (ι := ((List (Str × Term)) × Nat)) (ρ := fun _ => (List (Str × Term))) (fun _ => r_q14) (fun _ => z0c) (fun g => (fun s1 s2 => g (s1, s2))) (fun _ _ => z1c) a0 i.1 i.2) (s1, s2)
theorem zpt (r_q14 : OF ρ → V → Option Term) (h_r_q14 : ∀ y0, CM (fun G => r_q14 G y0)) (a0 : (List (Str × V))) (s1 : (List (Str × Term))) (s2 : Nat) : CM (fun G : OF ρ => zey (r_q14 G) a0 s1 s2) :=
 z3o (κ := ((List (Str × Term)) × Nat)) (τ := fun _ => (List (Str × Term))) (Φ := fun G g i => z60 (r_q14 G) a0 (fun s1 s2 => g (s1, s2)) i.1 i.2) (fun g i => zaw r_q14 h_r_q14 (fun _ => (fun s1 s2 => g (s1, s2))) (fun _ _ => z0c) a0 i.1 i.2) (fun G i => zaw (ι := ((List (Str × Term)) × Nat)) (ρ := fun _ => (List (Str × Term))) (fun _ => r_q14 G) (fun _ => z0c) (fun g => (fun s1 s2 => g (s1, s2))) (fun _ _ => z1c) a0 i.1 i.2) (s1, s2)
noncomputable def zj8 (r_q0u : (List (Str × V)) → Option (List (Str × Term))) (r_q14 : V → Option Term) (a0 : (List (Str × V))) : Option (List (Str × Term)) :=
 zey r_q14 a0 ([]) 0
theorem zwf (r_q0u : OF ρ → (List (Str × V)) → Option (List (Str × Term))) (h_r_q0u : ∀ y0, CM (fun G => r_q0u G y0)) (r_q14 : OF ρ → V → Option Term) (h_r_q14 : ∀ y0, CM (fun G => r_q14 G y0)) (a0 : (List (Str × V))) : CM (fun G : OF ρ => zj8 (r_q0u G) (r_q14 G) a0) := by
 simp only [zj8]
 repeat (first | exact z0c | exact h_r_q0u _ | exact h_r_q14 _ | apply zpt | refine z14 ?_ ?_ | refine z15 ?_ (fun _ => ?_) | intro _ | assumption)
noncomputable def z5g (x1 : Int) (s2 : Bool) (s3 : Int) (s4 : Nat) (s5 : Str) (s6 : Str) (s7 : Int) (s8 : (List Term)) (s9 : (List (Str × Term))) (s10 : Str) (s11 : Int) : Option Term :=
 some (Term.mk x1 s2 s3 s4 s5 s6 s7 s8 s9 s10 s11)
noncomputable def z5v (r_q14 : V → Option Term) (a0 : V) (x1 : Int) (g1 : Nat → (List Term) → Option Term) (s20 : Nat) (s21 : (List Term)) : Option Term :=
 bif (decide (((s20 : Nat) : Int) < ((((a0).asList).length : Nat) : Int))) then (
  Option.bind (((a0).asList)[s20]?) fun x24 =>
  Option.bind (r_q14 x24) fun x25 =>
  Option.bind (zad 152 s21 ([x25] : (List Term))) fun x26 =>
  g1 (s20 + 1) x26
 ) else (
  z5g x1 false 0 0 ([]) ([]) 0 s21 ([]) ([]) 0
 )
theorem zar (r_q14 : OF ρ → V → Option Term) (h_r_q14 : ∀ y0, CM (fun G => r_q14 G y0)) (g1 : OF ρ → Nat → (List Term) → Option Term) (h_g1 : ∀ y0 y1, CM (fun G => g1 G y0 y1)) (a0 : V) (x1 : Int) (s20 : Nat) (s21 : (List Term)) : CM (fun G : OF ρ => z5v (r_q14 G) a0 x1 (g1 G) s20 s21) := by
 simp only [z5v]
 repeat (first | exact z0c | exact h_r_q14 _ | exact h_g1 _ _ | apply q14_j1_cm | refine z14 ?_ ?_ | refine z15 ?_ (fun _ => ?_) | intro _ | assumption)
noncomputable def zes (r_q14 : V → Option Term) (a0 : V) (x1 : Int) (s20 : Nat) (s21 : (List Term)) : Option Term :=
 z38 (ι := (Nat × (List Term))) (ρ := fun _ => Term) (fun g i => z5v r_q14 a0 x1 (fun s20 s21 => g (s20, s21)) i.1 i.2) (s20, s21)
theorem zhc (r_q14 : V → Option Term) (a0 : V) (x1 : Int) (s20 : Nat) (s21 : (List Term)) : zes r_q14 a0 x1 s20 s21 = z5v r_q14 a0 x1 (zes r_q14 a0 x1) s20 s21 :=
 z1d (ι := (Nat × (List Term))) (ρ := fun _ => Term) (Φ := fun g i => z5v r_q14 a0 x1 (fun s20 s21 => g (s20, s21)) i.1 i.2) (fun i => zar (ι := (Nat × (List Term))) (ρ := fun _ => Term) (fun _ => r_q14) (fun _ => z0c) (fun g => (fun s20 s21 => g (s20, s21))) (fun _ _ => z1c) a0 x1 i.1 i.2) (s20, s21)
theorem zpj (r_q14 : OF ρ → V → Option Term) (h_r_q14 : ∀ y0, CM (fun G => r_q14 G y0)) (a0 : V) (x1 : Int) (s20 : Nat) (s21 : (List Term)) : CM (fun G : OF ρ => zes (r_q14 G) a0 x1 s20 s21) :=
 z3o (κ := (Nat × (List Term))) (τ := fun _ => Term) (Φ := fun G g i => z5v (r_q14 G) a0 x1 (fun s20 s21 => g (s20, s21)) i.1 i.2) (fun g i => zar r_q14 h_r_q14 (fun _ => (fun s20 s21 => g (s20, s21))) (fun _ _ => z0c) a0 x1 i.1 i.2) (fun G i => zar (ι := (Nat × (List Term))) (ρ := fun _ => Term) (fun _ => r_q14 G) (fun _ => z0c) (fun g => (fun s20 s21 => g (s20, s21))) (fun _ _ => z1c) a0 x1 i.1 i.2) (s20, s21)
noncomputable def zkr (r_q0u : (List (Str × V)) → Option (List (Str × Term))) (r_q14 : V → Option Term) (a0 : V) : Option Term :=
 Option.bind (zg0 a0) fun x1 =>
 bif (a0).isBool then (
  z5g x1 ((a0).asBool) 0 0 ([]) ([]) 0 ([]) ([]) ([]) 0
 ) else (
  bif (a0).isInt then (
   z5g x1 false ((a0).asInt) 0 ([]) ([]) 0 ([]) ([]) ([]) 0
  ) else (
   bif (a0).isFloat then (
    z5g x1 false 0 ((a0).asFloat) ([]) ([]) 0 ([]) ([]) ([]) 0
   ) else (
    bif (a0).isText then (
     z5g x1 false 0 0 ((a0).asText) ([]) 0 ([]) ([]) ([]) 0
    ) else (
     bif (a0).isBytes then (
      Option.bind (zad 1 ([] : Str) ((a0).asBytes)) fun x17 =>
      z5g x1 false 0 0 ([]) x17 0 ([]) ([]) ([]) 0
     ) else (
      bif (a0).isRef then (
       z5g x1 false 0 0 ([]) ([]) ((a0).asRef) ([]) ([]) ([]) 0
      ) else (
       bif (a0).isList then (
        zes r_q14 a0 x1 0 ([])
       ) else (
        bif (a0).isDict then (
         Option.bind (r_q0u ((a0).asDict)) fun x28 =>
         z5g x1 false 0 0 ([]) ([]) 0 ([]) x28 ([]) 0
        ) else (
         bif (a0).isRec then (
          Option.bind ((a0).asRec) fun x30 =>
          Option.bind (r_q0u x30.fields) fun x31 =>
          z5g x1 false 0 0 ([]) ([]) 0 ([]) x31 x30.cls x30.ver
         ) else (
          z5g x1 false 0 0 ([]) ([]) 0 ([]) ([]) ([]) 0
         )
        )
       )
      )
     )
    )
   )
  )
 )
theorem zw9 (r_q0u : OF ρ → (List (Str × V)) → Option (List (Str × Term))) (h_r_q0u : ∀ y0, CM (fun G => r_q0u G y0)) (r_q14 : OF ρ → V → Option Term) (h_r_q14 : ∀ y0, CM (fun G => r_q14 G y0)) (a0 : V) : CM (fun G : OF ρ => zkr (r_q0u G) (r_q14 G) a0) := by
 simp only [zkr]
 repeat (first | exact z0c | exact h_r_q0u _ | exact h_r_q14 _ | apply q14_j1_cm | apply zpj | refine z14 ?_ ?_ | refine z15 ?_ (fun _ => ?_) | intro _ | assumption)
inductive C_q0u where
 | k_q0u (a0 : (List (Str × V)))
 | k_q14 (a0 : V)
def C_q0u.R : C_q0u → Type
 | .k_q0u _ => (List (Str × Term))
 | .k_q14 _ => Term
noncomputable def C_q0u.F (g : ∀ i : C_q0u, Option i.R) : ∀ i : C_q0u, Option i.R
 | .k_q0u a0 => zj8 (fun a0 => g (.k_q0u a0)) (fun a0 => g (.k_q14 a0)) a0
 | .k_q14 a0 => zkr (fun a0 => g (.k_q0u a0)) (fun a0 => g (.k_q14 a0)) a0
noncomputable def zqx (a0 : (List (Str × V))) : Option (List (Str × Term)) := z38 C_q0u.F (.k_q0u a0)
noncomputable def ze5 (a0 : V) : Option Term := z38 C_q0u.F (.k_q14 a0)
abbrev Z6o := fun (g : ∀ i : C_q0u, Option i.R) a0 => g (.k_q0u a0)
theorem Z6k (a0 : _) : CM (ρ := C_q0u.R) (fun g => g (C_q0u.k_q0u a0)) := z1c
abbrev Z6n := fun (g : ∀ i : C_q0u, Option i.R) a0 => g (.k_q14 a0)
theorem Z6j (a0 : _) : CM (ρ := C_q0u.R) (fun g => g (C_q0u.k_q14 a0)) := z1c
theorem C_q0u.cm (i : C_q0u) : CM (fun g : (∀ i : C_q0u, Option i.R) => C_q0u.F g i) := by
 cases i with
 | k_q0u a0 => exact zwf Z6o Z6k Z6n Z6j a0
 | k_q14 a0 => exact zw9 Z6o Z6k Z6n Z6j a0
theorem Z2p (a0 : (List (Str × V))) : zqx a0 = zj8 zqx ze5 a0 := z1d C_q0u.cm (.k_q0u a0)
theorem Z5h (a0 : V) : ze5 a0 = zkr zqx ze5 a0 := z1d C_q0u.cm (.k_q14 a0)
def C_q0u.Q : ∀ i : C_q0u, i.R → Prop
 | .k_q0u a0 => fun (r : (List (Str × Term))) => z0g Try.prog 119 [(PV.sl none 43 2 (List.map z1h a0))] (PV.sl none 101 12 (List.map z18 r))
 | .k_q14 a0 => fun (r : Term) => z0g Try.prog 102 [(ofV a0)] (z1o r)
theorem zco (r_q0u : (List (Str × V)) → Option (List (Str × Term))) (c_q0u : ∀ (a0 : (List (Str × V))) r, r_q0u a0 = some r → z0g Try.prog 119 [(PV.sl none 43 2 (List.map z1h a0))] (PV.sl none 101 12 (List.map z18 r))) (r_q14 : V → Option Term) (c_q14 : ∀ (a0 : V) r, r_q14 a0 = some r → z0g Try.prog 102 [(ofV a0)] (z1o r)) (a0 : (List (Str × V))) (r : (List (Str × Term))) (h : zj8 r_q0u r_q14 a0 = some r) : z0g Try.prog 119 [(PV.sl none 43 2 (List.map z1h a0))] (PV.sl none 101 12 (List.map z18 r)) := by
 unfold zj8 at h
 refine z0w Try.func119 rfl Try.ntmps119 Try.results119 rfl (z10 ?_)
 change BW _ _ _ ⟨[(0, (PV.sl none 43 2 (List.map z1h a0)))], [], _⟩ _
 refine bR ?_
 refine sAx (z00 ?_)
 refine cBx ?_
 refine bR ?_
 refine sAx (z00 ?_)
 refine cBx ?_
 refine z0o ?_
 refine bR ?_
 refine sMx ?_
 refine sS rfl rfl rfl (z17 Try.underlying45 rfl rfl) ?_
 refine sMx (z00 ?_)
 refine cBx ?_
 refine z0x ?_
 refine cBx ?_
 refine zvx (s := ⟨_, _, _⟩) 3 101 (sz := 12) rfl rfl ?_
 unfold zey at h
 refine z26 (σ := ((List (Str × Term)) × Nat)) (fun i => [(3, (PV.sl (some 0) 101 12 (List.map z18 i.1))), (6, (PV.sl none 43 2 (List.map z1h a0))), (7, (I64 ((((a0).length : Nat) : Int)))), (8, (I64 (((i.2 : Nat) : Int))))]) (fun i => [.arr 101 (i.1).length]) ([], 0) h ?_ ?_ ?_
 ·intro i; exact ⟨lbE rfl, ⟨(z5j rfl (z3j z2x _)), ⟨(z01 (z0q z1z _)), ⟨(z01 rfl), ⟨(z01 rfl), trivial⟩⟩⟩⟩, trivial⟩
 ·exact ⟨(.cons .same .nil), (sC rfl (sC rfl (sC rfl (sC rfl z09))))⟩
 ·rintro g1_f ⟨s1, s2⟩ h; replace h : z60 r_q14 a0 (fun y0 y1 => g1_f (y0, y1)) s1 s2 = some r := h; unfold z60 at h
  change BW _ _ _ ⟨[(3, (PV.sl (some 0) 101 12 (List.map z18 s1))), (6, (PV.sl none 43 2 (List.map z1h a0))), (7, (I64 ((((a0).length : Nat) : Int)))), (8, (I64 (((s2 : Nat) : Int))))], [.arr 101 (s1).length], _⟩ _
  refine bR ?_
  refine sS rfl rfl rfl ((z06 rfl rfl rfl rfl).cast (y := (BO ((decide (((s2 : Nat) : Int) < (((a0).length : Nat) : Int)))))) rfl rfl) (z00 ?_)
  refine cBx ?_
  refine z0o ?_
  refine z2z (t := 6) rfl fun hb4 => ?_
  try rw [List.length_map] at hb4
  refine z05 rfl ?_ ?_
  ·intro hc3; replace h := z02 hc3 h
   have hc3_ := of_decide_eq_true hc3
   refine z0l ?_
   refine cBx ?_
   refine z0o ?_
   refine z0x ?_
   refine cBx ?_
   refine bR ?_
   obtain ⟨x5, hx5, h⟩ := obind h
   refine sS rfl rfl rfl (z1i (i := s2) Try.underlying45 z2d rfl rfl rfl hx5 rfl) ?_
   refine sS rfl rfl rfl (z1s z2d Try.underlying43 rfl rfl rfl rfl rfl) ?_
   refine sS rfl rfl rfl ((z1j z2d rfl).cast (H'' := [.arr 101 (s1).length, .box 43 [(z0f []), (ofV V.nil)]]) rfl (by simp only [mk_nil]; rfl)) ?_
   refine z11 rfl rfl (z0v z2d rfl rfl rfl rfl rfl rfl (lbE rfl) (by show List.all [(z0f x5.1), (ofV x5.2)] z96 = true; simp only [List.all_cons, List.all_nil, zg4, z7d, Bool.and_true, Bool.true_and]; try rfl)) ?_
   refine z00 ?_
   refine cBx ?_
   refine z2e 8 [7] [1] mo (by kernel_rfl) ?_
   refine z0y rfl rfl rfl rfl (fun H hp => z0k rfl rfl) ?_
   refine z0y rfl rfl rfl rfl (fun H hp => z0e z6x (i := 0) rfl rfl rfl) ?_
   refine z0y rfl rfl rfl rfl (fun H hp => (z0n Try.underlying9 rfl rfl rfl (hp.at rfl rfl) rfl)) ?_
   refine z0y rfl rfl rfl rfl (fun H hp => z0e z6x (i := 1) rfl rfl rfl) ?_
   refine z0y rfl rfl rfl rfl (fun H hp => (z0n Try.underlying20 rfl rfl rfl (hp.at rfl rfl) rfl)) ?_
   obtain ⟨x6, hx6, h⟩ := obind h
   refine z0y rfl rfl rfl rfl (fun H hp => z0b rfl zsq rfl (.cons (Wk.refl _) .nil) ⟨(ids_V x5.2), trivial⟩ (c_q14 x5.2 x6 hx6) (z20 x6)) ?_
   refine z0y rfl rfl rfl rfl (fun H hp => z1w (cs := [(z0f x5.1), (I64 x6.kind), (BO x6.bool), (I64 x6.int), (PV.v (.float .f64 x6.float)), (z0f x6.text), (PV.sl none 5 1 (List.map ofB x6.bytes)), (PV.v (.int .u64 x6.ref)), (PV.sl none 29 11 (List.map z1k x6.list)), (PV.sl none 101 12 (List.map z18 x6.fields)), (z0f x6.cls), (I64 x6.ver)]) z9a z44 rfl rfl rfl rfl) ?_
   refine zab rfl rfl rfl rfl ((z1t (xs := [(PV.agg [(z0f x5.1), (I64 x6.kind), (BO x6.bool), (I64 x6.int), (PV.v (.float .f64 x6.float)), (z0f x6.text), (PV.sl none 5 1 (List.map ofB x6.bytes)), (PV.v (.int .u64 x6.ref)), (PV.sl none 29 11 (List.map z1k x6.list)), (PV.sl none 101 12 (List.map z18 x6.fields)), (z0f x6.cls), (I64 x6.ver)])]) Try.underlying27 z44 rfl rfl rfl rfl rfl rfl ⟨lbE rfl, lbE rfl⟩ rfl).cast (y := (PV.sl (some 2) 101 12 (List.map z18 ([(x5.1, x6)] : (List (Str × Term)))))) (by simp only [List.map_cons, List.map_nil, z3b]; try rfl) rfl) ⟨rfl, trivial⟩ ?_
   refine z2b ?_
   change AO _ _ _ _ _
   obtain ⟨x7, hx7, h⟩ := obind h
   refine sS rfl rfl rfl (z34 Try.underlying27 z44 rfl Try.underlying27 rfl rfl rfl rfl zsw zke hx7 rfl) ?_
   refine sAx (z00 ?_)
   refine cBx ?_
   refine z0s ?_
   refine sS rfl rfl rfl (z1y (k := s2) (c := 1) rfl rfl rfl (by omega)) ?_
   refine sMx (z00 ?_)
   exact ⟨rfl, (x7, (s2 + 1)), h, ⟨(.cons .same .nil), (sC rfl (sC rfl (sC rfl (sC rfl z09))))⟩⟩
  ·intro hc3; replace h := z03 hc3 h
   refine z22 ?_
   refine cBx ?_
   refine bR ?_
   refine sMx ?_
   refine sAx (z00 ?_)
   refine cBx ?_
   refine z0a ?_
   change ∃ xs, _ = some xs ∧ EndOk _ _ _ _
   obtain rfl := Option.some.inj h
   exact ⟨_, rfl, z0d (y := (PV.sl none 101 12 (List.map z18 s1))) Wk.tok (z0q z2x s1) ⟨rfl, rfl⟩⟩
theorem zfp (r_q0u : (List (Str × V)) → Option (List (Str × Term))) (c_q0u : ∀ (a0 : (List (Str × V))) r, r_q0u a0 = some r → z0g Try.prog 119 [(PV.sl none 43 2 (List.map z1h a0))] (PV.sl none 101 12 (List.map z18 r))) (r_q14 : V → Option Term) (c_q14 : ∀ (a0 : V) r, r_q14 a0 = some r → z0g Try.prog 102 [(ofV a0)] (z1o r)) (a0 : V) (r : Term) (h : zkr r_q0u r_q14 a0 = some r) : z0g Try.prog 102 [(ofV a0)] (z1o r) := by
 unfold zkr at h
 refine z0w Try.func102 rfl Try.ntmps102 Try.results102 rfl (z10 ?_)
 change BW _ _ _ ⟨[(0, (ofV a0))], [], _⟩ _
 refine bR ?_
 refine sS rfl rfl rfl (z1j z2g rfl) (z00 ?_)
 refine cBx ?_
 refine bR ?_
 refine sMx ?_
 obtain ⟨x1, hx1, h⟩ := obind h
 refine sS rfl rfl rfl (z0b rfl zod rfl (.cons (Wk.refl _) .nil) ⟨(ids_V a0), trivial⟩ (zn3 a0 x1 hx1) rfl) ?_
 refine sS rfl rfl rfl (z1w (cs := [(I64 x1), (BO false), (I64 0), (PV.v (.float .f64 0)), (z0f []), (PV.v (.slice none 0 0)), (PV.v (.int .u64 0)), (PV.v (.slice none 0 0)), (PV.v (.slice none 0 0)), (z0f []), (I64 0)]) z23 z2g rfl rfl rfl rfl) ?_
 refine sS rfl rfl rfl (z1j z2g rfl) ?_
 refine z11 rfl rfl (z0v z2g rfl rfl rfl rfl rfl rfl (lbE rfl) rfl) ?_
 refine z00 ?_
 refine cBx ?_
 refine z1n (ι := (Bool × Int × Nat × Str × Str × Int × (List Term) × (List (Str × Term)) × Str × Int)) (fun i => z5g x1 i.1 i.2.1 i.2.2.1 i.2.2.2.1 i.2.2.2.2.1 i.2.2.2.2.2.1 i.2.2.2.2.2.2.1 i.2.2.2.2.2.2.2.1 i.2.2.2.2.2.2.2.2.1 i.2.2.2.2.2.2.2.2.2 = some r) (fun i => [(2, (PV.rf 0 0)), (3, (PV.rf 1 0))]) (fun i => [.box 29 ztq, .box 29 [(I64 x1), (BO i.1), (I64 i.2.1), (PV.v (.float .f64 i.2.2.1)), (z0f i.2.2.2.1), (PV.sl none 5 1 (List.map ofB i.2.2.2.2.1)), (PV.v (.int .u64 i.2.2.2.2.2.1)), (PV.sl none 29 11 (List.map z1k i.2.2.2.2.2.2.1)), (PV.sl none 101 12 (List.map z18 i.2.2.2.2.2.2.2.1)), (z0f i.2.2.2.2.2.2.2.2.1), (I64 i.2.2.2.2.2.2.2.2.2)]]) ?_ ?_ ?_
 ·intro i; exact ⟨lbE rfl, ⟨(il_rf rfl), ⟨(il_rf rfl), trivial⟩⟩, ⟨⟨(z01 rfl), ⟨(z01 rfl), ⟨(z01 rfl), ⟨(z01 rfl), ⟨(z01 rfl), ⟨(z01 rfl), ⟨(z01 rfl), ⟨(z01 rfl), ⟨(z01 rfl), ⟨(z01 rfl), ⟨(z01 rfl), trivial⟩⟩⟩⟩⟩⟩⟩⟩⟩⟩⟩, ⟨wfC29, trivial⟩⟩⟩
 ·rintro ⟨s2, s3, s4, s5, s6, s7, s8, s9, s10, s11⟩ h; replace h : z5g x1 s2 s3 s4 s5 s6 s7 s8 s9 s10 s11 = some r := h; unfold z5g at h
  change BW _ _ _ ⟨[(2, (PV.rf 0 0)), (3, (PV.rf 1 0))], [.box 29 ztq, .box 29 [(I64 x1), (BO s2), (I64 s3), (PV.v (.float .f64 s4)), (z0f s5), (PV.sl none 5 1 (List.map ofB s6)), (PV.v (.int .u64 s7)), (PV.sl none 29 11 (List.map z1k s8)), (PV.sl none 101 12 (List.map z18 s9)), (z0f s10), (I64 s11)]], _⟩ _
  refine bR ?_
  refine sS rfl rfl rfl ((z12 z2g Try.underlying29 rfl rfl rfl rfl rfl rfl)) ?_
  refine z11 rfl rfl (z0v z2g rfl rfl rfl rfl rfl rfl (lbE rfl) rfl) ?_
  refine z00 ?_
  refine cBx ?_
  refine z0a ?_
  change ∃ xs, _ = some xs ∧ EndOk _ _ _ _
  obtain rfl := Option.some.inj h
  exact ⟨_, rfl, z0d (y := (z1o (Term.mk x1 s2 s3 s4 s5 s6 s7 s8 s9 s10 s11))) (Wk.refl _) (z20 (Term.mk x1 s2 s3 s4 s5 s6 s7 s8 s9 s10 s11)) ⟨rfl, rfl⟩⟩
 ·refine bR ?_
  refine sMx (z00 ?_)
  refine cBx ?_
  refine z0x ?_
  refine cBx ?_
  refine bR ?_
  refine sS rfl rfl rfl (zb9 rfl rfl) ?_
  refine sS rfl rfl rfl (z0j rfl rfl rfl) ?_
  refine sS rfl rfl rfl (z0j rfl rfl rfl) (z00 ?_)
  refine cBx ?_
  refine z05 rfl ?_ ?_
  ·intro hc12; replace h := z02 hc12 h
   refine bR ?_
   refine sAx (z00 ?_)
   refine cBx ?_
   refine z0s ?_
   refine sMx ?_
   refine sS rfl rfl rfl (z0e z23 (i := 1) rfl rfl rfl) ?_
   refine z11 rfl rfl (z0v inf_4 rfl rfl rfl rfl rfl rfl (lbE rfl) rfl) ?_
   refine z00 ?_
   exact ⟨rfl, ((a0).asBool, 0, 0, [], [], 0, [], [], [], 0), h, ⟨(.cons .same (.cons (.box (.cons (Wk.refl _) (.cons (Wk.refl _) (.cons (Wk.refl _) (.cons (Wk.refl _) (.cons (Wk.refl _) (.cons Wk.nil (.cons (Wk.refl _) (.cons Wk.nil (.cons Wk.nil (.cons (Wk.refl _) (.cons (Wk.refl _) .nil)))))))))))) .nil)), (sC rfl (sC rfl z09))⟩⟩
  ·intro hc12; replace h := z03 hc12 h
   refine bR ?_
   refine sS rfl rfl rfl (zdk rfl rfl) ?_
   refine sS rfl rfl rfl (z0j rfl rfl rfl) ?_
   refine sS rfl rfl rfl (z0j rfl rfl rfl) (z00 ?_)
   refine cBx ?_
   refine z05 rfl ?_ ?_
   ·intro hc13; replace h := z02 hc13 h
    refine bR ?_
    refine sAx (z00 ?_)
    refine cBx ?_
    refine z0s ?_
    refine sMx ?_
    refine sS rfl rfl rfl (z0e z23 (i := 2) rfl rfl rfl) ?_
    refine z11 rfl rfl (z0v zs7 rfl rfl rfl rfl rfl rfl (lbE rfl) rfl) ?_
    refine z00 ?_
    exact ⟨rfl, (false, (a0).asInt, 0, [], [], 0, [], [], [], 0), h, ⟨(.cons .same (.cons (.box (.cons (Wk.refl _) (.cons (Wk.refl _) (.cons (Wk.refl _) (.cons (Wk.refl _) (.cons (Wk.refl _) (.cons Wk.nil (.cons (Wk.refl _) (.cons Wk.nil (.cons Wk.nil (.cons (Wk.refl _) (.cons (Wk.refl _) .nil)))))))))))) .nil)), (sC rfl (sC rfl z09))⟩⟩
   ·intro hc13; replace h := z03 hc13 h
    refine bR ?_
    refine sS rfl rfl rfl (z8u rfl rfl) ?_
    refine sS rfl rfl rfl (z0j rfl rfl rfl) ?_
    refine sS rfl rfl rfl (z0j rfl rfl rfl) (z00 ?_)
    refine cBx ?_
    refine z05 rfl ?_ ?_
    ·intro hc14; replace h := z02 hc14 h
     refine bR ?_
     refine sAx (z00 ?_)
     refine cBx ?_
     refine z0s ?_
     refine sMx ?_
     refine sS rfl rfl rfl (z0e z23 (i := 3) rfl rfl rfl) ?_
     refine z11 rfl rfl (z0v zim rfl rfl rfl rfl rfl rfl (lbE rfl) rfl) ?_
     refine z00 ?_
     exact ⟨rfl, (false, 0, (a0).asFloat, [], [], 0, [], [], [], 0), h, ⟨(.cons .same (.cons (.box (.cons (Wk.refl _) (.cons (Wk.refl _) (.cons (Wk.refl _) (.cons (Wk.refl _) (.cons (Wk.refl _) (.cons Wk.nil (.cons (Wk.refl _) (.cons Wk.nil (.cons Wk.nil (.cons (Wk.refl _) (.cons (Wk.refl _) .nil)))))))))))) .nil)), (sC rfl (sC rfl z09))⟩⟩
    ·intro hc14; replace h := z03 hc14 h
     refine bR ?_
     refine sS rfl rfl rfl (z8a rfl rfl) ?_
     refine sS rfl rfl rfl (z0j rfl rfl rfl) ?_
     refine sS rfl rfl rfl (z0j rfl rfl rfl) (z00 ?_)
     refine cBx ?_
     refine z05 rfl ?_ ?_
     ·intro hc15; replace h := z02 hc15 h
      refine bR ?_
      refine sAx (z00 ?_)
      refine cBx ?_
      refine z0s ?_
      refine sMx ?_
      refine sS rfl rfl rfl (z0e z23 (i := 4) rfl rfl rfl) ?_
      refine z11 rfl rfl (z0v inf_9 rfl rfl rfl rfl rfl rfl (lbE rfl) rfl) ?_
      refine z00 ?_
      exact ⟨rfl, (false, 0, 0, (a0).asText, [], 0, [], [], [], 0), h, ⟨(.cons .same (.cons (.box (.cons (Wk.refl _) (.cons (Wk.refl _) (.cons (Wk.refl _) (.cons (Wk.refl _) (.cons (Wk.refl _) (.cons Wk.nil (.cons (Wk.refl _) (.cons Wk.nil (.cons Wk.nil (.cons (Wk.refl _) (.cons (Wk.refl _) .nil)))))))))))) .nil)), (sC rfl (sC rfl z09))⟩⟩
     ·intro hc15; replace h := z03 hc15 h
      refine bR ?_
      refine sS rfl rfl rfl (z7a rfl rfl) ?_
      refine sS rfl rfl rfl (z0j rfl rfl rfl) ?_
      refine sS rfl rfl rfl (z0j rfl rfl rfl) (z00 ?_)
      refine cBx ?_
      refine z05 rfl ?_ ?_
      ·intro hc16; replace h := z02 hc16 h
       refine bR ?_
       refine sAx (z00 ?_)
       refine cBx ?_
       refine z0s ?_
       refine sS rfl rfl rfl ((z1t (xs := []) Try.underlying23 inf_5 rfl rfl rfl rfl rfl rfl ⟨lbE rfl, lbE rfl⟩ rfl).cast (y := (PV.sl (some 2) 5 1 (List.map ofB ([] : Str)))) rfl rfl) ?_
       refine sMx ?_
       obtain ⟨x17, hx17, h⟩ := obind h
       refine sS rfl rfl rfl (z34 Try.underlying23 inf_5 rfl Try.underlying23 rfl rfl rfl rfl (fun _ => rfl) (fun _ => rfl) hx17 rfl) ?_
       refine sS rfl rfl rfl (z0e z23 (i := 5) rfl rfl rfl) ?_
       refine z11 rfl rfl (z0v zil rfl rfl rfl rfl rfl rfl (lbE rfl) rfl) ?_
       refine z00 ?_
       exact ⟨rfl, (false, 0, 0, [], x17, 0, [], [], [], 0), h, ⟨(.cons .same (.cons (.box (.cons (Wk.refl _) (.cons (Wk.refl _) (.cons (Wk.refl _) (.cons (Wk.refl _) (.cons (Wk.refl _) (.cons Wk.tok (.cons (Wk.refl _) (.cons Wk.nil (.cons Wk.nil (.cons (Wk.refl _) (.cons (Wk.refl _) .nil)))))))))))) .nil)), (sC rfl (sC rfl z09))⟩⟩
      ·intro hc16; replace h := z03 hc16 h
       refine bR ?_
       refine sS rfl rfl rfl (zdj rfl rfl) ?_
       refine sS rfl rfl rfl (z0j rfl rfl rfl) ?_
       refine sS rfl rfl rfl (z0j rfl rfl rfl) (z00 ?_)
       refine cBx ?_
       refine z05 rfl ?_ ?_
       ·intro hc18; replace h := z02 hc18 h
        refine bR ?_
        refine sAx (z00 ?_)
        refine cBx ?_
        refine z0s ?_
        refine sMx ?_
        refine sS rfl rfl rfl (z0e z23 (i := 6) rfl rfl rfl) ?_
        refine z11 rfl rfl (z0v zik rfl rfl rfl rfl rfl rfl (lbE rfl) rfl) ?_
        refine z00 ?_
        exact ⟨rfl, (false, 0, 0, [], [], (a0).asRef, [], [], [], 0), h, ⟨(.cons .same (.cons (.box (.cons (Wk.refl _) (.cons (Wk.refl _) (.cons (Wk.refl _) (.cons (Wk.refl _) (.cons (Wk.refl _) (.cons Wk.nil (.cons (Wk.refl _) (.cons Wk.nil (.cons Wk.nil (.cons (Wk.refl _) (.cons (Wk.refl _) .nil)))))))))))) .nil)), (sC rfl (sC rfl z09))⟩⟩
       ·intro hc18; replace h := z03 hc18 h
        refine bR ?_
        refine sS rfl rfl rfl (z4f rfl rfl) ?_
        refine sS rfl rfl rfl (z0j rfl rfl rfl) ?_
        refine sS rfl rfl rfl (z0j rfl rfl rfl) (z00 ?_)
        refine cBx ?_
        refine z05 rfl ?_ ?_
        ·intro hc19; replace h := z02 hc19 h
         refine bR ?_
         refine sAx (z00 ?_)
         refine cBx ?_
         refine bR ?_
         refine sMx ?_
         refine sS rfl rfl rfl (z17 Try.underlying37 rfl rfl) ?_
         refine sMx (z00 ?_)
         refine cBx ?_
         refine z0x ?_
         refine cBx ?_
         refine z83 (s := ⟨_, _, _⟩) 1 7 29 (sz := 11) rfl rfl rfl ?_
         unfold zes at h
         refine z26 (σ := (Nat × (List Term))) (fun i => [(2, (PV.rf 0 0)), (3, (PV.rf 1 0)), (54, (PV.sl none 20 1 (List.map ofV (a0).asList))), (55, (I64 (((((a0).asList).length : Nat) : Int)))), (56, (I64 (((i.1 : Nat) : Int))))]) (fun i => [.box 29 ztq, .box 29 [(I64 x1), (BO false), (I64 0), (PV.v (.float .f64 0)), (z0f []), (PV.v (.slice none 0 0)), (PV.v (.int .u64 0)), (PV.sl (some 2) 29 11 (List.map z1k i.2)), (PV.v (.slice none 0 0)), (z0f []), (I64 0)], .arr 29 (i.2).length]) (0, []) h ?_ ?_ ?_
         ·intro i; exact ⟨lbE rfl, ⟨(il_rf rfl), ⟨(il_rf rfl), ⟨(z01 (z0q ids_V _)), ⟨(z01 rfl), ⟨(z01 rfl), trivial⟩⟩⟩⟩⟩, ⟨⟨(z01 rfl), ⟨(z01 rfl), ⟨(z01 rfl), ⟨(z01 rfl), ⟨(z01 rfl), ⟨(z01 rfl), ⟨(z01 rfl), ⟨(z01 rfl), ⟨(z01 rfl), ⟨(z01 rfl), ⟨(z01 rfl), trivial⟩⟩⟩⟩⟩⟩⟩⟩⟩⟩⟩, ⟨⟨(z01 rfl), ⟨(z01 rfl), ⟨(z01 rfl), ⟨(z01 rfl), ⟨(z01 rfl), ⟨(z01 rfl), ⟨(z01 rfl), ⟨(z5j rfl (z3j z35 _)), ⟨(z01 rfl), ⟨(z01 rfl), ⟨(z01 rfl), trivial⟩⟩⟩⟩⟩⟩⟩⟩⟩⟩⟩, trivial⟩⟩⟩
         ·exact ⟨(.cons .same (.cons .same (.cons .same .nil))), (sC rfl (sC rfl (sC rfl (sC rfl (sC rfl z09)))))⟩
         ·rintro g1_f ⟨s20, s21⟩ h; replace h : z5v r_q14 a0 x1 (fun y0 y1 => g1_f (y0, y1)) s20 s21 = some r := h; unfold z5v at h
          change BW _ _ _ ⟨[(2, (PV.rf 0 0)), (3, (PV.rf 1 0)), (54, (PV.sl none 20 1 (List.map ofV (a0).asList))), (55, (I64 (((((a0).asList).length : Nat) : Int)))), (56, (I64 (((s20 : Nat) : Int))))], [.box 29 ztq, .box 29 [(I64 x1), (BO false), (I64 0), (PV.v (.float .f64 0)), (z0f []), (PV.v (.slice none 0 0)), (PV.v (.int .u64 0)), (PV.sl (some 2) 29 11 (List.map z1k s21)), (PV.v (.slice none 0 0)), (z0f []), (I64 0)], .arr 29 (s21).length], _⟩ _
          refine bR ?_
          refine sS rfl rfl rfl ((z06 rfl rfl rfl rfl).cast (y := (BO ((decide (((s20 : Nat) : Int) < ((((a0).asList).length : Nat) : Int)))))) rfl rfl) (z00 ?_)
          refine cBx ?_
          refine z0o ?_
          refine z2z (t := 54) rfl fun hb23 => ?_
          try rw [List.length_map] at hb23
          refine z05 rfl ?_ ?_
          ·intro hc22; replace h := z02 hc22 h
           have hc22_ := of_decide_eq_true hc22
           refine z0l ?_
           refine cBx ?_
           refine z0o ?_
           refine z0x ?_
           refine cBx ?_
           refine bR ?_
           obtain ⟨x24, hx24, h⟩ := obind h
           refine sS rfl rfl rfl (z1i (i := s20) Try.underlying37 z6r rfl rfl rfl hx24 rfl) ?_
           refine sS rfl rfl rfl (z13 (y := (ofV x24)) Try.underlying20 rfl rfl rfl (by rw [z30]; rfl)) ?_
           refine sAx (z00 ?_)
           refine cBx ?_
           refine z2e 5 [4] [1] mo (by kernel_rfl) ?_
           refine z0y rfl rfl rfl rfl (fun H hp => z0e z23 (i := 7) rfl rfl rfl) ?_
           refine z0y rfl rfl rfl rfl (fun H hp => (z0n Try.underlying26 rfl rfl rfl (hp.at rfl rfl) rfl)) ?_
           refine z0y rfl rfl rfl rfl (fun H hp => z0k rfl rfl) ?_
           obtain ⟨x25, hx25, h⟩ := obind h
           refine z0y rfl rfl rfl rfl (fun H hp => z0b rfl zsq rfl (.cons (Wk.refl _) .nil) ⟨(ids_V x24), trivial⟩ (c_q14 x24 x25 hx25) (z20 x25)) ?_
           refine zab rfl rfl rfl rfl ((z1t (xs := [(z1o x25)]) Try.underlying26 z2g rfl rfl rfl rfl rfl rfl ⟨lbE rfl, lbE rfl⟩ rfl).cast (y := (PV.sl (some 3) 29 11 (List.map z1k ([x25] : (List Term))))) (by simp only [List.map_cons, List.map_nil, z3w]; try rfl) rfl) ⟨rfl, trivial⟩ ?_
           refine z2b ?_
           change AO _ _ _ _ _
           obtain ⟨x26, hx26, h⟩ := obind h
           refine sS rfl rfl rfl (z34 Try.underlying26 z2g rfl Try.underlying26 rfl rfl rfl rfl zmk zfj hx26 rfl) ?_
           refine sS rfl rfl rfl (z0e z23 (i := 7) rfl rfl rfl) ?_
           refine z11 rfl rfl (z0v Z1l rfl rfl rfl rfl rfl rfl (lbE rfl) rfl) ?_
           refine z00 ?_
           refine cBx ?_
           refine z0s ?_
           refine sS rfl rfl rfl (z1y (k := s20) (c := 1) rfl rfl rfl (by omega)) ?_
           refine sMx (z00 ?_)
           exact ⟨rfl, ((s20 + 1), x26), h, ⟨(.cons .same (.cons .same (.cons .same .nil))), (sC rfl (sC rfl (sC rfl (sC rfl (sC rfl z09)))))⟩⟩
          ·intro hc22; replace h := z03 hc22 h
           refine z22 ?_
           exact ⟨rfl, (false, 0, 0, [], [], 0, s21, [], [], 0), h, ⟨(.cons .same (.cons (.box (.cons (Wk.refl _) (.cons (Wk.refl _) (.cons (Wk.refl _) (.cons (Wk.refl _) (.cons (Wk.refl _) (.cons Wk.nil (.cons (Wk.refl _) (.cons Wk.tok (.cons Wk.nil (.cons (Wk.refl _) (.cons (Wk.refl _) .nil)))))))))))) .nil)), (sC rfl (sC rfl z09))⟩⟩
        ·intro hc19; replace h := z03 hc19 h
         refine bR ?_
         refine sS rfl rfl rfl (z4g rfl rfl) ?_
         refine sS rfl rfl rfl (z0j rfl rfl rfl) ?_
         refine sS rfl rfl rfl (z0j rfl rfl rfl) (z00 ?_)
         refine cBx ?_
         refine z05 rfl ?_ ?_
         ·intro hc27; replace h := z02 hc27 h
          refine bR ?_
          refine sAx (z00 ?_)
          refine cBx ?_
          refine z0s ?_
          refine sMx ?_
          obtain ⟨x28, hx28, h⟩ := obind h
          refine sS rfl rfl rfl (z0b rfl zxw rfl (.cons (Wk.refl _) .nil) ⟨(z0q z1z ((a0).asDict)), trivial⟩ (c_q0u ((a0).asDict) x28 hx28) (z0q z2x x28)) ?_
          refine sS rfl rfl rfl (z0e z23 (i := 8) rfl rfl rfl) ?_
          refine z11 rfl rfl (z0v zxm rfl rfl rfl rfl rfl rfl (lbE rfl) rfl) ?_
          refine z00 ?_
          exact ⟨rfl, (false, 0, 0, [], [], 0, [], x28, [], 0), h, ⟨(.cons .same (.cons (.box (.cons (Wk.refl _) (.cons (Wk.refl _) (.cons (Wk.refl _) (.cons (Wk.refl _) (.cons (Wk.refl _) (.cons Wk.nil (.cons (Wk.refl _) (.cons Wk.nil (.cons (Wk.refl _) (.cons (Wk.refl _) (.cons (Wk.refl _) .nil)))))))))))) .nil)), (sC rfl (sC rfl z09))⟩⟩
         ·intro hc27; replace h := z03 hc27 h
          refine bR ?_
          refine sS rfl rfl rfl (z55 rfl rfl) ?_
          refine sS rfl rfl rfl (z0j rfl rfl rfl) ?_
          refine sS rfl rfl rfl (z0j rfl rfl rfl) (z00 ?_)
          refine cBx ?_
          refine z05 rfl ?_ ?_
          ·intro hc29; replace h := z02 hc29 h
           refine bR ?_
           refine sAx (z00 ?_)
           refine cBx ?_
           refine z2e 15 [14] [] mo (by kernel_rfl) ?_
           refine z0y rfl rfl rfl rfl (fun H hp => z0k rfl rfl) ?_
           obtain ⟨x30, hx30, h⟩ := obind h
           refine z0y rfl rfl rfl rfl (fun H hp => z39 rfl rfl hx30) ?_
           refine z0y rfl rfl rfl rfl (fun H hp => z1a z6w (i := 0) rfl rfl rfl) ?_
           refine z0y rfl rfl rfl rfl (fun H hp => z13 (y := (z0f x30.cls)) Try.underlying9 rfl rfl rfl rfl) ?_
           refine z0y rfl rfl rfl rfl (fun H hp => z0k rfl rfl) ?_
           refine z0y rfl rfl rfl rfl (fun H hp => z39 rfl rfl hx30) ?_
           refine z0y rfl rfl rfl rfl (fun H hp => z1a z6w (i := 1) rfl rfl rfl) ?_
           refine z0y rfl rfl rfl rfl (fun H hp => z13 (y := (I64 x30.ver)) Try.underlying3 rfl rfl rfl rfl) ?_
           refine z0y rfl rfl rfl rfl (fun H hp => z0k rfl rfl) ?_
           refine z0y rfl rfl rfl rfl (fun H hp => z39 rfl rfl hx30) ?_
           refine z0y rfl rfl rfl rfl (fun H hp => z1a z6w (i := 2) rfl rfl rfl) ?_
           refine z0y rfl rfl rfl rfl (fun H hp => z13 (y := (PV.sl none 43 2 (List.map z1h x30.fields))) Try.underlying45 rfl rfl rfl rfl) ?_
           obtain ⟨x31, hx31, h⟩ := obind h
           refine z0y rfl rfl rfl rfl (fun H hp => z0b rfl zxw rfl (.cons (Wk.refl _) .nil) ⟨(z0q z1z x30.fields), trivial⟩ (c_q0u x30.fields x31 hx31) (z0q z2x x31)) ?_
           refine z0y rfl rfl rfl rfl (fun H hp => z0e z23 (i := 9) rfl rfl rfl) ?_
           refine zlc rfl rfl rfl (z0v inf_9 rfl rfl rfl rfl rfl rfl (lbE rfl) rfl) trivial ?_
           refine z2b ?_
           change AO _ _ _ _ _
           refine sS rfl rfl rfl (z0e z23 (i := 10) rfl rfl rfl) ?_
           refine z11 rfl rfl (z0v zea rfl rfl rfl rfl rfl rfl (lbE rfl) rfl) ?_
           refine sS rfl rfl rfl (z0e z23 (i := 8) rfl rfl rfl) ?_
           refine z11 rfl rfl (z0v zxm rfl rfl rfl rfl rfl rfl (lbE rfl) rfl) ?_
           refine z00 ?_
           exact ⟨rfl, (false, 0, 0, [], [], 0, [], x31, x30.cls, x30.ver), h, ⟨(.cons .same (.cons (.box (.cons (Wk.refl _) (.cons (Wk.refl _) (.cons (Wk.refl _) (.cons (Wk.refl _) (.cons (Wk.refl _) (.cons Wk.nil (.cons (Wk.refl _) (.cons Wk.nil (.cons (Wk.refl _) (.cons (Wk.refl _) (.cons (Wk.refl _) .nil)))))))))))) .nil)), (sC rfl (sC rfl z09))⟩⟩
          ·intro hc29; replace h := z03 hc29 h
           refine z0l ?_
           exact ⟨rfl, (false, 0, 0, [], [], 0, [], [], [], 0), h, ⟨(.cons .same (.cons (.box (.cons (Wk.refl _) (.cons (Wk.refl _) (.cons (Wk.refl _) (.cons (Wk.refl _) (.cons (Wk.refl _) (.cons Wk.nil (.cons (Wk.refl _) (.cons Wk.nil (.cons Wk.nil (.cons (Wk.refl _) (.cons (Wk.refl _) .nil)))))))))))) .nil)), (sC rfl (sC rfl z09))⟩⟩
theorem C_q0u.sound : ∀ (i : C_q0u) (r : i.R), z38 C_q0u.F i = some r → C_q0u.Q i r := by
 refine z4a (Φ := C_q0u.F) (Q := C_q0u.Q) ?_
 intro g hg i r h
 cases i with
 | k_q0u a0 => exact zco (fun a0 => g (.k_q0u a0)) (fun a0 r hr => hg (.k_q0u a0) r hr) (fun a0 => g (.k_q14 a0)) (fun a0 r hr => hg (.k_q14 a0) r hr) a0 r h
 | k_q14 a0 => exact zfp (fun a0 => g (.k_q0u a0)) (fun a0 r hr => hg (.k_q0u a0) r hr) (fun a0 => g (.k_q14 a0)) (fun a0 r hr => hg (.k_q14 a0) r hr) a0 r h
theorem Z3q (a0 : V) (r : Term) (h : ze5 a0 = some r) : z0g Try.prog 102 [(ofV a0)] (z1o r) := C_q0u.sound (.k_q14 a0) r h
noncomputable def zqv (a0 : V) : Option (Term × Int) :=
 Option.bind (zg1 a0) fun x1 =>
 bif (x1.2 != 0) then (
  some ((Term.mk 0 false 0 0 [] [] 0 [] [] [] 0), x1.2)
 ) else (
  Option.bind (ze5 a0) fun x3 =>
  some (x3, 0)
 )
theorem Z3p (a0 : V) (r : (Term × Int)) (h : zqv a0 = some r) : z0g Try.prog 74 [(ofV a0)] (PV.tup [(z1o r.1), (I64 r.2)]) := by
 unfold zqv at h
 refine z0w Try.func74 rfl Try.ntmps74 Try.results74 rfl (z10 ?_)
 change BW _ _ _ ⟨[(0, (ofV a0))], [], _⟩ _
 refine bR ?_
 refine sS rfl rfl rfl (z1j z2g rfl) ?_
 refine sAx (z00 ?_)
 refine cBx ?_
 refine z0o ?_
 refine bR ?_
 refine sMx ?_
 obtain ⟨x1, hx1, h⟩ := obind h
 refine sS rfl rfl rfl (z0b rfl zsm rfl (.cons (Wk.refl _) .nil) ⟨(ids_V a0), trivial⟩ (zow a0 x1 hx1) (z04 rfl (z04 rfl z0r))) ?_
 refine sMx ?_
 refine sS rfl rfl rfl (z0j rfl rfl rfl) ?_
 refine sS rfl rfl rfl (z0j rfl rfl rfl) ?_
 refine sAx ?_
 refine sAx (z00 ?_)
 refine cBx ?_
 refine bR ?_
 refine sMx ?_
 refine sS rfl rfl rfl ((z06 rfl rfl rfl rfl).cast (y := (BO ((x1.2 != 0)))) rfl rfl) (z00 ?_)
 refine cBx ?_
 refine z05 rfl ?_ ?_
 ·intro hc2; replace h := z02 hc2 h
  refine bR ?_
  refine sS rfl rfl rfl (z1w (cs := [(I64 0), (BO false), (I64 0), (PV.v (.float .f64 0)), (z0f []), (PV.v (.slice none 0 0)), (PV.v (.int .u64 0)), (PV.v (.slice none 0 0)), (PV.v (.slice none 0 0)), (z0f []), (I64 0)]) z23 z2g rfl rfl rfl rfl) ?_
  refine sMx ?_
  refine z11 rfl rfl (z0v z2g rfl rfl rfl rfl rfl rfl (lbE rfl) rfl) ?_
  refine sAx (z00 ?_)
  refine cBx ?_
  refine z0a ?_
  change ∃ xs, _ = some xs ∧ EndOk _ _ _ _
  obtain rfl := Option.some.inj h
  exact ⟨_, rfl, z0d (y := (PV.tup [(z1o (Term.mk 0 false 0 0 [] [] 0 [] [] [] 0)), (I64 x1.2)])) (Wk.tup (.cons (Wk.agg (.cons (Wk.refl _) (.cons (Wk.refl _) (.cons (Wk.refl _) (.cons (Wk.refl _) (.cons (Wk.refl _) (.cons Wk.nil (.cons (Wk.refl _) (.cons Wk.nil (.cons Wk.nil (.cons (Wk.refl _) (.cons (Wk.refl _) .nil)))))))))))) (.cons (Wk.refl _) .nil))) (z04 (z20 (Term.mk 0 false 0 0 [] [] 0 [] [] [] 0)) (z04 rfl z0r)) ⟨rfl, rfl⟩⟩
 ·intro hc2; replace h := z03 hc2 h
  refine z0l ?_
  refine cBx ?_
  refine bR ?_
  refine sMx ?_
  obtain ⟨x3, hx3, h⟩ := obind h
  refine sS rfl rfl rfl (z0b rfl zsq rfl (.cons (Wk.refl _) .nil) ⟨(ids_V a0), trivial⟩ (Z3q a0 x3 hx3) (z20 x3)) ?_
  refine z11 rfl rfl (z0v z2g rfl rfl rfl rfl rfl rfl (lbE rfl) rfl) ?_
  refine sAx (z00 ?_)
  refine cBx ?_
  refine z0a ?_
  change ∃ xs, _ = some xs ∧ EndOk _ _ _ _
  obtain rfl := Option.some.inj h
  exact ⟨_, rfl, z0d (y := (PV.tup [(z1o x3), (I64 0)])) (Wk.refl _) (z04 (z20 x3) (z04 rfl z0r)) ⟨rfl, rfl⟩⟩
noncomputable def zr3 (a0 : (List Str)) : Option (List Str) :=
 Option.bind (zad 16 ([] : (List Str)) a0) fun x2 =>
 some x2
theorem Z44 (a0 : (List Str)) (r : (List Str)) (h : zr3 a0 = some r) : z0g Try.prog 75 [(PV.sl none 9 1 (List.map z0f a0))] (PV.sl none 9 1 (List.map z0f r)) := by
 unfold zr3 at h
 refine z0w Try.func75 rfl Try.ntmps75 Try.results75 rfl (z10 ?_)
 change BW _ _ _ ⟨[(0, (PV.sl none 9 1 (List.map z0f a0)))], [], _⟩ _
 refine bR ?_
 refine sAx (z00 ?_)
 refine cBx ?_
 refine z0o ?_
 refine bR ?_
 refine sMx ?_
 refine zj9 rfl rfl rfl Try.underlying31 rfl rfl ?_
 intro nb1 hnb1
 refine z00 ?_
 refine cBx ?_
 cases nb1
 ·refine zmq rfl ?_
  refine z0l ?_
  refine cBx ?_
  refine bR ?_
  refine sS rfl rfl rfl ((z1t (xs := []) Try.underlying31 inf_9 rfl rfl rfl rfl rfl rfl ⟨lbE rfl, lbE rfl⟩ rfl).cast (y := (PV.sl (some 0) 9 1 (List.map z0f ([] : (List Str))))) rfl rfl) ?_
  refine sMx ?_
  obtain ⟨x2, hx2, h⟩ := obind h
  refine sS rfl rfl rfl (z34 Try.underlying31 inf_9 rfl Try.underlying31 rfl rfl rfl rfl (fun _ => rfl) (fun _ => rfl) hx2 rfl) ?_
  refine sAx (z00 ?_)
  refine cBx ?_
  refine z0a ?_
  change ∃ xs, _ = some xs ∧ EndOk _ _ _ _
  obtain rfl := Option.some.inj h
  exact ⟨_, rfl, z0d (y := (PV.sl none 9 1 (List.map z0f x2))) Wk.tok (z0q (fun _ => rfl) x2) ⟨rfl, rfl⟩⟩
 ·have hz := List.map_eq_nil_iff.1 (hnb1 rfl)
  rw [hz] at h
  replace h : some [] = some r := h
  refine zmp rfl ?_
  refine bR ?_
  refine sAx (z00 ?_)
  refine cBx ?_
  refine z0a ?_
  change ∃ xs, _ = some xs ∧ EndOk _ _ _ _
  obtain rfl := Option.some.inj h
  exact ⟨_, rfl, z0d (y := (PV.sl none 9 1 (List.map z0f []))) Wk.nil (z0q (fun _ => rfl) ([])) ⟨rfl, rfl⟩⟩
noncomputable def zr1 (a0 : (List Bool)) : Option (List Bool) :=
 Option.bind (zad 1 ([] : (List Bool)) a0) fun x2 =>
 some x2
theorem Z42 (a0 : (List Bool)) (r : (List Bool)) (h : zr1 a0 = some r) : z0g Try.prog 76 [(PV.sl none 4 1 (List.map z28 a0))] (PV.sl none 4 1 (List.map z28 r)) := by
 unfold zr1 at h
 refine z0w Try.func76 rfl Try.ntmps76 Try.results76 rfl (z10 ?_)
 change BW _ _ _ ⟨[(0, (PV.sl none 4 1 (List.map z28 a0)))], [], _⟩ _
 refine bR ?_
 refine sAx (z00 ?_)
 refine cBx ?_
 refine z0o ?_
 refine bR ?_
 refine sMx ?_
 refine zj9 rfl rfl rfl Try.underlying32 rfl rfl ?_
 intro nb1 hnb1
 refine z00 ?_
 refine cBx ?_
 cases nb1
 ·refine zmq rfl ?_
  refine z0l ?_
  refine cBx ?_
  refine bR ?_
  refine sS rfl rfl rfl ((z1t (xs := []) Try.underlying32 inf_4 rfl rfl rfl rfl rfl rfl ⟨lbE rfl, lbE rfl⟩ rfl).cast (y := (PV.sl (some 0) 4 1 (List.map z28 ([] : (List Bool))))) rfl rfl) ?_
  refine sMx ?_
  obtain ⟨x2, hx2, h⟩ := obind h
  refine sS rfl rfl rfl (z34 Try.underlying32 inf_4 rfl Try.underlying32 rfl rfl rfl rfl (fun _ => rfl) (fun _ => rfl) hx2 rfl) ?_
  refine sAx (z00 ?_)
  refine cBx ?_
  refine z0a ?_
  change ∃ xs, _ = some xs ∧ EndOk _ _ _ _
  obtain rfl := Option.some.inj h
  exact ⟨_, rfl, z0d (y := (PV.sl none 4 1 (List.map z28 x2))) Wk.tok (z0q (fun _ => rfl) x2) ⟨rfl, rfl⟩⟩
 ·have hz := List.map_eq_nil_iff.1 (hnb1 rfl)
  rw [hz] at h
  replace h : some [] = some r := h
  refine zmp rfl ?_
  refine bR ?_
  refine sAx (z00 ?_)
  refine cBx ?_
  refine z0a ?_
  change ∃ xs, _ = some xs ∧ EndOk _ _ _ _
  obtain rfl := Option.some.inj h
  exact ⟨_, rfl, z0d (y := (PV.sl none 4 1 (List.map z28 []))) Wk.nil (z0q (fun _ => rfl) ([])) ⟨rfl, rfl⟩⟩
noncomputable def z7t (a0 : Typ) (s1 : Int) (s2 : Int) (s3 : Bool) (s4 : Int) (s5 : Nat) (s6 : Str) (s7 : Str) (s8 : Int) (s9 : (List Term)) (s10 : (List (Str × Term))) (s11 : Str) (s12 : Int) (s13 : (List Str)) (s14 : (List Bool)) (s15 : Bool) (s16 : Str) (s17 : (List Typ)) : Option Typ :=
 some (Typ.mk a0.kind s1 (Term.mk s2 s3 s4 s5 s6 s7 s8 s9 s10 s11 s12) s17 s13 s14 s15 s16)
noncomputable def z5w (r_q13 : Typ → Option Typ) (a0 : Typ) (s1 : Int) (s2 : Int) (s3 : Bool) (s4 : Int) (s5 : Nat) (s6 : Str) (s7 : Str) (s8 : Int) (s9 : (List Term)) (s10 : (List (Str × Term))) (s11 : Str) (s12 : Int) (s13 : (List Str)) (s14 : (List Bool)) (s15 : Bool) (s16 : Str) (g1 : Nat → (List Typ) → Option Typ) (s20 : Nat) (s21 : (List Typ)) : Option Typ :=
 bif (decide (((s20 : Nat) : Int) < (((a0.parts).length : Nat) : Int))) then (
  Option.bind ((a0.parts)[s20]?) fun x24 =>
  Option.bind (r_q13 x24) fun x25 =>
  Option.bind (zad 264 s21 ([x25] : (List Typ))) fun x26 =>
  g1 (s20 + 1) x26
 ) else (
  z7t a0 s1 s2 s3 s4 s5 s6 s7 s8 s9 s10 s11 s12 s13 s14 s15 s16 s21
 )
theorem zas (r_q13 : OF ρ → Typ → Option Typ) (h_r_q13 : ∀ y0, CM (fun G => r_q13 G y0)) (g1 : OF ρ → Nat → (List Typ) → Option Typ) (h_g1 : ∀ y0 y1, CM (fun G => g1 G y0 y1)) (a0 : Typ) (s1 : Int) (s2 : Int) (s3 : Bool) (s4 : Int) (s5 : Nat) (s6 : Str) (s7 : Str) (s8 : Int) (s9 : (List Term)) (s10 : (List (Str × Term))) (s11 : Str) (s12 : Int) (s13 : (List Str)) (s14 : (List Bool)) (s15 : Bool) (s16 : Str) (s20 : Nat) (s21 : (List Typ)) : CM (fun G : OF ρ => z5w (r_q13 G) a0 s1 s2 s3 s4 s5 s6 s7 s8 s9 s10 s11 s12 s13 s14 s15 s16 (g1 G) s20 s21) := by
 simp only [z5w]
 repeat (first | exact z0c | exact h_r_q13 _ | exact h_g1 _ _ | apply q13_j2_cm | refine z14 ?_ ?_ | refine z15 ?_ (fun _ => ?_) | intro _ | assumption)
noncomputable def zet (r_q13 : Typ → Option Typ) (a0 : Typ) (s1 : Int) (s2 : Int) (s3 : Bool) (s4 : Int) (s5 : Nat) (s6 : Str) (s7 : Str) (s8 : Int) (s9 : (List Term)) (s10 : (List (Str × Term))) (s11 : Str) (s12 : Int) (s13 : (List Str)) (s14 : (List Bool)) (s15 : Bool) (s16 : Str) (s20 : Nat) (s21 : (List Typ)) : Option Typ :=
 z38 (ι := (Nat × (List Typ))) (ρ := fun _ => Typ) (fun g i => z5w r_q13 a0 s1 s2 s3 s4 s5 s6 s7 s8 s9 s10 s11 s12 s13 s14 s15 s16 (fun s20 s21 => g (s20, s21)) i.1 i.2) (s20, s21)
theorem zhd (r_q13 : Typ → Option Typ) (a0 : Typ) (s1 : Int) (s2 : Int) (s3 : Bool) (s4 : Int) (s5 : Nat) (s6 : Str) (s7 : Str) (s8 : Int) (s9 : (List Term)) (s10 : (List (Str × Term))) (s11 : Str) (s12 : Int) (s13 : (List Str)) (s14 : (List Bool)) (s15 : Bool) (s16 : Str) (s20 : Nat) (s21 : (List Typ)) : zet r_q13 a0 s1 s2 s3 s4 s5 s6 s7 s8 s9 s10 s11 s12 s13 s14 s15 s16 s20 s21 = z5w r_q13 a0 s1 s2 s3 s4 s5 s6 s7 s8 s9 s10 s11 s12 s13 s14 s15 s16 (zet r_q13 a0 s1 s2 s3 s4 s5 s6 s7 s8 s9 s10 s11 s12 s13 s14 s15 s16) s20 s21 :=
 z1d (ι := (Nat × (List Typ))) (ρ := fun _ => Typ) (Φ := fun g i => z5w r_q13 a0 s1 s2 s3 s4 s5 s6 s7 s8 s9 s10 s11 s12 s13 s14 s15 s16 (fun s20 s21 => g (s20, s21)) i.1 i.2) (fun i => zas (ι := (Nat × (List Typ))) (ρ := fun _ => Typ) (fun _ => r_q13) (fun _ => z0c) (fun g => (fun s20 s21 => g (s20, s21))) (fun _ _ => z1c) a0 s1 s2 s3 s4 s5 s6 s7 s8 s9 s10 s11 s12 s13 s14 s15 s16 i.1 i.2) (s20, s21)
theorem zpk (r_q13 : OF ρ → Typ → Option Typ) (h_r_q13 : ∀ y0, CM (fun G => r_q13 G y0)) (a0 : Typ) (s1 : Int) (s2 : Int) (s3 : Bool) (s4 : Int) (s5 : Nat) (s6 : Str) (s7 : Str) (s8 : Int) (s9 : (List Term)) (s10 : (List (Str × Term))) (s11 : Str) (s12 : Int) (s13 : (List Str)) (s14 : (List Bool)) (s15 : Bool) (s16 : Str) (s20 : Nat) (s21 : (List Typ)) : CM (fun G : OF ρ => zet (r_q13 G) a0 s1 s2 s3 s4 s5 s6 s7 s8 s9 s10 s11 s12 s13 s14 s15 s16 s20 s21) :=
 z3o (κ := (Nat × (List Typ))) (τ := fun _ => Typ) (Φ := fun G g i => z5w (r_q13 G) a0 s1 s2 s3 s4 s5 s6 s7 s8 s9 s10 s11 s12 s13 s14 s15 s16 (fun s20 s21 => g (s20, s21)) i.1 i.2) (fun g i => zas r_q13 h_r_q13 (fun _ => (fun s20 s21 => g (s20, s21))) (fun _ _ => z0c) a0 s1 s2 s3 s4 s5 s6 s7 s8 s9 s10 s11 s12 s13 s14 s15 s16 i.1 i.2) (fun G i => zas (ι := (Nat × (List Typ))) (ρ := fun _ => Typ) (fun _ => r_q13 G) (fun _ => z0c) (fun g => (fun s20 s21 => g (s20, s21))) (fun _ _ => z1c) a0 s1 s2 s3 s4 s5 s6 s7 s8 s9 s10 s11 s12 s13 s14 s15 s16 i.1 i.2) (s20, s21)
noncomputable def z8r (r_q13 : Typ → Option Typ) (a0 : Typ) (s1 : Int) (s2 : Int) (s3 : Bool) (s4 : Int) (s5 : Nat) (s6 : Str) (s7 : Str) (s8 : Int) (s9 : (List Term)) (s10 : (List (Str × Term))) (s11 : Str) (s12 : Int) (s13 : (List Str)) (s14 : (List Bool)) (s15 : Bool) (s16 : Str) (s18 : Bool) : Option Typ :=
 bif s18 then (
  zet r_q13 a0 s1 s2 s3 s4 s5 s6 s7 s8 s9 s10 s11 s12 s13 s14 s15 s16 0 ([])
 ) else (
  z7t a0 s1 s2 s3 s4 s5 s6 s7 s8 s9 s10 s11 s12 s13 s14 s15 s16 ([])
 )
theorem zpl (r_q13 : OF ρ → Typ → Option Typ) (h_r_q13 : ∀ y0, CM (fun G => r_q13 G y0)) (a0 : Typ) (s1 : Int) (s2 : Int) (s3 : Bool) (s4 : Int) (s5 : Nat) (s6 : Str) (s7 : Str) (s8 : Int) (s9 : (List Term)) (s10 : (List (Str × Term))) (s11 : Str) (s12 : Int) (s13 : (List Str)) (s14 : (List Bool)) (s15 : Bool) (s16 : Str) (s18 : Bool) : CM (fun G : OF ρ => z8r (r_q13 G) a0 s1 s2 s3 s4 s5 s6 s7 s8 s9 s10 s11 s12 s13 s14 s15 s16 s18) := by
 simp only [z8r]
 repeat (first | exact z0c | exact h_r_q13 _ | apply q13_j2_cm | apply zpk | refine z14 ?_ ?_ | refine z15 ?_ (fun _ => ?_) | intro _ | assumption)
noncomputable def z5h (r_q13 : Typ → Option Typ) (a0 : Typ) (s1 : Int) (s2 : Int) (s3 : Bool) (s4 : Int) (s5 : Nat) (s6 : Str) (s7 : Str) (s8 : Int) (s9 : (List Term)) (s10 : (List (Str × Term))) (s11 : Str) (s12 : Int) (s13 : (List Str)) (s14 : (List Bool)) (s15 : Bool) (s16 : Str) : Option Typ :=
 bif (a0.kind == 5) then (
  z8r r_q13 a0 s1 s2 s3 s4 s5 s6 s7 s8 s9 s10 s11 s12 s13 s14 s15 s16 (a0.kind == 5)
 ) else (
  bif (a0.kind == 6) then (
   z8r r_q13 a0 s1 s2 s3 s4 s5 s6 s7 s8 s9 s10 s11 s12 s13 s14 s15 s16 (a0.kind == 6)
  ) else (
   z8r r_q13 a0 s1 s2 s3 s4 s5 s6 s7 s8 s9 s10 s11 s12 s13 s14 s15 s16 (a0.kind == 7)
  )
 )
theorem zpm (r_q13 : OF ρ → Typ → Option Typ) (h_r_q13 : ∀ y0, CM (fun G => r_q13 G y0)) (a0 : Typ) (s1 : Int) (s2 : Int) (s3 : Bool) (s4 : Int) (s5 : Nat) (s6 : Str) (s7 : Str) (s8 : Int) (s9 : (List Term)) (s10 : (List (Str × Term))) (s11 : Str) (s12 : Int) (s13 : (List Str)) (s14 : (List Bool)) (s15 : Bool) (s16 : Str) : CM (fun G : OF ρ => z5h (r_q13 G) a0 s1 s2 s3 s4 s5 s6 s7 s8 s9 s10 s11 s12 s13 s14 s15 s16) := by
 simp only [z5h]
 repeat (first | exact z0c | exact h_r_q13 _ | apply zpl | refine z14 ?_ ?_ | refine z15 ?_ (fun _ => ?_) | intro _ | assumption)
noncomputable def zks (r_q13 : Typ → Option Typ) (a0 : Typ) : Option Typ :=
 bif (a0.kind == 3) then (
  z5h r_q13 a0 a0.of 0 false 0 0 ([]) ([]) 0 ([]) ([]) ([]) 0 ([]) ([]) false ([])
 ) else (
  bif (a0.kind == 4) then (
   Option.bind (ze3 (a0.only)) fun x31 =>
   Option.bind (zqv x31.1) fun x32 =>
   z5h r_q13 a0 0 ((x32.1).kind) ((x32.1).bool) ((x32.1).int) ((x32.1).float) ((x32.1).text) ((x32.1).bytes) ((x32.1).ref) ((x32.1).list) ((x32.1).fields) ((x32.1).cls) ((x32.1).ver) ([]) ([]) false ([])
  ) else (
   bif (a0.kind == 8) then (
    z5h r_q13 a0 0 0 false 0 0 ([]) ([]) 0 ([]) ([]) ([]) 0 ([]) ([]) false a0.cls
   ) else (
    bif (a0.kind == 6) then (
     Option.bind (zr3 a0.names) fun x35 =>
     Option.bind (zr1 a0.lacks) fun x36 =>
     z5h r_q13 a0 0 0 false 0 0 ([]) ([]) 0 ([]) ([]) ([]) 0 x35 x36 a0.opn ([])
    ) else (
     z5h r_q13 a0 0 0 false 0 0 ([]) ([]) 0 ([]) ([]) ([]) 0 ([]) ([]) false ([])
    )
   )
  )
 )
theorem zwa (r_q13 : OF ρ → Typ → Option Typ) (h_r_q13 : ∀ y0, CM (fun G => r_q13 G y0)) (a0 : Typ) : CM (fun G : OF ρ => zks (r_q13 G) a0) := by
 simp only [zks]
 repeat (first | exact z0c | exact h_r_q13 _ | apply zpm | refine z14 ?_ ?_ | refine z15 ?_ (fun _ => ?_) | intro _ | assumption)
inductive C_q13 where
 | k_q13 (a0 : Typ)
def C_q13.R : C_q13 → Type
 | .k_q13 _ => Typ
noncomputable def C_q13.F (g : ∀ i : C_q13, Option i.R) : ∀ i : C_q13, Option i.R
 | .k_q13 a0 => zks (fun a0 => g (.k_q13 a0)) a0
noncomputable def z8t (a0 : Typ) : Option Typ := z38 C_q13.F (.k_q13 a0)
abbrev Z79 := fun (g : ∀ i : C_q13, Option i.R) a0 => g (.k_q13 a0)
theorem Z76 (a0 : _) : CM (ρ := C_q13.R) (fun g => g (C_q13.k_q13 a0)) := z1c
theorem C_q13.cm (i : C_q13) : CM (fun g : (∀ i : C_q13, Option i.R) => C_q13.F g i) := by
 cases i with
 | k_q13 a0 => exact zwa Z79 Z76 a0
theorem Z2o (a0 : Typ) : z8t a0 = zks z8t a0 := z1d C_q13.cm (.k_q13 a0)
def C_q13.Q : ∀ i : C_q13, i.R → Prop
 | .k_q13 a0 => fun (r : Typ) => z0g Try.prog 44 [(z07 a0)] (z07 r)
theorem zfw (r_q13 : Typ → Option Typ) (c_q13 : ∀ (a0 : Typ) r, r_q13 a0 = some r → z0g Try.prog 44 [(z07 a0)] (z07 r)) (a0 : Typ) (r : Typ) (h : zks r_q13 a0 = some r) : z0g Try.prog 44 [(z07 a0)] (z07 r) := by
 unfold zks at h
 refine z0w Try.func44 rfl Try.ntmps44 Try.results44 rfl (z10 ?_)
 change BW _ _ _ ⟨[(0, (z07 a0))], [], _⟩ _
 refine bR ?_
 refine sS rfl rfl rfl (z1x rfl rfl rfl) ?_
 refine sS rfl rfl rfl (z1j z0t rfl) (z00 ?_)
 refine cBx ?_
 refine bR ?_
 refine sS rfl rfl rfl (z0e z1f (i := 0) rfl rfl rfl) ?_
 refine sS rfl rfl rfl ((z0n Try.underlying3 rfl rfl rfl rfl rfl)) ?_
 refine sS rfl rfl rfl (z1w (cs := [(I64 a0.kind), (I64 0), (I64 0), (BO false), (I64 0), (PV.v (.float .f64 0)), (z0f []), (PV.v (.slice none 0 0)), (PV.v (.int .u64 0)), (PV.v (.slice none 0 0)), (PV.v (.slice none 0 0)), (z0f []), (I64 0), (PV.v (.slice none 0 0)), (PV.v (.slice none 0 0)), (PV.v (.slice none 0 0)), (BO false), (z0f [])]) z1f z0t rfl rfl rfl rfl) ?_
 refine sS rfl rfl rfl (z1j z0t rfl) ?_
 refine z11 rfl rfl (z0v z0t rfl rfl rfl rfl rfl rfl (lbE rfl) rfl) ?_
 refine z00 ?_
 refine cBx ?_
 refine z1n (ι := (Int × Int × Bool × Int × Nat × Str × Str × Int × (List Term) × (List (Str × Term)) × Str × Int × (List Str) × (List Bool) × Bool × Str)) (fun i => z5h r_q13 a0 i.1 i.2.1 i.2.2.1 i.2.2.2.1 i.2.2.2.2.1 i.2.2.2.2.2.1 i.2.2.2.2.2.2.1 i.2.2.2.2.2.2.2.1 i.2.2.2.2.2.2.2.2.1 i.2.2.2.2.2.2.2.2.2.1 i.2.2.2.2.2.2.2.2.2.2.1 i.2.2.2.2.2.2.2.2.2.2.2.1 i.2.2.2.2.2.2.2.2.2.2.2.2.1 i.2.2.2.2.2.2.2.2.2.2.2.2.2.1 i.2.2.2.2.2.2.2.2.2.2.2.2.2.2.1 i.2.2.2.2.2.2.2.2.2.2.2.2.2.2.2 = some r) (fun i => [(1, (PV.rf 0 0)), (2, (PV.rf 1 0)), (3, (PV.rf 2 0))]) (fun i => [.box 34 (z1r a0), .box 34 z5d, .box 34 [(I64 a0.kind), (I64 i.1), (I64 i.2.1), (BO i.2.2.1), (I64 i.2.2.2.1), (PV.v (.float .f64 i.2.2.2.2.1)), (z0f i.2.2.2.2.2.1), (PV.sl none 5 1 (List.map ofB i.2.2.2.2.2.2.1)), (PV.v (.int .u64 i.2.2.2.2.2.2.2.1)), (PV.sl none 29 11 (List.map z1k i.2.2.2.2.2.2.2.2.1)), (PV.sl none 101 12 (List.map z18 i.2.2.2.2.2.2.2.2.2.1)), (z0f i.2.2.2.2.2.2.2.2.2.2.1), (I64 i.2.2.2.2.2.2.2.2.2.2.2.1), (PV.v (.slice none 0 0)), (PV.sl none 9 1 (List.map z0f i.2.2.2.2.2.2.2.2.2.2.2.2.1)), (PV.sl none 4 1 (List.map z28 i.2.2.2.2.2.2.2.2.2.2.2.2.2.1)), (BO i.2.2.2.2.2.2.2.2.2.2.2.2.2.2.1), (z0f i.2.2.2.2.2.2.2.2.2.2.2.2.2.2.2)]]) ?_ ?_ ?_
 ·intro i; exact ⟨lbE rfl, ⟨(il_rf rfl), ⟨(il_rf rfl), ⟨(il_rf rfl), trivial⟩⟩⟩, ⟨wfC34, ⟨⟨(z01 rfl), ⟨(z01 rfl), ⟨(z01 rfl), ⟨(z01 rfl), ⟨(z01 rfl), ⟨(z01 rfl), ⟨(z01 rfl), ⟨(z01 rfl), ⟨(z01 rfl), ⟨(z01 rfl), ⟨(z01 rfl), ⟨(z01 rfl), ⟨(z01 rfl), ⟨(z01 rfl), ⟨(z01 rfl), ⟨(z01 rfl), ⟨(z01 rfl), ⟨(z01 rfl), trivial⟩⟩⟩⟩⟩⟩⟩⟩⟩⟩⟩⟩⟩⟩⟩⟩⟩⟩, ⟨⟨(z01 rfl), ⟨(z01 rfl), ⟨(z01 rfl), ⟨(z01 rfl), ⟨(z01 rfl), ⟨(z01 rfl), ⟨(z01 rfl), ⟨(z01 (z0q (fun _ => rfl) _)), ⟨(z01 rfl), ⟨(z01 (z0q z35 _)), ⟨(z01 (z0q z2x _)), ⟨(z01 rfl), ⟨(z01 rfl), ⟨(z01 rfl), ⟨(z01 (z0q (fun _ => rfl) _)), ⟨(z01 (z0q (fun _ => rfl) _)), ⟨(z01 rfl), ⟨(z01 rfl), trivial⟩⟩⟩⟩⟩⟩⟩⟩⟩⟩⟩⟩⟩⟩⟩⟩⟩⟩, trivial⟩⟩⟩⟩
 ·rintro ⟨s1, s2, s3, s4, s5, s6, s7, s8, s9, s10, s11, s12, s13, s14, s15, s16⟩ h; replace h : z5h r_q13 a0 s1 s2 s3 s4 s5 s6 s7 s8 s9 s10 s11 s12 s13 s14 s15 s16 = some r := h; unfold z5h at h
  change BW _ _ _ ⟨[(1, (PV.rf 0 0)), (2, (PV.rf 1 0)), (3, (PV.rf 2 0))], [.box 34 (z1r a0), .box 34 z5d, .box 34 [(I64 a0.kind), (I64 s1), (I64 s2), (BO s3), (I64 s4), (PV.v (.float .f64 s5)), (z0f s6), (PV.sl none 5 1 (List.map ofB s7)), (PV.v (.int .u64 s8)), (PV.sl none 29 11 (List.map z1k s9)), (PV.sl none 101 12 (List.map z18 s10)), (z0f s11), (I64 s12), (PV.v (.slice none 0 0)), (PV.sl none 9 1 (List.map z0f s13)), (PV.sl none 4 1 (List.map z28 s14)), (BO s15), (z0f s16)]], _⟩ _
  refine z1n (ι := (List Typ)) (fun i => z7t a0 s1 s2 s3 s4 s5 s6 s7 s8 s9 s10 s11 s12 s13 s14 s15 s16 i = some r) (fun i => [(2, (PV.rf 1 0)), (3, (PV.rf 2 0))]) (fun i => [.dead, .box 34 z5d, .box 34 [(I64 a0.kind), (I64 s1), (I64 s2), (BO s3), (I64 s4), (PV.v (.float .f64 s5)), (z0f s6), (PV.sl none 5 1 (List.map ofB s7)), (PV.v (.int .u64 s8)), (PV.sl none 29 11 (List.map z1k s9)), (PV.sl none 101 12 (List.map z18 s10)), (z0f s11), (I64 s12), (PV.sl none 34 18 (List.map z19 i)), (PV.sl none 9 1 (List.map z0f s13)), (PV.sl none 4 1 (List.map z28 s14)), (BO s15), (z0f s16)]]) ?_ ?_ ?_
  ·intro i; exact ⟨lbE rfl, ⟨(il_rf rfl), ⟨(il_rf rfl), trivial⟩⟩, ⟨⟨(z01 rfl), ⟨(z01 rfl), ⟨(z01 rfl), ⟨(z01 rfl), ⟨(z01 rfl), ⟨(z01 rfl), ⟨(z01 rfl), ⟨(z01 rfl), ⟨(z01 rfl), ⟨(z01 rfl), ⟨(z01 rfl), ⟨(z01 rfl), ⟨(z01 rfl), ⟨(z01 rfl), ⟨(z01 rfl), ⟨(z01 rfl), ⟨(z01 rfl), ⟨(z01 rfl), trivial⟩⟩⟩⟩⟩⟩⟩⟩⟩⟩⟩⟩⟩⟩⟩⟩⟩⟩, ⟨wfC34, trivial⟩⟩⟩
  ·rintro s17 h; replace h : z7t a0 s1 s2 s3 s4 s5 s6 s7 s8 s9 s10 s11 s12 s13 s14 s15 s16 s17 = some r := h; unfold z7t at h
   change BW _ _ _ ⟨[(2, (PV.rf 1 0)), (3, (PV.rf 2 0))], [.dead, .box 34 z5d, .box 34 [(I64 a0.kind), (I64 s1), (I64 s2), (BO s3), (I64 s4), (PV.v (.float .f64 s5)), (z0f s6), (PV.sl none 5 1 (List.map ofB s7)), (PV.v (.int .u64 s8)), (PV.sl none 29 11 (List.map z1k s9)), (PV.sl none 101 12 (List.map z18 s10)), (z0f s11), (I64 s12), (PV.sl none 34 18 (List.map z19 s17)), (PV.sl none 9 1 (List.map z0f s13)), (PV.sl none 4 1 (List.map z28 s14)), (BO s15), (z0f s16)]], _⟩ _
   refine bR ?_
   refine sS rfl rfl rfl ((z12 z0t Try.underlying34 rfl rfl rfl rfl rfl rfl)) ?_
   refine z11 rfl rfl (z0v z0t rfl rfl rfl rfl rfl rfl (lbE rfl) rfl) ?_
   refine z00 ?_
   refine cBx ?_
   refine z0a ?_
   change ∃ xs, _ = some xs ∧ EndOk _ _ _ _
   obtain rfl := Option.some.inj h
   exact ⟨_, rfl, z0d (y := (z07 (Typ.mk a0.kind s1 (Term.mk s2 s3 s4 s5 s6 s7 s8 s9 s10 s11 s12) s17 s13 s14 s15 s16))) (Wk.refl _) (z0m (Typ.mk a0.kind s1 (Term.mk s2 s3 s4 s5 s6 s7 s8 s9 s10 s11 s12) s17 s13 s14 s15 s16)) ⟨rfl, rfl⟩⟩
  ·refine bR ?_
   refine sS rfl rfl rfl (z0e z1f (i := 0) rfl rfl rfl) ?_
   refine sS rfl rfl rfl ((z0n Try.underlying3 rfl rfl rfl rfl rfl)) (z00 ?_)
   refine cBx ?_
   refine z0x ?_
   refine cBx ?_
   refine z1n (ι := Bool) (fun i => z8r r_q13 a0 s1 s2 s3 s4 s5 s6 s7 s8 s9 s10 s11 s12 s13 s14 s15 s16 i = some r) (fun i => [(1, (PV.rf 0 0)), (2, (PV.rf 1 0)), (3, (PV.rf 2 0)), (52, (BO i))]) (fun i => [.box 34 (z1r a0), .box 34 z5d, .box 34 [(I64 a0.kind), (I64 s1), (I64 s2), (BO s3), (I64 s4), (PV.v (.float .f64 s5)), (z0f s6), (PV.sl none 5 1 (List.map ofB s7)), (PV.v (.int .u64 s8)), (PV.sl none 29 11 (List.map z1k s9)), (PV.sl none 101 12 (List.map z18 s10)), (z0f s11), (I64 s12), (PV.v (.slice none 0 0)), (PV.sl none 9 1 (List.map z0f s13)), (PV.sl none 4 1 (List.map z28 s14)), (BO s15), (z0f s16)]]) ?_ ?_ ?_
   ·intro i; exact ⟨lbE rfl, ⟨(il_rf rfl), ⟨(il_rf rfl), ⟨(il_rf rfl), ⟨(z01 rfl), trivial⟩⟩⟩⟩, ⟨wfC34, ⟨⟨(z01 rfl), ⟨(z01 rfl), ⟨(z01 rfl), ⟨(z01 rfl), ⟨(z01 rfl), ⟨(z01 rfl), ⟨(z01 rfl), ⟨(z01 rfl), ⟨(z01 rfl), ⟨(z01 rfl), ⟨(z01 rfl), ⟨(z01 rfl), ⟨(z01 rfl), ⟨(z01 rfl), ⟨(z01 rfl), ⟨(z01 rfl), ⟨(z01 rfl), ⟨(z01 rfl), trivial⟩⟩⟩⟩⟩⟩⟩⟩⟩⟩⟩⟩⟩⟩⟩⟩⟩⟩, ⟨⟨(z01 rfl), ⟨(z01 rfl), ⟨(z01 rfl), ⟨(z01 rfl), ⟨(z01 rfl), ⟨(z01 rfl), ⟨(z01 rfl), ⟨(z01 (z0q (fun _ => rfl) _)), ⟨(z01 rfl), ⟨(z01 (z0q z35 _)), ⟨(z01 (z0q z2x _)), ⟨(z01 rfl), ⟨(z01 rfl), ⟨(z01 rfl), ⟨(z01 (z0q (fun _ => rfl) _)), ⟨(z01 (z0q (fun _ => rfl) _)), ⟨(z01 rfl), ⟨(z01 rfl), trivial⟩⟩⟩⟩⟩⟩⟩⟩⟩⟩⟩⟩⟩⟩⟩⟩⟩⟩, trivial⟩⟩⟩⟩
   ·rintro s18 h; replace h : z8r r_q13 a0 s1 s2 s3 s4 s5 s6 s7 s8 s9 s10 s11 s12 s13 s14 s15 s16 s18 = some r := h; unfold z8r at h
    change BW _ _ _ ⟨[(1, (PV.rf 0 0)), (2, (PV.rf 1 0)), (3, (PV.rf 2 0)), (52, (BO s18))], [.box 34 (z1r a0), .box 34 z5d, .box 34 [(I64 a0.kind), (I64 s1), (I64 s2), (BO s3), (I64 s4), (PV.v (.float .f64 s5)), (z0f s6), (PV.sl none 5 1 (List.map ofB s7)), (PV.v (.int .u64 s8)), (PV.sl none 29 11 (List.map z1k s9)), (PV.sl none 101 12 (List.map z18 s10)), (z0f s11), (I64 s12), (PV.v (.slice none 0 0)), (PV.sl none 9 1 (List.map z0f s13)), (PV.sl none 4 1 (List.map z28 s14)), (BO s15), (z0f s16)]], _⟩ _
    refine z05 rfl ?_ ?_
    ·intro hc19; replace h := z02 hc19 h
     refine bR ?_
     refine sS rfl rfl rfl (z0e z1f (i := 3) rfl rfl rfl) ?_
     refine sS rfl rfl rfl ((z0n Try.underlying30 rfl rfl rfl rfl rfl)) ?_
     refine sS rfl rfl rfl (z17 Try.underlying30 rfl rfl) ?_
     refine sMx (z00 ?_)
     refine cBx ?_
     refine z0x ?_
     refine cBx ?_
     refine z83 (s := ⟨_, _, _⟩) 2 13 34 (sz := 18) rfl rfl rfl ?_
     unfold zet at h
     refine z26 (σ := (Nat × (List Typ))) (fun i => [(2, (PV.rf 1 0)), (3, (PV.rf 2 0)), (57, (PV.sl none 34 18 (List.map z19 a0.parts))), (58, (I64 ((((a0.parts).length : Nat) : Int)))), (59, (I64 (((i.1 : Nat) : Int))))]) (fun i => [.dead, .box 34 z5d, .box 34 [(I64 a0.kind), (I64 s1), (I64 s2), (BO s3), (I64 s4), (PV.v (.float .f64 s5)), (z0f s6), (PV.sl none 5 1 (List.map ofB s7)), (PV.v (.int .u64 s8)), (PV.sl none 29 11 (List.map z1k s9)), (PV.sl none 101 12 (List.map z18 s10)), (z0f s11), (I64 s12), (PV.sl (some 3) 34 18 (List.map z19 i.2)), (PV.sl none 9 1 (List.map z0f s13)), (PV.sl none 4 1 (List.map z28 s14)), (BO s15), (z0f s16)], .arr 34 (i.2).length]) (0, []) h ?_ ?_ ?_
     ·intro i; exact ⟨lbE rfl, ⟨(il_rf rfl), ⟨(il_rf rfl), ⟨(z01 (z0q z2h _)), ⟨(z01 rfl), ⟨(z01 rfl), trivial⟩⟩⟩⟩⟩, ⟨⟨(z01 rfl), ⟨(z01 rfl), ⟨(z01 rfl), ⟨(z01 rfl), ⟨(z01 rfl), ⟨(z01 rfl), ⟨(z01 rfl), ⟨(z01 rfl), ⟨(z01 rfl), ⟨(z01 rfl), ⟨(z01 rfl), ⟨(z01 rfl), ⟨(z01 rfl), ⟨(z01 rfl), ⟨(z01 rfl), ⟨(z01 rfl), ⟨(z01 rfl), ⟨(z01 rfl), trivial⟩⟩⟩⟩⟩⟩⟩⟩⟩⟩⟩⟩⟩⟩⟩⟩⟩⟩, ⟨⟨(z01 rfl), ⟨(z01 rfl), ⟨(z01 rfl), ⟨(z01 rfl), ⟨(z01 rfl), ⟨(z01 rfl), ⟨(z01 rfl), ⟨(z01 (z0q (fun _ => rfl) _)), ⟨(z01 rfl), ⟨(z01 (z0q z35 _)), ⟨(z01 (z0q z2x _)), ⟨(z01 rfl), ⟨(z01 rfl), ⟨(z5j rfl (z3j z2h _)), ⟨(z01 (z0q (fun _ => rfl) _)), ⟨(z01 (z0q (fun _ => rfl) _)), ⟨(z01 rfl), ⟨(z01 rfl), trivial⟩⟩⟩⟩⟩⟩⟩⟩⟩⟩⟩⟩⟩⟩⟩⟩⟩⟩, trivial⟩⟩⟩
     ·exact ⟨(.cons .dead (.cons .same (.cons .same (.cons .same .nil)))), (sC rfl (sC rfl (sC rfl (sC rfl (sC rfl z09)))))⟩
     ·rintro g1_f ⟨s20, s21⟩ h; replace h : z5w r_q13 a0 s1 s2 s3 s4 s5 s6 s7 s8 s9 s10 s11 s12 s13 s14 s15 s16 (fun y0 y1 => g1_f (y0, y1)) s20 s21 = some r := h; unfold z5w at h
      change BW _ _ _ ⟨[(2, (PV.rf 1 0)), (3, (PV.rf 2 0)), (57, (PV.sl none 34 18 (List.map z19 a0.parts))), (58, (I64 ((((a0.parts).length : Nat) : Int)))), (59, (I64 (((s20 : Nat) : Int))))], [.dead, .box 34 z5d, .box 34 [(I64 a0.kind), (I64 s1), (I64 s2), (BO s3), (I64 s4), (PV.v (.float .f64 s5)), (z0f s6), (PV.sl none 5 1 (List.map ofB s7)), (PV.v (.int .u64 s8)), (PV.sl none 29 11 (List.map z1k s9)), (PV.sl none 101 12 (List.map z18 s10)), (z0f s11), (I64 s12), (PV.sl (some 3) 34 18 (List.map z19 s21)), (PV.sl none 9 1 (List.map z0f s13)), (PV.sl none 4 1 (List.map z28 s14)), (BO s15), (z0f s16)], .arr 34 (s21).length], _⟩ _
      refine bR ?_
      refine sS rfl rfl rfl ((z06 rfl rfl rfl rfl).cast (y := (BO ((decide (((s20 : Nat) : Int) < (((a0.parts).length : Nat) : Int)))))) rfl rfl) (z00 ?_)
      refine cBx ?_
      refine z0o ?_
      refine z2z (t := 57) rfl fun hb23 => ?_
      try rw [List.length_map] at hb23
      refine z05 rfl ?_ ?_
      ·intro hc22; replace h := z02 hc22 h
       have hc22_ := of_decide_eq_true hc22
       refine z0l ?_
       refine cBx ?_
       refine z0o ?_
       refine z0x ?_
       refine cBx ?_
       refine bR ?_
       obtain ⟨x24, hx24, h⟩ := obind h
       refine sS rfl rfl rfl (z1i (i := s20) Try.underlying30 z0t rfl rfl rfl hx24 (z2m _)) ?_
       refine sS rfl rfl rfl (z1s z0t Try.underlying34 rfl rfl rfl rfl rfl) ?_
       refine sS rfl rfl rfl (z1j z0t rfl) ?_
       refine z11 rfl rfl (z0v z0t rfl rfl rfl rfl rfl rfl (lbE rfl) rfl) ?_
       refine z00 ?_
       refine cBx ?_
       refine z2e 5 [4] [2, 4] mo (by kernel_rfl) ?_
       refine z0y rfl rfl rfl rfl (fun H hp => z0e z1f (i := 3) rfl rfl rfl) ?_
       refine z0y rfl rfl rfl rfl (fun H hp => (z0n Try.underlying30 rfl rfl rfl (hp.at rfl rfl) rfl)) ?_
       refine z0y rfl rfl rfl rfl (fun H hp => (z12 z0t Try.underlying34 rfl rfl rfl (hp.at rfl rfl) rfl rfl)) ?_
       obtain ⟨x25, hx25, h⟩ := obind h
       refine z0y rfl rfl rfl rfl (fun H hp => z0b rfl zzi rfl (.cons (Wk.refl _) .nil) ⟨(z0m x24), trivial⟩ (c_q13 x24 x25 hx25) (z0m x25)) ?_
       refine zab rfl rfl rfl rfl ((z1t (xs := [(z07 x25)]) Try.underlying30 z0t rfl rfl rfl rfl rfl rfl ⟨lbE rfl, lbE rfl⟩ rfl).cast (y := (PV.sl (some 5) 34 18 (List.map z19 ([x25] : (List Typ))))) (by simp only [List.map_cons, List.map_nil, z2m]; try rfl) rfl) ⟨rfl, ⟨rfl, trivial⟩⟩ ?_
       refine z2b ?_
       change AO _ _ _ _ _
       obtain ⟨x26, hx26, h⟩ := obind h
       refine sS rfl rfl rfl (z34 Try.underlying30 z0t rfl Try.underlying30 rfl rfl rfl rfl zkc zdw hx26 rfl) ?_
       refine sS rfl rfl rfl (z0e z1f (i := 3) rfl rfl rfl) ?_
       refine z11 rfl rfl (z0v zij rfl rfl rfl rfl rfl rfl (lbE rfl) rfl) ?_
       refine z00 ?_
       refine cBx ?_
       refine z0s ?_
       refine sS rfl rfl rfl (z1y (k := s20) (c := 1) rfl rfl rfl (by omega)) ?_
       refine sMx (z00 ?_)
       exact ⟨rfl, ((s20 + 1), x26), h, ⟨(.cons .dead (.cons .same (.cons .same (.cons .same .nil)))), (sC rfl (sC rfl (sC rfl (sC rfl (sC rfl z09)))))⟩⟩
      ·intro hc22; replace h := z03 hc22 h
       refine z22 ?_
       exact ⟨rfl, s21, h, ⟨(.cons .dead (.cons .same (.cons (.box (.cons (Wk.refl _) (.cons (Wk.refl _) (.cons (Wk.refl _) (.cons (Wk.refl _) (.cons (Wk.refl _) (.cons (Wk.refl _) (.cons (Wk.refl _) (.cons (Wk.refl _) (.cons (Wk.refl _) (.cons (Wk.refl _) (.cons (Wk.refl _) (.cons (Wk.refl _) (.cons (Wk.refl _) (.cons Wk.tok (.cons (Wk.refl _) (.cons (Wk.refl _) (.cons (Wk.refl _) (.cons (Wk.refl _) .nil))))))))))))))))))) .nil))), (sC rfl (sC rfl z09))⟩⟩
    ·intro hc19; replace h := z03 hc19 h
     refine z0l ?_
     exact ⟨rfl, [], h, ⟨(.cons .dead (.cons .same (.cons (.box (.cons (Wk.refl _) (.cons (Wk.refl _) (.cons (Wk.refl _) (.cons (Wk.refl _) (.cons (Wk.refl _) (.cons (Wk.refl _) (.cons (Wk.refl _) (.cons (Wk.refl _) (.cons (Wk.refl _) (.cons (Wk.refl _) (.cons (Wk.refl _) (.cons (Wk.refl _) (.cons (Wk.refl _) (.cons Wk.nil (.cons (Wk.refl _) (.cons (Wk.refl _) (.cons (Wk.refl _) (.cons (Wk.refl _) .nil))))))))))))))))))) .nil))), (sC rfl (sC rfl z09))⟩⟩
   ·refine bR ?_
    refine sS rfl rfl rfl ((z06 rfl rfl rfl rfl).cast (y := (BO ((a0.kind == 5)))) rfl rfl) ?_
    refine sAx (z00 ?_)
    refine cBx ?_
    refine z05 rfl ?_ ?_
    ·intro hc27; replace h := z02 hc27 h
     refine z0l ?_
     exact ⟨rfl, (a0.kind == 5), h, ⟨(.cons .same (.cons .same (.cons .same .nil))), (sC rfl (sC rfl (sC rfl (sC rfl z09))))⟩⟩
    ·intro hc27; replace h := z03 hc27 h
     refine bR ?_
     refine sS rfl rfl rfl ((z06 rfl rfl rfl rfl).cast (y := (BO ((a0.kind == 6)))) rfl rfl) ?_
     refine sAx (z00 ?_)
     refine cBx ?_
     refine z05 rfl ?_ ?_
     ·intro hc28; replace h := z02 hc28 h
      refine z0l ?_
      exact ⟨rfl, (a0.kind == 6), h, ⟨(.cons .same (.cons .same (.cons .same .nil))), (sC rfl (sC rfl (sC rfl (sC rfl z09))))⟩⟩
     ·intro hc28; replace h := z03 hc28 h
      refine z0s ?_
      refine sS rfl rfl rfl ((z06 rfl rfl rfl rfl).cast (y := (BO ((a0.kind == 7)))) rfl rfl) ?_
      refine sAx (z00 ?_)
      exact ⟨rfl, (a0.kind == 7), h, ⟨(.cons .same (.cons .same (.cons .same .nil))), (sC rfl (sC rfl (sC rfl (sC rfl z09))))⟩⟩
 ·refine bR ?_
  refine sS rfl rfl rfl (z0e z1f (i := 0) rfl rfl rfl) ?_
  refine sS rfl rfl rfl ((z0n Try.underlying3 rfl rfl rfl rfl rfl)) (z00 ?_)
  refine cBx ?_
  refine z0x ?_
  refine cBx ?_
  refine bR ?_
  refine sS rfl rfl rfl ((z06 rfl rfl rfl rfl).cast (y := (BO ((a0.kind == 3)))) rfl rfl) ?_
  refine sAx (z00 ?_)
  refine cBx ?_
  refine z05 rfl ?_ ?_
  ·intro hc29; replace h := z02 hc29 h
   refine z0s ?_
   refine sS rfl rfl rfl (z0e z1f (i := 1) rfl rfl rfl) ?_
   refine sS rfl rfl rfl ((z0n Try.underlying3 rfl rfl rfl rfl rfl)) ?_
   refine sS rfl rfl rfl (z0e z1f (i := 1) rfl rfl rfl) ?_
   refine z11 rfl rfl (z0v zea rfl rfl rfl rfl rfl rfl (lbE rfl) rfl) ?_
   refine z00 ?_
   exact ⟨rfl, (a0.of, 0, false, 0, 0, [], [], 0, [], [], [], 0, [], [], false, []), h, ⟨(.cons .same (.cons .same (.cons (.box (.cons (Wk.refl _) (.cons (Wk.refl _) (.cons (Wk.refl _) (.cons (Wk.refl _) (.cons (Wk.refl _) (.cons (Wk.refl _) (.cons (Wk.refl _) (.cons Wk.nil (.cons (Wk.refl _) (.cons Wk.nil (.cons Wk.nil (.cons (Wk.refl _) (.cons (Wk.refl _) (.cons (Wk.refl _) (.cons Wk.nil (.cons Wk.nil (.cons (Wk.refl _) (.cons (Wk.refl _) .nil))))))))))))))))))) .nil))), (sC rfl (sC rfl (sC rfl z09)))⟩⟩
  ·intro hc29; replace h := z03 hc29 h
   refine bR ?_
   refine sS rfl rfl rfl ((z06 rfl rfl rfl rfl).cast (y := (BO ((a0.kind == 4)))) rfl rfl) ?_
   refine sAx (z00 ?_)
   refine cBx ?_
   refine z05 rfl ?_ ?_
   ·intro hc30; replace h := z02 hc30 h
    refine bR ?_
    refine sS rfl rfl rfl (z0e z1f (i := 2) rfl rfl rfl) ?_
    refine sS rfl rfl rfl ((z12 z2g Try.underlying29 rfl rfl rfl rfl rfl rfl)) ?_
    obtain ⟨x31, hx31, h⟩ := obind h
    refine sS rfl rfl rfl (z0b rfl zvp rfl (.cons (Wk.refl _) .nil) ⟨(z20 (a0.only)), trivial⟩ (ztu (a0.only) x31 hx31) (z04 (ids_V x31.1) (z04 rfl z0r))) ?_
    refine sMx ?_
    refine sS rfl rfl rfl (z0j rfl rfl rfl) ?_
    refine sS rfl rfl rfl (z0j rfl rfl rfl) ?_
    refine sAx ?_
    refine sAx (z00 ?_)
    refine cBx ?_
    refine z0s ?_
    refine sMx ?_
    obtain ⟨x32, hx32, h⟩ := obind h
    refine sS rfl rfl rfl (z0b rfl Z4x rfl (.cons (Wk.refl _) .nil) ⟨(ids_V x31.1), trivial⟩ (Z3p x31.1 x32 hx32) (z04 (z20 x32.1) (z04 rfl z0r))) ?_
    refine sMx ?_
    refine sS rfl rfl rfl (z0j rfl rfl rfl) ?_
    refine sS rfl rfl rfl (z0j rfl rfl rfl) ?_
    refine sS rfl rfl rfl (z0e z1f (i := 2) rfl rfl rfl) ?_
    refine z11 rfl rfl (z0v z2g rfl rfl rfl rfl rfl rfl (lbE rfl) rfl) ?_
    refine z00 ?_
    exact ⟨rfl, (0, (x32.1).kind, (x32.1).bool, (x32.1).int, (x32.1).float, (x32.1).text, (x32.1).bytes, (x32.1).ref, (x32.1).list, (x32.1).fields, (x32.1).cls, (x32.1).ver, [], [], false, []), h, ⟨(.cons .same (.cons .same (.cons (.box (.cons (Wk.refl _) (.cons (Wk.refl _) (.cons (Wk.refl _) (.cons (Wk.refl _) (.cons (Wk.refl _) (.cons (Wk.refl _) (.cons (Wk.refl _) (.cons (Wk.refl _) (.cons (Wk.refl _) (.cons (Wk.refl _) (.cons (Wk.refl _) (.cons (Wk.refl _) (.cons (Wk.refl _) (.cons (Wk.refl _) (.cons Wk.nil (.cons Wk.nil (.cons (Wk.refl _) (.cons (Wk.refl _) .nil))))))))))))))))))) .nil))), (sC rfl (sC rfl (sC rfl z09)))⟩⟩
   ·intro hc30; replace h := z03 hc30 h
    refine bR ?_
    refine sS rfl rfl rfl ((z06 rfl rfl rfl rfl).cast (y := (BO ((a0.kind == 8)))) rfl rfl) ?_
    refine sAx (z00 ?_)
    refine cBx ?_
    refine z05 rfl ?_ ?_
    ·intro hc33; replace h := z02 hc33 h
     refine z0s ?_
     refine sS rfl rfl rfl (z0e z1f (i := 7) rfl rfl rfl) ?_
     refine sS rfl rfl rfl ((z0n Try.underlying9 rfl rfl rfl rfl rfl)) ?_
     refine sS rfl rfl rfl (z0e z1f (i := 7) rfl rfl rfl) ?_
     refine z11 rfl rfl (z0v inf_9 rfl rfl rfl rfl rfl rfl (lbE rfl) rfl) ?_
     refine z00 ?_
     exact ⟨rfl, (0, 0, false, 0, 0, [], [], 0, [], [], [], 0, [], [], false, a0.cls), h, ⟨(.cons .same (.cons .same (.cons (.box (.cons (Wk.refl _) (.cons (Wk.refl _) (.cons (Wk.refl _) (.cons (Wk.refl _) (.cons (Wk.refl _) (.cons (Wk.refl _) (.cons (Wk.refl _) (.cons Wk.nil (.cons (Wk.refl _) (.cons Wk.nil (.cons Wk.nil (.cons (Wk.refl _) (.cons (Wk.refl _) (.cons (Wk.refl _) (.cons Wk.nil (.cons Wk.nil (.cons (Wk.refl _) (.cons (Wk.refl _) .nil))))))))))))))))))) .nil))), (sC rfl (sC rfl (sC rfl z09)))⟩⟩
    ·intro hc33; replace h := z03 hc33 h
     refine bR ?_
     refine sS rfl rfl rfl ((z06 rfl rfl rfl rfl).cast (y := (BO ((a0.kind == 6)))) rfl rfl) ?_
     refine sAx (z00 ?_)
     refine cBx ?_
     refine z05 rfl ?_ ?_
     ·intro hc34; replace h := z02 hc34 h
      refine z2e 12 [9, 11] [0] mo (by kernel_rfl) ?_
      refine z0y rfl rfl rfl rfl (fun H hp => z0e z1f (i := 4) rfl rfl rfl) ?_
      refine z0y rfl rfl rfl rfl (fun H hp => (z0n Try.underlying31 rfl rfl rfl (hp.at rfl rfl) rfl)) ?_
      obtain ⟨x35, hx35, h⟩ := obind h
      refine z0y rfl rfl rfl rfl (fun H hp => z0b rfl Z4w rfl (.cons (Wk.refl _) .nil) ⟨(z0q (fun _ => rfl) a0.names), trivial⟩ (Z44 a0.names x35 hx35) (z0q (fun _ => rfl) x35)) ?_
      refine z0y rfl rfl rfl rfl (fun H hp => z0e z1f (i := 5) rfl rfl rfl) ?_
      refine z0y rfl rfl rfl rfl (fun H hp => (z0n Try.underlying32 rfl rfl rfl (hp.at rfl rfl) rfl)) ?_
      obtain ⟨x36, hx36, h⟩ := obind h
      refine z0y rfl rfl rfl rfl (fun H hp => z0b rfl Z4v rfl (.cons (Wk.refl _) .nil) ⟨(z0q (fun _ => rfl) a0.lacks), trivial⟩ (Z42 a0.lacks x36 hx36) (z0q (fun _ => rfl) x36)) ?_
      refine z0y rfl rfl rfl rfl (fun H hp => z0e z1f (i := 6) rfl rfl rfl) ?_
      refine z0y rfl rfl rfl rfl (fun H hp => (z0n Try.underlying4 rfl rfl rfl (hp.at rfl rfl) rfl)) ?_
      refine z0y rfl rfl rfl rfl (fun H hp => z0e z1f (i := 4) rfl rfl rfl) ?_
      refine zlc rfl rfl rfl (z0v zxl rfl rfl rfl rfl rfl rfl (lbE rfl) rfl) ⟨rfl, trivial⟩ ?_
      refine z0y rfl rfl rfl rfl (fun H hp => z0e z1f (i := 5) rfl rfl rfl) ?_
      refine zlc rfl rfl rfl (z0v zxk rfl rfl rfl rfl rfl rfl (lbE rfl) rfl) ⟨rfl, trivial⟩ ?_
      refine z2b ?_
      change AO _ _ _ _ _
      refine sS rfl rfl rfl (z0e z1f (i := 6) rfl rfl rfl) ?_
      refine z11 rfl rfl (z0v inf_4 rfl rfl rfl rfl rfl rfl (lbE rfl) rfl) ?_
      refine z00 ?_
      exact ⟨rfl, (0, 0, false, 0, 0, [], [], 0, [], [], [], 0, x35, x36, a0.opn, []), h, ⟨(.cons .same (.cons .same (.cons (.box (.cons (Wk.refl _) (.cons (Wk.refl _) (.cons (Wk.refl _) (.cons (Wk.refl _) (.cons (Wk.refl _) (.cons (Wk.refl _) (.cons (Wk.refl _) (.cons Wk.nil (.cons (Wk.refl _) (.cons Wk.nil (.cons Wk.nil (.cons (Wk.refl _) (.cons (Wk.refl _) (.cons (Wk.refl _) (.cons (Wk.refl _) (.cons (Wk.refl _) (.cons (Wk.refl _) (.cons (Wk.refl _) .nil))))))))))))))))))) .nil))), (sC rfl (sC rfl (sC rfl z09)))⟩⟩
     ·intro hc34; replace h := z03 hc34 h
      refine z0l ?_
      exact ⟨rfl, (0, 0, false, 0, 0, [], [], 0, [], [], [], 0, [], [], false, []), h, ⟨(.cons .same (.cons .same (.cons (.box (.cons (Wk.refl _) (.cons (Wk.refl _) (.cons (Wk.refl _) (.cons (Wk.refl _) (.cons (Wk.refl _) (.cons (Wk.refl _) (.cons (Wk.refl _) (.cons Wk.nil (.cons (Wk.refl _) (.cons Wk.nil (.cons Wk.nil (.cons (Wk.refl _) (.cons (Wk.refl _) (.cons (Wk.refl _) (.cons Wk.nil (.cons Wk.nil (.cons (Wk.refl _) (.cons (Wk.refl _) .nil))))))))))))))))))) .nil))), (sC rfl (sC rfl (sC rfl z09)))⟩⟩
theorem C_q13.sound : ∀ (i : C_q13) (r : i.R), z38 C_q13.F i = some r → C_q13.Q i r := by
 refine z4a (Φ := C_q13.F) (Q := C_q13.Q) ?_
 intro g hg i r h
 cases i with
 | k_q13 a0 => exact zfw (fun a0 => g (.k_q13 a0)) (fun a0 r hr => hg (.k_q13 a0) r hr) a0 r h
theorem Z0n (a0 : Typ) (r : Typ) (h : z8t a0 = some r) : z0g Try.prog 44 [(z07 a0)] (z07 r) := C_q13.sound (.k_q13 a0) r h
noncomputable def ze6 (a0 : V) : Option (Typ × Int) :=
 Option.bind (zjo a0) fun x1 =>
 bif (x1.2 != 0) then (
  some ((Typ.mk 0 0 (Term.mk 0 false 0 0 [] [] 0 [] [] [] 0) [] [] [] false []), x1.2)
 ) else (
  Option.bind (zi6 a0) fun x3 =>
  Option.bind (z8t x3) fun x4 =>
  some (x4, 0)
 )
theorem Z0p (a0 : V) (r : (Typ × Int)) (h : ze6 a0 = some r) : z0g Try.prog 26 [(ofV a0)] (PV.tup [(z07 r.1), (I64 r.2)]) := by
 unfold ze6 at h
 refine z0w Try.func26 rfl Try.ntmps26 Try.results26 rfl (z10 ?_)
 change BW _ _ _ ⟨[(0, (ofV a0))], [], _⟩ _
 refine bR ?_
 refine sS rfl rfl rfl (z1j z0t rfl) ?_
 refine sAx (z00 ?_)
 refine cBx ?_
 refine z0o ?_
 refine bR ?_
 refine sMx ?_
 obtain ⟨x1, hx1, h⟩ := obind h
 refine sS rfl rfl rfl (z0b rfl zzh rfl (.cons (Wk.refl _) .nil) ⟨(ids_V a0), trivial⟩ (zye a0 x1 hx1) (z04 rfl (z04 rfl z0r))) ?_
 refine sMx ?_
 refine sS rfl rfl rfl (z0j rfl rfl rfl) ?_
 refine sS rfl rfl rfl (z0j rfl rfl rfl) ?_
 refine sAx ?_
 refine sAx (z00 ?_)
 refine cBx ?_
 refine bR ?_
 refine sMx ?_
 refine sS rfl rfl rfl ((z06 rfl rfl rfl rfl).cast (y := (BO ((x1.2 != 0)))) rfl rfl) (z00 ?_)
 refine cBx ?_
 refine z05 rfl ?_ ?_
 ·intro hc2; replace h := z02 hc2 h
  refine bR ?_
  refine sS rfl rfl rfl (z1w (cs := [(I64 0), (I64 0), (I64 0), (BO false), (I64 0), (PV.v (.float .f64 0)), (z0f []), (PV.v (.slice none 0 0)), (PV.v (.int .u64 0)), (PV.v (.slice none 0 0)), (PV.v (.slice none 0 0)), (z0f []), (I64 0), (PV.v (.slice none 0 0)), (PV.v (.slice none 0 0)), (PV.v (.slice none 0 0)), (BO false), (z0f [])]) z1f z0t rfl rfl rfl rfl) ?_
  refine sMx ?_
  refine z11 rfl rfl (z0v z0t rfl rfl rfl rfl rfl rfl (lbE rfl) rfl) ?_
  refine sAx (z00 ?_)
  refine cBx ?_
  refine z0a ?_
  change ∃ xs, _ = some xs ∧ EndOk _ _ _ _
  obtain rfl := Option.some.inj h
  exact ⟨_, rfl, z0d (y := (PV.tup [(z07 (Typ.mk 0 0 (Term.mk 0 false 0 0 [] [] 0 [] [] [] 0) [] [] [] false [])), (I64 x1.2)])) (Wk.tup (.cons (Wk.agg (.cons (Wk.refl _) (.cons (Wk.refl _) (.cons (Wk.refl _) (.cons (Wk.refl _) (.cons (Wk.refl _) (.cons (Wk.refl _) (.cons (Wk.refl _) (.cons Wk.nil (.cons (Wk.refl _) (.cons Wk.nil (.cons Wk.nil (.cons (Wk.refl _) (.cons (Wk.refl _) (.cons Wk.nil (.cons Wk.nil (.cons Wk.nil (.cons (Wk.refl _) (.cons (Wk.refl _) .nil))))))))))))))))))) (.cons (Wk.refl _) .nil))) (z04 (z0m (Typ.mk 0 0 (Term.mk 0 false 0 0 [] [] 0 [] [] [] 0) [] [] [] false [])) (z04 rfl z0r)) ⟨rfl, rfl⟩⟩
 ·intro hc2; replace h := z03 hc2 h
  refine z0l ?_
  refine cBx ?_
  refine bR ?_
  refine sMx ?_
  obtain ⟨x3, hx3, h⟩ := obind h
  refine sS rfl rfl rfl (z0b rfl zzg rfl (.cons (Wk.refl _) .nil) ⟨(ids_V a0), trivial⟩ (Z3s a0 x3 hx3) (z0m x3)) ?_
  obtain ⟨x4, hx4, h⟩ := obind h
  refine sS rfl rfl rfl (z0b rfl zzi rfl (.cons (Wk.refl _) .nil) ⟨(z0m x3), trivial⟩ (Z0n x3 x4 hx4) (z0m x4)) ?_
  refine z11 rfl rfl (z0v z0t rfl rfl rfl rfl rfl rfl (lbE rfl) rfl) ?_
  refine sAx (z00 ?_)
  refine cBx ?_
  refine z0a ?_
  change ∃ xs, _ = some xs ∧ EndOk _ _ _ _
  obtain rfl := Option.some.inj h
  exact ⟨_, rfl, z0d (y := (PV.tup [(z07 x4), (I64 0)])) (Wk.refl _) (z04 (z0m x4) (z04 rfl z0r)) ⟨rfl, rfl⟩⟩
end Go.Proofs.Ytiapdjdhaclmnaa
