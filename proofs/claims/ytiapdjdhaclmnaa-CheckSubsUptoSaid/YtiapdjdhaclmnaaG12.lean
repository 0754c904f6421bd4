/- Pure functions, and that calls answer as they say. -/
import Derived.Test.YtiapdjdhaclmnaaG11
namespace Go.Proofs.Ytiapdjdhaclmnaa
open Go Aw
set_option linter.unusedVariables false
set_option maxRecDepth 20000
set_option maxHeartbeats 2000000
variable {ι : Type} {ρ : ι → Type}
noncomputable def zw3 (a0 a1 : Typ) : Option (Typ × Bool) :=
 (z4f a0 a1).bind fun x1 =>
 bif x1 then (
 some (a1, true)
 ) else (
 (z4f a1 a0).bind fun x3 =>
 bif x3 then (
 some (a0, true)
 ) else (
 (zru a0).bind fun x5 =>
 (zru a1).bind fun x6 =>
 (zwa ([x5, x6] : (List (List Typ)))).bind fun x7 =>
 (zj9 (Typ.mk 7 0 (Term.mk 0 false 0 0 [] [] 0 [] [] [] 0) x7 [] [] false [])).bind fun x8 =>
 some ((Typ.mk 7 0 (Term.mk 0 false 0 0 [] [] 0 [] [] [] 0) x7 [] [] false []), x8)
 )
 )
theorem Zb2 (a0 a1 : Typ) (r : (Typ × Bool)) (h : zw3 a0 a1 = some r) : z08 Try.prog 43 [(z02 a0), (z02 a1)] (PV.tup [(z02 r.1), (BO r.2)]) := by
 unfold zw3 at h
 refine z0g Try.func43 rfl Try.ntmps43 Try.results43 rfl (z0q ?_)
 change BW _ _ _ ⟨[(0, (z02 a0)), (1, (z02 a1))], [], _⟩ _
 refine bR ?_
 iterate 2 refine sX ?_
 refine sS rfl rfl rfl (z16 z0u rfl) ?_
 refine eX ?_
 refine z09 ?_
 refine z0e ?_
 refine cBx ?_
 refine bR ?_
 iterate 2 refine sX ?_
 obtain ⟨x1, hx1, h⟩ := obind h
 refine sS rfl rfl rfl (z04 rfl zns rfl (wkr (wkr .nil)) ⟨(z0b a0), ⟨(z0b a1), trivial⟩⟩ (Z4h a0 a1 x1 hx1) rfl) ?_
 refine eX ?_
 refine cX h rfl ?_ ?_
 intro hc2 h
 refine bR ?_
 refine sX ?_
 refine z0m rfl rfl (z0d z0u rfl rfl rfl rfl rfl rfl (lbE rfl) rfl) ?_
 refine eX ?_
 obtain rfl := eI h; exact z05 ⟨_, rfl, z1f (y := (PV.tup [(z02 a1), (BO true)])) (Wk.refl _) (z03 (z0b a1) (z03 rfl z0o)) ⟨rfl, rfl⟩⟩
 intro hc2 h
 refine bR ?_
 iterate 2 refine sX ?_
 obtain ⟨x3, hx3, h⟩ := obind h
 refine sS rfl rfl rfl (z04 rfl zns rfl (wkr (wkr .nil)) ⟨(z0b a1), ⟨(z0b a0), trivial⟩⟩ (Z4h a1 a0 x3 hx3) rfl) ?_
 refine eX ?_
 refine cX h rfl ?_ ?_
 intro hc4 h
 refine bR ?_
 refine sX ?_
 refine z0m rfl rfl (z0d z0u rfl rfl rfl rfl rfl rfl (lbE rfl) rfl) ?_
 refine eX ?_
 obtain rfl := eI h; exact z05 ⟨_, rfl, z1f (y := (PV.tup [(z02 a0), (BO true)])) (Wk.refl _) (z03 (z0b a0) (z03 rfl z0o)) ⟨rfl, rfl⟩⟩
 intro hc4 h
 refine z07 ?_
 refine cBx ?_
 refine z09 (z13 8 [7] [0, 1] mo (by kernel_rfl) ?_)
 refine gX ?_
 obtain ⟨x5, hx5, h⟩ := obind h
 refine z1h rfl rfl rfl rfl (fun H hp => z04 rfl Z98 rfl (wkr .nil) ⟨(z0b a0), trivial⟩ (Z7j a0 x5 hx5) (z0c z1m x5)) ?_
 refine gX ?_
 obtain ⟨x6, hx6, h⟩ := obind h
 refine z1h rfl rfl rfl rfl (fun H hp => z04 rfl Z98 rfl (wkr .nil) ⟨(z0b a1), trivial⟩ (Z7j a1 x6 hx6) (z0c z1m x6)) ?_
 refine z1h rfl rfl rfl rfl (fun H hp => (znh (xs := [(PV.sl none 34 18 (List.map ofTyp x5)), (PV.sl none 34 18 (List.map ofTyp x6))]) Try.underlying151 zfv rfl rfl rfl rfl rfl rfl ⟨lbE rfl, lbE rfl⟩ rfl).cast (y := (PV.sl none 30 1 (List.map (zyl 34 18 ofTyp) ([x5, x6] : (List (List Typ)))))) rfl rfl) ?_
 obtain ⟨x7, hx7, h⟩ := obind h
 refine z1h rfl rfl rfl rfl (fun H hp => z04 rfl Zce rfl (wkr .nil) ⟨(z0c (fun a => z0c z1m a) ([x5, x6] : (List (List Typ)))), trivial⟩ (Zbg ([x5, x6] : (List (List Typ))) x7 hx7) (z0c z1m x7)) ?_
 refine z1h rfl rfl rfl rfl (fun H hp => z1x (cs := [(I64 7), (I64 0), (I64 0), (BO false), (I64 0), (PV.v (.float .f64 0)), (ofStr []), (PV.v (.slice none 0 0)), (PV.v (.int .u64 0)), (PV.v (.slice none 0 0)), (PV.v (.slice none 0 0)), (ofStr []), (I64 0), (PV.sl none 34 18 (List.map ofTyp x7)), (PV.v (.slice none 0 0)), (PV.v (.slice none 0 0)), (BO false), (ofStr [])]) z5e z0u rfl rfl rfl rfl) ?_
 refine z7e rfl rfl rfl rfl (z16 z0u rfl) ⟨rfl, ⟨rfl, trivial⟩⟩ ?_
 refine z11 ?_
 change AO _ _ _ _ _
 refine z0m rfl rfl (z0d z0u rfl rfl rfl rfl rfl rfl (lbE rfl) rfl) ?_
 refine z06 ?_
 refine cBx ?_
 refine z09 (z13 3 [] [3] mo (by kernel_rfl) ?_)
 iterate 2 refine gX ?_
 obtain ⟨x8, hx8, h⟩ := obind h
 refine z1h rfl rfl rfl rfl (fun H hp => z04 rfl zxq rfl (.cons (Wk.agg (wkr (wkr (wkr (wkr (wkr (wkr (wkr (wkn (wkr (wkn (wkn (wkr (wkr (wkr (wkn (wkn (wkr (wkr .nil))))))))))))))))))) .nil) ⟨(z0b (Typ.mk 7 0 (Term.mk 0 false 0 0 [] [] 0 [] [] [] 0) x7 [] [] false [])), trivial⟩ (zt2 (Typ.mk 7 0 (Term.mk 0 false 0 0 [] [] 0 [] [] [] 0) x7 [] [] false []) x8 hx8) rfl) ?_
 refine z11 ?_
 change AO _ _ _ _ _
 refine z0m rfl rfl (z0d z0u rfl rfl rfl rfl rfl rfl (lbE rfl) rfl) ?_
 refine eX ?_
 obtain rfl := eI h; exact z05 ⟨_, rfl, z1f (y := (PV.tup [(z02 (Typ.mk 7 0 (Term.mk 0 false 0 0 [] [] 0 [] [] [] 0) x7 [] [] false [])), (BO x8)])) (Wk.tup (.cons (Wk.agg (wkr (wkr (wkr (wkr (wkr (wkr (wkr (wkn (wkr (wkn (wkn (wkr (wkr (wkr (wkn (wkn (wkr (wkr .nil))))))))))))))))))) (wkr .nil))) (z03 (z0b (Typ.mk 7 0 (Term.mk 0 false 0 0 [] [] 0 [] [] [] 0) x7 [] [] false [])) (z03 rfl z0o)) ⟨rfl, rfl⟩⟩
noncomputable def z6e (r_q1i : V → Option Term) (a0 : (List (Str × V))) (g1 : (List (Str × Term)) → Nat → Option (List (Str × Term))) (s1 : (List (Str × Term))) (s2 : Nat) : Option (List (Str × Term)) :=
 bif (decide (((s2 : Nat) : Int) < (((a0).length : Nat) : Int))) then (
 ((a0)[s2]?).bind fun x5 =>
 (r_q1i x5.2).bind fun x6 =>
 (z9f 168 s1 ([(x5.1, x6)] : (List (Str × Term)))).bind fun x7 =>
 g1 x7 (s2 + 1)
 ) else (
 some s1
 )
theorem zci (r_q1i : OF ρ → V → Option Term) (h_r_q1i : ∀ y0, CM (fun G => r_q1i G y0)) (g1 : OF ρ → (List (Str × Term)) → Nat → Option (List (Str × Term))) (h_g1 : ∀ y0 y1, CM (fun G => g1 G y0 y1)) (a0 : (List (Str × V))) (s1 : (List (Str × Term))) (s2 : Nat) : CM (fun G : OF ρ => z6e (r_q1i G) a0 (g1 G) s1 s2) := by
 simp only [z6e]
 repeat (first | exact z01 | exact h_r_q1i _ | exact h_g1 _ _ | refine z0h ?_ ?_ | refine z0i ?_ (fun _ => ?_))
noncomputable def zhn (r_q1i : V → Option Term) (a0 : (List (Str × V))) (s1 : (List (Str × Term))) (s2 : Nat) : Option (List (Str × Term)) :=
 z22 (ι := ((List (Str × Term)) × Nat)) (ρ := fun _ => (List (Str × Term))) (fun g i => z6e r_q1i a0 (fun s1 s2 => g (s1, s2)) i.1 i.2) (s1, s2)
theorem zl5 (r_q1i : V → Option Term) (a0 : (List (Str × V))) (s1 : (List (Str × Term))) (s2 : Nat) : zhn r_q1i a0 s1 s2 = z6e r_q1i a0 (zhn r_q1i a0) s1 s2 :=
 z0t (ι := ((List (Str × Term)) × Nat)) (ρ := fun _ => (List (Str × Term))) (Φ := fun g i => z6e r_q1i a0 (fun s1 s2 => g (s1, s2)) i.1 i.2) (fun i => zci (ι := ((List (Str × Term)) × Nat)) (ρ := fun _ => (List (Str × Term))) (fun _ => r_q1i) (fun _ => z01) (fun g => (fun s1 s2 => g (s1, s2))) (fun _ _ => z0s) a0 i.1 i.2) (s1, s2)
theorem zup (r_q1i : OF ρ → V → Option Term) (h_r_q1i : ∀ y0, CM (fun G => r_q1i G y0)) (a0 : (List (Str × V))) (s1 : (List (Str × Term))) (s2 : Nat) : CM (fun G : OF ρ => zhn (r_q1i G) a0 s1 s2) :=
 z28 (κ := ((List (Str × Term)) × Nat)) (τ := fun _ => (List (Str × Term))) (Φ := fun G g i => z6e (r_q1i G) a0 (fun s1 s2 => g (s1, s2)) i.1 i.2) (fun g i => zci r_q1i h_r_q1i (fun _ => (fun s1 s2 => g (s1, s2))) (fun _ _ => z01) a0 i.1 i.2) (fun G i => zci (ι := ((List (Str × Term)) × Nat)) (ρ := fun _ => (List (Str × Term))) (fun _ => r_q1i G) (fun _ => z01) (fun g => (fun s1 s2 => g (s1, s2))) (fun _ _ => z0s) a0 i.1 i.2) (s1, s2)
noncomputable def zmt (r_q0x : (List (Str × V)) → Option (List (Str × Term))) (r_q1i : V → Option Term) (a0 : (List (Str × V))) : Option (List (Str × Term)) :=
 zhn r_q1i a0 ([]) 0
theorem Z1t (r_q0x : OF ρ → (List (Str × V)) → Option (List (Str × Term))) (h_r_q0x : ∀ y0, CM (fun G => r_q0x G y0)) (r_q1i : OF ρ → V → Option Term) (h_r_q1i : ∀ y0, CM (fun G => r_q1i G y0)) (a0 : (List (Str × V))) : CM (fun G : OF ρ => zmt (r_q0x G) (r_q1i G) a0) := by
 simp only [zmt]
 repeat (first | exact z01 | exact h_r_q0x _ | exact h_r_q1i _ | apply zup | refine z0h ?_ ?_ | refine z0i ?_ (fun _ => ?_) | intro _ | assumption)
noncomputable def z5l (x1 : Int) (s2 : Bool) (s3 : Int) (s4 : Nat) (s5 s6 : Str) (s7 : Int) (s8 : (List Term)) (s9 : (List (Str × Term))) (s10 : Str) (s11 : Int) : Option Term :=
 some (Term.mk x1 s2 s3 s4 s5 s6 s7 s8 s9 s10 s11)
noncomputable def z65 (r_q1i : V → Option Term) (a0 : V) (x1 : Int) (g1 : Nat → (List Term) → Option Term) (s20 : Nat) (s21 : (List Term)) : Option Term :=
 bif (decide (((s20 : Nat) : Int) < ((((a0).asList).length : Nat) : Int))) then (
 (((a0).asList)[s20]?).bind fun x24 =>
 (r_q1i x24).bind fun x25 =>
 (z9f 152 s21 ([x25] : (List Term))).bind fun x26 =>
 g1 (s20 + 1) x26
 ) else (
 z5l x1 false 0 0 ([]) ([]) 0 s21 ([]) ([]) 0
 )
theorem zc9 (r_q1i : OF ρ → V → Option Term) (h_r_q1i : ∀ y0, CM (fun G => r_q1i G y0)) (g1 : OF ρ → Nat → (List Term) → Option Term) (h_g1 : ∀ y0 y1, CM (fun G => g1 G y0 y1)) (a0 : V) (x1 : Int) (s20 : Nat) (s21 : (List Term)) : CM (fun G : OF ρ => z65 (r_q1i G) a0 x1 (g1 G) s20 s21) := by
 simp only [z65]
 repeat (first | exact z01 | exact h_r_q1i _ | exact h_g1 _ _ | apply q1i_j1_cm | refine z0h ?_ ?_ | refine z0i ?_ (fun _ => ?_) | intro _ | assumption)
noncomputable def zhe (r_q1i : V → Option Term) (a0 : V) (x1 : Int) (s20 : Nat) (s21 : (List Term)) : Option Term :=
 z22 (ι := (Nat × (List Term))) (ρ := fun _ => Term) (fun g i => z65 r_q1i a0 x1 (fun s20 s21 => g (s20, s21)) i.1 i.2) (s20, s21)
theorem zkr (r_q1i : V → Option Term) (a0 : V) (x1 : Int) (s20 : Nat) (s21 : (List Term)) : zhe r_q1i a0 x1 s20 s21 = z65 r_q1i a0 x1 (zhe r_q1i a0 x1) s20 s21 :=
 z0t (ι := (Nat × (List Term))) (ρ := fun _ => Term) (Φ := fun g i => z65 r_q1i a0 x1 (fun s20 s21 => g (s20, s21)) i.1 i.2) (fun i => zc9 (ι := (Nat × (List Term))) (ρ := fun _ => Term) (fun _ => r_q1i) (fun _ => z01) (fun g => (fun s20 s21 => g (s20, s21))) (fun _ _ => z0s) a0 x1 i.1 i.2) (s20, s21)
theorem zu6 (r_q1i : OF ρ → V → Option Term) (h_r_q1i : ∀ y0, CM (fun G => r_q1i G y0)) (a0 : V) (x1 : Int) (s20 : Nat) (s21 : (List Term)) : CM (fun G : OF ρ => zhe (r_q1i G) a0 x1 s20 s21) :=
 z28 (κ := (Nat × (List Term))) (τ := fun _ => Term) (Φ := fun G g i => z65 (r_q1i G) a0 x1 (fun s20 s21 => g (s20, s21)) i.1 i.2) (fun g i => zc9 r_q1i h_r_q1i (fun _ => (fun s20 s21 => g (s20, s21))) (fun _ _ => z01) a0 x1 i.1 i.2) (fun G i => zc9 (ι := (Nat × (List Term))) (ρ := fun _ => Term) (fun _ => r_q1i G) (fun _ => z01) (fun g => (fun s20 s21 => g (s20, s21))) (fun _ _ => z0s) a0 x1 i.1 i.2) (s20, s21)
noncomputable def zoh (r_q0x : (List (Str × V)) → Option (List (Str × Term))) (r_q1i : V → Option Term) (a0 : V) : Option Term :=
 (zj8 a0).bind fun x1 =>
 bif (a0).isBool then (
 z5l x1 ((a0).asBool) 0 0 ([]) ([]) 0 ([]) ([]) ([]) 0
 ) else (
 bif (a0).isInt then (
 z5l x1 false ((a0).asInt) 0 ([]) ([]) 0 ([]) ([]) ([]) 0
 ) else (
 bif (a0).isFloat then (
 z5l x1 false 0 ((a0).asFloat) ([]) ([]) 0 ([]) ([]) ([]) 0
 ) else (
 bif (a0).isText then (
 z5l x1 false 0 0 ((a0).asText) ([]) 0 ([]) ([]) ([]) 0
 ) else (
 bif (a0).isBytes then (
 (z9f 1 ([] : Str) ((a0).asBytes)).bind fun x17 =>
 z5l x1 false 0 0 ([]) x17 0 ([]) ([]) ([]) 0
 ) else (
 bif (a0).isRef then (
 z5l x1 false 0 0 ([]) ([]) ((a0).asRef) ([]) ([]) ([]) 0
 ) else (
 bif (a0).isList then (
 zhe r_q1i a0 x1 0 ([])
 ) else (
 bif (a0).isDict then (
 (r_q0x ((a0).asDict)).bind fun x28 =>
 z5l x1 false 0 0 ([]) ([]) 0 ([]) x28 ([]) 0
 ) else (
 bif (a0).isRec then (
 ((a0).asRec).bind fun x30 =>
 (r_q0x x30.fields).bind fun x31 =>
 z5l x1 false 0 0 ([]) ([]) 0 ([]) x31 x30.cls x30.ver
 ) else (
 z5l x1 false 0 0 ([]) ([]) 0 ([]) ([]) ([]) 0
 )
 )
 )
 )
 )
 )
 )
 )
 )
theorem Z1j (r_q0x : OF ρ → (List (Str × V)) → Option (List (Str × Term))) (h_r_q0x : ∀ y0, CM (fun G => r_q0x G y0)) (r_q1i : OF ρ → V → Option Term) (h_r_q1i : ∀ y0, CM (fun G => r_q1i G y0)) (a0 : V) : CM (fun G : OF ρ => zoh (r_q0x G) (r_q1i G) a0) := by
 simp only [zoh]
 repeat (first | exact z01 | exact h_r_q0x _ | exact h_r_q1i _ | apply q1i_j1_cm | apply zu6 | refine z0h ?_ ?_ | refine z0i ?_ (fun _ => ?_) | intro _ | assumption)
inductive C_q0x where
 | k_q0x (a0 : (List (Str × V)))
 | k_q1i (a0 : V)
def C_q0x.R : C_q0x → Type
 | .k_q0x _ => (List (Str × Term))
 | .k_q1i _ => Term
noncomputable def C_q0x.F (g : ∀ i : C_q0x, Option i.R) : ∀ i : C_q0x, Option i.R
 | .k_q0x a0 => zmt (fun a0 => g (.k_q0x a0)) (fun a0 => g (.k_q1i a0)) a0
 | .k_q1i a0 => zoh (fun a0 => g (.k_q0x a0)) (fun a0 => g (.k_q1i a0)) a0
noncomputable def zw4 (a0 : (List (Str × V))) : Option (List (Str × Term)) := z22 C_q0x.F (.k_q0x a0)
noncomputable def zgk (a0 : V) : Option Term := z22 C_q0x.F (.k_q1i a0)
abbrev Zey := fun (g : ∀ i : C_q0x, Option i.R) a0 => g (.k_q0x a0)
theorem Zeo (a0 : _) : CM (ρ := C_q0x.R) (fun g => g (C_q0x.k_q0x a0)) := z0s
abbrev Zex := fun (g : ∀ i : C_q0x, Option i.R) a0 => g (.k_q1i a0)
theorem Zen (a0 : _) : CM (ρ := C_q0x.R) (fun g => g (C_q0x.k_q1i a0)) := z0s
theorem C_q0x.cm (i : C_q0x) : CM (fun g : (∀ i : C_q0x, Option i.R) => C_q0x.F g i) := by
 cases i with
 | k_q0x a0 => exact Z1t Zey Zeo Zex Zen a0
 | k_q1i a0 => exact Z1j Zey Zeo Zex Zen a0
theorem Z9z (a0 : (List (Str × V))) : zw4 a0 = zmt zw4 zgk a0 := z0t C_q0x.cm (.k_q0x a0)
theorem Zd7 (a0 : V) : zgk a0 = zoh zw4 zgk a0 := z0t C_q0x.cm (.k_q1i a0)
def C_q0x.Q : ∀ i : C_q0x, i.R → Prop
 | .k_q0x a0 => fun (r : (List (Str × Term))) => z08 Try.prog 119 [(PV.old (PV.sl none 43 2 (List.map ofFld a0)))] (PV.sl none 101 12 (List.map z0f r))
 | .k_q1i a0 => fun (r : Term) => z08 Try.prog 102 [(PV.old (ofV a0))] (z0v r)
theorem zeg (r_q0x : (List (Str × V)) → Option (List (Str × Term))) (c_q0x : ∀ (a0 : (List (Str × V))) r, r_q0x a0 = some r → z08 Try.prog 119 [(PV.old (PV.sl none 43 2 (List.map ofFld a0)))] (PV.sl none 101 12 (List.map z0f r))) (r_q1i : V → Option Term) (c_q1i : ∀ (a0 : V) r, r_q1i a0 = some r → z08 Try.prog 102 [(PV.old (ofV a0))] (z0v r)) (a0 : (List (Str × V))) (r : (List (Str × Term))) (h : zmt r_q0x r_q1i a0 = some r) : z08 Try.prog 119 [(PV.old (PV.sl none 43 2 (List.map ofFld a0)))] (PV.sl none 101 12 (List.map z0f r)) := by
 unfold zmt at h
 refine z0g Try.func119 rfl Try.ntmps119 Try.results119 rfl (z0q ?_)
 change BW _ _ _ ⟨[(0, (PV.old (PV.sl none 43 2 (List.map ofFld a0))))], [], _⟩ _
 refine bR ?_
 refine eX ?_
 refine bR ?_
 refine eX ?_
 refine z09 ?_
 refine bR ?_
 refine sX ?_
 refine sS rfl rfl rfl (z23 (z4i Try.underlying45 rfl rfl) Sc.v) ?_
 refine eX ?_
 refine z0e ?_
 refine cBx ?_
 refine Z11 (s := ⟨_, _, _⟩) 3 101 (sz := 12) rfl rfl ?_
 unfold zhn at h
 refine z3c (σ := ((List (Str × Term)) × Nat)) (fun i => [(3, (PV.sl (some 0) 101 12 (List.map z0f i.1))), (6, (PV.old (PV.sl none 43 2 (List.map ofFld a0)))), (7, (I64 ((((a0).length : Nat) : Int)))), (8, (I64 (((i.2 : Nat) : Int))))]) (fun i => [.arr 101 (i.1).length]) ([], 0) h ?_ ?_ ?_
 intro i; exact ⟨lbE rfl, ⟨(z8b rfl (z3p z19 _)), ⟨(z00 (z1e (z0c z2i _))), ⟨(z00 rfl), ⟨(z00 rfl), trivial⟩⟩⟩⟩, trivial⟩
 exact jN
 rintro g1_f ⟨s1, s2⟩ h; replace h : z6e r_q1i a0 (fun y0 y1 => g1_f (y0, y1)) s1 s2 = some r := h; unfold z6e at h
 change BW _ _ _ ⟨[(3, (PV.sl (some 0) 101 12 (List.map z0f s1))), (6, (PV.old (PV.sl none 43 2 (List.map ofFld a0)))), (7, (I64 ((((a0).length : Nat) : Int)))), (8, (I64 (((s2 : Nat) : Int))))], [.arr 101 (s1).length], _⟩ _
 refine bR ?_
 refine eX ?_
 refine z09 ?_
 refine zg7 (t := 6) rfl fun hb4 => ?_
 try rw [List.length_map] at hb4
 refine cX h rfl ?_ ?_
 intro hc3 h
 have hc3_ := of_decide_eq_true hc3
 refine z07 ?_
 refine cBx ?_
 refine z09 ?_
 refine z0e ?_
 refine cBx ?_
 refine bR ?_
 obtain ⟨x5, hx5, h⟩ := obind h
 refine sS rfl rfl rfl (z25 (z0w (i := s2) Try.underlying45 z2z rfl rfl rfl hx5 rfl)) ?_
 refine sS rfl rfl rfl (Op1.wk (x := (PV.old (ofFld x5))) (z25 (zb0 z2z Try.underlying43 rfl rfl rfl rfl rfl)) (Wk.opened (cs := [(ofStr x5.1), (ofV x5.2)]) (wko (wkr .nil)))) ?_
 refine sS rfl rfl rfl ((z16 z2z rfl).cast (H'' := [.arr 101 (s1).length, .box 43 [(ofStr []), (ofV V.nil)]]) rfl (by simp only [mk_nil]; rfl)) ?_
 refine z0m rfl rfl (z0d z2z rfl rfl rfl rfl rfl rfl (lbE rfl) (by show List.all [(ofStr x5.1), (PV.old (ofV x5.2))] z9g = true; simp only [List.all_cons, List.all_nil, Z55, zm0, z99, Bool.and_true, Bool.true_and]; try rfl)) ?_
 refine z06 ?_
 refine cBx ?_
 refine z13 8 [7] [1] mo (by kernel_rfl) ?_
 iterate 5 refine gX ?_
 obtain ⟨x6, hx6, h⟩ := obind h
 refine z1h rfl rfl rfl rfl (fun H hp => z04 rfl zxu rfl (wkr .nil) ⟨(z1e (ids_V x5.2)), trivial⟩ (c_q1i x5.2 x6 hx6) (z10 x6)) ?_
 refine z1h rfl rfl rfl rfl (fun H hp => z1x (cs := [(ofStr x5.1), (I64 x6.kind), (BO x6.bool), (I64 x6.int), (PV.v (.float .f64 x6.float)), (ofStr x6.text), (PV.sl none 5 1 (List.map ofB x6.bytes)), (PV.v (.int .u64 x6.ref)), (PV.sl none 29 11 (List.map z0r x6.list)), (PV.sl none 101 12 (List.map z0f x6.fields)), (ofStr x6.cls), (I64 x6.ver)]) zsy z24 rfl rfl rfl rfl) ?_
 refine z7e rfl rfl rfl rfl ((z1q (xs := [(PV.agg [(ofStr x5.1), (I64 x6.kind), (BO x6.bool), (I64 x6.int), (PV.v (.float .f64 x6.float)), (ofStr x6.text), (PV.sl none 5 1 (List.map ofB x6.bytes)), (PV.v (.int .u64 x6.ref)), (PV.sl none 29 11 (List.map z0r x6.list)), (PV.sl none 101 12 (List.map z0f x6.fields)), (ofStr x6.cls), (I64 x6.ver)])]) Try.underlying27 z24 rfl rfl rfl rfl rfl rfl ⟨lbE rfl, lbE rfl⟩ rfl).cast (y := (PV.sl (some 2) 101 12 (List.map z0f ([(x5.1, x6)] : (List (Str × Term)))))) (by simp only [List.map_cons, List.map_nil, z1r]; try rfl) rfl) ⟨rfl, trivial⟩ ?_
 refine z11 ?_
 change AO _ _ _ _ _
 obtain ⟨x7, hx7, h⟩ := obind h
 refine sS rfl rfl rfl (z3k Try.underlying27 z24 rfl Try.underlying27 rfl rfl rfl rfl zmj zg5 hx7 rfl) ?_
 refine eX ?_
 refine z0a ?_
 refine sS rfl rfl rfl (z1b (k := s2) (c := 1) rfl rfl rfl (by omega)) ?_
 refine sX (z06 ?_)
 exact ⟨rfl, (x7, (s2 + 1)), h, jN⟩
 intro hc3 h
 refine z1a ?_
 refine cBx ?_
 refine bR ?_
 refine sX ?_
 refine eX ?_
 obtain rfl := eI h; exact z05 ⟨_, rfl, z1f (y := (PV.sl none 101 12 (List.map z0f s1))) Wk.tok (z0c z19 s1) ⟨rfl, rfl⟩⟩
theorem zim (r_q0x : (List (Str × V)) → Option (List (Str × Term))) (c_q0x : ∀ (a0 : (List (Str × V))) r, r_q0x a0 = some r → z08 Try.prog 119 [(PV.old (PV.sl none 43 2 (List.map ofFld a0)))] (PV.sl none 101 12 (List.map z0f r))) (r_q1i : V → Option Term) (c_q1i : ∀ (a0 : V) r, r_q1i a0 = some r → z08 Try.prog 102 [(PV.old (ofV a0))] (z0v r)) (a0 : V) (r : Term) (h : zoh r_q0x r_q1i a0 = some r) : z08 Try.prog 102 [(PV.old (ofV a0))] (z0v r) := by
 unfold zoh at h
 refine z0g Try.func102 rfl Try.ntmps102 Try.results102 rfl (z0q ?_)
 change BW _ _ _ ⟨[(0, (PV.old (ofV a0)))], [], _⟩ _
 refine bR ?_
 refine sS rfl rfl rfl (z16 z20 rfl) (z06 ?_)
 refine cBx ?_
 refine bR ?_
 refine sX ?_
 obtain ⟨x1, hx1, h⟩ := obind h
 refine sS rfl rfl rfl (z23 (z04 rfl zsf rfl (wkr .nil) ⟨(ids_V a0), trivial⟩ (zr4 a0 x1 hx1) rfl) Sc.v) ?_
 refine sS rfl rfl rfl (z1x (cs := [(I64 x1), (BO false), (I64 0), (PV.v (.float .f64 0)), (ofStr []), (PV.v (.slice none 0 0)), (PV.v (.int .u64 0)), (PV.v (.slice none 0 0)), (PV.v (.slice none 0 0)), (ofStr []), (I64 0)]) zmy z20 rfl rfl rfl rfl) ?_
 refine sS rfl rfl rfl (z16 z20 rfl) ?_
 refine z0m rfl rfl (z0d z20 rfl rfl rfl rfl rfl rfl (lbE rfl) rfl) ?_
 refine z06 ?_
 refine cBx ?_
 refine jX (ι := (Bool × Int × Nat × Str × Str × Int × (List Term) × (List (Str × Term)) × Str × Int)) (fun i => z5l x1 i.1 i.2.1 i.2.2.1 i.2.2.2.1 i.2.2.2.2.1 i.2.2.2.2.2.1 i.2.2.2.2.2.2.1 i.2.2.2.2.2.2.2.1 i.2.2.2.2.2.2.2.2.1 i.2.2.2.2.2.2.2.2.2 = some r) (fun i => [(2, (PV.rf 0 0)), (3, (PV.rf 1 0))]) (fun i => [.box 29 zjt, .box 29 [(I64 x1), (BO i.1), (I64 i.2.1), (PV.v (.float .f64 i.2.2.1)), (ofStr i.2.2.2.1), (PV.sl none 5 1 (List.map ofB i.2.2.2.2.1)), (PV.v (.int .u64 i.2.2.2.2.2.1)), (PV.sl none 29 11 (List.map z0r i.2.2.2.2.2.2.1)), (PV.sl none 101 12 (List.map z0f i.2.2.2.2.2.2.2.1)), (ofStr i.2.2.2.2.2.2.2.2.1), (I64 i.2.2.2.2.2.2.2.2.2)]]) ?_ ?_
 rintro ⟨s2, s3, s4, s5, s6, s7, s8, s9, s10, s11⟩ h; replace h : z5l x1 s2 s3 s4 s5 s6 s7 s8 s9 s10 s11 = some r := h; unfold z5l at h
 change BW _ _ _ ⟨[(2, (PV.rf 0 0)), (3, (PV.rf 1 0))], [.box 29 zjt, .box 29 [(I64 x1), (BO s2), (I64 s3), (PV.v (.float .f64 s4)), (ofStr s5), (PV.sl none 5 1 (List.map ofB s6)), (PV.v (.int .u64 s7)), (PV.sl none 29 11 (List.map z0r s8)), (PV.sl none 101 12 (List.map z0f s9)), (ofStr s10), (I64 s11)]], _⟩ _
 refine bR ?_
 refine sX ?_
 refine z0m rfl rfl (z0d z20 rfl rfl rfl rfl rfl rfl (lbE rfl) rfl) ?_
 refine z06 ?_
 refine cBx ?_
 obtain rfl := eI h; exact z05 ⟨_, rfl, z1f (y := (z0v (Term.mk x1 s2 s3 s4 s5 s6 s7 s8 s9 s10 s11))) (Wk.refl _) (z10 (Term.mk x1 s2 s3 s4 s5 s6 s7 s8 s9 s10 s11)) ⟨rfl, rfl⟩⟩
 refine bR ?_
 refine eX ?_
 refine z0e ?_
 refine cBx ?_
 refine bR ?_
 refine sS rfl rfl rfl (z23 (zcx rfl rfl) (Sc.tup (z3o Sc.v (z3o Sc.v z8e)))) ?_
 refine sX ?_
 refine eX ?_
 refine cX h rfl ?_ ?_
 intro hc12 h
 refine bR ?_
 refine eX ?_
 refine z0a ?_
 iterate 2 refine sX ?_
 refine z0m rfl rfl (z0d inf_4 rfl rfl rfl rfl rfl rfl (lbE rfl) rfl) ?_
 refine z06 ?_
 exact ⟨rfl, ((a0).asBool, 0, 0, [], [], 0, [], [], [], 0), h, ⟨(.cons .same (.cons (.box (wkr (wkr (wkr (wkr (wkr (wkn (wkr (wkn (wkn (wkr (wkr .nil)))))))))))) .nil)), (sC rfl (sC rfl z1i))⟩⟩
 intro hc12 h
 refine bR ?_
 refine sS rfl rfl rfl (z23 (zfk rfl rfl) (Sc.tup (z3o Sc.v (z3o Sc.v z8e)))) ?_
 refine sX ?_
 refine eX ?_
 refine cX h rfl ?_ ?_
 intro hc13 h
 refine bR ?_
 refine eX ?_
 refine z0a ?_
 iterate 2 refine sX ?_
 refine z0m rfl rfl (z0d zse rfl rfl rfl rfl rfl rfl (lbE rfl) rfl) ?_
 refine z06 ?_
 exact ⟨rfl, (false, (a0).asInt, 0, [], [], 0, [], [], [], 0), h, ⟨(.cons .same (.cons (.box (wkr (wkr (wkr (wkr (wkr (wkn (wkr (wkn (wkn (wkr (wkr .nil)))))))))))) .nil)), (sC rfl (sC rfl z1i))⟩⟩
 intro hc13 h
 refine bR ?_
 refine sS rfl rfl rfl (z23 (z9y rfl rfl) (Sc.tup (z3o Sc.v (z3o Sc.v z8e)))) ?_
 refine sX ?_
 refine eX ?_
 refine cX h rfl ?_ ?_
 intro hc14 h
 refine bR ?_
 refine eX ?_
 refine z0a ?_
 iterate 2 refine sX ?_
 refine z0m rfl rfl (z0d zi9 rfl rfl rfl rfl rfl rfl (lbE rfl) rfl) ?_
 refine z06 ?_
 exact ⟨rfl, (false, 0, (a0).asFloat, [], [], 0, [], [], [], 0), h, ⟨(.cons .same (.cons (.box (wkr (wkr (wkr (wkr (wkr (wkn (wkr (wkn (wkn (wkr (wkr .nil)))))))))))) .nil)), (sC rfl (sC rfl z1i))⟩⟩
 intro hc14 h
 refine bR ?_
 refine sS rfl rfl rfl (z23 (z94 rfl rfl) (Sc.tup (z3o Sc.v (z3o Sc.v z8e)))) ?_
 refine sX ?_
 refine eX ?_
 refine cX h rfl ?_ ?_
 intro hc15 h
 refine bR ?_
 refine eX ?_
 refine z0a ?_
 iterate 2 refine sX ?_
 refine z0m rfl rfl (z0d inf_9 rfl rfl rfl rfl rfl rfl (lbE rfl) rfl) ?_
 refine z06 ?_
 exact ⟨rfl, (false, 0, 0, (a0).asText, [], 0, [], [], [], 0), h, ⟨(.cons .same (.cons (.box (wkr (wkr (wkr (wkr (wkr (wkn (wkr (wkn (wkn (wkr (wkr .nil)))))))))))) .nil)), (sC rfl (sC rfl z1i))⟩⟩
 intro hc15 h
 refine bR ?_
 refine sS rfl rfl rfl (z25 (z7w rfl rfl)) ?_
 refine sS rfl rfl rfl (z23 (z3w rfl rfl rfl) Sc.v) ?_
 refine sS rfl rfl rfl (z25 (z3w rfl rfl rfl)) (z06 ?_)
 refine cBx ?_
 refine cX h rfl ?_ ?_
 intro hc16 h
 refine bR ?_
 refine eX ?_
 refine z0a ?_
 refine sS rfl rfl rfl ((z1q (xs := []) Try.underlying23 inf_5 rfl rfl rfl rfl rfl rfl ⟨lbE rfl, lbE rfl⟩ rfl).cast (y := (PV.sl (some 2) 5 1 (List.map ofB ([] : Str)))) rfl rfl) ?_
 refine sX ?_
 obtain ⟨x17, hx17, h⟩ := obind h
 refine sS rfl rfl rfl (zb2 Try.underlying23 inf_5 rfl Try.underlying23 rfl rfl rfl rfl (fun _ => rfl) (fun _ => rfl) hx17 rfl (fun _ => (z3o Sc.v z8e))) ?_
 refine sX ?_
 refine z0m rfl rfl (z0d zi8 rfl rfl rfl rfl rfl rfl (lbE rfl) rfl) ?_
 refine z06 ?_
 exact ⟨rfl, (false, 0, 0, [], x17, 0, [], [], [], 0), h, ⟨(.cons .same (.cons (.box (wkr (wkr (wkr (wkr (wkr (.cons Wk.tok (wkr (wkn (wkn (wkr (wkr .nil)))))))))))) .nil)), (sC rfl (sC rfl z1i))⟩⟩
 intro hc16 h
 refine bR ?_
 refine sS rfl rfl rfl (z23 (zfj rfl rfl) (Sc.tup (z3o Sc.v (z3o Sc.v z8e)))) ?_
 refine sX ?_
 refine eX ?_
 refine cX h rfl ?_ ?_
 intro hc18 h
 refine bR ?_
 refine eX ?_
 refine z0a ?_
 iterate 2 refine sX ?_
 refine z0m rfl rfl (z0d zi7 rfl rfl rfl rfl rfl rfl (lbE rfl) rfl) ?_
 refine z06 ?_
 exact ⟨rfl, (false, 0, 0, [], [], (a0).asRef, [], [], [], 0), h, ⟨(.cons .same (.cons (.box (wkr (wkr (wkr (wkr (wkr (wkn (wkr (wkn (wkn (wkr (wkr .nil)))))))))))) .nil)), (sC rfl (sC rfl z1i))⟩⟩
 intro hc18 h
 refine bR ?_
 refine sS rfl rfl rfl (z25 (z4x rfl rfl)) ?_
 refine sS rfl rfl rfl (z23 (z3w rfl rfl rfl) Sc.v) ?_
 refine sS rfl rfl rfl (z25 (z3w rfl rfl rfl)) (z06 ?_)
 refine cBx ?_
 refine cX h rfl ?_ ?_
 intro hc19 h
 refine bR ?_
 refine eX ?_
 refine bR ?_
 refine sX ?_
 refine sS rfl rfl rfl (z23 (z4i Try.underlying37 rfl rfl) Sc.v) ?_
 refine eX ?_
 refine z0e ?_
 refine cBx ?_
 refine zbj (s := ⟨_, _, _⟩) 1 7 29 (sz := 11) rfl rfl rfl ?_
 unfold zhe at h
 refine z3c (σ := (Nat × (List Term))) (fun i => [(2, (PV.rf 0 0)), (3, (PV.rf 1 0)), (54, (PV.old (PV.sl none 20 1 (List.map ofV (a0).asList)))), (55, (I64 (((((a0).asList).length : Nat) : Int)))), (56, (I64 (((i.1 : Nat) : Int))))]) (fun i => [.box 29 zjt, .box 29 [(I64 x1), (BO false), (I64 0), (PV.v (.float .f64 0)), (ofStr []), (PV.v (.slice none 0 0)), (PV.v (.int .u64 0)), (PV.sl (some 2) 29 11 (List.map z0r i.2)), (PV.v (.slice none 0 0)), (ofStr []), (I64 0)], .arr 29 (i.2).length]) (0, []) h ?_ ?_ ?_
 intro i; exact ⟨lbE rfl, ⟨(il_rf rfl), ⟨(il_rf rfl), ⟨(z00 (z1e (z0c ids_V _))), ⟨(z00 rfl), ⟨(z00 rfl), trivial⟩⟩⟩⟩⟩, ⟨⟨(z00 rfl), ⟨(z00 rfl), ⟨(z00 rfl), ⟨(z00 rfl), ⟨(z00 rfl), ⟨(z00 rfl), ⟨(z00 rfl), ⟨(z00 rfl), ⟨(z00 rfl), ⟨(z00 rfl), ⟨(z00 rfl), trivial⟩⟩⟩⟩⟩⟩⟩⟩⟩⟩⟩, ⟨⟨(z00 rfl), ⟨(z00 rfl), ⟨(z00 rfl), ⟨(z00 rfl), ⟨(z00 rfl), ⟨(z00 rfl), ⟨(z00 rfl), ⟨(z8b rfl (z3p z1p _)), ⟨(z00 rfl), ⟨(z00 rfl), ⟨(z00 rfl), trivial⟩⟩⟩⟩⟩⟩⟩⟩⟩⟩⟩, trivial⟩⟩⟩
 exact jN
 rintro g1_f ⟨s20, s21⟩ h; replace h : z65 r_q1i a0 x1 (fun y0 y1 => g1_f (y0, y1)) s20 s21 = some r := h; unfold z65 at h
 change BW _ _ _ ⟨[(2, (PV.rf 0 0)), (3, (PV.rf 1 0)), (54, (PV.old (PV.sl none 20 1 (List.map ofV (a0).asList)))), (55, (I64 (((((a0).asList).length : Nat) : Int)))), (56, (I64 (((s20 : Nat) : Int))))], [.box 29 zjt, .box 29 [(I64 x1), (BO false), (I64 0), (PV.v (.float .f64 0)), (ofStr []), (PV.v (.slice none 0 0)), (PV.v (.int .u64 0)), (PV.sl (some 2) 29 11 (List.map z0r s21)), (PV.v (.slice none 0 0)), (ofStr []), (I64 0)], .arr 29 (s21).length], _⟩ _
 refine bR ?_
 refine eX ?_
 refine z09 ?_
 refine zg7 (t := 54) rfl fun hb23 => ?_
 try rw [List.length_map] at hb23
 refine cX h rfl ?_ ?_
 intro hc22 h
 have hc22_ := of_decide_eq_true hc22
 refine z07 ?_
 refine cBx ?_
 refine z09 ?_
 refine z0e ?_
 refine cBx ?_
 refine bR ?_
 obtain ⟨x24, hx24, h⟩ := obind h
 refine sS rfl rfl rfl (z25 (z0w (i := s20) Try.underlying37 zbe rfl rfl rfl hx24 rfl)) ?_
 refine sS rfl rfl rfl (z25 (z7y (y := (ofV x24)) Try.underlying20 rfl rfl rfl (by rw [z47]; rfl))) ?_
 refine eX ?_
 refine z13 5 [4] [1] mo (by kernel_rfl) ?_
 iterate 3 refine gX ?_
 obtain ⟨x25, hx25, h⟩ := obind h
 refine z1h rfl rfl rfl rfl (fun H hp => z04 rfl zxu rfl (wkr .nil) ⟨(z1e (ids_V x24)), trivial⟩ (c_q1i x24 x25 hx25) (z10 x25)) ?_
 refine z7e rfl rfl rfl rfl ((z1q (xs := [(z0v x25)]) Try.underlying26 z20 rfl rfl rfl rfl rfl rfl ⟨lbE rfl, lbE rfl⟩ rfl).cast (y := (PV.sl (some 3) 29 11 (List.map z0r ([x25] : (List Term))))) (by simp only [List.map_cons, List.map_nil, z26]; try rfl) rfl) ⟨rfl, trivial⟩ ?_
 refine z11 ?_
 change AO _ _ _ _ _
 obtain ⟨x26, hx26, h⟩ := obind h
 refine sS rfl rfl rfl (z3k Try.underlying26 z20 rfl Try.underlying26 rfl rfl rfl rfl zjm zd4 hx26 rfl) ?_
 refine sX ?_
 refine z0m rfl rfl (z0d Z3e rfl rfl rfl rfl rfl rfl (lbE rfl) rfl) ?_
 refine z06 ?_
 refine cBx ?_
 refine z0a ?_
 refine sS rfl rfl rfl (z1b (k := s20) (c := 1) rfl rfl rfl (by omega)) ?_
 refine sX (z06 ?_)
 exact ⟨rfl, ((s20 + 1), x26), h, jN⟩
 intro hc22 h
 refine z1a ?_
 exact ⟨rfl, (false, 0, 0, [], [], 0, s21, [], [], 0), h, ⟨(.cons .same (.cons (.box (wkr (wkr (wkr (wkr (wkr (wkn (wkr (.cons Wk.tok (wkn (wkr (wkr .nil)))))))))))) .nil)), (sC rfl (sC rfl z1i))⟩⟩
 intro hc19 h
 refine bR ?_
 refine sS rfl rfl rfl (z25 (z4y rfl rfl)) ?_
 refine sS rfl rfl rfl (z23 (z3w rfl rfl rfl) Sc.v) ?_
 refine sS rfl rfl rfl (z25 (z3w rfl rfl rfl)) (z06 ?_)
 refine cBx ?_
 refine cX h rfl ?_ ?_
 intro hc27 h
 refine bR ?_
 refine eX ?_
 refine z0a ?_
 refine sX ?_
 obtain ⟨x28, hx28, h⟩ := obind h
 refine sS rfl rfl rfl (z04 rfl Z3p rfl (wkr .nil) ⟨(z1e (z0c z2i ((a0).asDict))), trivial⟩ (c_q0x ((a0).asDict) x28 hx28) (z0c z19 x28)) ?_
 refine sX ?_
 refine z0m rfl rfl (z0d zqb rfl rfl rfl rfl rfl rfl (lbE rfl) rfl) ?_
 refine z06 ?_
 exact ⟨rfl, (false, 0, 0, [], [], 0, [], x28, [], 0), h, ⟨(.cons .same (.cons (.box (wkr (wkr (wkr (wkr (wkr (wkn (wkr (wkn (wkr (wkr (wkr .nil)))))))))))) .nil)), (sC rfl (sC rfl z1i))⟩⟩
 intro hc27 h
 refine bR ?_
 refine sS rfl rfl rfl (z25 (z75 rfl rfl)) ?_
 refine sS rfl rfl rfl (z23 (z3w rfl rfl rfl) Sc.v) ?_
 refine sS rfl rfl rfl (z25 (z3w rfl rfl rfl)) (z06 ?_)
 refine cBx ?_
 refine cX h rfl ?_ ?_
 intro hc29 h
 refine bR ?_
 refine eX ?_
 refine z13 15 [14] [] mo (by kernel_rfl) ?_
 refine gX ?_
 obtain ⟨x30, hx30, h⟩ := obind h
 refine z1h rfl rfl rfl rfl (fun H hp => z25 (z35 rfl rfl hx30)) ?_
 refine z1h rfl rfl rfl rfl (fun H hp => z25 (zjf zsx (i := 0) rfl rfl rfl)) ?_
 refine z1h rfl rfl rfl rfl (fun H hp => z23 (z7y (y := (ofStr x30.cls)) Try.underlying9 rfl rfl rfl rfl) Sc.v) ?_
 refine gX ?_
 refine z1h rfl rfl rfl rfl (fun H hp => z25 (z35 rfl rfl hx30)) ?_
 refine z1h rfl rfl rfl rfl (fun H hp => z25 (zjf zsx (i := 1) rfl rfl rfl)) ?_
 refine z1h rfl rfl rfl rfl (fun H hp => z23 (z7y (y := (I64 x30.ver)) Try.underlying3 rfl rfl rfl rfl) Sc.v) ?_
 refine gX ?_
 refine z1h rfl rfl rfl rfl (fun H hp => z25 (z35 rfl rfl hx30)) ?_
 refine z1h rfl rfl rfl rfl (fun H hp => z25 (zjf zsx (i := 2) rfl rfl rfl)) ?_
 refine z1h rfl rfl rfl rfl (fun H hp => z25 (z7y (y := (PV.sl none 43 2 (List.map ofFld x30.fields))) Try.underlying45 rfl rfl rfl rfl)) ?_
 obtain ⟨x31, hx31, h⟩ := obind h
 refine z1h rfl rfl rfl rfl (fun H hp => z04 rfl Z3p rfl (wkr .nil) ⟨(z1e (z0c z2i x30.fields)), trivial⟩ (c_q0x x30.fields x31 hx31) (z0c z19 x31)) ?_
 refine gX ?_
 refine z87 rfl rfl rfl (z0d inf_9 rfl rfl rfl rfl rfl rfl (lbE rfl) rfl) trivial ?_
 refine z11 ?_
 change AO _ _ _ _ _
 refine sX ?_
 refine z0m rfl rfl (z0d zfw rfl rfl rfl rfl rfl rfl (lbE rfl) rfl) ?_
 refine sX ?_
 refine z0m rfl rfl (z0d zqb rfl rfl rfl rfl rfl rfl (lbE rfl) rfl) ?_
 refine z06 ?_
 exact ⟨rfl, (false, 0, 0, [], [], 0, [], x31, x30.cls, x30.ver), h, ⟨(.cons .same (.cons (.box (wkr (wkr (wkr (wkr (wkr (wkn (wkr (wkn (wkr (wkr (wkr .nil)))))))))))) .nil)), (sC rfl (sC rfl z1i))⟩⟩
 intro hc29 h
 refine z07 ?_
 exact ⟨rfl, (false, 0, 0, [], [], 0, [], [], [], 0), h, ⟨(.cons .same (.cons (.box (wkr (wkr (wkr (wkr (wkr (wkn (wkr (wkn (wkn (wkr (wkr .nil)))))))))))) .nil)), (sC rfl (sC rfl z1i))⟩⟩
theorem C_q0x.sound : ∀ (i : C_q0x) (r : i.R), z22 C_q0x.F i = some r → C_q0x.Q i r := by
 refine z2r (Φ := C_q0x.F) (Q := C_q0x.Q) ?_
 intro g hg i r h
 cases i with
 | k_q0x a0 => exact zeg (fun a0 => g (.k_q0x a0)) (fun a0 r hr => hg (.k_q0x a0) r hr) (fun a0 => g (.k_q1i a0)) (fun a0 r hr => hg (.k_q1i a0) r hr) a0 r h
 | k_q1i a0 => exact zim (fun a0 => g (.k_q0x a0)) (fun a0 r hr => hg (.k_q0x a0) r hr) (fun a0 => g (.k_q1i a0)) (fun a0 r hr => hg (.k_q1i a0) r hr) a0 r h
theorem Zav (a0 : V) (r : Term) (h : zgk a0 = some r) : z08 Try.prog 102 [(PV.old (ofV a0))] (z0v r) := C_q0x.sound (.k_q1i a0) r h
noncomputable def zvy (a0 : V) : Option (Term × Int) :=
 (zjb a0).bind fun x1 =>
 bif (x1.2 != 0) then (
 some ((Term.mk 0 false 0 0 [] [] 0 [] [] [] 0), x1.2)
 ) else (
 (zgk a0).bind fun x3 =>
 some (x3, 0)
 )
theorem Zaw (a0 : V) (r : (Term × Int)) (h : zvy a0 = some r) : z08 Try.prog 74 [(PV.old (ofV a0))] (PV.tup [(z0v r.1), (I64 r.2)]) := by
 unfold zvy at h
 refine z0g Try.func74 rfl Try.ntmps74 Try.results74 rfl (z0q ?_)
 change BW _ _ _ ⟨[(0, (PV.old (ofV a0)))], [], _⟩ _
 refine bR ?_
 refine sS rfl rfl rfl (z16 z20 rfl) ?_
 refine eX ?_
 refine z09 ?_
 refine bR ?_
 refine sX ?_
 obtain ⟨x1, hx1, h⟩ := obind h
 refine sS rfl rfl rfl (z23 (z04 rfl zxp rfl (wkr .nil) ⟨(ids_V a0), trivial⟩ (zt5 a0 x1 hx1) (z03 rfl (z03 rfl z0o))) (Sc.tup (z3o Sc.v (z3o Sc.v z8e)))) ?_
 iterate 4 refine sX ?_
 refine eX ?_
 refine bR ?_
 refine sX ?_
 refine eX ?_
 refine cX h rfl ?_ ?_
 intro hc2 h
 refine bR ?_
 refine sS rfl rfl rfl (z1x (cs := [(I64 0), (BO false), (I64 0), (PV.v (.float .f64 0)), (ofStr []), (PV.v (.slice none 0 0)), (PV.v (.int .u64 0)), (PV.v (.slice none 0 0)), (PV.v (.slice none 0 0)), (ofStr []), (I64 0)]) zmy z20 rfl rfl rfl rfl) ?_
 refine sX ?_
 refine z0m rfl rfl (z0d z20 rfl rfl rfl rfl rfl rfl (lbE rfl) rfl) ?_
 refine eX ?_
 obtain rfl := eI h; exact z05 ⟨_, rfl, z1f (y := (PV.tup [(z0v (Term.mk 0 false 0 0 [] [] 0 [] [] [] 0)), (I64 x1.2)])) (Wk.tup (.cons (Wk.agg (wkr (wkr (wkr (wkr (wkr (wkn (wkr (wkn (wkn (wkr (wkr .nil)))))))))))) (wkr .nil))) (z03 (z10 (Term.mk 0 false 0 0 [] [] 0 [] [] [] 0)) (z03 rfl z0o)) ⟨rfl, rfl⟩⟩
 intro hc2 h
 refine z07 ?_
 refine cBx ?_
 refine bR ?_
 refine sX ?_
 obtain ⟨x3, hx3, h⟩ := obind h
 refine sS rfl rfl rfl (z04 rfl zxu rfl (wkr .nil) ⟨(z1e (ids_V a0)), trivial⟩ (Zav a0 x3 hx3) (z10 x3)) ?_
 refine z0m rfl rfl (z0d z20 rfl rfl rfl rfl rfl rfl (lbE rfl) rfl) ?_
 refine eX ?_
 obtain rfl := eI h; exact z05 ⟨_, rfl, z1f (y := (PV.tup [(z0v x3), (I64 0)])) (Wk.refl _) (z03 (z10 x3) (z03 rfl z0o)) ⟨rfl, rfl⟩⟩
noncomputable def zw8 (a0 : (List Str)) : Option (List Str) :=
 (z9f 16 ([] : (List Str)) a0).bind fun x2 =>
 some x2
theorem Zbe (a0 r : (List Str)) (h : zw8 a0 = some r) : z08 Try.prog 75 [(PV.old (PV.sl none 9 1 (List.map ofStr a0)))] (PV.sl none 9 1 (List.map ofStr r)) := by
 unfold zw8 at h
 refine z0g Try.func75 rfl Try.ntmps75 Try.results75 rfl (z0q ?_)
 change BW _ _ _ ⟨[(0, (PV.old (PV.sl none 9 1 (List.map ofStr a0))))], [], _⟩ _
 refine bR ?_
 refine eX ?_
 refine z09 ?_
 refine bR ?_
 refine sX ?_
 refine zid rfl rfl rfl Try.underlying31 rfl rfl ?_
 intro nb1 hnb1
 refine z06 ?_
 refine cBx ?_
 cases nb1
 refine zqr rfl ?_
 refine z07 ?_
 refine cBx ?_
 refine bR ?_
 refine sS rfl rfl rfl ((z1q (xs := []) Try.underlying31 inf_9 rfl rfl rfl rfl rfl rfl ⟨lbE rfl, lbE rfl⟩ rfl).cast (y := (PV.sl (some 0) 9 1 (List.map ofStr ([] : (List Str))))) rfl rfl) ?_
 refine sX ?_
 obtain ⟨x2, hx2, h⟩ := obind h
 refine sS rfl rfl rfl (zb2 Try.underlying31 inf_9 rfl Try.underlying31 rfl rfl rfl rfl (fun _ => rfl) (fun _ => rfl) hx2 rfl (fun _ => (z3o Sc.v z8e))) ?_
 refine eX ?_
 obtain rfl := eI h; exact z05 ⟨_, rfl, z1f (y := (PV.sl none 9 1 (List.map ofStr x2))) Wk.tok (z0c (fun _ => rfl) x2) ⟨rfl, rfl⟩⟩
 have hz := List.map_eq_nil_iff.1 (hnb1 rfl)
 rw [hz] at h
 replace h : some [] = some r := h
 refine zqq rfl ?_
 refine bR ?_
 refine eX ?_
 obtain rfl := eI h; exact z05 ⟨_, rfl, z1f (y := (PV.sl none 9 1 (List.map ofStr []))) Wk.nil (z0c (fun _ => rfl) ([])) ⟨rfl, rfl⟩⟩
noncomputable def zw7 (a0 : (List Bool)) : Option (List Bool) :=
 (z9f 1 ([] : (List Bool)) a0).bind fun x2 =>
 some x2
theorem Zbc (a0 r : (List Bool)) (h : zw7 a0 = some r) : z08 Try.prog 76 [(PV.old (PV.sl none 4 1 (List.map z17 a0)))] (PV.sl none 4 1 (List.map z17 r)) := by
 unfold zw7 at h
 refine z0g Try.func76 rfl Try.ntmps76 Try.results76 rfl (z0q ?_)
 change BW _ _ _ ⟨[(0, (PV.old (PV.sl none 4 1 (List.map z17 a0))))], [], _⟩ _
 refine bR ?_
 refine eX ?_
 refine z09 ?_
 refine bR ?_
 refine sX ?_
 refine zid rfl rfl rfl Try.underlying32 rfl rfl ?_
 intro nb1 hnb1
 refine z06 ?_
 refine cBx ?_
 cases nb1
 refine zqr rfl ?_
 refine z07 ?_
 refine cBx ?_
 refine bR ?_
 refine sS rfl rfl rfl ((z1q (xs := []) Try.underlying32 inf_4 rfl rfl rfl rfl rfl rfl ⟨lbE rfl, lbE rfl⟩ rfl).cast (y := (PV.sl (some 0) 4 1 (List.map z17 ([] : (List Bool))))) rfl rfl) ?_
 refine sX ?_
 obtain ⟨x2, hx2, h⟩ := obind h
 refine sS rfl rfl rfl (zb2 Try.underlying32 inf_4 rfl Try.underlying32 rfl rfl rfl rfl (fun _ => rfl) (fun _ => rfl) hx2 rfl (fun _ => (z3o Sc.v z8e))) ?_
 refine eX ?_
 obtain rfl := eI h; exact z05 ⟨_, rfl, z1f (y := (PV.sl none 4 1 (List.map z17 x2))) Wk.tok (z0c (fun _ => rfl) x2) ⟨rfl, rfl⟩⟩
 have hz := List.map_eq_nil_iff.1 (hnb1 rfl)
 rw [hz] at h
 replace h : some [] = some r := h
 refine zqq rfl ?_
 refine bR ?_
 refine eX ?_
 obtain rfl := eI h; exact z05 ⟨_, rfl, z1f (y := (PV.sl none 4 1 (List.map z17 []))) Wk.nil (z0c (fun _ => rfl) ([])) ⟨rfl, rfl⟩⟩
end Go.Proofs.Ytiapdjdhaclmnaa
