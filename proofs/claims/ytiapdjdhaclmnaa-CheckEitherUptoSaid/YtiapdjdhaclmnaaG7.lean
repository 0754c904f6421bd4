/- Pure functions, and that calls answer as they say. Written by gen.py. -/
import Derived.Test.YtiapdjdhaclmnaaG6
namespace Go.Proofs.Ytiapdjdhaclmnaa
open Go Aw
set_option linter.unusedVariables false
set_option linter.unusedSimpArgs false
set_option maxRecDepth 20000
set_option maxHeartbeats 2000000
variable {ι : Type} {ρ : ι → Type}
noncomputable def znp (a0 : Typ) : Option Typ :=
 Option.bind (zde a0) fun x1 =>
 bif (!x1) then (
  some (Typ.mk 1 0 (Term.mk 0 false 0 0 [] [] 0 [] [] [] 0) [] [] [] false [])
 ) else (
  some a0
 )
theorem Z0l (a0 : Typ) (r : Typ) (h : znp a0 = some r) : z0g Try.prog 83 [(z07 a0)] (z07 r) := by
 unfold znp at h
 refine z0w Try.func83 rfl Try.ntmps83 Try.results83 rfl (z10 ?_)
 change BW _ _ _ ⟨[(0, (z07 a0))], [], _⟩ _
 refine bR ?_
 refine sS rfl rfl rfl (z1x rfl rfl rfl) ?_
 refine sS rfl rfl rfl (z1j z0t rfl) (z00 ?_)
 refine cBx ?_
 refine z0o ?_
 refine bR ?_
 refine sS rfl rfl rfl ((z12 z0t Try.underlying34 rfl rfl rfl rfl rfl rfl)) ?_
 obtain ⟨x1, hx1, h⟩ := obind h
 refine sS rfl rfl rfl (z0b rfl zkb rfl (.cons (Wk.refl _) .nil) ⟨(z0m a0), trivial⟩ (zji a0 x1 hx1) rfl) ?_
 refine sS rfl rfl rfl (z2a rfl rfl) (z00 ?_)
 refine cBx ?_
 refine z05 rfl ?_ ?_
 ·intro hc2; replace h := z02 hc2 h
  refine bR ?_
  refine sS rfl rfl rfl (z1w (cs := [(I64 1), (I64 0), (I64 0), (BO false), (I64 0), (PV.v (.float .f64 0)), (z0f []), (PV.v (.slice none 0 0)), (PV.v (.int .u64 0)), (PV.v (.slice none 0 0)), (PV.v (.slice none 0 0)), (z0f []), (I64 0), (PV.v (.slice none 0 0)), (PV.v (.slice none 0 0)), (PV.v (.slice none 0 0)), (BO false), (z0f [])]) z1f z0t rfl rfl rfl rfl) ?_
  refine z11 rfl rfl (z0v z0t rfl rfl rfl rfl rfl rfl (lbE rfl) rfl) ?_
  refine z00 ?_
  refine cBx ?_
  refine z0a ?_
  change ∃ xs, _ = some xs ∧ EndOk _ _ _ _
  obtain rfl := Option.some.inj h
  exact ⟨_, rfl, z0d (y := (z07 (Typ.mk 1 0 (Term.mk 0 false 0 0 [] [] 0 [] [] [] 0) [] [] [] false []))) (Wk.agg (.cons (Wk.refl _) (.cons (Wk.refl _) (.cons (Wk.refl _) (.cons (Wk.refl _) (.cons (Wk.refl _) (.cons (Wk.refl _) (.cons (Wk.refl _) (.cons Wk.nil (.cons (Wk.refl _) (.cons Wk.nil (.cons Wk.nil (.cons (Wk.refl _) (.cons (Wk.refl _) (.cons Wk.nil (.cons Wk.nil (.cons Wk.nil (.cons (Wk.refl _) (.cons (Wk.refl _) .nil))))))))))))))))))) (z0m (Typ.mk 1 0 (Term.mk 0 false 0 0 [] [] 0 [] [] [] 0) [] [] [] false [])) ⟨rfl, rfl⟩⟩
 ·intro hc2; replace h := z03 hc2 h
  refine z0l ?_
  refine cBx ?_
  refine bR ?_
  refine sS rfl rfl rfl ((z12 z0t Try.underlying34 rfl rfl rfl rfl rfl rfl)) ?_
  refine z11 rfl rfl (z0v z0t rfl rfl rfl rfl rfl rfl (lbE rfl) rfl) ?_
  refine z00 ?_
  refine cBx ?_
  refine z0a ?_
  change ∃ xs, _ = some xs ∧ EndOk _ _ _ _
  obtain rfl := Option.some.inj h
  exact ⟨_, rfl, z0d (y := (z07 a0)) (Wk.refl _) (z0m a0) ⟨rfl, rfl⟩⟩
noncomputable def z9d (g1 : Nat → Int → Int → Int → Bool → Int → Nat → Str → Str → Int → (List Term) → (List (Str × Term)) → Str → Int → (List Typ) → (List Str) → (List Bool) → Bool → Str → Option Typ) (s2 : Nat) (s44 : Int) (s45 : Int) (s46 : Int) (s47 : Bool) (s48 : Int) (s49 : Nat) (s50 : Str) (s51 : Str) (s52 : Int) (s53 : (List Term)) (s54 : (List (Str × Term))) (s55 : Str) (s56 : Int) (s57 : (List Typ)) (s58 : (List Str)) (s59 : (List Bool)) (s60 : Bool) (s61 : Str) : Option Typ :=
 g1 (s2 + 1) s44 s45 s46 s47 s48 s49 s50 s51 s52 s53 s54 s55 s56 s57 s58 s59 s60 s61
theorem zpp (g1 : OF ρ → Nat → Int → Int → Int → Bool → Int → Nat → Str → Str → Int → (List Term) → (List (Str × Term)) → Str → Int → (List Typ) → (List Str) → (List Bool) → Bool → Str → Option Typ) (h_g1 : ∀ y0 y1 y2 y3 y4 y5 y6 y7 y8 y9 y10 y11 y12 y13 y14 y15 y16 y17 y18, CM (fun G => g1 G y0 y1 y2 y3 y4 y5 y6 y7 y8 y9 y10 y11 y12 y13 y14 y15 y16 y17 y18)) (s2 : Nat) (s44 : Int) (s45 : Int) (s46 : Int) (s47 : Bool) (s48 : Int) (s49 : Nat) (s50 : Str) (s51 : Str) (s52 : Int) (s53 : (List Term)) (s54 : (List (Str × Term))) (s55 : Str) (s56 : Int) (s57 : (List Typ)) (s58 : (List Str)) (s59 : (List Bool)) (s60 : Bool) (s61 : Str) : CM (fun G : OF ρ => z9d (g1 G) s2 s44 s45 s46 s47 s48 s49 s50 s51 s52 s53 s54 s55 s56 s57 s58 s59 s60 s61) := by
 simp only [z9d]
 repeat (first | exact z0c | exact h_g1 _ _ _ _ _ _ _ _ _ _ _ _ _ _ _ _ _ _ _ | refine z14 ?_ ?_ | refine z15 ?_ (fun _ => ?_))
noncomputable def z9e (g1 : Nat → Int → Int → Int → Bool → Int → Nat → Str → Str → Int → (List Term) → (List (Str × Term)) → Str → Int → (List Typ) → (List Str) → (List Bool) → Bool → Str → Option Typ) (s2 : Nat) (s25 : Bool) (s26 : Int) (s27 : Int) (s28 : Int) (s29 : Bool) (s30 : Int) (s31 : Nat) (s32 : Str) (s33 : Str) (s34 : Int) (s35 : (List Term)) (s36 : (List (Str × Term))) (s37 : Str) (s38 : Int) (s39 : (List Typ)) (s40 : (List Str)) (s41 : (List Bool)) (s42 : Bool) (s43 : Str) : Option Typ :=
 bif (!s25) then (
  z9d g1 s2 1 0 0 false 0 0 ([]) ([]) 0 ([]) ([]) ([]) 0 ([]) ([]) ([]) false ([])
 ) else (
  z9d g1 s2 s26 s27 s28 s29 s30 s31 s32 s33 s34 s35 s36 s37 s38 s39 s40 s41 s42 s43
 )
theorem zpq (g1 : OF ρ → Nat → Int → Int → Int → Bool → Int → Nat → Str → Str → Int → (List Term) → (List (Str × Term)) → Str → Int → (List Typ) → (List Str) → (List Bool) → Bool → Str → Option Typ) (h_g1 : ∀ y0 y1 y2 y3 y4 y5 y6 y7 y8 y9 y10 y11 y12 y13 y14 y15 y16 y17 y18, CM (fun G => g1 G y0 y1 y2 y3 y4 y5 y6 y7 y8 y9 y10 y11 y12 y13 y14 y15 y16 y17 y18)) (s2 : Nat) (s25 : Bool) (s26 : Int) (s27 : Int) (s28 : Int) (s29 : Bool) (s30 : Int) (s31 : Nat) (s32 : Str) (s33 : Str) (s34 : Int) (s35 : (List Term)) (s36 : (List (Str × Term))) (s37 : Str) (s38 : Int) (s39 : (List Typ)) (s40 : (List Str)) (s41 : (List Bool)) (s42 : Bool) (s43 : Str) : CM (fun G : OF ρ => z9e (g1 G) s2 s25 s26 s27 s28 s29 s30 s31 s32 s33 s34 s35 s36 s37 s38 s39 s40 s41 s42 s43) := by
 simp only [z9e]
 repeat (first | exact z0c | exact h_g1 _ _ _ _ _ _ _ _ _ _ _ _ _ _ _ _ _ _ _ | apply zpp | refine z14 ?_ ?_ | refine z15 ?_ (fun _ => ?_) | intro _ | assumption)
noncomputable def z5y (r_q11 : V → Option Typ) (a0 : V) (g1 : Nat → Int → Int → Int → Bool → Int → Nat → Str → Str → Int → (List Term) → (List (Str × Term)) → Str → Int → (List Typ) → (List Str) → (List Bool) → Bool → Str → Option Typ) (s2 : Nat) (s3 : Int) (s4 : Int) (s5 : Int) (s6 : Bool) (s7 : Int) (s8 : Nat) (s9 : Str) (s10 : Str) (s11 : Int) (s12 : (List Term)) (s13 : (List (Str × Term))) (s14 : Str) (s15 : Int) (s16 : (List Typ)) (s17 : (List Str)) (s18 : (List Bool)) (s19 : Bool) (s20 : Str) : Option Typ :=
 bif (decide (((s2 : Nat) : Int) < ((((a0).asList).length : Nat) : Int))) then (
  Option.bind (((a0).asList)[s2]?) fun x23 =>
  Option.bind (r_q11 x23) fun x24 =>
  bif (decide (((s2 : Nat) : Int) > 0)) then (
   Option.bind (znr (Typ.mk s3 s4 (Term.mk s5 s6 s7 s8 s9 s10 s11 s12 s13 s14 s15) s16 s17 s18 s19 s20) x24) fun x64 =>
   z9e g1 s2 x64.2 ((x64.1).kind) ((x64.1).of) (((x64.1).only).kind) (((x64.1).only).bool) (((x64.1).only).int) (((x64.1).only).float) (((x64.1).only).text) (((x64.1).only).bytes) (((x64.1).only).ref) (((x64.1).only).list) (((x64.1).only).fields) (((x64.1).only).cls) (((x64.1).only).ver) ((x64.1).parts) ((x64.1).names) ((x64.1).lacks) ((x64.1).opn) ((x64.1).cls)
  ) else (
   z9e g1 s2 true x24.kind x24.of ((x24.only).kind) ((x24.only).bool) ((x24.only).int) ((x24.only).float) ((x24.only).text) ((x24.only).bytes) ((x24.only).ref) ((x24.only).list) ((x24.only).fields) ((x24.only).cls) ((x24.only).ver) x24.parts x24.names x24.lacks x24.opn x24.cls
  )
 ) else (
  Option.bind (znp (Typ.mk 5 0 (Term.mk 0 false 0 0 [] [] 0 [] [] [] 0) ([(Typ.mk s3 s4 (Term.mk s5 s6 s7 s8 s9 s10 s11 s12 s13 s14 s15) s16 s17 s18 s19 s20)] : (List Typ)) [] [] false [])) fun x65 =>
  some x65
 )
theorem zau (r_q11 : OF ρ → V → Option Typ) (h_r_q11 : ∀ y0, CM (fun G => r_q11 G y0)) (g1 : OF ρ → Nat → Int → Int → Int → Bool → Int → Nat → Str → Str → Int → (List Term) → (List (Str × Term)) → Str → Int → (List Typ) → (List Str) → (List Bool) → Bool → Str → Option Typ) (h_g1 : ∀ y0 y1 y2 y3 y4 y5 y6 y7 y8 y9 y10 y11 y12 y13 y14 y15 y16 y17 y18, CM (fun G => g1 G y0 y1 y2 y3 y4 y5 y6 y7 y8 y9 y10 y11 y12 y13 y14 y15 y16 y17 y18)) (a0 : V) (s2 : Nat) (s3 : Int) (s4 : Int) (s5 : Int) (s6 : Bool) (s7 : Int) (s8 : Nat) (s9 : Str) (s10 : Str) (s11 : Int) (s12 : (List Term)) (s13 : (List (Str × Term))) (s14 : Str) (s15 : Int) (s16 : (List Typ)) (s17 : (List Str)) (s18 : (List Bool)) (s19 : Bool) (s20 : Str) : CM (fun G : OF ρ => z5y (r_q11 G) a0 (g1 G) s2 s3 s4 s5 s6 s7 s8 s9 s10 s11 s12 s13 s14 s15 s16 s17 s18 s19 s20) := by
 simp only [z5y]
 repeat (first | exact z0c | exact h_r_q11 _ | exact h_g1 _ _ _ _ _ _ _ _ _ _ _ _ _ _ _ _ _ _ _ | apply zpq | refine z14 ?_ ?_ | refine z15 ?_ (fun _ => ?_) | intro _ | assumption)
noncomputable def zev (r_q11 : V → Option Typ) (a0 : V) (s2 : Nat) (s3 : Int) (s4 : Int) (s5 : Int) (s6 : Bool) (s7 : Int) (s8 : Nat) (s9 : Str) (s10 : Str) (s11 : Int) (s12 : (List Term)) (s13 : (List (Str × Term))) (s14 : Str) (s15 : Int) (s16 : (List Typ)) (s17 : (List Str)) (s18 : (List Bool)) (s19 : Bool) (s20 : Str) : Option Typ :=
 z38 (ι := (Nat × Int × Int × Int × Bool × Int × Nat × Str × Str × Int × (List Term) × (List (Str × Term)) × Str × Int × (List Typ) × (List Str) × (List Bool) × Bool × Str)) (ρ := fun _ => Typ) (fun g i => z5y r_q11 a0 (fun s2 s3 s4 s5 s6 s7 s8 s9 s10 s11 s12 s13 s14 s15 s16 s17 s18 s19 s20 => g (s2, s3, s4, s5, s6, s7, s8, s9, s10, s11, s12, s13, s14, s15, s16, s17, s18, s19, s20)) i.1 i.2.1 i.2.2.1 i.2.2.2.1 i.2.2.2.2.1 i.2.2.2.2.2.1 i.2.2.2.2.2.2.1 i.2.2.2.2.2.2.2.1 i.2.2.2.2.2.2.2.2.1 i.2.2.2.2.2.2.2.2.2.1 i.2.2.2.2.2.2.2.2.2.2.1 i.2.2.2.2.2.2.2.2.2.2.2.1 i.2.2.2.2.2.2.2.2.2.2.2.2.1 i.2.2.2.2.2.2.2.2.2.2.2.2.2.1 i.2.2.2.2.2.2.2.2.2.2.2.2.2.2.1 i.2.2.2.2.2.2.2.2.2.2.2.2.2.2.2.1 i.2.2.2.2.2.2.2.2.2.2.2.2.2.2.2.2.1 i.2.2.2.2.2.2.2.2.2.2.2.2.2.2.2.2.2.1 i.2.2.2.2.2.2.2.2.2.2.2.2.2.2.2.2.2.2) (s2, s3, s4, s5, s6, s7, s8, s9, s10, s11, s12, s13, s14, s15, s16, s17, s18, s19, s20)
theorem zhf (r_q11 : V → Option Typ) (a0 : V) (s2 : Nat) (s3 : Int) (s4 : Int) (s5 : Int) (s6 : Bool) (s7 : Int) (s8 : Nat) (s9 : Str) (s10 : Str) (s11 : Int) (s12 : (List Term)) (s13 : (List (Str × Term))) (s14 : Str) (s15 : Int) (s16 : (List Typ)) (s17 : (List Str)) (s18 : (List Bool)) (s19 : Bool) (s20 : Str) : zev r_q11 a0 s2 s3 s4 s5 s6 s7 s8 s9 s10 s11 s12 s13 s14 s15 s16 s17 s18 s19 s20 = z5y r_q11 a0 (zev r_q11 a0) s2 s3 s4 s5 s6 s7 s8 s9 s10 s11 s12 s13 s14 s15 s16 s17 s18 s19 s20 :=
 z1d (ι := (Nat × Int × Int × Int × Bool × Int × Nat × Str × Str × Int × (List Term) × (List (Str × Term)) × Str × Int × (List Typ) × (List Str) × (List Bool) × Bool × Str)) (ρ := fun _ => Typ) (Φ := fun g i => z5y r_q11 a0 (fun s2 s3 s4 s5 s6 s7 s8 s9 s10 s11 s12 s13 s14 s15 s16 s17 s18 s19 s20 => g (s2, s3, s4, s5, s6, s7, s8, s9, s10, s11, s12, s13, s14, s15, s16, s17, s18, s19, s20)) i.1 i.2.1 i.2.2.1 i.2.2.2.1 i.2.2.2.2.1 i.2.2.2.2.2.1 i.2.2.2.2.2.2.1 i.2.2.2.2.2.2.2.1 i.2.2.2.2.2.2.2.2.1 i.2.2.2.2.2.2.2.2.2.1 i.2.2.2.2.2.2.2.2.2.2.1 i.2.2.2.2.2.2.2.2.2.2.2.1 i.2.2.2.2.2.2.2.2.2.2.2.2.1 i.2.2.2.2.2.2.2.2.2.2.2.2.2.1 i.2.2.2.2.2.2.2.2.2.2.2.2.2.2.1 i.2.2.2.2.2.2.2.2.2.2.2.2.2.2.2.1 i.2.2.2.2.2.2.2.2.2.2.2.2.2.2.2.2.1 i.2.2.2.2.2.2.2.2.2.2.2.2.2.2.2.2.2.1 i.2.2.2.2.2.2.2.2.2.2.2.2.2.2.2.2.2.2) (fun i => zau (ι := (Nat × Int × Int × Int × Bool × Int × Nat × Str × Str × Int × (List Term) × (List (Str × Term)) × Str × Int × (List Typ) × (List Str) × (List Bool) × Bool × Str)) (ρ := fun _ => Typ) (fun _ => r_q11) (fun _ => z0c) (fun g => (fun s2 s3 s4 s5 s6 s7 s8 s9 s10 s11 s12 s13 s14 s15 s16 s17 s18 s19 s20 => g (s2, s3, s4, s5, s6, s7, s8, s9, s10, s11, s12, s13, s14, s15, s16, s17, s18, s19, s20))) (fun _ _ _ _ _ _ _ _ _ _ _ _ _ _ _ _ _ _ _ => z1c) a0 i.1 i.2.1 i.2.2.1 i.2.2.2.1 i.2.2.2.2.1 i.2.2.2.2.2.1 i.2.2.2.2.2.2.1 i.2.2.2.2.2.2.2.1 i.2.2.2.2.2.2.2.2.1 i.2.2.2.2.2.2.2.2.2.1 i.2.2.2.2.2.2.2.2.2.2.1 i.2.2.2.2.2.2.2.2.2.2.2.1 i.2.2.2.2.2.2.2.2.2.2.2.2.1 i.2.2.2.2.2.2.2.2.2.2.2.2.2.1 i.2.2.2.2.2.2.2.2.2.2.2.2.2.2.1 i.2.2.2.2.2.2.2.2.2.2.2.2.2.2.2.1 i.2.2.2.2.2.2.2.2.2.2.2.2.2.2.2.2.1 i.2.2.2.2.2.2.2.2.2.2.2.2.2.2.2.2.2.1 i.2.2.2.2.2.2.2.2.2.2.2.2.2.2.2.2.2.2) (s2, s3, s4, s5, s6, s7, s8, s9, s10, s11, s12, s13, s14, s15, s16, s17, s18, s19, s20)
theorem zpo (r_q11 : OF ρ → V → Option Typ) (h_r_q11 : ∀ y0, CM (fun G => r_q11 G y0)) (a0 : V) (s2 : Nat) (s3 : Int) (s4 : Int) (s5 : Int) (s6 : Bool) (s7 : Int) (s8 : Nat) (s9 : Str) (s10 : Str) (s11 : Int) (s12 : (List Term)) (s13 : (List (Str × Term))) (s14 : Str) (s15 : Int) (s16 : (List Typ)) (s17 : (List Str)) (s18 : (List Bool)) (s19 : Bool) (s20 : Str) : CM (fun G : OF ρ => zev (r_q11 G) a0 s2 s3 s4 s5 s6 s7 s8 s9 s10 s11 s12 s13 s14 s15 s16 s17 s18 s19 s20) :=
 z3o (κ := (Nat × Int × Int × Int × Bool × Int × Nat × Str × Str × Int × (List Term) × (List (Str × Term)) × Str × Int × (List Typ) × (List Str) × (List Bool) × Bool × Str)) (τ := fun _ => Typ) (Φ := fun G g i => z5y (r_q11 G) a0 (fun s2 s3 s4 s5 s6 s7 s8 s9 s10 s11 s12 s13 s14 s15 s16 s17 s18 s19 s20 => g (s2, s3, s4, s5, s6, s7, s8, s9, s10, s11, s12, s13, s14, s15, s16, s17, s18, s19, s20)) i.1 i.2.1 i.2.2.1 i.2.2.2.1 i.2.2.2.2.1 i.2.2.2.2.2.1 i.2.2.2.2.2.2.1 i.2.2.2.2.2.2.2.1 i.2.2.2.2.2.2.2.2.1 i.2.2.2.2.2.2.2.2.2.1 i.2.2.2.2.2.2.2.2.2.2.1 i.2.2.2.2.2.2.2.2.2.2.2.1 i.2.2.2.2.2.2.2.2.2.2.2.2.1 i.2.2.2.2.2.2.2.2.2.2.2.2.2.1 i.2.2.2.2.2.2.2.2.2.2.2.2.2.2.1 i.2.2.2.2.2.2.2.2.2.2.2.2.2.2.2.1 i.2.2.2.2.2.2.2.2.2.2.2.2.2.2.2.2.1 i.2.2.2.2.2.2.2.2.2.2.2.2.2.2.2.2.2.1 i.2.2.2.2.2.2.2.2.2.2.2.2.2.2.2.2.2.2) (fun g i => zau r_q11 h_r_q11 (fun _ => (fun s2 s3 s4 s5 s6 s7 s8 s9 s10 s11 s12 s13 s14 s15 s16 s17 s18 s19 s20 => g (s2, s3, s4, s5, s6, s7, s8, s9, s10, s11, s12, s13, s14, s15, s16, s17, s18, s19, s20))) (fun _ _ _ _ _ _ _ _ _ _ _ _ _ _ _ _ _ _ _ => z0c) a0 i.1 i.2.1 i.2.2.1 i.2.2.2.1 i.2.2.2.2.1 i.2.2.2.2.2.1 i.2.2.2.2.2.2.1 i.2.2.2.2.2.2.2.1 i.2.2.2.2.2.2.2.2.1 i.2.2.2.2.2.2.2.2.2.1 i.2.2.2.2.2.2.2.2.2.2.1 i.2.2.2.2.2.2.2.2.2.2.2.1 i.2.2.2.2.2.2.2.2.2.2.2.2.1 i.2.2.2.2.2.2.2.2.2.2.2.2.2.1 i.2.2.2.2.2.2.2.2.2.2.2.2.2.2.1 i.2.2.2.2.2.2.2.2.2.2.2.2.2.2.2.1 i.2.2.2.2.2.2.2.2.2.2.2.2.2.2.2.2.1 i.2.2.2.2.2.2.2.2.2.2.2.2.2.2.2.2.2.1 i.2.2.2.2.2.2.2.2.2.2.2.2.2.2.2.2.2.2) (fun G i => zau (ι := (Nat × Int × Int × Int × Bool × Int × Nat × Str × Str × Int × (List Term) × (List (Str × Term)) × Str × Int × (List Typ) × (List Str) × (List Bool) × Bool × Str)) (ρ := fun _ => Typ) (fun _ => r_q11 G) (fun _ => z0c) (fun g => (fun s2 s3 s4 s5 s6 s7 s8 s9 s10 s11 s12 s13 s14 s15 s16 s17 s18 s19 s20 => g (s2, s3, s4, s5, s6, s7, s8, s9, s10, s11, s12, s13, s14, s15, s16, s17, s18, s19, s20))) (fun _ _ _ _ _ _ _ _ _ _ _ _ _ _ _ _ _ _ _ => z1c) a0 i.1 i.2.1 i.2.2.1 i.2.2.2.1 i.2.2.2.2.1 i.2.2.2.2.2.1 i.2.2.2.2.2.2.1 i.2.2.2.2.2.2.2.1 i.2.2.2.2.2.2.2.2.1 i.2.2.2.2.2.2.2.2.2.1 i.2.2.2.2.2.2.2.2.2.2.1 i.2.2.2.2.2.2.2.2.2.2.2.1 i.2.2.2.2.2.2.2.2.2.2.2.2.1 i.2.2.2.2.2.2.2.2.2.2.2.2.2.1 i.2.2.2.2.2.2.2.2.2.2.2.2.2.2.1 i.2.2.2.2.2.2.2.2.2.2.2.2.2.2.2.1 i.2.2.2.2.2.2.2.2.2.2.2.2.2.2.2.2.1 i.2.2.2.2.2.2.2.2.2.2.2.2.2.2.2.2.2.1 i.2.2.2.2.2.2.2.2.2.2.2.2.2.2.2.2.2.2) (s2, s3, s4, s5, s6, s7, s8, s9, s10, s11, s12, s13, s14, s15, s16, s17, s18, s19, s20)
noncomputable def z5x (r_q11 : V → Option Typ) (a0 : V) (g1 : Nat → (List Typ) → (List Str) → (List Bool) → Option Typ) (s67 : Nat) (s68 : (List Typ)) (s69 : (List Str)) (s70 : (List Bool)) : Option Typ :=
 bif (decide (((s67 : Nat) : Int) < ((((a0).asDict).length : Nat) : Int))) then (
  Option.bind (((a0).asDict)[s67]?) fun x73 =>
  Option.bind (zad 16 s69 ([x73.1] : (List Str))) fun x74 =>
  Option.bind (zad 1 s70 ([false] : (List Bool))) fun x75 =>
  Option.bind (r_q11 x73.2) fun x76 =>
  Option.bind (zad 264 s68 ([x76] : (List Typ))) fun x77 =>
  g1 (s67 + 1) x77 x74 x75
 ) else (
  Option.bind (znp (Typ.mk 6 0 (Term.mk 0 false 0 0 [] [] 0 [] [] [] 0) s68 s69 s70 false [])) fun x78 =>
  some x78
 )
theorem zat (r_q11 : OF ρ → V → Option Typ) (h_r_q11 : ∀ y0, CM (fun G => r_q11 G y0)) (g1 : OF ρ → Nat → (List Typ) → (List Str) → (List Bool) → Option Typ) (h_g1 : ∀ y0 y1 y2 y3, CM (fun G => g1 G y0 y1 y2 y3)) (a0 : V) (s67 : Nat) (s68 : (List Typ)) (s69 : (List Str)) (s70 : (List Bool)) : CM (fun G : OF ρ => z5x (r_q11 G) a0 (g1 G) s67 s68 s69 s70) := by
 simp only [z5x]
 repeat (first | exact z0c | exact h_r_q11 _ | exact h_g1 _ _ _ _ | refine z14 ?_ ?_ | refine z15 ?_ (fun _ => ?_))
noncomputable def zeu (r_q11 : V → Option Typ) (a0 : V) (s67 : Nat) (s68 : (List Typ)) (s69 : (List Str)) (s70 : (List Bool)) : Option Typ :=
 z38 (ι := (Nat × (List Typ) × (List Str) × (List Bool))) (ρ := fun _ => Typ) (fun g i => z5x r_q11 a0 (fun s67 s68 s69 s70 => g (s67, s68, s69, s70)) i.1 i.2.1 i.2.2.1 i.2.2.2) (s67, s68, s69, s70)
theorem zhe (r_q11 : V → Option Typ) (a0 : V) (s67 : Nat) (s68 : (List Typ)) (s69 : (List Str)) (s70 : (List Bool)) : zeu r_q11 a0 s67 s68 s69 s70 = z5x r_q11 a0 (zeu r_q11 a0) s67 s68 s69 s70 :=
 z1d (ι := (Nat × (List Typ) × (List Str) × (List Bool))) (ρ := fun _ => Typ) (Φ := fun g i => z5x r_q11 a0 (fun s67 s68 s69 s70 => g (s67, s68, s69, s70)) i.1 i.2.1 i.2.2.1 i.2.2.2) (fun i => zat (ι := (Nat × (List Typ) × (List Str) × (List Bool))) (ρ := fun _ => Typ) (fun _ => r_q11) (fun _ => z0c) (fun g => (fun s67 s68 s69 s70 => g (s67, s68, s69, s70))) (fun _ _ _ _ => z1c) a0 i.1 i.2.1 i.2.2.1 i.2.2.2) (s67, s68, s69, s70)
theorem zpn (r_q11 : OF ρ → V → Option Typ) (h_r_q11 : ∀ y0, CM (fun G => r_q11 G y0)) (a0 : V) (s67 : Nat) (s68 : (List Typ)) (s69 : (List Str)) (s70 : (List Bool)) : CM (fun G : OF ρ => zeu (r_q11 G) a0 s67 s68 s69 s70) :=
 z3o (κ := (Nat × (List Typ) × (List Str) × (List Bool))) (τ := fun _ => Typ) (Φ := fun G g i => z5x (r_q11 G) a0 (fun s67 s68 s69 s70 => g (s67, s68, s69, s70)) i.1 i.2.1 i.2.2.1 i.2.2.2) (fun g i => zat r_q11 h_r_q11 (fun _ => (fun s67 s68 s69 s70 => g (s67, s68, s69, s70))) (fun _ _ _ _ => z0c) a0 i.1 i.2.1 i.2.2.1 i.2.2.2) (fun G i => zat (ι := (Nat × (List Typ) × (List Str) × (List Bool))) (ρ := fun _ => Typ) (fun _ => r_q11 G) (fun _ => z0c) (fun g => (fun s67 s68 s69 s70 => g (s67, s68, s69, s70))) (fun _ _ _ _ => z1c) a0 i.1 i.2.1 i.2.2.1 i.2.2.2) (s67, s68, s69, s70)
noncomputable def zdy (r_q11 : V → Option Typ) (a0 : V) : Option Typ :=
 bif (a0).isList then (
  zev r_q11 a0 0 2 0 0 false 0 0 ([]) ([]) 0 ([]) ([]) ([]) 0 ([]) ([]) ([]) false ([])
 ) else (
  bif (a0).isDict then (
   zeu r_q11 a0 0 ([]) ([]) ([])
  ) else (
   bif (a0).isRec then (
    Option.bind ((a0).asRec) fun x80 =>
    some (Typ.mk 8 0 (Term.mk 0 false 0 0 [] [] 0 [] [] [] 0) [] [] [] false x80.cls)
   ) else (
    Option.bind (znm a0) fun x81 =>
    some (Typ.mk 3 x81 (Term.mk 0 false 0 0 [] [] 0 [] [] [] 0) [] [] [] false [])
   )
  )
 )
theorem zwc (r_q11 : OF ρ → V → Option Typ) (h_r_q11 : ∀ y0, CM (fun G => r_q11 G y0)) (a0 : V) : CM (fun G : OF ρ => zdy (r_q11 G) a0) := by
 simp only [zdy]
 repeat (first | exact z0c | exact h_r_q11 _ | apply zpo | apply zpn | refine z14 ?_ ?_ | refine z15 ?_ (fun _ => ?_) | intro _ | assumption)
inductive C_q11 where
 | k_q11 (a0 : V)
def C_q11.R : C_q11 → Type
 | .k_q11 _ => Typ
noncomputable def C_q11.F (g : ∀ i : C_q11, Option i.R) : ∀ i : C_q11, Option i.R
 | .k_q11 a0 => zdy (fun a0 => g (.k_q11 a0)) a0
noncomputable def zi6 (a0 : V) : Option Typ := z38 C_q11.F (.k_q11 a0)
abbrev Z7a := fun (g : ∀ i : C_q11, Option i.R) a0 => g (.k_q11 a0)
theorem Z77 (a0 : _) : CM (ρ := C_q11.R) (fun g => g (C_q11.k_q11 a0)) := z1c
theorem C_q11.cm (i : C_q11) : CM (fun g : (∀ i : C_q11, Option i.R) => C_q11.F g i) := by
 cases i with
 | k_q11 a0 => exact zwc Z7a Z77 a0
theorem zss (a0 : V) : zi6 a0 = zdy zi6 a0 := z1d C_q11.cm (.k_q11 a0)
def C_q11.Q : ∀ i : C_q11, i.R → Prop
 | .k_q11 a0 => fun (r : Typ) => z0g Try.prog 49 [(ofV a0)] (z07 r)
theorem ze1 (r_q11 : V → Option Typ) (c_q11 : ∀ (a0 : V) r, r_q11 a0 = some r → z0g Try.prog 49 [(ofV a0)] (z07 r)) (a0 : V) (r : Typ) (h : zdy r_q11 a0 = some r) : z0g Try.prog 49 [(ofV a0)] (z07 r) := by
 unfold zdy at h
 refine z0w Try.func49 rfl Try.ntmps49 Try.results49 rfl (z10 ?_)
 change BW _ _ _ ⟨[(0, (ofV a0))], [], _⟩ _
 refine bR ?_
 refine sS rfl rfl rfl (z1j z0t rfl) (z00 ?_)
 refine cBx ?_
 refine z0o ?_
 refine bR ?_
 refine sMx (z00 ?_)
 refine cBx ?_
 refine z0x ?_
 refine cBx ?_
 refine bR ?_
 refine sS rfl rfl rfl (z4f rfl rfl) ?_
 refine sS rfl rfl rfl (z0j rfl rfl rfl) ?_
 refine sS rfl rfl rfl (z0j rfl rfl rfl) (z00 ?_)
 refine cBx ?_
 refine z05 rfl ?_ ?_
 ·intro hc1; replace h := z02 hc1 h
  refine bR ?_
  refine sAx (z00 ?_)
  refine cBx ?_
  refine bR ?_
  refine sS rfl rfl rfl (z1w (cs := [(I64 2), (I64 0), (I64 0), (BO false), (I64 0), (PV.v (.float .f64 0)), (z0f []), (PV.v (.slice none 0 0)), (PV.v (.int .u64 0)), (PV.v (.slice none 0 0)), (PV.v (.slice none 0 0)), (z0f []), (I64 0), (PV.v (.slice none 0 0)), (PV.v (.slice none 0 0)), (PV.v (.slice none 0 0)), (BO false), (z0f [])]) z1f z0t rfl rfl rfl rfl) ?_
  refine sS rfl rfl rfl (z1j z0t rfl) ?_
  refine z11 rfl rfl (z0v z0t rfl rfl rfl rfl rfl rfl (lbE rfl) rfl) ?_
  refine z00 ?_
  refine cBx ?_
  refine z0o ?_
  refine bR ?_
  refine sMx ?_
  refine sS rfl rfl rfl (z17 Try.underlying37 rfl rfl) ?_
  refine sMx (z00 ?_)
  refine cBx ?_
  refine z0x ?_
  refine cBx ?_
  unfold zev at h
  refine z26 (σ := (Nat × Int × Int × Int × Bool × Int × Nat × Str × Str × Int × (List Term) × (List (Str × Term)) × Str × Int × (List Typ) × (List Str) × (List Bool) × Bool × Str)) (fun i => [(2, (PV.rf 0 0)), (4, (PV.rf 1 0)), (19, (PV.sl none 20 1 (List.map ofV (a0).asList))), (20, (I64 (((((a0).asList).length : Nat) : Int)))), (21, (I64 (((i.1 : Nat) : Int))))]) (fun i => [.box 34 z5d, .box 34 [(I64 i.2.1), (I64 i.2.2.1), (I64 i.2.2.2.1), (BO i.2.2.2.2.1), (I64 i.2.2.2.2.2.1), (PV.v (.float .f64 i.2.2.2.2.2.2.1)), (z0f i.2.2.2.2.2.2.2.1), (PV.sl none 5 1 (List.map ofB i.2.2.2.2.2.2.2.2.1)), (PV.v (.int .u64 i.2.2.2.2.2.2.2.2.2.1)), (PV.sl none 29 11 (List.map z1k i.2.2.2.2.2.2.2.2.2.2.1)), (PV.sl none 101 12 (List.map z18 i.2.2.2.2.2.2.2.2.2.2.2.1)), (z0f i.2.2.2.2.2.2.2.2.2.2.2.2.1), (I64 i.2.2.2.2.2.2.2.2.2.2.2.2.2.1), (PV.sl none 34 18 (List.map z19 i.2.2.2.2.2.2.2.2.2.2.2.2.2.2.1)), (PV.sl none 9 1 (List.map z0f i.2.2.2.2.2.2.2.2.2.2.2.2.2.2.2.1)), (PV.sl none 4 1 (List.map z28 i.2.2.2.2.2.2.2.2.2.2.2.2.2.2.2.2.1)), (BO i.2.2.2.2.2.2.2.2.2.2.2.2.2.2.2.2.2.1), (z0f i.2.2.2.2.2.2.2.2.2.2.2.2.2.2.2.2.2.2)]]) (0, 2, 0, 0, false, 0, 0, [], [], 0, [], [], [], 0, [], [], [], false, []) h ?_ ?_ ?_
  ·intro i; exact ⟨lbE rfl, ⟨(il_rf rfl), ⟨(il_rf rfl), ⟨(z01 (z0q ids_V _)), ⟨(z01 rfl), ⟨(z01 rfl), trivial⟩⟩⟩⟩⟩, ⟨⟨(z01 rfl), ⟨(z01 rfl), ⟨(z01 rfl), ⟨(z01 rfl), ⟨(z01 rfl), ⟨(z01 rfl), ⟨(z01 rfl), ⟨(z01 rfl), ⟨(z01 rfl), ⟨(z01 rfl), ⟨(z01 rfl), ⟨(z01 rfl), ⟨(z01 rfl), ⟨(z01 rfl), ⟨(z01 rfl), ⟨(z01 rfl), ⟨(z01 rfl), ⟨(z01 rfl), trivial⟩⟩⟩⟩⟩⟩⟩⟩⟩⟩⟩⟩⟩⟩⟩⟩⟩⟩, ⟨wfC34, trivial⟩⟩⟩
  ·exact ⟨(.cons .same (.cons (.box (.cons (Wk.refl _) (.cons (Wk.refl _) (.cons (Wk.refl _) (.cons (Wk.refl _) (.cons (Wk.refl _) (.cons (Wk.refl _) (.cons (Wk.refl _) (.cons Wk.nil (.cons (Wk.refl _) (.cons Wk.nil (.cons Wk.nil (.cons (Wk.refl _) (.cons (Wk.refl _) (.cons Wk.nil (.cons Wk.nil (.cons Wk.nil (.cons (Wk.refl _) (.cons (Wk.refl _) .nil))))))))))))))))))) .nil)), (sC rfl (sC rfl (sC rfl (sC rfl (sC rfl z09)))))⟩
  ·rintro g1_f ⟨s2, s3, s4, s5, s6, s7, s8, s9, s10, s11, s12, s13, s14, s15, s16, s17, s18, s19, s20⟩ h; replace h : z5y r_q11 a0 (fun y0 y1 y2 y3 y4 y5 y6 y7 y8 y9 y10 y11 y12 y13 y14 y15 y16 y17 y18 => g1_f (y0, y1, y2, y3, y4, y5, y6, y7, y8, y9, y10, y11, y12, y13, y14, y15, y16, y17, y18)) s2 s3 s4 s5 s6 s7 s8 s9 s10 s11 s12 s13 s14 s15 s16 s17 s18 s19 s20 = some r := h; unfold z5y at h
   change BW _ _ _ ⟨[(2, (PV.rf 0 0)), (4, (PV.rf 1 0)), (19, (PV.sl none 20 1 (List.map ofV (a0).asList))), (20, (I64 (((((a0).asList).length : Nat) : Int)))), (21, (I64 (((s2 : Nat) : Int))))], [.box 34 z5d, .box 34 [(I64 s3), (I64 s4), (I64 s5), (BO s6), (I64 s7), (PV.v (.float .f64 s8)), (z0f s9), (PV.sl none 5 1 (List.map ofB s10)), (PV.v (.int .u64 s11)), (PV.sl none 29 11 (List.map z1k s12)), (PV.sl none 101 12 (List.map z18 s13)), (z0f s14), (I64 s15), (PV.sl none 34 18 (List.map z19 s16)), (PV.sl none 9 1 (List.map z0f s17)), (PV.sl none 4 1 (List.map z28 s18)), (BO s19), (z0f s20)]], _⟩ _
   refine bR ?_
   refine sS rfl rfl rfl ((z06 rfl rfl rfl rfl).cast (y := (BO ((decide (((s2 : Nat) : Int) < ((((a0).asList).length : Nat) : Int)))))) rfl rfl) (z00 ?_)
   refine cBx ?_
   refine z0o ?_
   refine z2z (t := 19) rfl fun hb22 => ?_
   try rw [List.length_map] at hb22
   refine z05 rfl ?_ ?_
   ·intro hc21; replace h := z02 hc21 h
    have hc21_ := of_decide_eq_true hc21
    refine z0l ?_
    refine cBx ?_
    refine z0o ?_
    refine z0x ?_
    refine cBx ?_
    refine bR ?_
    refine sMx ?_
    obtain ⟨x23, hx23, h⟩ := obind h
    refine sS rfl rfl rfl (z1i (i := s2) Try.underlying37 z6r rfl rfl rfl hx23 rfl) ?_
    refine sS rfl rfl rfl (z13 (y := (ofV x23)) Try.underlying20 rfl rfl rfl (by rw [z30]; rfl)) ?_
    refine sAx ?_
    refine sAx (z00 ?_)
    refine cBx ?_
    refine bR ?_
    refine sMx ?_
    obtain ⟨x24, hx24, h⟩ := obind h
    refine sS rfl rfl rfl (z0b rfl zzg rfl (.cons (Wk.refl _) .nil) ⟨(ids_V x23), trivial⟩ (c_q11 x23 x24 hx24) (z0m x24)) ?_
    refine sS rfl rfl rfl (z1j z0t rfl) ?_
    refine z11 rfl rfl (z0v z0t rfl rfl rfl rfl rfl rfl (lbE rfl) rfl) ?_
    refine sAx (z00 ?_)
    refine cBx ?_
    refine z1n (ι := (Bool × Int × Int × Int × Bool × Int × Nat × Str × Str × Int × (List Term) × (List (Str × Term)) × Str × Int × (List Typ) × (List Str) × (List Bool) × Bool × Str)) (fun i => z9e (fun y0 y1 y2 y3 y4 y5 y6 y7 y8 y9 y10 y11 y12 y13 y14 y15 y16 y17 y18 => g1_f (y0, y1, y2, y3, y4, y5, y6, y7, y8, y9, y10, y11, y12, y13, y14, y15, y16, y17, y18)) s2 i.1 i.2.1 i.2.2.1 i.2.2.2.1 i.2.2.2.2.1 i.2.2.2.2.2.1 i.2.2.2.2.2.2.1 i.2.2.2.2.2.2.2.1 i.2.2.2.2.2.2.2.2.1 i.2.2.2.2.2.2.2.2.2.1 i.2.2.2.2.2.2.2.2.2.2.1 i.2.2.2.2.2.2.2.2.2.2.2.1 i.2.2.2.2.2.2.2.2.2.2.2.2.1 i.2.2.2.2.2.2.2.2.2.2.2.2.2.1 i.2.2.2.2.2.2.2.2.2.2.2.2.2.2.1 i.2.2.2.2.2.2.2.2.2.2.2.2.2.2.2.1 i.2.2.2.2.2.2.2.2.2.2.2.2.2.2.2.2.1 i.2.2.2.2.2.2.2.2.2.2.2.2.2.2.2.2.2.1 i.2.2.2.2.2.2.2.2.2.2.2.2.2.2.2.2.2.2 = some r) (fun i => [(2, (PV.rf 0 0)), (4, (PV.rf 1 0)), (7, (PV.rf 2 0)), (8, (BO i.1)), (19, (PV.sl none 20 1 (List.map ofV (a0).asList))), (20, (I64 (((((a0).asList).length : Nat) : Int)))), (21, (I64 (((s2 : Nat) : Int))))]) (fun i => [.box 34 z5d, .box 34 [(I64 s3), (I64 s4), (I64 s5), (BO s6), (I64 s7), (PV.v (.float .f64 s8)), (z0f s9), (PV.sl none 5 1 (List.map ofB s10)), (PV.v (.int .u64 s11)), (PV.sl none 29 11 (List.map z1k s12)), (PV.sl none 101 12 (List.map z18 s13)), (z0f s14), (I64 s15), (PV.sl none 34 18 (List.map z19 s16)), (PV.sl none 9 1 (List.map z0f s17)), (PV.sl none 4 1 (List.map z28 s18)), (BO s19), (z0f s20)], .box 34 [(I64 i.2.1), (I64 i.2.2.1), (I64 i.2.2.2.1), (BO i.2.2.2.2.1), (I64 i.2.2.2.2.2.1), (PV.v (.float .f64 i.2.2.2.2.2.2.1)), (z0f i.2.2.2.2.2.2.2.1), (PV.sl none 5 1 (List.map ofB i.2.2.2.2.2.2.2.2.1)), (PV.v (.int .u64 i.2.2.2.2.2.2.2.2.2.1)), (PV.sl none 29 11 (List.map z1k i.2.2.2.2.2.2.2.2.2.2.1)), (PV.sl none 101 12 (List.map z18 i.2.2.2.2.2.2.2.2.2.2.2.1)), (z0f i.2.2.2.2.2.2.2.2.2.2.2.2.1), (I64 i.2.2.2.2.2.2.2.2.2.2.2.2.2.1), (PV.sl none 34 18 (List.map z19 i.2.2.2.2.2.2.2.2.2.2.2.2.2.2.1)), (PV.sl none 9 1 (List.map z0f i.2.2.2.2.2.2.2.2.2.2.2.2.2.2.2.1)), (PV.sl none 4 1 (List.map z28 i.2.2.2.2.2.2.2.2.2.2.2.2.2.2.2.2.1)), (BO i.2.2.2.2.2.2.2.2.2.2.2.2.2.2.2.2.2.1), (z0f i.2.2.2.2.2.2.2.2.2.2.2.2.2.2.2.2.2.2)]]) ?_ ?_ ?_
    ·intro i; exact ⟨lbE rfl, ⟨(il_rf rfl), ⟨(il_rf rfl), ⟨(il_rf rfl), ⟨(z01 rfl), ⟨(z01 (z0q ids_V _)), ⟨(z01 rfl), ⟨(z01 rfl), trivial⟩⟩⟩⟩⟩⟩⟩, ⟨⟨(z01 rfl), ⟨(z01 rfl), ⟨(z01 rfl), ⟨(z01 rfl), ⟨(z01 rfl), ⟨(z01 rfl), ⟨(z01 rfl), ⟨(z01 rfl), ⟨(z01 rfl), ⟨(z01 rfl), ⟨(z01 rfl), ⟨(z01 rfl), ⟨(z01 rfl), ⟨(z01 rfl), ⟨(z01 rfl), ⟨(z01 rfl), ⟨(z01 rfl), ⟨(z01 rfl), trivial⟩⟩⟩⟩⟩⟩⟩⟩⟩⟩⟩⟩⟩⟩⟩⟩⟩⟩, ⟨wfC34, ⟨wfC34, trivial⟩⟩⟩⟩
    ·rintro ⟨s25, s26, s27, s28, s29, s30, s31, s32, s33, s34, s35, s36, s37, s38, s39, s40, s41, s42, s43⟩ h; replace h : z9e (fun y0 y1 y2 y3 y4 y5 y6 y7 y8 y9 y10 y11 y12 y13 y14 y15 y16 y17 y18 => g1_f (y0, y1, y2, y3, y4, y5, y6, y7, y8, y9, y10, y11, y12, y13, y14, y15, y16, y17, y18)) s2 s25 s26 s27 s28 s29 s30 s31 s32 s33 s34 s35 s36 s37 s38 s39 s40 s41 s42 s43 = some r := h; unfold z9e at h
     change BW _ _ _ ⟨[(2, (PV.rf 0 0)), (4, (PV.rf 1 0)), (7, (PV.rf 2 0)), (8, (BO s25)), (19, (PV.sl none 20 1 (List.map ofV (a0).asList))), (20, (I64 (((((a0).asList).length : Nat) : Int)))), (21, (I64 (((s2 : Nat) : Int))))], [.box 34 z5d, .box 34 [(I64 s3), (I64 s4), (I64 s5), (BO s6), (I64 s7), (PV.v (.float .f64 s8)), (z0f s9), (PV.sl none 5 1 (List.map ofB s10)), (PV.v (.int .u64 s11)), (PV.sl none 29 11 (List.map z1k s12)), (PV.sl none 101 12 (List.map z18 s13)), (z0f s14), (I64 s15), (PV.sl none 34 18 (List.map z19 s16)), (PV.sl none 9 1 (List.map z0f s17)), (PV.sl none 4 1 (List.map z28 s18)), (BO s19), (z0f s20)], .box 34 [(I64 s26), (I64 s27), (I64 s28), (BO s29), (I64 s30), (PV.v (.float .f64 s31)), (z0f s32), (PV.sl none 5 1 (List.map ofB s33)), (PV.v (.int .u64 s34)), (PV.sl none 29 11 (List.map z1k s35)), (PV.sl none 101 12 (List.map z18 s36)), (z0f s37), (I64 s38), (PV.sl none 34 18 (List.map z19 s39)), (PV.sl none 9 1 (List.map z0f s40)), (PV.sl none 4 1 (List.map z28 s41)), (BO s42), (z0f s43)]], _⟩ _
     refine z1n (ι := (Int × Int × Int × Bool × Int × Nat × Str × Str × Int × (List Term) × (List (Str × Term)) × Str × Int × (List Typ) × (List Str) × (List Bool) × Bool × Str)) (fun i => z9d (fun y0 y1 y2 y3 y4 y5 y6 y7 y8 y9 y10 y11 y12 y13 y14 y15 y16 y17 y18 => g1_f (y0, y1, y2, y3, y4, y5, y6, y7, y8, y9, y10, y11, y12, y13, y14, y15, y16, y17, y18)) s2 i.1 i.2.1 i.2.2.1 i.2.2.2.1 i.2.2.2.2.1 i.2.2.2.2.2.1 i.2.2.2.2.2.2.1 i.2.2.2.2.2.2.2.1 i.2.2.2.2.2.2.2.2.1 i.2.2.2.2.2.2.2.2.2.1 i.2.2.2.2.2.2.2.2.2.2.1 i.2.2.2.2.2.2.2.2.2.2.2.1 i.2.2.2.2.2.2.2.2.2.2.2.2.1 i.2.2.2.2.2.2.2.2.2.2.2.2.2.1 i.2.2.2.2.2.2.2.2.2.2.2.2.2.2.1 i.2.2.2.2.2.2.2.2.2.2.2.2.2.2.2.1 i.2.2.2.2.2.2.2.2.2.2.2.2.2.2.2.2.1 i.2.2.2.2.2.2.2.2.2.2.2.2.2.2.2.2.2 = some r) (fun i => [(2, (PV.rf 0 0)), (4, (PV.rf 1 0)), (7, (PV.rf 2 0)), (19, (PV.sl none 20 1 (List.map ofV (a0).asList))), (20, (I64 (((((a0).asList).length : Nat) : Int)))), (21, (I64 (((s2 : Nat) : Int))))]) (fun i => [.box 34 z5d, .box 34 [(I64 s3), (I64 s4), (I64 s5), (BO s6), (I64 s7), (PV.v (.float .f64 s8)), (z0f s9), (PV.sl none 5 1 (List.map ofB s10)), (PV.v (.int .u64 s11)), (PV.sl none 29 11 (List.map z1k s12)), (PV.sl none 101 12 (List.map z18 s13)), (z0f s14), (I64 s15), (PV.sl none 34 18 (List.map z19 s16)), (PV.sl none 9 1 (List.map z0f s17)), (PV.sl none 4 1 (List.map z28 s18)), (BO s19), (z0f s20)], .box 34 [(I64 i.1), (I64 i.2.1), (I64 i.2.2.1), (BO i.2.2.2.1), (I64 i.2.2.2.2.1), (PV.v (.float .f64 i.2.2.2.2.2.1)), (z0f i.2.2.2.2.2.2.1), (PV.sl none 5 1 (List.map ofB i.2.2.2.2.2.2.2.1)), (PV.v (.int .u64 i.2.2.2.2.2.2.2.2.1)), (PV.sl none 29 11 (List.map z1k i.2.2.2.2.2.2.2.2.2.1)), (PV.sl none 101 12 (List.map z18 i.2.2.2.2.2.2.2.2.2.2.1)), (z0f i.2.2.2.2.2.2.2.2.2.2.2.1), (I64 i.2.2.2.2.2.2.2.2.2.2.2.2.1), (PV.sl none 34 18 (List.map z19 i.2.2.2.2.2.2.2.2.2.2.2.2.2.1)), (PV.sl none 9 1 (List.map z0f i.2.2.2.2.2.2.2.2.2.2.2.2.2.2.1)), (PV.sl none 4 1 (List.map z28 i.2.2.2.2.2.2.2.2.2.2.2.2.2.2.2.1)), (BO i.2.2.2.2.2.2.2.2.2.2.2.2.2.2.2.2.1), (z0f i.2.2.2.2.2.2.2.2.2.2.2.2.2.2.2.2.2)]]) ?_ ?_ ?_
     ·intro i; exact ⟨lbE rfl, ⟨(il_rf rfl), ⟨(il_rf rfl), ⟨(il_rf rfl), ⟨(z01 (z0q ids_V _)), ⟨(z01 rfl), ⟨(z01 rfl), trivial⟩⟩⟩⟩⟩⟩, ⟨⟨(z01 rfl), ⟨(z01 rfl), ⟨(z01 rfl), ⟨(z01 rfl), ⟨(z01 rfl), ⟨(z01 rfl), ⟨(z01 rfl), ⟨(z01 rfl), ⟨(z01 rfl), ⟨(z01 rfl), ⟨(z01 rfl), ⟨(z01 rfl), ⟨(z01 rfl), ⟨(z01 rfl), ⟨(z01 rfl), ⟨(z01 rfl), ⟨(z01 rfl), ⟨(z01 rfl), trivial⟩⟩⟩⟩⟩⟩⟩⟩⟩⟩⟩⟩⟩⟩⟩⟩⟩⟩, ⟨wfC34, ⟨wfC34, trivial⟩⟩⟩⟩
     ·rintro ⟨s44, s45, s46, s47, s48, s49, s50, s51, s52, s53, s54, s55, s56, s57, s58, s59, s60, s61⟩ h; replace h : z9d (fun y0 y1 y2 y3 y4 y5 y6 y7 y8 y9 y10 y11 y12 y13 y14 y15 y16 y17 y18 => g1_f (y0, y1, y2, y3, y4, y5, y6, y7, y8, y9, y10, y11, y12, y13, y14, y15, y16, y17, y18)) s2 s44 s45 s46 s47 s48 s49 s50 s51 s52 s53 s54 s55 s56 s57 s58 s59 s60 s61 = some r := h; unfold z9d at h
      change BW _ _ _ ⟨[(2, (PV.rf 0 0)), (4, (PV.rf 1 0)), (7, (PV.rf 2 0)), (19, (PV.sl none 20 1 (List.map ofV (a0).asList))), (20, (I64 (((((a0).asList).length : Nat) : Int)))), (21, (I64 (((s2 : Nat) : Int))))], [.box 34 z5d, .box 34 [(I64 s3), (I64 s4), (I64 s5), (BO s6), (I64 s7), (PV.v (.float .f64 s8)), (z0f s9), (PV.sl none 5 1 (List.map ofB s10)), (PV.v (.int .u64 s11)), (PV.sl none 29 11 (List.map z1k s12)), (PV.sl none 101 12 (List.map z18 s13)), (z0f s14), (I64 s15), (PV.sl none 34 18 (List.map z19 s16)), (PV.sl none 9 1 (List.map z0f s17)), (PV.sl none 4 1 (List.map z28 s18)), (BO s19), (z0f s20)], .box 34 [(I64 s44), (I64 s45), (I64 s46), (BO s47), (I64 s48), (PV.v (.float .f64 s49)), (z0f s50), (PV.sl none 5 1 (List.map ofB s51)), (PV.v (.int .u64 s52)), (PV.sl none 29 11 (List.map z1k s53)), (PV.sl none 101 12 (List.map z18 s54)), (z0f s55), (I64 s56), (PV.sl none 34 18 (List.map z19 s57)), (PV.sl none 9 1 (List.map z0f s58)), (PV.sl none 4 1 (List.map z28 s59)), (BO s60), (z0f s61)]], _⟩ _
      refine z0s ?_
      refine sS rfl rfl rfl ((z12 z0t Try.underlying34 rfl rfl rfl rfl rfl rfl)) ?_
      refine z11 rfl rfl (z0v z0t rfl rfl rfl rfl rfl rfl (lbE rfl) rfl) ?_
      refine z00 ?_
      refine cBx ?_
      refine z0s ?_
      refine sS rfl rfl rfl (z1y (k := s2) (c := 1) rfl rfl rfl (by omega)) ?_
      refine sMx (z00 ?_)
      exact ⟨rfl, ((s2 + 1), s44, s45, s46, s47, s48, s49, s50, s51, s52, s53, s54, s55, s56, s57, s58, s59, s60, s61), h, ⟨(.cons .same (.cons .same .nil)), (sC rfl (sC rfl (sC rfl (sC rfl (sC rfl z09)))))⟩⟩
     ·refine bR ?_
      refine sMx ?_
      refine sS rfl rfl rfl (z2a rfl rfl) (z00 ?_)
      refine cBx ?_
      refine z05 rfl ?_ ?_
      ·intro hc62; replace h := z02 hc62 h
       refine z0s ?_
       refine sS rfl rfl rfl (z1w (cs := [(I64 1), (I64 0), (I64 0), (BO false), (I64 0), (PV.v (.float .f64 0)), (z0f []), (PV.v (.slice none 0 0)), (PV.v (.int .u64 0)), (PV.v (.slice none 0 0)), (PV.v (.slice none 0 0)), (z0f []), (I64 0), (PV.v (.slice none 0 0)), (PV.v (.slice none 0 0)), (PV.v (.slice none 0 0)), (BO false), (z0f [])]) z1f z0t rfl rfl rfl rfl) ?_
       refine z11 rfl rfl (z0v z0t rfl rfl rfl rfl rfl rfl (lbE rfl) rfl) ?_
       refine z00 ?_
       exact ⟨rfl, (1, 0, 0, false, 0, 0, [], [], 0, [], [], [], 0, [], [], [], false, []), h, ⟨(.cons .same (.cons .same (.cons (.box (.cons (Wk.refl _) (.cons (Wk.refl _) (.cons (Wk.refl _) (.cons (Wk.refl _) (.cons (Wk.refl _) (.cons (Wk.refl _) (.cons (Wk.refl _) (.cons Wk.nil (.cons (Wk.refl _) (.cons Wk.nil (.cons Wk.nil (.cons (Wk.refl _) (.cons (Wk.refl _) (.cons Wk.nil (.cons Wk.nil (.cons Wk.nil (.cons (Wk.refl _) (.cons (Wk.refl _) .nil))))))))))))))))))) .nil))), (sC rfl (sC rfl (sC rfl (sC rfl (sC rfl (sC rfl z09))))))⟩⟩
      ·intro hc62; replace h := z03 hc62 h
       refine z0l ?_
       exact ⟨rfl, (s26, s27, s28, s29, s30, s31, s32, s33, s34, s35, s36, s37, s38, s39, s40, s41, s42, s43), h, ⟨(.cons .same (.cons .same (.cons .same .nil))), (sC rfl (sC rfl (sC rfl (sC rfl (sC rfl (sC rfl z09))))))⟩⟩
    ·refine bR ?_
     refine sMx ?_
     refine sS rfl rfl rfl ((z06 rfl rfl rfl rfl).cast (y := (BO ((decide (((s2 : Nat) : Int) > 0))))) rfl rfl) (z00 ?_)
     refine cBx ?_
     refine z05 rfl ?_ ?_
     ·intro hc63; replace h := z02 hc63 h
      refine z0s ?_
      refine sS rfl rfl rfl ((z12 z0t Try.underlying34 rfl rfl rfl rfl rfl rfl)) ?_
      refine sS rfl rfl rfl ((z12 z0t Try.underlying34 rfl rfl rfl rfl rfl rfl)) ?_
      obtain ⟨x64, hx64, h⟩ := obind h
      refine sS rfl rfl rfl (z0b rfl Z29 rfl (.cons (Wk.refl _) (.cons (Wk.refl _) .nil)) ⟨(z0m (Typ.mk s3 s4 (Term.mk s5 s6 s7 s8 s9 s10 s11 s12 s13 s14 s15) s16 s17 s18 s19 s20)), ⟨(z0m x24), trivial⟩⟩ (Z0o (Typ.mk s3 s4 (Term.mk s5 s6 s7 s8 s9 s10 s11 s12 s13 s14 s15) s16 s17 s18 s19 s20) x24 x64 hx64) (z04 (z0m x64.1) (z04 rfl z0r))) ?_
      refine sMx ?_
      refine sS rfl rfl rfl (z0j rfl rfl rfl) ?_
      refine sS rfl rfl rfl (z0j rfl rfl rfl) ?_
      refine z11 rfl rfl (z0v z0t rfl rfl rfl rfl rfl rfl (lbE rfl) rfl) ?_
      refine sAx (z00 ?_)
      exact ⟨rfl, (x64.2, (x64.1).kind, (x64.1).of, ((x64.1).only).kind, ((x64.1).only).bool, ((x64.1).only).int, ((x64.1).only).float, ((x64.1).only).text, ((x64.1).only).bytes, ((x64.1).only).ref, ((x64.1).only).list, ((x64.1).only).fields, ((x64.1).only).cls, ((x64.1).only).ver, (x64.1).parts, (x64.1).names, (x64.1).lacks, (x64.1).opn, (x64.1).cls), h, ⟨(.cons .same (.cons .same (.cons .same .nil))), (sC rfl (sC rfl (sC rfl (sC rfl (sC rfl (sC rfl (sC rfl z09)))))))⟩⟩
     ·intro hc63; replace h := z03 hc63 h
      refine z0l ?_
      exact ⟨rfl, (true, x24.kind, x24.of, (x24.only).kind, (x24.only).bool, (x24.only).int, (x24.only).float, (x24.only).text, (x24.only).bytes, (x24.only).ref, (x24.only).list, (x24.only).fields, (x24.only).cls, (x24.only).ver, x24.parts, x24.names, x24.lacks, x24.opn, x24.cls), h, ⟨(.cons .same (.cons .same (.cons .same .nil))), (sC rfl (sC rfl (sC rfl (sC rfl (sC rfl (sC rfl (sC rfl z09)))))))⟩⟩
   ·intro hc21; replace h := z03 hc21 h
    refine z22 ?_
    refine cBx ?_
    refine bR ?_
    refine sS rfl rfl rfl ((z12 z0t Try.underlying34 rfl rfl rfl rfl rfl rfl)) ?_
    refine sS rfl rfl rfl ((z1t (xs := [(PV.agg [(I64 s3), (I64 s4), (I64 s5), (BO s6), (I64 s7), (PV.v (.float .f64 s8)), (z0f s9), (PV.sl none 5 1 (List.map ofB s10)), (PV.v (.int .u64 s11)), (PV.sl none 29 11 (List.map z1k s12)), (PV.sl none 101 12 (List.map z18 s13)), (z0f s14), (I64 s15), (PV.sl none 34 18 (List.map z19 s16)), (PV.sl none 9 1 (List.map z0f s17)), (PV.sl none 4 1 (List.map z28 s18)), (BO s19), (z0f s20)])]) Try.underlying30 z0t rfl rfl rfl rfl rfl rfl ⟨lbE rfl, lbE rfl⟩ rfl).cast (y := (PV.sl (some 2) 34 18 (List.map z19 ([(Typ.mk s3 s4 (Term.mk s5 s6 s7 s8 s9 s10 s11 s12 s13 s14 s15) s16 s17 s18 s19 s20)] : (List Typ))))) (by simp only [List.map_cons, List.map_nil, z2m]; try rfl) rfl) ?_
    refine sS rfl rfl rfl (z1w (cs := [(I64 5), (I64 0), (I64 0), (BO false), (I64 0), (PV.v (.float .f64 0)), (z0f []), (PV.v (.slice none 0 0)), (PV.v (.int .u64 0)), (PV.v (.slice none 0 0)), (PV.v (.slice none 0 0)), (z0f []), (I64 0), (PV.sl (some 2) 34 18 (List.map z19 ([(Typ.mk s3 s4 (Term.mk s5 s6 s7 s8 s9 s10 s11 s12 s13 s14 s15) s16 s17 s18 s19 s20)] : (List Typ)))), (PV.v (.slice none 0 0)), (PV.v (.slice none 0 0)), (BO false), (z0f [])]) z1f z0t rfl rfl rfl rfl) ?_
    obtain ⟨x65, hx65, h⟩ := obind h
    refine sS rfl rfl rfl (z0b rfl Z1z rfl (.cons (Wk.agg (.cons (Wk.refl _) (.cons (Wk.refl _) (.cons (Wk.refl _) (.cons (Wk.refl _) (.cons (Wk.refl _) (.cons (Wk.refl _) (.cons (Wk.refl _) (.cons Wk.nil (.cons (Wk.refl _) (.cons Wk.nil (.cons Wk.nil (.cons (Wk.refl _) (.cons (Wk.refl _) (.cons Wk.tok (.cons Wk.nil (.cons Wk.nil (.cons (Wk.refl _) (.cons (Wk.refl _) .nil))))))))))))))))))) .nil) ⟨(z0m (Typ.mk 5 0 (Term.mk 0 false 0 0 [] [] 0 [] [] [] 0) ([(Typ.mk s3 s4 (Term.mk s5 s6 s7 s8 s9 s10 s11 s12 s13 s14 s15) s16 s17 s18 s19 s20)] : (List Typ)) [] [] false [])), trivial⟩ (Z0l (Typ.mk 5 0 (Term.mk 0 false 0 0 [] [] 0 [] [] [] 0) ([(Typ.mk s3 s4 (Term.mk s5 s6 s7 s8 s9 s10 s11 s12 s13 s14 s15) s16 s17 s18 s19 s20)] : (List Typ)) [] [] false []) x65 hx65) (z0m x65)) ?_
    refine z11 rfl rfl (z0v z0t rfl rfl rfl rfl rfl rfl (lbE rfl) rfl) ?_
    refine z00 ?_
    refine cBx ?_
    refine z0a ?_
    change ∃ xs, _ = some xs ∧ EndOk _ _ _ _
    obtain rfl := Option.some.inj h
    exact ⟨_, rfl, z0d (y := (z07 x65)) (Wk.refl _) (z0m x65) ⟨rfl, rfl⟩⟩
 ·intro hc1; replace h := z03 hc1 h
  refine bR ?_
  refine sS rfl rfl rfl (z4g rfl rfl) ?_
  refine sS rfl rfl rfl (z0j rfl rfl rfl) ?_
  refine sS rfl rfl rfl (z0j rfl rfl rfl) (z00 ?_)
  refine cBx ?_
  refine z05 rfl ?_ ?_
  ·intro hc66; replace h := z02 hc66 h
   refine bR ?_
   refine sAx (z00 ?_)
   refine cBx ?_
   refine bR ?_
   refine sS rfl rfl rfl (z1w (cs := [(I64 6), (I64 0), (I64 0), (BO false), (I64 0), (PV.v (.float .f64 0)), (z0f []), (PV.v (.slice none 0 0)), (PV.v (.int .u64 0)), (PV.v (.slice none 0 0)), (PV.v (.slice none 0 0)), (z0f []), (I64 0), (PV.v (.slice none 0 0)), (PV.v (.slice none 0 0)), (PV.v (.slice none 0 0)), (BO false), (z0f [])]) z1f z0t rfl rfl rfl rfl) ?_
   refine sS rfl rfl rfl (z1j z0t rfl) ?_
   refine z11 rfl rfl (z0v z0t rfl rfl rfl rfl rfl rfl (lbE rfl) rfl) ?_
   refine z00 ?_
   refine cBx ?_
   refine z0o ?_
   refine bR ?_
   refine sMx ?_
   refine sS rfl rfl rfl (z17 Try.underlying45 rfl rfl) ?_
   refine sMx (z00 ?_)
   refine cBx ?_
   refine z0x ?_
   refine cBx ?_
   refine z83 (s := ⟨_, _, _⟩) 1 13 34 (sz := 18) rfl rfl rfl ?_
   refine z83 (s := ⟨_, _, _⟩) 1 14 9 (sz := 1) rfl rfl rfl ?_
   refine z83 (s := ⟨_, _, _⟩) 1 15 4 (sz := 1) rfl rfl rfl ?_
   unfold zeu at h
   refine z26 (σ := (Nat × (List Typ) × (List Str) × (List Bool))) (fun i => [(2, (PV.rf 0 0)), (10, (PV.rf 1 0)), (49, (PV.sl none 43 2 (List.map z1h (a0).asDict))), (50, (I64 (((((a0).asDict).length : Nat) : Int)))), (51, (I64 (((i.1 : Nat) : Int))))]) (fun i => [.box 34 z5d, .box 34 [(I64 6), (I64 0), (I64 0), (BO false), (I64 0), (PV.v (.float .f64 0)), (z0f []), (PV.v (.slice none 0 0)), (PV.v (.int .u64 0)), (PV.v (.slice none 0 0)), (PV.v (.slice none 0 0)), (z0f []), (I64 0), (PV.sl (some 2) 34 18 (List.map z19 i.2.1)), (PV.sl (some 3) 9 1 (List.map z0f i.2.2.1)), (PV.sl (some 4) 4 1 (List.map z28 i.2.2.2)), (BO false), (z0f [])], .arr 34 (i.2.1).length, .arr 9 (i.2.2.1).length, .arr 4 (i.2.2.2).length]) (0, [], [], []) h ?_ ?_ ?_
   ·intro i; exact ⟨lbE rfl, ⟨(il_rf rfl), ⟨(il_rf rfl), ⟨(z01 (z0q z1z _)), ⟨(z01 rfl), ⟨(z01 rfl), trivial⟩⟩⟩⟩⟩, ⟨⟨(z01 rfl), ⟨(z01 rfl), ⟨(z01 rfl), ⟨(z01 rfl), ⟨(z01 rfl), ⟨(z01 rfl), ⟨(z01 rfl), ⟨(z01 rfl), ⟨(z01 rfl), ⟨(z01 rfl), ⟨(z01 rfl), ⟨(z01 rfl), ⟨(z01 rfl), ⟨(z01 rfl), ⟨(z01 rfl), ⟨(z01 rfl), ⟨(z01 rfl), ⟨(z01 rfl), trivial⟩⟩⟩⟩⟩⟩⟩⟩⟩⟩⟩⟩⟩⟩⟩⟩⟩⟩, ⟨⟨(z01 rfl), ⟨(z01 rfl), ⟨(z01 rfl), ⟨(z01 rfl), ⟨(z01 rfl), ⟨(z01 rfl), ⟨(z01 rfl), ⟨(z01 rfl), ⟨(z01 rfl), ⟨(z01 rfl), ⟨(z01 rfl), ⟨(z01 rfl), ⟨(z01 rfl), ⟨(z5j rfl (z3j z2h _)), ⟨(z5j rfl (z3j (fun _ => rfl) _)), ⟨(z5j rfl (z3j (fun _ => rfl) _)), ⟨(z01 rfl), ⟨(z01 rfl), trivial⟩⟩⟩⟩⟩⟩⟩⟩⟩⟩⟩⟩⟩⟩⟩⟩⟩⟩, trivial⟩⟩⟩
   ·exact ⟨(.cons .same (.cons .same (.cons .same (.cons .same (.cons .same .nil))))), (sC rfl (sC rfl (sC rfl (sC rfl (sC rfl z09)))))⟩
   ·rintro g1_f ⟨s67, s68, s69, s70⟩ h; replace h : z5x r_q11 a0 (fun y0 y1 y2 y3 => g1_f (y0, y1, y2, y3)) s67 s68 s69 s70 = some r := h; unfold z5x at h
    change BW _ _ _ ⟨[(2, (PV.rf 0 0)), (10, (PV.rf 1 0)), (49, (PV.sl none 43 2 (List.map z1h (a0).asDict))), (50, (I64 (((((a0).asDict).length : Nat) : Int)))), (51, (I64 (((s67 : Nat) : Int))))], [.box 34 z5d, .box 34 [(I64 6), (I64 0), (I64 0), (BO false), (I64 0), (PV.v (.float .f64 0)), (z0f []), (PV.v (.slice none 0 0)), (PV.v (.int .u64 0)), (PV.v (.slice none 0 0)), (PV.v (.slice none 0 0)), (z0f []), (I64 0), (PV.sl (some 2) 34 18 (List.map z19 s68)), (PV.sl (some 3) 9 1 (List.map z0f s69)), (PV.sl (some 4) 4 1 (List.map z28 s70)), (BO false), (z0f [])], .arr 34 (s68).length, .arr 9 (s69).length, .arr 4 (s70).length], _⟩ _
    refine bR ?_
    refine sS rfl rfl rfl ((z06 rfl rfl rfl rfl).cast (y := (BO ((decide (((s67 : Nat) : Int) < ((((a0).asDict).length : Nat) : Int)))))) rfl rfl) (z00 ?_)
    refine cBx ?_
    refine z0o ?_
    refine z2z (t := 49) rfl fun hb72 => ?_
    try rw [List.length_map] at hb72
    refine z05 rfl ?_ ?_
    ·intro hc71; replace h := z02 hc71 h
     have hc71_ := of_decide_eq_true hc71
     refine z0l ?_
     refine cBx ?_
     refine z0o ?_
     refine z0x ?_
     refine cBx ?_
     refine bR ?_
     obtain ⟨x73, hx73, h⟩ := obind h
     refine sS rfl rfl rfl (z1i (i := s67) Try.underlying45 z2d rfl rfl rfl hx73 rfl) ?_
     refine sS rfl rfl rfl (z1s z2d Try.underlying43 rfl rfl rfl rfl rfl) ?_
     refine sS rfl rfl rfl ((z1j z2d rfl).cast (H'' := [.box 34 z5d, .box 34 [(I64 6), (I64 0), (I64 0), (BO false), (I64 0), (PV.v (.float .f64 0)), (z0f []), (PV.v (.slice none 0 0)), (PV.v (.int .u64 0)), (PV.v (.slice none 0 0)), (PV.v (.slice none 0 0)), (z0f []), (I64 0), (PV.sl (some 2) 34 18 (List.map z19 s68)), (PV.sl (some 3) 9 1 (List.map z0f s69)), (PV.sl (some 4) 4 1 (List.map z28 s70)), (BO false), (z0f [])], .arr 34 (s68).length, .arr 9 (s69).length, .arr 4 (s70).length, .box 43 [(z0f []), (ofV V.nil)]]) rfl (by simp only [mk_nil]; rfl)) ?_
     refine z11 rfl rfl (z0v z2d rfl rfl rfl rfl rfl rfl (lbE rfl) (by show List.all [(z0f x73.1), (ofV x73.2)] z96 = true; simp only [List.all_cons, List.all_nil, zg4, z7d, Bool.and_true, Bool.true_and]; try rfl)) ?_
     refine z00 ?_
     refine cBx ?_
     refine z2e 18 [5, 9, 16] [1, 5] mo (by kernel_rfl) ?_
     refine z0y rfl rfl rfl rfl (fun H hp => z0e z1f (i := 4) rfl rfl rfl) ?_
     refine z0y rfl rfl rfl rfl (fun H hp => (z0n Try.underlying31 rfl rfl rfl (hp.at rfl rfl) rfl)) ?_
     refine z0y rfl rfl rfl rfl (fun H hp => z0e z6x (i := 0) rfl rfl rfl) ?_
     refine z0y rfl rfl rfl rfl (fun H hp => (z0n Try.underlying9 rfl rfl rfl (hp.at rfl rfl) rfl)) ?_
     refine z0y rfl rfl rfl rfl (fun H hp => (z7c (xs := [(z0f x73.1)]) Try.underlying31 inf_9 rfl rfl rfl rfl rfl rfl ⟨lbE rfl, lbE rfl⟩ rfl).cast (y := (PV.sl none 9 1 (List.map z0f ([x73.1] : (List Str))))) rfl rfl) ?_
     obtain ⟨x74, hx74, h⟩ := obind h
     refine zab rfl rfl rfl rfl (z34 Try.underlying31 inf_9 rfl Try.underlying31 rfl rfl rfl rfl (fun _ => rfl) (fun _ => rfl) hx74 rfl) ⟨rfl, ⟨rfl, trivial⟩⟩ ?_
     refine z0y rfl rfl rfl rfl (fun H hp => z0e z1f (i := 5) rfl rfl rfl) ?_
     refine z0y rfl rfl rfl rfl (fun H hp => (z0n Try.underlying32 rfl rfl rfl (hp.at rfl rfl) rfl)) ?_
     refine z0y rfl rfl rfl rfl (fun H hp => (z7c (xs := [(BO false)]) Try.underlying32 inf_4 rfl rfl rfl rfl rfl rfl ⟨lbE rfl, lbE rfl⟩ rfl).cast (y := (PV.sl none 4 1 (List.map z28 ([false] : (List Bool))))) rfl rfl) ?_
     obtain ⟨x75, hx75, h⟩ := obind h
     refine zab rfl rfl rfl rfl (z34 Try.underlying32 inf_4 rfl Try.underlying32 rfl rfl rfl rfl (fun _ => rfl) (fun _ => rfl) hx75 rfl) ⟨rfl, ⟨rfl, trivial⟩⟩ ?_
     refine z0y rfl rfl rfl rfl (fun H hp => z0e z1f (i := 3) rfl rfl rfl) ?_
     refine z0y rfl rfl rfl rfl (fun H hp => (z0n Try.underlying30 rfl rfl rfl (hp.at rfl rfl) rfl)) ?_
     refine z0y rfl rfl rfl rfl (fun H hp => z0e z6x (i := 1) rfl rfl rfl) ?_
     refine z0y rfl rfl rfl rfl (fun H hp => (z0n Try.underlying20 rfl rfl rfl (hp.at rfl rfl) rfl)) ?_
     obtain ⟨x76, hx76, h⟩ := obind h
     refine z0y rfl rfl rfl rfl (fun H hp => z0b rfl zzg rfl (.cons (Wk.refl _) .nil) ⟨(ids_V x73.2), trivial⟩ (c_q11 x73.2 x76 hx76) (z0m x76)) ?_
     refine z0y rfl rfl rfl rfl (fun H hp => (z7c (xs := [(z07 x76)]) Try.underlying30 z0t rfl rfl rfl rfl rfl rfl ⟨lbE rfl, lbE rfl⟩ rfl).cast (y := (PV.sl none 34 18 (List.map z19 ([x76] : (List Typ))))) (by simp only [List.map_cons, List.map_nil, z2m]; try rfl) rfl) ?_
     obtain ⟨x77, hx77, h⟩ := obind h
     refine zab rfl rfl rfl rfl (z34 Try.underlying30 z0t rfl Try.underlying30 rfl rfl rfl rfl zkc zdw hx77 rfl) ⟨rfl, ⟨rfl, trivial⟩⟩ ?_
     refine z0y rfl rfl rfl rfl (fun H hp => z0e z1f (i := 4) rfl rfl rfl) ?_
     refine z2b ?_
     change AO _ _ _ _ _
     refine z11 rfl rfl (z0v zxl rfl rfl rfl rfl rfl rfl (lbE rfl) rfl) ?_
     refine sS rfl rfl rfl (z0e z1f (i := 5) rfl rfl rfl) ?_
     refine z11 rfl rfl (z0v zxk rfl rfl rfl rfl rfl rfl (lbE rfl) rfl) ?_
     refine sS rfl rfl rfl (z0e z1f (i := 3) rfl rfl rfl) ?_
     refine z11 rfl rfl (z0v zij rfl rfl rfl rfl rfl rfl (lbE rfl) rfl) ?_
     refine z00 ?_
     refine cBx ?_
     refine z0s ?_
     refine sS rfl rfl rfl (z1y (k := s67) (c := 1) rfl rfl rfl (by omega)) ?_
     refine sMx (z00 ?_)
     exact ⟨rfl, ((s67 + 1), x77, x74, x75), h, ⟨(.cons .same (.cons .same (.cons .same (.cons .same (.cons .same .nil))))), (sC rfl (sC rfl (sC rfl (sC rfl (sC rfl z09)))))⟩⟩
    ·intro hc71; replace h := z03 hc71 h
     refine z22 ?_
     refine cBx ?_
     refine bR ?_
     refine sS rfl rfl rfl ((z12 z0t Try.underlying34 rfl rfl rfl rfl rfl rfl)) ?_
     obtain ⟨x78, hx78, h⟩ := obind h
     refine sS rfl rfl rfl (z0b rfl Z1z rfl (.cons (Wk.agg (.cons (Wk.refl _) (.cons (Wk.refl _) (.cons (Wk.refl _) (.cons (Wk.refl _) (.cons (Wk.refl _) (.cons (Wk.refl _) (.cons (Wk.refl _) (.cons Wk.nil (.cons (Wk.refl _) (.cons Wk.nil (.cons Wk.nil (.cons (Wk.refl _) (.cons (Wk.refl _) (.cons Wk.tok (.cons Wk.tok (.cons Wk.tok (.cons (Wk.refl _) (.cons (Wk.refl _) .nil))))))))))))))))))) .nil) ⟨(z0m (Typ.mk 6 0 (Term.mk 0 false 0 0 [] [] 0 [] [] [] 0) s68 s69 s70 false [])), trivial⟩ (Z0l (Typ.mk 6 0 (Term.mk 0 false 0 0 [] [] 0 [] [] [] 0) s68 s69 s70 false []) x78 hx78) (z0m x78)) ?_
     refine z11 rfl rfl (z0v z0t rfl rfl rfl rfl rfl rfl (lbE rfl) rfl) ?_
     refine z00 ?_
     refine cBx ?_
     refine z0a ?_
     change ∃ xs, _ = some xs ∧ EndOk _ _ _ _
     obtain rfl := Option.some.inj h
     exact ⟨_, rfl, z0d (y := (z07 x78)) (Wk.refl _) (z0m x78) ⟨rfl, rfl⟩⟩
  ·intro hc66; replace h := z03 hc66 h
   refine bR ?_
   refine sS rfl rfl rfl (z55 rfl rfl) ?_
   refine sS rfl rfl rfl (z0j rfl rfl rfl) ?_
   refine sS rfl rfl rfl (z0j rfl rfl rfl) (z00 ?_)
   refine cBx ?_
   refine z05 rfl ?_ ?_
   ·intro hc79; replace h := z02 hc79 h
    refine bR ?_
    refine sAx (z00 ?_)
    refine cBx ?_
    refine bR ?_
    refine sMx ?_
    obtain ⟨x80, hx80, h⟩ := obind h
    refine sS rfl rfl rfl (z39 rfl rfl hx80) ?_
    refine sS rfl rfl rfl (z1a z6w (i := 0) rfl rfl rfl) ?_
    refine sS rfl rfl rfl (z13 (y := (z0f x80.cls)) Try.underlying9 rfl rfl rfl rfl) ?_
    refine sS rfl rfl rfl (z1w (cs := [(I64 8), (I64 0), (I64 0), (BO false), (I64 0), (PV.v (.float .f64 0)), (z0f []), (PV.v (.slice none 0 0)), (PV.v (.int .u64 0)), (PV.v (.slice none 0 0)), (PV.v (.slice none 0 0)), (z0f []), (I64 0), (PV.v (.slice none 0 0)), (PV.v (.slice none 0 0)), (PV.v (.slice none 0 0)), (BO false), (z0f x80.cls)]) z1f z0t rfl rfl rfl rfl) ?_
    refine z11 rfl rfl (z0v z0t rfl rfl rfl rfl rfl rfl (lbE rfl) rfl) ?_
    refine z00 ?_
    refine cBx ?_
    refine z0a ?_
    change ∃ xs, _ = some xs ∧ EndOk _ _ _ _
    obtain rfl := Option.some.inj h
    exact ⟨_, rfl, z0d (y := (z07 (Typ.mk 8 0 (Term.mk 0 false 0 0 [] [] 0 [] [] [] 0) [] [] [] false x80.cls))) (Wk.agg (.cons (Wk.refl _) (.cons (Wk.refl _) (.cons (Wk.refl _) (.cons (Wk.refl _) (.cons (Wk.refl _) (.cons (Wk.refl _) (.cons (Wk.refl _) (.cons Wk.nil (.cons (Wk.refl _) (.cons Wk.nil (.cons Wk.nil (.cons (Wk.refl _) (.cons (Wk.refl _) (.cons Wk.nil (.cons Wk.nil (.cons Wk.nil (.cons (Wk.refl _) (.cons (Wk.refl _) .nil))))))))))))))))))) (z0m (Typ.mk 8 0 (Term.mk 0 false 0 0 [] [] 0 [] [] [] 0) [] [] [] false x80.cls)) ⟨rfl, rfl⟩⟩
   ·intro hc79; replace h := z03 hc79 h
    refine z0l ?_
    refine cBx ?_
    refine bR ?_
    refine sMx ?_
    obtain ⟨x81, hx81, h⟩ := obind h
    refine sS rfl rfl rfl (z0b rfl Z27 rfl (.cons (Wk.refl _) .nil) ⟨(ids_V a0), trivial⟩ (Z0g a0 x81 hx81) rfl) ?_
    refine sS rfl rfl rfl (z1w (cs := [(I64 3), (I64 x81), (I64 0), (BO false), (I64 0), (PV.v (.float .f64 0)), (z0f []), (PV.v (.slice none 0 0)), (PV.v (.int .u64 0)), (PV.v (.slice none 0 0)), (PV.v (.slice none 0 0)), (z0f []), (I64 0), (PV.v (.slice none 0 0)), (PV.v (.slice none 0 0)), (PV.v (.slice none 0 0)), (BO false), (z0f [])]) z1f z0t rfl rfl rfl rfl) ?_
    refine z11 rfl rfl (z0v z0t rfl rfl rfl rfl rfl rfl (lbE rfl) rfl) ?_
    refine z00 ?_
    refine cBx ?_
    refine z0a ?_
    change ∃ xs, _ = some xs ∧ EndOk _ _ _ _
    obtain rfl := Option.some.inj h
    exact ⟨_, rfl, z0d (y := (z07 (Typ.mk 3 x81 (Term.mk 0 false 0 0 [] [] 0 [] [] [] 0) [] [] [] false []))) (Wk.agg (.cons (Wk.refl _) (.cons (Wk.refl _) (.cons (Wk.refl _) (.cons (Wk.refl _) (.cons (Wk.refl _) (.cons (Wk.refl _) (.cons (Wk.refl _) (.cons Wk.nil (.cons (Wk.refl _) (.cons Wk.nil (.cons Wk.nil (.cons (Wk.refl _) (.cons (Wk.refl _) (.cons Wk.nil (.cons Wk.nil (.cons Wk.nil (.cons (Wk.refl _) (.cons (Wk.refl _) .nil))))))))))))))))))) (z0m (Typ.mk 3 x81 (Term.mk 0 false 0 0 [] [] 0 [] [] [] 0) [] [] [] false [])) ⟨rfl, rfl⟩⟩
theorem C_q11.sound : ∀ (i : C_q11) (r : i.R), z38 C_q11.F i = some r → C_q11.Q i r := by
 refine z4a (Φ := C_q11.F) (Q := C_q11.Q) ?_
 intro g hg i r h
 cases i with
 | k_q11 a0 => exact ze1 (fun a0 => g (.k_q11 a0)) (fun a0 r hr => hg (.k_q11 a0) r hr) a0 r h
theorem Z3s (a0 : V) (r : Typ) (h : zi6 a0 = some r) : z0g Try.prog 49 [(ofV a0)] (z07 r) := C_q11.sound (.k_q11 a0) r h
end Go.Proofs.Ytiapdjdhaclmnaa
