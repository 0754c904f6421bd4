/- Pure functions, and that calls answer as they say. -/
import Derived.Test.YtiapdjdhaclmnaaGS
namespace Go.Proofs.Ytiapdjdhaclmnaa
open Go Aw
set_option linter.unusedVariables false
set_option maxRecDepth 20000
set_option maxHeartbeats 2000000
variable {ι : Type} {ρ : ι → Type}
noncomputable def Z8f (a0 : Int) : Option V :=
 bif ((Int.tmod a0 14) == 0) then (
 some (V.alien ⟨3, rfl⟩)
 ) else (
 bif ((Int.tmod a0 14) == 1) then (
 some (V.alien ⟨5, rfl⟩)
 ) else (
 bif ((Int.tmod a0 14) == 2) then (
 some (V.alien ⟨102, rfl⟩)
 ) else (
 bif ((Int.tmod a0 14) == 3) then (
 some (V.alien ⟨1, rfl⟩)
 ) else (
 bif ((Int.tmod a0 14) == 4) then (
 some (V.alien ⟨105, rfl⟩)
 ) else (
 bif ((Int.tmod a0 14) == 5) then (
 some (V.alien ⟨36, rfl⟩)
 ) else (
 bif ((Int.tmod a0 14) == 6) then (
 some (V.alien ⟨106, rfl⟩)
 ) else (
 bif ((Int.tmod a0 14) == 7) then (
 some (V.alien ⟨107, rfl⟩)
 ) else (
 bif ((Int.tmod a0 14) == 8) then (
 some (V.alien ⟨72, rfl⟩)
 ) else (
 bif ((Int.tmod a0 14) == 9) then (
 some (V.alien ⟨44, rfl⟩)
 ) else (
 bif ((Int.tmod a0 14) == 10) then (
 some (V.alien ⟨108, rfl⟩)
 ) else (
 bif ((Int.tmod a0 14) == 11) then (
 some (V.alien ⟨39, rfl⟩)
 ) else (
 bif ((Int.tmod a0 14) == 12) then (
 some (V.alien ⟨109, rfl⟩)
 ) else (
 some (V.alien ⟨110, rfl⟩)
 )
 )
 )
 )
 )
 )
 )
 )
 )
 )
 )
 )
 )
noncomputable def z61 (r_q1f : Term → Option V) (a0 : (List (Str × Term))) (g1 : (List (Str × V)) → Nat → Option (List (Str × V))) (s2 : (List (Str × V))) (s3 : Nat) : Option (List (Str × V)) :=
 bif (decide (((s3 : Nat) : Int) < (((a0).length : Nat) : Int))) then (
 ((a0)[s3]?).bind fun x6 =>
 (r_q1f (x6.2)).bind fun x7 =>
 (z9f 32 s2 ([(x6.1, x7)] : (List (Str × V)))).bind fun x8 =>
 g1 x8 (s3 + 1)
 ) else (
 some s2
 )
theorem zc5 (r_q1f : OF ρ → Term → Option V) (h_r_q1f : ∀ y0, CM (fun G => r_q1f G y0)) (g1 : OF ρ → (List (Str × V)) → Nat → Option (List (Str × V))) (h_g1 : ∀ y0 y1, CM (fun G => g1 G y0 y1)) (a0 : (List (Str × Term))) (s2 : (List (Str × V))) (s3 : Nat) : CM (fun G : OF ρ => z61 (r_q1f G) a0 (g1 G) s2 s3) := by
 simp only [z61]
 repeat (first | exact z01 | exact h_r_q1f _ | exact h_g1 _ _ | refine z0h ?_ ?_ | refine z0i ?_ (fun _ => ?_))
noncomputable def zh7 (r_q1f : Term → Option V) (a0 : (List (Str × Term))) (s2 : (List (Str × V))) (s3 : Nat) : Option (List (Str × V)) :=
 z22 (ι := ((List (Str × V)) × Nat)) (ρ := fun _ => (List (Str × V))) (fun g i => z61 r_q1f a0 (fun s2 s3 => g (s2, s3)) i.1 i.2) (s2, s3)
theorem zki (r_q1f : Term → Option V) (a0 : (List (Str × Term))) (s2 : (List (Str × V))) (s3 : Nat) : zh7 r_q1f a0 s2 s3 = z61 r_q1f a0 (zh7 r_q1f a0) s2 s3 :=
 z0t (ι := ((List (Str × V)) × Nat)) (ρ := fun _ => (List (Str × V))) (Φ := fun g i => z61 r_q1f a0 (fun s2 s3 => g (s2, s3)) i.1 i.2) (fun i => zc5 (ι := ((List (Str × V)) × Nat)) (ρ := fun _ => (List (Str × V))) (fun _ => r_q1f) (fun _ => z01) (fun g => (fun s2 s3 => g (s2, s3))) (fun _ _ => z0s) a0 i.1 i.2) (s2, s3)
theorem zu0 (r_q1f : OF ρ → Term → Option V) (h_r_q1f : ∀ y0, CM (fun G => r_q1f G y0)) (a0 : (List (Str × Term))) (s2 : (List (Str × V))) (s3 : Nat) : CM (fun G : OF ρ => zh7 (r_q1f G) a0 s2 s3) :=
 z28 (κ := ((List (Str × V)) × Nat)) (τ := fun _ => (List (Str × V))) (Φ := fun G g i => z61 (r_q1f G) a0 (fun s2 s3 => g (s2, s3)) i.1 i.2) (fun g i => zc5 r_q1f h_r_q1f (fun _ => (fun s2 s3 => g (s2, s3))) (fun _ _ => z01) a0 i.1 i.2) (fun G i => zc5 (ι := ((List (Str × V)) × Nat)) (ρ := fun _ => (List (Str × V))) (fun _ => r_q1f G) (fun _ => z01) (fun g => (fun s2 s3 => g (s2, s3))) (fun _ _ => z0s) a0 i.1 i.2) (s2, s3)
noncomputable def zo9 (r_q1x : (List (Str × Term)) → Option (List (Str × V))) (r_q1f : Term → Option V) (a0 : (List (Str × Term))) : Option (List (Str × V)) :=
 (zn4 ((a0).length) 32).bind fun x1 =>
 zh7 r_q1f a0 ([] : (List (Str × V))) 0
theorem Z1b (r_q1x : OF ρ → (List (Str × Term)) → Option (List (Str × V))) (h_r_q1x : ∀ y0, CM (fun G => r_q1x G y0)) (r_q1f : OF ρ → Term → Option V) (h_r_q1f : ∀ y0, CM (fun G => r_q1f G y0)) (a0 : (List (Str × Term))) : CM (fun G : OF ρ => zo9 (r_q1x G) (r_q1f G) a0) := by
 simp only [zo9]
 repeat (first | exact z01 | exact h_r_q1x _ | exact h_r_q1f _ | apply zu0 | refine z0h ?_ ?_ | refine z0i ?_ (fun _ => ?_) | intro _ | assumption)
noncomputable def z66 (r_q1f : Term → Option V) (a0 : Term) (g1 : (List V) → Nat → Option V) (s11 : (List V)) (s12 : Nat) : Option V :=
 bif (decide (((s12 : Nat) : Int) < (((a0.list).length : Nat) : Int))) then (
 ((a0.list)[s12]?).bind fun x15 =>
 (r_q1f x15).bind fun x16 =>
 (z9f 16 s11 ([x16] : (List V))).bind fun x17 =>
 g1 x17 (s12 + 1)
 ) else (
 some (V.list s11)
 )
theorem zca (r_q1f : OF ρ → Term → Option V) (h_r_q1f : ∀ y0, CM (fun G => r_q1f G y0)) (g1 : OF ρ → (List V) → Nat → Option V) (h_g1 : ∀ y0 y1, CM (fun G => g1 G y0 y1)) (a0 : Term) (s11 : (List V)) (s12 : Nat) : CM (fun G : OF ρ => z66 (r_q1f G) a0 (g1 G) s11 s12) := by
 simp only [z66]
 repeat (first | exact z01 | exact h_r_q1f _ | exact h_g1 _ _ | refine z0h ?_ ?_ | refine z0i ?_ (fun _ => ?_))
noncomputable def zew (r_q1f : Term → Option V) (a0 : Term) (s11 : (List V)) (s12 : Nat) : Option V :=
 z22 (ι := ((List V) × Nat)) (ρ := fun _ => V) (fun g i => z66 r_q1f a0 (fun s11 s12 => g (s11, s12)) i.1 i.2) (s11, s12)
theorem zks (r_q1f : Term → Option V) (a0 : Term) (s11 : (List V)) (s12 : Nat) : zew r_q1f a0 s11 s12 = z66 r_q1f a0 (zew r_q1f a0) s11 s12 :=
 z0t (ι := ((List V) × Nat)) (ρ := fun _ => V) (Φ := fun g i => z66 r_q1f a0 (fun s11 s12 => g (s11, s12)) i.1 i.2) (fun i => zca (ι := ((List V) × Nat)) (ρ := fun _ => V) (fun _ => r_q1f) (fun _ => z01) (fun g => (fun s11 s12 => g (s11, s12))) (fun _ _ => z0s) a0 i.1 i.2) (s11, s12)
theorem zu7 (r_q1f : OF ρ → Term → Option V) (h_r_q1f : ∀ y0, CM (fun G => r_q1f G y0)) (a0 : Term) (s11 : (List V)) (s12 : Nat) : CM (fun G : OF ρ => zew (r_q1f G) a0 s11 s12) :=
 z28 (κ := ((List V) × Nat)) (τ := fun _ => V) (Φ := fun G g i => z66 (r_q1f G) a0 (fun s11 s12 => g (s11, s12)) i.1 i.2) (fun g i => zca r_q1f h_r_q1f (fun _ => (fun s11 s12 => g (s11, s12))) (fun _ _ => z01) a0 i.1 i.2) (fun G i => zca (ι := ((List V) × Nat)) (ρ := fun _ => V) (fun _ => r_q1f G) (fun _ => z01) (fun g => (fun s11 s12 => g (s11, s12))) (fun _ _ => z0s) a0 i.1 i.2) (s11, s12)
noncomputable def zoi (r_q1x : (List (Str × Term)) → Option (List (Str × V))) (r_q1f : Term → Option V) (a0 : Term) : Option V :=
 bif (a0.kind == 1) then (
 some V.nil
 ) else (
 bif (a0.kind == 2) then (
 some (V.bool a0.bool)
 ) else (
 bif (a0.kind == 3) then (
 some (V.int a0.int)
 ) else (
 bif (a0.kind == 4) then (
 some (V.float a0.float)
 ) else (
 bif (a0.kind == 5) then (
 some (V.text a0.text)
 ) else (
 bif (a0.kind == 6) then (
 (z9f 1 ([] : Str) a0.bytes).bind fun x7 =>
 some (V.bytes x7)
 ) else (
 bif (a0.kind == 7) then (
 some (V.ref a0.ref)
 ) else (
 bif (a0.kind == 8) then (
 (zn4 ((a0.list).length) 16).bind fun x10 =>
 zew r_q1f a0 ([] : (List V)) 0
 ) else (
 bif (a0.kind == 9) then (
 (r_q1x a0.fields).bind fun x19 =>
 some (V.dict x19)
 ) else (
 bif (a0.kind == 10) then (
 (r_q1x a0.fields).bind fun x21 =>
 some (V.record a0.cls a0.ver x21)
 ) else (
 bif (a0.kind == 11) then (
 some V.nothing
 ) else (
 some (V.alien ⟨153, rfl⟩)
 )
 )
 )
 )
 )
 )
 )
 )
 )
 )
 )
theorem Z1k (r_q1x : OF ρ → (List (Str × Term)) → Option (List (Str × V))) (h_r_q1x : ∀ y0, CM (fun G => r_q1x G y0)) (r_q1f : OF ρ → Term → Option V) (h_r_q1f : ∀ y0, CM (fun G => r_q1f G y0)) (a0 : Term) : CM (fun G : OF ρ => zoi (r_q1x G) (r_q1f G) a0) := by
 simp only [zoi]
 repeat (first | exact z01 | exact h_r_q1x _ | exact h_r_q1f _ | apply zu7 | refine z0h ?_ ?_ | refine z0i ?_ (fun _ => ?_) | intro _ | assumption)
inductive C_q1x where
 | k_q1x (a0 : (List (Str × Term)))
 | k_q1f (a0 : Term)
def C_q1x.R : C_q1x → Type
 | .k_q1x _ => (List (Str × V))
 | .k_q1f _ => V
noncomputable def C_q1x.F (g : ∀ i : C_q1x, Option i.R) : ∀ i : C_q1x, Option i.R
 | .k_q1x a0 => zo9 (fun a0 => g (.k_q1x a0)) (fun a0 => g (.k_q1f a0)) a0
 | .k_q1f a0 => zoi (fun a0 => g (.k_q1x a0)) (fun a0 => g (.k_q1f a0)) a0
noncomputable def zz3 (a0 : (List (Str × Term))) : Option (List (Str × V)) := z22 C_q1x.F (.k_q1x a0)
noncomputable def z8c (a0 : Term) : Option V := z22 C_q1x.F (.k_q1f a0)
abbrev gg1 := fun (g : ∀ i : C_q1x, Option i.R) a0 => g (.k_q1x a0)
theorem hh1 (a0 : _) : CM (ρ := C_q1x.R) (fun g => g (C_q1x.k_q1x a0)) := z0s
abbrev gg2 := fun (g : ∀ i : C_q1x, Option i.R) a0 => g (.k_q1f a0)
theorem hh2 (a0 : _) : CM (ρ := C_q1x.R) (fun g => g (C_q1x.k_q1f a0)) := z0s
theorem C_q1x.cm (i : C_q1x) : CM (fun g : (∀ i : C_q1x, Option i.R) => C_q1x.F g i) := by
 cases i with
 | k_q1x a0 => exact Z1b gg1 hh1 gg2 hh2 a0
 | k_q1f a0 => exact Z1k gg1 hh1 gg2 hh2 a0
theorem Zcz (a0 : (List (Str × Term))) : zz3 a0 = zo9 zz3 z8c a0 := z0t C_q1x.cm (.k_q1x a0)
theorem Z5t (a0 : Term) : z8c a0 = zoi zz3 z8c a0 := z0t C_q1x.cm (.k_q1f a0)
def C_q1x.Q : ∀ i : C_q1x, i.R → Prop
 | .k_q1x a0 => fun (r : (List (Str × V))) => z08 Try.prog 103 [(PV.old (PV.sl none 101 12 (List.map z0f a0)))] (PV.sl none 43 2 (List.map ofFld r))
 | .k_q1f a0 => fun (r : V) => z08 Try.prog 87 [(PV.old (z0v a0))] (ofV r)
theorem zjx (r_q1x : (List (Str × Term)) → Option (List (Str × V))) (c_q1x : ∀ (a0 : (List (Str × Term))) r, r_q1x a0 = some r → z08 Try.prog 103 [(PV.old (PV.sl none 101 12 (List.map z0f a0)))] (PV.sl none 43 2 (List.map ofFld r))) (r_q1f : Term → Option V) (c_q1f : ∀ (a0 : Term) r, r_q1f a0 = some r → z08 Try.prog 87 [(PV.old (z0v a0))] (ofV r)) (a0 : (List (Str × Term))) (r : (List (Str × V))) (h : zo9 r_q1x r_q1f a0 = some r) : z08 Try.prog 103 [(PV.old (PV.sl none 101 12 (List.map z0f a0)))] (PV.sl none 43 2 (List.map ofFld r)) := by
 unfold zo9 at h
 refine z0g Try.func103 rfl Try.ntmps103 Try.results103 rfl (z0q ?_)
 change BW _ _ _ ⟨[(0, (PV.old (PV.sl none 101 12 (List.map z0f a0))))], [], _⟩ _
 refine bR ?_
 refine eX ?_
 refine bR ?_
 refine sX ?_
 refine sS rfl rfl rfl (z23 (z4i Try.underlying27 rfl rfl) Sc.v) ?_
 obtain ⟨x1, hx1, h⟩ := obind h
 refine sS rfl rfl rfl ((zwo (f := ofFld) (c := ((a0).length)) Try.underlying45 z2z rfl rfl rfl rfl hx1 (p := (PV.agg [(ofStr []), (PV.v .nilIface)])) rfl).cast (y := (PV.sl (some 0) 43 2 (List.map ofFld ([] : (List (Str × V)))))) rfl rfl) ?_
 refine eX ?_
 refine z09 ?_
 refine bR ?_
 refine sX ?_
 refine sS rfl rfl rfl (z23 (z4i Try.underlying27 rfl rfl) Sc.v) ?_
 refine eX ?_
 refine z0e ?_
 refine cBx ?_
 unfold zh7 at h
 refine z3c (σ := ((List (Str × V)) × Nat)) (fun i => [(3, (PV.sl (some 0) 43 2 (List.map ofFld i.1))), (9, (PV.old (PV.sl none 101 12 (List.map z0f a0)))), (10, (I64 ((((a0).length : Nat) : Int)))), (11, (I64 (((i.2 : Nat) : Int))))]) (fun i => [.arr 43 (i.1).length]) (([] : (List (Str × V))), 0) h ?_ ?_ ?_
 intro i; exact ⟨lbE rfl, ⟨(z8b rfl (z3p z2i _)), ⟨(z00 (z1e (z0c z19 _))), ⟨(z00 rfl), ⟨(z00 rfl), trivial⟩⟩⟩⟩, trivial⟩
 exact jN
 rintro g1_f ⟨s2, s3⟩ h; replace h : z61 r_q1f a0 (fun y0 y1 => g1_f (y0, y1)) s2 s3 = some r := h; unfold z61 at h
 change BW _ _ _ ⟨[(3, (PV.sl (some 0) 43 2 (List.map ofFld s2))), (9, (PV.old (PV.sl none 101 12 (List.map z0f a0)))), (10, (I64 ((((a0).length : Nat) : Int)))), (11, (I64 (((s3 : Nat) : Int))))], [.arr 43 (s2).length], _⟩ _
 refine bR ?_
 refine eX ?_
 refine z09 ?_
 refine zg7 (t := 9) rfl fun hb5 => ?_
 try rw [List.length_map] at hb5
 refine cX h rfl ?_ ?_
 intro hc4 h
 have hc4_ := of_decide_eq_true hc4
 refine z07 ?_
 refine cBx ?_
 refine z09 ?_
 refine z0e ?_
 refine cBx ?_
 refine bR ?_
 obtain ⟨x6, hx6, h⟩ := obind h
 refine sS rfl rfl rfl (z25 (z0w (i := s3) Try.underlying27 z24 rfl rfl rfl hx6 (z1r _))) ?_
 refine sS rfl rfl rfl (Op1.wk (x := (PV.old (zdz x6))) (z25 (zb0 z24 Try.underlying101 rfl rfl rfl rfl rfl)) (Wk.opened (cs := [(ofStr x6.1), (I64 ((x6.2).kind)), (BO ((x6.2).bool)), (I64 ((x6.2).int)), (PV.v (.float .f64 (x6.2).float)), (ofStr (x6.2).text), (PV.sl none 5 1 (List.map ofB (x6.2).bytes)), (PV.v (.int .u64 (x6.2).ref)), (PV.sl none 29 11 (List.map z0r (x6.2).list)), (PV.sl none 101 12 (List.map z0f (x6.2).fields)), (ofStr (x6.2).cls), (I64 ((x6.2).ver))]) (wko (wko (wko (wko (wko (wko (wkr (wko (wkr (wkr (wko (wko .nil)))))))))))))) ?_
 refine sS rfl rfl rfl (z16 z24 rfl) ?_
 refine z0m rfl rfl (z0d z24 rfl rfl rfl rfl rfl rfl (lbE rfl) rfl) ?_
 refine z06 ?_
 refine cBx ?_
 refine z13 8 [7] [1] mo (by kernel_rfl) ?_
 iterate 5 refine gX ?_
 obtain ⟨x7, hx7, h⟩ := obind h
 refine z1h rfl rfl rfl rfl (fun H hp => z04 rfl Z5r rfl (.cons (Wk.aggOld (ys := (cc0 (x6.2))) (.cons (Wk.toOld Pl.v) (.cons (Wk.toOld Pl.v) (.cons (Wk.toOld Pl.v) (.cons (Wk.toOld Pl.v) (.cons (Wk.toOld Pl.v) (wkr (.cons (Wk.toOld Pl.v) (wkr (wkr (.cons (Wk.toOld Pl.v) (.cons (Wk.toOld Pl.v) .nil)))))))))))) .nil) ⟨(z1e (z10 (x6.2))), trivial⟩ (c_q1f (x6.2) x7 hx7) (ids_V x7)) ?_
 refine z1h rfl rfl rfl rfl (fun H hp => z1x (cs := [(ofStr x6.1), (ofV x7)]) Z4d z2z rfl rfl (by simp only [List.all_cons, List.all_nil, Z0x, ze5, Bool.and_true, Bool.true_and]; try rfl) (by simp only [zgb, List.getElem?_cons_zero, List.getElem?_cons_succ, z47, z3y]; rfl)) ?_
 refine z7e rfl rfl rfl rfl ((z1q (xs := [(PV.agg [(ofStr x6.1), (ofV x7)])]) Try.underlying45 z2z rfl rfl rfl (by simp only [List.all_cons, List.all_nil, Z0x, ze5, Bool.and_true, Bool.true_and]; try rfl) (by simp only [List.all_cons, List.all_nil, Z0w, zjn, z47, z3y]; try rfl) rfl ⟨lbE rfl, lbE rfl⟩ (by simp only [zp6, zgb, List.flatMap_cons, List.flatMap_nil, z47, z3y]; try rfl)).cast (y := (PV.sl (some 2) 43 2 (List.map ofFld ([(x6.1, x7)] : (List (Str × V)))))) rfl rfl) ⟨rfl, trivial⟩ ?_
 refine z11 ?_
 change AO _ _ _ _ _
 obtain ⟨x8, hx8, h⟩ := obind h
 refine sS rfl rfl rfl (z3k Try.underlying45 z2z rfl Try.underlying45 rfl rfl rfl rfl Z5u zy1 hx8 rfl) ?_
 refine eX ?_
 refine z0a ?_
 refine sS rfl rfl rfl (z1b (k := s3) (c := 1) rfl rfl rfl (by omega)) ?_
 refine sX (z06 ?_)
 exact ⟨rfl, (x8, (s3 + 1)), h, jN⟩
 intro hc4 h
 refine z1a ?_
 refine cBx ?_
 refine bR ?_
 refine sX ?_
 refine eX ?_
 obtain rfl := eI h; exact z05 ⟨_, rfl, z1f (y := (PV.sl none 43 2 (List.map ofFld s2))) Wk.tok (z0c z2i s2) ⟨rfl, rfl⟩⟩
theorem zio (r_q1x : (List (Str × Term)) → Option (List (Str × V))) (c_q1x : ∀ (a0 : (List (Str × Term))) r, r_q1x a0 = some r → z08 Try.prog 103 [(PV.old (PV.sl none 101 12 (List.map z0f a0)))] (PV.sl none 43 2 (List.map ofFld r))) (r_q1f : Term → Option V) (c_q1f : ∀ (a0 : Term) r, r_q1f a0 = some r → z08 Try.prog 87 [(PV.old (z0v a0))] (ofV r)) (a0 : Term) (r : V) (h : zoi r_q1x r_q1f a0 = some r) : z08 Try.prog 87 [(PV.old (z0v a0))] (ofV r) := by
 unfold zoi at h
 refine z0g Try.func87 rfl Try.ntmps87 Try.results87 rfl (z0q ?_)
 change BW _ _ _ ⟨[(0, (PV.old (z0v a0)))], [], _⟩ _
 refine zy3 0 rfl (Wk.opened (cs := (cc0 a0)) (wko (wko (wko (wko (wko (wkr (wko (wkr (wkr (wko (wko .nil)))))))))))) ?_
 refine bR ?_
 refine sX ?_
 refine eX ?_
 refine z09 ?_
 refine bR ?_
 refine sX ?_
 refine eX ?_
 refine z0e ?_
 refine cBx ?_
 refine bR ?_
 refine sX ?_
 refine eX ?_
 refine cX h rfl ?_ ?_
 intro hc1 h
 refine bR ?_
 refine eX ?_
 obtain rfl := eI h; exact z05 ⟨_, rfl, z1f (y := (ofV V.nil)) (Wk.eq mk_nil.symm) (ids_V V.nil) ⟨rfl, rfl⟩⟩
 intro hc1 h
 refine bR ?_
 refine sX ?_
 refine eX ?_
 refine cX h rfl ?_ ?_
 intro hc2 h
 refine bR ?_
 iterate 2 refine sX ?_
 refine sS rfl rfl rfl ((z4g Try.underlying4 rfl rfl rfl).wk ((Wk.iface (Wk.refl _)).trans (Wk.eq (Z59 _).symm))) ?_
 refine eX ?_
 obtain rfl := eI h; exact z05 ⟨_, rfl, z1f (y := (ofV (V.bool a0.bool))) (Wk.refl _) (ids_V (V.bool a0.bool)) ⟨rfl, rfl⟩⟩
 intro hc2 h
 refine bR ?_
 refine sX ?_
 refine eX ?_
 refine cX h rfl ?_ ?_
 intro hc3 h
 refine bR ?_
 iterate 2 refine sX ?_
 refine sS rfl rfl rfl ((z4g Try.underlying2 rfl rfl rfl).wk ((Wk.iface (Wk.refl _)).trans (Wk.eq (Z8j _).symm))) ?_
 refine eX ?_
 obtain rfl := eI h; exact z05 ⟨_, rfl, z1f (y := (ofV (V.int a0.int))) (Wk.refl _) (ids_V (V.int a0.int)) ⟨rfl, rfl⟩⟩
 intro hc3 h
 refine bR ?_
 refine sX ?_
 refine eX ?_
 refine cX h rfl ?_ ?_
 intro hc4 h
 refine bR ?_
 iterate 2 refine sX ?_
 refine sS rfl rfl rfl ((z4g Try.underlying22 rfl rfl rfl).wk ((Wk.iface (Wk.refl _)).trans (Wk.eq (zzs _).symm))) ?_
 refine eX ?_
 obtain rfl := eI h; exact z05 ⟨_, rfl, z1f (y := (ofV (V.float a0.float))) (Wk.refl _) (ids_V (V.float a0.float)) ⟨rfl, rfl⟩⟩
 intro hc4 h
 refine bR ?_
 refine sX ?_
 refine eX ?_
 refine cX h rfl ?_ ?_
 intro hc5 h
 refine bR ?_
 iterate 2 refine sX ?_
 refine sS rfl rfl rfl ((z4g Try.underlying9 rfl rfl rfl).wk ((Wk.iface (Wk.refl _)).trans (Wk.eq (Z57 _).symm))) ?_
 refine eX ?_
 obtain rfl := eI h; exact z05 ⟨_, rfl, z1f (y := (ofV (V.text a0.text))) (Wk.refl _) (ids_V (V.text a0.text)) ⟨rfl, rfl⟩⟩
 intro hc5 h
 refine bR ?_
 refine sX ?_
 refine eX ?_
 refine cX h rfl ?_ ?_
 intro hc6 h
 refine bR ?_
 refine sS rfl rfl rfl ((z1q (xs := []) Try.underlying23 inf_5 rfl rfl rfl rfl rfl rfl ⟨lbE rfl, lbE rfl⟩ rfl).cast (y := (PV.sl (some 1) 5 1 (List.map ofB ([] : Str)))) rfl rfl) ?_
 iterate 2 refine sX ?_
 obtain ⟨x7, hx7, h⟩ := obind h
 refine sS rfl rfl rfl (zb2 Try.underlying23 inf_5 rfl Try.underlying23 rfl rfl rfl rfl (fun _ => rfl) (fun _ => rfl) hx7 rfl (fun _ => (z3o Sc.v z8e))) ?_
 refine sS rfl rfl rfl ((z4g Try.underlying23 rfl rfl rfl).wk ((Wk.iface Wk.tok).trans (Wk.eq (zzt _).symm))) ?_
 refine eX ?_
 obtain rfl := eI h; exact z05 ⟨_, rfl, z1f (y := (ofV (V.bytes x7))) (Wk.refl _) (ids_V (V.bytes x7)) ⟨rfl, rfl⟩⟩
 intro hc6 h
 refine bR ?_
 refine sX ?_
 refine eX ?_
 refine cX h rfl ?_ ?_
 intro hc8 h
 refine bR ?_
 iterate 2 refine sX ?_
 refine sS rfl rfl rfl ((z4g Try.underlying25 rfl rfl rfl).wk ((Wk.iface (Wk.refl _)).trans (Wk.eq (Z8i _).symm))) ?_
 refine eX ?_
 obtain rfl := eI h; exact z05 ⟨_, rfl, z1f (y := (ofV (V.ref a0.ref))) (Wk.refl _) (ids_V (V.ref a0.ref)) ⟨rfl, rfl⟩⟩
 intro hc8 h
 refine bR ?_
 refine sX ?_
 refine eX ?_
 refine cX h rfl ?_ ?_
 intro hc9 h
 refine bR ?_
 iterate 2 refine sX ?_
 refine sS rfl rfl rfl (z23 (z4i Try.underlying26 rfl rfl) Sc.v) ?_
 obtain ⟨x10, hx10, h⟩ := obind h
 refine sS rfl rfl rfl ((zwo (f := ofV) (c := ((a0.list).length)) Try.underlying37 zbe rfl rfl rfl rfl hx10 (p := (PV.v .nilIface)) rfl).cast (y := (PV.sl (some 1) 20 1 (List.map ofV ([] : (List V))))) rfl rfl) ?_
 refine eX ?_
 refine z09 ?_
 refine bR ?_
 iterate 2 refine sX ?_
 refine sS rfl rfl rfl (z23 (z4i Try.underlying26 rfl rfl) Sc.v) ?_
 refine eX ?_
 refine z0e ?_
 refine cBx ?_
 unfold zew at h
 refine z3c (σ := ((List V) × Nat)) (fun i => [(3, (PV.sl (some 1) 20 1 (List.map ofV i.1))), (49, (PV.old (PV.sl none 29 11 (List.map z0r a0.list)))), (50, (I64 ((((a0.list).length : Nat) : Int)))), (51, (I64 (((i.2 : Nat) : Int))))]) (fun i => [.dead, .arr 20 (i.1).length]) (([] : (List V)), 0) h ?_ ?_ ?_
 intro i; exact ⟨lbE rfl, ⟨(z8b rfl (z3p ids_V _)), ⟨(z00 (z1e (z0c z1p _))), ⟨(z00 rfl), ⟨(z00 rfl), trivial⟩⟩⟩⟩, trivial⟩
 exact ⟨(.cons .dead (.cons .same .nil)), (sC rfl (sC rfl (sC rfl (sC rfl z1i))))⟩
 rintro g1_f ⟨s11, s12⟩ h; replace h : z66 r_q1f a0 (fun y0 y1 => g1_f (y0, y1)) s11 s12 = some r := h; unfold z66 at h
 change BW _ _ _ ⟨[(3, (PV.sl (some 1) 20 1 (List.map ofV s11))), (49, (PV.old (PV.sl none 29 11 (List.map z0r a0.list)))), (50, (I64 ((((a0.list).length : Nat) : Int)))), (51, (I64 (((s12 : Nat) : Int))))], [.dead, .arr 20 (s11).length], _⟩ _
 refine bR ?_
 refine eX ?_
 refine z09 ?_
 refine zg7 (t := 49) rfl fun hb14 => ?_
 try rw [List.length_map] at hb14
 refine cX h rfl ?_ ?_
 intro hc13 h
 have hc13_ := of_decide_eq_true hc13
 refine z07 ?_
 refine cBx ?_
 refine z09 ?_
 refine z0e ?_
 refine cBx ?_
 refine bR ?_
 obtain ⟨x15, hx15, h⟩ := obind h
 refine sS rfl rfl rfl (z25 (z0w (i := s12) Try.underlying26 z20 rfl rfl rfl hx15 (z26 _))) ?_
 refine sS rfl rfl rfl (Op1.wk (x := (PV.old (z0v x15))) (z25 (zb0 z20 Try.underlying29 rfl rfl rfl rfl rfl)) (Wk.opened (cs := (cc0 x15)) (wko (wko (wko (wko (wko (wkr (wko (wkr (wkr (wko (wko .nil))))))))))))) ?_
 refine sS rfl rfl rfl (z16 z20 rfl) ?_
 refine z0m rfl rfl (z0d z20 rfl rfl rfl rfl rfl rfl (lbE rfl) rfl) ?_
 refine z06 ?_
 refine cBx ?_
 refine z0a ?_
 iterate 2 refine sX ?_
 obtain ⟨x16, hx16, h⟩ := obind h
 refine sS rfl rfl rfl (z04 rfl Z5r rfl (.cons (Wk.aggOld (ys := (cc0 x15)) (.cons (Wk.toOld Pl.v) (.cons (Wk.toOld Pl.v) (.cons (Wk.toOld Pl.v) (.cons (Wk.toOld Pl.v) (.cons (Wk.toOld Pl.v) (wkr (.cons (Wk.toOld Pl.v) (wkr (wkr (.cons (Wk.toOld Pl.v) (.cons (Wk.toOld Pl.v) .nil)))))))))))) .nil) ⟨(z1e (z10 x15)), trivial⟩ (c_q1f x15 x16 hx16) (ids_V x16)) ?_
 refine sS rfl rfl rfl ((z1q (xs := [(ofV x16)]) Try.underlying37 zbe rfl rfl rfl (by simp only [List.all_cons, List.all_nil, Z0x, ze5, Bool.and_true, Bool.true_and]; try rfl) (by simp only [List.all_cons, List.all_nil, Z0w, zjn, z47, z3y]; try rfl) rfl ⟨lbE rfl, lbE rfl⟩ (by simp only [zp6, zgb, List.flatMap_cons, List.flatMap_nil, z47, z3y]; try rfl)).cast (y := (PV.sl (some 3) 20 1 (List.map ofV ([x16] : (List V))))) rfl rfl) ?_
 obtain ⟨x17, hx17, h⟩ := obind h
 refine sS rfl rfl rfl (z3k Try.underlying37 zbe rfl Try.underlying37 rfl rfl rfl rfl Z0w Z5y hx17 rfl) ?_
 refine eX ?_
 refine z0a ?_
 refine sS rfl rfl rfl (z1b (k := s12) (c := 1) rfl rfl rfl (by omega)) ?_
 refine sX (z06 ?_)
 exact ⟨rfl, (x17, (s12 + 1)), h, ⟨(.cons .dead (.cons .same .nil)), (sC rfl (sC rfl (sC rfl (sC rfl z1i))))⟩⟩
 intro hc13 h
 refine z1a ?_
 refine cBx ?_
 refine bR ?_
 refine sX ?_
 refine sS rfl rfl rfl ((z4g Try.underlying37 rfl rfl rfl).wk ((Wk.iface Wk.tok).trans (Wk.eq (Z58 _).symm))) ?_
 refine eX ?_
 obtain rfl := eI h; exact z05 ⟨_, rfl, z1f (y := (ofV (V.list s11))) (Wk.refl _) (ids_V (V.list s11)) ⟨rfl, rfl⟩⟩
 intro hc9 h
 refine bR ?_
 refine sX ?_
 refine eX ?_
 refine cX h rfl ?_ ?_
 intro hc18 h
 refine bR ?_
 iterate 2 refine sX ?_
 obtain ⟨x19, hx19, h⟩ := obind h
 refine sS rfl rfl rfl (z04 rfl Z3u rfl (wkr .nil) ⟨(z1e (z0c z19 a0.fields)), trivial⟩ (c_q1x a0.fields x19 hx19) (z0c z2i x19)) ?_
 refine sS rfl rfl rfl ((z4g Try.underlying45 rfl rfl rfl).wk ((Wk.iface (Wk.refl _)).trans (Wk.eq (zwx _).symm))) ?_
 refine eX ?_
 obtain rfl := eI h; exact z05 ⟨_, rfl, z1f (y := (ofV (V.dict x19))) (Wk.refl _) (ids_V (V.dict x19)) ⟨rfl, rfl⟩⟩
 intro hc18 h
 refine bR ?_
 refine sX ?_
 refine eX ?_
 refine cX h rfl ?_ ?_
 intro hc20 h
 refine z09 (z13 7 [] [0] mo (by kernel_rfl) ?_)
 iterate 6 refine gX ?_
 obtain ⟨x21, hx21, h⟩ := obind h
 refine z1h rfl rfl rfl rfl (fun H hp => z04 rfl Z3u rfl (wkr .nil) ⟨(z1e (z0c z19 a0.fields)), trivial⟩ (c_q1x a0.fields x21 hx21) (z0c z2i x21)) ?_
 refine z11 ?_
 change AO _ _ _ _ _
 refine sS rfl rfl rfl (z1x (cs := [(ofStr a0.cls), (I64 a0.ver), (PV.sl none 43 2 (List.map ofFld x21))]) zsx Z8q rfl rfl rfl rfl) ?_
 refine sX ?_
 refine sS rfl rfl rfl (z4g Try.underlying70 rfl rfl rfl) ?_
 refine eX ?_
 refine zg6 1 2 (y := (ofV (V.record a0.cls a0.ver x21))) rfl rfl ((Wk.iface (Wk.pt (x := .agg [(ofStr a0.cls), (I64 a0.ver), (PV.sl none 43 2 (List.map ofFld x21))]) (y := zwu (Rec.mk a0.cls a0.ver x21)) (wkr (wkr (wkr .nil))))).trans (Wk.eq (Z35 (some (Rec.mk a0.cls a0.ver x21))).symm)) ?_
 obtain rfl := eI h; exact z05 ⟨_, rfl, z1f (y := (ofV (V.record a0.cls a0.ver x21))) (Wk.refl _) (ids_V (V.record a0.cls a0.ver x21)) ⟨rfl, rfl⟩⟩
 intro hc20 h
 refine bR ?_
 refine sX ?_
 refine eX ?_
 refine cX h rfl ?_ ?_
 intro hc22 h
 refine bR ?_
 refine sS rfl rfl rfl ((z4g Try.underlying70 rfl rfl rfl).wk (Wk.eq (Z35 none).symm)) ?_
 refine eX ?_
 obtain rfl := eI h; exact z05 ⟨_, rfl, z1f (y := (ofV V.nothing)) (Wk.refl _) (ids_V V.nothing) ⟨rfl, rfl⟩⟩
 intro hc22 h
 refine z07 ?_
 refine cBx ?_
 refine bR ?_
 refine sS rfl rfl rfl (z1x (cs := []) Z2j Z5h rfl rfl rfl rfl) ?_
 refine sS rfl rfl rfl ((z4g Try.underlying153 rfl rfl rfl).wk ((Wk.iface Wk.junk).trans (Wk.eq (zzu ⟨153, rfl⟩).symm))) ?_
 refine eX ?_
 obtain rfl := eI h; exact z05 ⟨_, rfl, z1f (y := (ofV (V.alien ⟨153, rfl⟩))) (Wk.refl _) (ids_V (V.alien ⟨153, rfl⟩)) ⟨rfl, rfl⟩⟩
theorem C_q1x.sound : ∀ (i : C_q1x) (r : i.R), z22 C_q1x.F i = some r → C_q1x.Q i r := by
 refine z2r (Φ := C_q1x.F) (Q := C_q1x.Q) ?_
 intro g hg i r h
 cases i with
 | k_q1x a0 => exact zjx (fun a0 => g (.k_q1x a0)) (fun a0 r hr => hg (.k_q1x a0) r hr) (fun a0 => g (.k_q1f a0)) (fun a0 r hr => hg (.k_q1f a0) r hr) a0 r h
 | k_q1f a0 => exact zio (fun a0 => g (.k_q1x a0)) (fun a0 r hr => hg (.k_q1x a0) r hr) (fun a0 => g (.k_q1f a0)) (fun a0 r hr => hg (.k_q1f a0) r hr) a0 r h
theorem Zax (a0 : Term) (r : V) (h : z8c a0 = some r) : z08 Try.prog 87 [(PV.old (z0v a0))] (ofV r) := C_q1x.sound (.k_q1f a0) r h
noncomputable def zj8 (a0 : V) : Option Int :=
 bif (a0).isNil then (
 some 1
 ) else (
 bif (a0).isBool then (
 some 2
 ) else (
 bif (a0).isInt then (
 some 3
 ) else (
 bif (a0).isFloat then (
 some 4
 ) else (
 bif (a0).isText then (
 some 5
 ) else (
 bif (a0).isBytes then (
 some 6
 ) else (
 bif (a0).isRef then (
 some 7
 ) else (
 bif (a0).isList then (
 some 8
 ) else (
 bif (a0).isDict then (
 some 9
 ) else (
 bif (a0).isRec then (
 bif ((a0).asRec).isNone then (
 some 11
 ) else (
 some 10
 )
 ) else (
 some 0
 )
 )
 )
 )
 )
 )
 )
 )
 )
 )
theorem zr4 (a0 : V) (r : Int) (h : zj8 a0 = some r) : z08 Try.prog 86 [(ofV a0)] (I64 r) := by
 unfold zj8 at h
 refine z0g Try.func86 rfl Try.ntmps86 Try.results86 rfl (z0q ?_)
 change BW _ _ _ ⟨[(0, (ofV a0))], [], _⟩ _
 refine bR ?_
 refine eX ?_
 refine z09 ?_
 refine bR ?_
 refine eX ?_
 refine z0e ?_
 refine cBx ?_
 refine bR ?_
 refine sS rfl rfl rfl (zs4 Try.underlying20 rfl rfl) (z06 ?_)
 refine cBx ?_
 refine cX h rfl ?_ ?_
 intro hc1 h
 refine bR ?_
 refine eX ?_
 refine bR ?_
 refine eX ?_
 obtain rfl := eI h; exact z05 eK
 intro hc1 h
 refine bR ?_
 refine sS rfl rfl rfl (zcx rfl rfl) ?_
 refine sX ?_
 refine eX ?_
 refine cX h rfl ?_ ?_
 intro hc2 h
 refine bR ?_
 refine eX ?_
 refine bR ?_
 refine eX ?_
 obtain rfl := eI h; exact z05 eK
 intro hc2 h
 refine bR ?_
 refine sS rfl rfl rfl (zfk rfl rfl) ?_
 refine sX ?_
 refine eX ?_
 refine cX h rfl ?_ ?_
 intro hc3 h
 refine bR ?_
 refine eX ?_
 refine bR ?_
 refine eX ?_
 obtain rfl := eI h; exact z05 eK
 intro hc3 h
 refine bR ?_
 refine sS rfl rfl rfl (z9y rfl rfl) ?_
 refine sX ?_
 refine eX ?_
 refine cX h rfl ?_ ?_
 intro hc4 h
 refine bR ?_
 refine eX ?_
 refine bR ?_
 refine eX ?_
 obtain rfl := eI h; exact z05 eK
 intro hc4 h
 refine bR ?_
 refine sS rfl rfl rfl (z94 rfl rfl) ?_
 refine sX ?_
 refine eX ?_
 refine cX h rfl ?_ ?_
 intro hc5 h
 refine bR ?_
 refine eX ?_
 refine bR ?_
 refine eX ?_
 obtain rfl := eI h; exact z05 eK
 intro hc5 h
 refine bR ?_
 refine sS rfl rfl rfl (z7w rfl rfl) ?_
 refine sX ?_
 refine eX ?_
 refine cX h rfl ?_ ?_
 intro hc6 h
 refine bR ?_
 refine eX ?_
 refine bR ?_
 refine eX ?_
 obtain rfl := eI h; exact z05 eK
 intro hc6 h
 refine bR ?_
 refine sS rfl rfl rfl (zfj rfl rfl) ?_
 refine sX ?_
 refine eX ?_
 refine cX h rfl ?_ ?_
 intro hc7 h
 refine bR ?_
 refine eX ?_
 refine bR ?_
 refine eX ?_
 obtain rfl := eI h; exact z05 eK
 intro hc7 h
 refine bR ?_
 refine sS rfl rfl rfl (z4x rfl rfl) ?_
 refine sX ?_
 refine eX ?_
 refine cX h rfl ?_ ?_
 intro hc8 h
 refine bR ?_
 refine eX ?_
 refine bR ?_
 refine eX ?_
 obtain rfl := eI h; exact z05 eK
 intro hc8 h
 refine bR ?_
 refine sS rfl rfl rfl (z4y rfl rfl) ?_
 refine sX ?_
 refine eX ?_
 refine cX h rfl ?_ ?_
 intro hc9 h
 refine bR ?_
 refine eX ?_
 refine bR ?_
 refine eX ?_
 obtain rfl := eI h; exact z05 eK
 intro hc9 h
 refine bR ?_
 refine sS rfl rfl rfl (z75 rfl rfl) ?_
 refine sX ?_
 refine eX ?_
 refine cX h rfl ?_ ?_
 intro hc10 h
 refine bR ?_
 refine eX ?_
 refine z09 ?_
 refine bR ?_
 refine sX ?_
 refine sS rfl rfl rfl (zi1 Try.underlying70 rfl rfl) (z06 ?_)
 refine cBx ?_
 refine cX h rfl ?_ ?_
 intro hc11 h
 refine bR ?_
 refine eX ?_
 obtain rfl := eI h; exact z05 eK
 intro hc11 h
 refine z07 ?_
 refine cBx ?_
 refine bR ?_
 refine eX ?_
 obtain rfl := eI h; exact z05 eK
 intro hc10 h
 refine z07 ?_
 refine cBx ?_
 refine bR ?_
 refine eX ?_
 obtain rfl := eI h; exact z05 eK
noncomputable def z70 (g1 : Nat → Option Bool) (s4 : Nat) (s8 : Bool) : Option Bool :=
 bif s8 then (
 some false
 ) else (
 g1 (s4 + 1)
 )
theorem ztu (g1 : OF ρ → Nat → Option Bool) (h_g1 : ∀ y0, CM (fun G => g1 G y0)) (s4 : Nat) (s8 : Bool) : CM (fun G : OF ρ => z70 (g1 G) s4 s8) := by
 simp only [z70]
 repeat (first | exact z01 | exact h_g1 _ | refine z0h ?_ ?_ | refine z0i ?_ (fun _ => ?_))
noncomputable def z5z (a0 : Str) (g1 : Nat → Option Bool) (s4 : Nat) : Option Bool :=
 bif (decide (((s4 : Nat) : Int) < (((a0).length : Nat) : Int))) then (
 ((a0)[s4]?).bind fun x7 =>
 bif (decide (((x7).toNat : Int) < (((97 : UInt8)).toNat : Int))) then (
 bif (decide (((x7).toNat : Int) < (((48 : UInt8)).toNat : Int))) then (
 z70 g1 s4 (((x7).toNat : Int) != (((95 : UInt8)).toNat : Int))
 ) else (
 bif (decide (((x7).toNat : Int) > (((57 : UInt8)).toNat : Int))) then (
 z70 g1 s4 (((x7).toNat : Int) != (((95 : UInt8)).toNat : Int))
 ) else (
 z70 g1 s4 false
 )
 )
 ) else (
 bif (decide (((x7).toNat : Int) > (((122 : UInt8)).toNat : Int))) then (
 bif (decide (((x7).toNat : Int) < (((48 : UInt8)).toNat : Int))) then (
 z70 g1 s4 (((x7).toNat : Int) != (((95 : UInt8)).toNat : Int))
 ) else (
 bif (decide (((x7).toNat : Int) > (((57 : UInt8)).toNat : Int))) then (
 z70 g1 s4 (((x7).toNat : Int) != (((95 : UInt8)).toNat : Int))
 ) else (
 z70 g1 s4 false
 )
 )
 ) else (
 z70 g1 s4 false
 )
 )
 ) else (
 some true
 )
theorem zr9 (g1 : OF ρ → Nat → Option Bool) (h_g1 : ∀ y0, CM (fun G => g1 G y0)) (a0 : Str) (s4 : Nat) : CM (fun G : OF ρ => z5z a0 (g1 G) s4) := by
 simp only [z5z]
 repeat (first | exact z01 | exact h_g1 _ | apply ztu | refine z0h ?_ ?_ | refine z0i ?_ (fun _ => ?_) | intro _ | assumption)
noncomputable def zkg (a0 : Str) (s4 : Nat) : Option Bool :=
 z22 (ι := Nat) (ρ := fun _ => Bool) (fun g i => z5z a0 (fun s4 => g s4) i) s4
theorem zkf (a0 : Str) (s4 : Nat) : zkg a0 s4 = z5z a0 (zkg a0) s4 :=
 z0t (ι := Nat) (ρ := fun _ => Bool) (Φ := fun g i => z5z a0 (fun s4 => g s4) i) (fun i => zr9 (ι := Nat) (ρ := fun _ => Bool) (fun g => (fun s4 => g s4)) (fun _ => z0s) a0 i) s4
noncomputable def zde (a0 : Str) (s1 : Bool) : Option Bool :=
 bif s1 then (
 some false
 ) else (
 (zgs (a0).length).bind fun x3 =>
 zkg a0 0
 )
noncomputable def zn8 (a0 : Str) : Option Bool :=
 bif (a0 == ([] : Str)) then (
 zde a0 true
 ) else (
 bif (decide ((((a0).length : Nat) : Int) > 32)) then (
 zde a0 true
 ) else (
 ((a0)[0]?).bind fun x18 =>
 bif (decide (((x18).toNat : Int) < (((97 : UInt8)).toNat : Int))) then (
 zde a0 true
 ) else (
 ((a0)[0]?).bind fun x20 =>
 zde a0 (decide (((x20).toNat : Int) > (((122 : UInt8)).toNat : Int)))
 )
 )
 )
theorem Z75 (a0 : Str) (r : Bool) (h : zn8 a0 = some r) : z08 Try.prog 122 [(ofStr a0)] (BO r) := by
 unfold zn8 at h
 refine z0g Try.func122 rfl Try.ntmps122 Try.results122 rfl (z0q ?_)
 change BW _ _ _ ⟨[(0, (ofStr a0))], [], _⟩ _
 refine bR ?_
 refine eX ?_
 refine z09 ?_
 refine jX (ι := Bool) (fun i => zde a0 i = some r) (fun i => [(0, (ofStr a0)), (21, (BO i))]) (fun i => []) ?_ ?_
 rintro s1 h; replace h : zde a0 s1 = some r := h; unfold zde at h
 change BW _ _ _ ⟨[(0, (ofStr a0)), (21, (BO s1))], [], _⟩ _
 refine cX h rfl ?_ ?_
 intro hc2 h
 refine bR ?_
 refine eX ?_
 obtain rfl := eI h; exact z05 eK
 intro hc2 h
 refine z07 ?_
 refine cBx ?_
 refine z09 ?_
 refine bR ?_
 refine sX ?_
 obtain ⟨x3, hx3, h⟩ := obind h
 refine sS rfl rfl rfl (zwq Try.underlying9 Try.underlying23 Try.underlying5 rfl rfl hx3) ?_
 refine sX ?_
 refine eX ?_
 refine z0e ?_
 refine cBx ?_
 unfold zkg at h
 refine lX (σ := Nat) (fun i => [(23, (PV.sl none 5 1 (List.map ofB a0))), (24, (I64 ((((a0).length : Nat) : Int)))), (25, (I64 (((i : Nat) : Int))))]) (fun i => []) 0 h ?_ ?_
 exact jN
 rintro g1_f s4 h; replace h : z5z a0 (fun y0 => g1_f y0) s4 = some r := h; unfold z5z at h
 change BW _ _ _ ⟨[(23, (PV.sl none 5 1 (List.map ofB a0))), (24, (I64 ((((a0).length : Nat) : Int)))), (25, (I64 (((s4 : Nat) : Int))))], [], _⟩ _
 refine bR ?_
 refine eX ?_
 refine z09 ?_
 refine z2f (t := 23) rfl fun hb6 => ?_
 try rw [List.length_map] at hb6
 refine cX h rfl ?_ ?_
 intro hc5 h
 have hc5_ := of_decide_eq_true hc5
 refine z07 ?_
 refine cBx ?_
 refine z09 ?_
 refine z0e ?_
 refine cBx ?_
 refine bR ?_
 obtain ⟨x7, hx7, h⟩ := obind h
 refine sS rfl rfl rfl (z0w (i := s4) Try.underlying23 inf_5 rfl rfl rfl hx7 rfl) ?_
 refine sX ?_
 refine eX ?_
 refine jX (ι := Bool) (fun i => z70 (fun y0 => g1_f y0) s4 i = some r) (fun i => [(23, (PV.sl none 5 1 (List.map ofB a0))), (24, (I64 ((((a0).length : Nat) : Int)))), (25, (I64 (((s4 : Nat) : Int)))), (46, (BO i))]) (fun i => []) ?_ ?_
 rintro s8 h; replace h : z70 (fun y0 => g1_f y0) s4 s8 = some r := h; unfold z70 at h
 change BW _ _ _ ⟨[(23, (PV.sl none 5 1 (List.map ofB a0))), (24, (I64 ((((a0).length : Nat) : Int)))), (25, (I64 (((s4 : Nat) : Int)))), (46, (BO s8))], [], _⟩ _
 refine cX h rfl ?_ ?_
 intro hc9 h
 refine bR ?_
 refine eX ?_
 obtain rfl := eI h; exact z05 eK
 intro hc9 h
 refine z07 ?_
 refine cBx ?_
 refine z0a ?_
 refine sS rfl rfl rfl (z1b (k := s4) (c := 1) rfl rfl rfl (by omega)) ?_
 refine sX (z06 ?_)
 exact ⟨rfl, (s4 + 1), h, jN⟩
 refine z0a ?_
 iterate 3 refine sX ?_
 refine z0n (t := 31) rfl ?_ ?_
 intro hb10; replace h := z0j hb10 h
 iterate 2 refine nX ?_
 iterate 2 refine sX ?_
 iterate 3 refine yX ?_
 refine z0n (t := 38) rfl ?_ ?_
 intro hb11; replace h := z0j hb11 h
 iterate 2 refine nX ?_
 refine yX ?_
 iterate 2 refine sX ?_
 iterate 2 refine yX ?_
 refine sX (z06 ?_)
 exact ⟨rfl, (((x7).toNat : Int) != (((95 : UInt8)).toNat : Int)), h, jN⟩
 intro hb11; replace h := z0k hb11 h
 iterate 3 refine yX ?_
 iterate 2 refine sX ?_
 refine z0n (t := 43) rfl ?_ ?_
 intro hb12; replace h := z0j hb12 h
 iterate 2 refine yX ?_
 refine sX (z06 ?_)
 exact ⟨rfl, (((x7).toNat : Int) != (((95 : UInt8)).toNat : Int)), h, jN⟩
 intro hb12; replace h := z0k hb12 h
 iterate 2 refine nX ?_
 refine sX (z06 ?_)
 exact ⟨rfl, false, h, jN⟩
 intro hb10; replace h := z0k hb10 h
 iterate 2 refine yX ?_
 iterate 2 refine sX ?_
 refine z0n (t := 35) rfl ?_ ?_
 intro hb13; replace h := z0j hb13 h
 iterate 3 refine yX ?_
 refine z0n (t := 38) rfl ?_ ?_
 intro hb14; replace h := z0j hb14 h
 iterate 2 refine nX ?_
 refine yX ?_
 iterate 2 refine sX ?_
 iterate 2 refine yX ?_
 refine sX (z06 ?_)
 exact ⟨rfl, (((x7).toNat : Int) != (((95 : UInt8)).toNat : Int)), h, jN⟩
 intro hb14; replace h := z0k hb14 h
 iterate 3 refine yX ?_
 iterate 2 refine sX ?_
 refine z0n (t := 43) rfl ?_ ?_
 intro hb15; replace h := z0j hb15 h
 iterate 2 refine yX ?_
 refine sX (z06 ?_)
 exact ⟨rfl, (((x7).toNat : Int) != (((95 : UInt8)).toNat : Int)), h, jN⟩
 intro hb15; replace h := z0k hb15 h
 iterate 2 refine nX ?_
 refine sX (z06 ?_)
 exact ⟨rfl, false, h, jN⟩
 intro hb13; replace h := z0k hb13 h
 iterate 6 refine nX ?_
 iterate 2 refine sX ?_
 iterate 2 refine nX ?_
 refine sX (z06 ?_)
 exact ⟨rfl, false, h, jN⟩
 intro hc5 h
 refine z1a ?_
 refine cBx ?_
 refine bR ?_
 refine eX ?_
 obtain rfl := eI h; exact z05 eK
 refine z0a ?_
 refine sX ?_
 refine sS rfl rfl rfl ((z21 (a := a0) (b := ([] : Str)) rfl rfl rfl rfl).cast (y := (BO ((a0 == ([] : Str))))) rfl rfl) ?_
 refine sX ?_
 refine z0n (t := 7) rfl ?_ ?_
 intro hb16; replace h := z0j hb16 h
 iterate 3 refine nX ?_
 iterate 2 refine sX ?_
 iterate 3 refine nX ?_
 iterate 2 refine sX ?_
 iterate 3 refine nX ?_
 refine sX (z06 ?_)
 exact ⟨rfl, true, h, jN⟩
 intro hb16; replace h := z0k hb16 h
 refine yX ?_
 refine z1g rfl rfl rfl rfl rfl rfl (z97 (s := a0) Try.underlying9 rfl rfl) ?_
 refine yX ?_
 iterate 2 refine sX ?_
 refine z0n (t := 12) rfl ?_ ?_
 intro hb17; replace h := z0j hb17 h
 iterate 3 refine nX ?_
 iterate 2 refine sX ?_
 iterate 3 refine nX ?_
 refine sX (z06 ?_)
 exact ⟨rfl, true, h, jN⟩
 intro hb17; replace h := z0k hb17 h
 refine yX ?_
 obtain ⟨x18, hx18, h⟩ := obind h
 refine z1g rfl rfl rfl rfl rfl rfl (zlw (s := a0) (i := 0) Try.underlying9 rfl rfl rfl hx18) ?_
 refine yX ?_
 iterate 2 refine sX ?_
 refine z0n (t := 17) rfl ?_ ?_
 intro hb19; replace h := z0j hb19 h
 iterate 3 refine nX ?_
 refine sX (z06 ?_)
 exact ⟨rfl, true, h, jN⟩
 intro hb19; replace h := z0k hb19 h
 refine yX ?_
 obtain ⟨x20, hx20, h⟩ := obind h
 refine z1g rfl rfl rfl rfl rfl rfl (zlw (s := a0) (i := 0) Try.underlying9 rfl rfl rfl hx20) ?_
 refine yX ?_
 refine sX (z06 ?_)
 exact ⟨rfl, (decide (((x20).toNat : Int) > (((122 : UInt8)).toNat : Int))), h, jN⟩
noncomputable def zal (g1 : Nat → Option Int) (s2 : Nat) (s6 : Bool) : Option Int :=
 bif s6 then (
 some 8
 ) else (
 g1 (s2 + 1)
 )
theorem zuk (g1 : OF ρ → Nat → Option Int) (h_g1 : ∀ y0, CM (fun G => g1 G y0)) (s2 : Nat) (s6 : Bool) : CM (fun G : OF ρ => zal (g1 G) s2 s6) := by
 simp only [zal]
 repeat (first | exact z01 | exact h_g1 _ | refine z0h ?_ ?_ | refine z0i ?_ (fun _ => ?_))
noncomputable def z7m (a0 : (List (Str × V))) (g1 : Nat → Option Int) (s2 : Nat) : Option Int :=
 bif (decide (((s2 : Nat) : Int) < (((a0).length : Nat) : Int))) then (
 ((a0)[s2]?).bind fun x5 =>
 (zn8 x5.1).bind fun x8 =>
 bif (!x8) then (
 zal g1 s2 true
 ) else (
 bif (decide (((s2 : Nat) : Int) > 0)) then (
 (z5g a0 (IntKind.i64.wrap (((s2 : Nat) : Int) - 1))).bind fun x11 =>
 zal g1 s2 (Op.bytesLess x5.1 x11.1 || x5.1 == x11.1)
 ) else (
 zal g1 s2 false
 )
 )
 ) else (
 some 0
 )
theorem zrd (g1 : OF ρ → Nat → Option Int) (h_g1 : ∀ y0, CM (fun G => g1 G y0)) (a0 : (List (Str × V))) (s2 : Nat) : CM (fun G : OF ρ => z7m a0 (g1 G) s2) := by
 simp only [z7m]
 repeat (first | exact z01 | exact h_g1 _ | apply zuk | refine z0h ?_ ?_ | refine z0i ?_ (fun _ => ?_) | intro _ | assumption)
noncomputable def zl1 (a0 : (List (Str × V))) (s2 : Nat) : Option Int :=
 z22 (ι := Nat) (ρ := fun _ => Int) (fun g i => z7m a0 (fun s2 => g s2) i) s2
theorem zl0 (a0 : (List (Str × V))) (s2 : Nat) : zl1 a0 s2 = z7m a0 (zl1 a0) s2 :=
 z0t (ι := Nat) (ρ := fun _ => Int) (Φ := fun g i => z7m a0 (fun s2 => g s2) i) (fun i => zrd (ι := Nat) (ρ := fun _ => Int) (fun g => (fun s2 => g s2)) (fun _ => z0s) a0 i) s2
noncomputable def znb (a0 : (List (Str × V))) : Option Int :=
 bif (decide ((((a0).length : Nat) : Int) > 4096)) then (
 some 2
 ) else (
 zl1 a0 0
 )
theorem Z7g (a0 : (List (Str × V))) (r : Int) (h : znb a0 = some r) : z08 Try.prog 121 [(PV.sl none 43 2 (List.map ofFld a0))] (I64 r) := by
 unfold znb at h
 refine z0g Try.func121 rfl Try.ntmps121 Try.results121 rfl (z0q ?_)
 change BW _ _ _ ⟨[(0, (PV.sl none 43 2 (List.map ofFld a0)))], [], _⟩ _
 refine bR ?_
 refine eX ?_
 refine z09 ?_
 refine bR ?_
 iterate 2 refine sX ?_
 refine eX ?_
 refine cX h rfl ?_ ?_
 intro hc1 h
 refine bR ?_
 refine eX ?_
 obtain rfl := eI h; exact z05 eK
 intro hc1 h
 refine z07 ?_
 refine cBx ?_
 refine z09 ?_
 refine bR ?_
 iterate 2 refine sX ?_
 refine eX ?_
 refine z0e ?_
 refine cBx ?_
 unfold zl1 at h
 refine lX (σ := Nat) (fun i => [(0, (PV.sl none 43 2 (List.map ofFld a0))), (8, (PV.sl none 43 2 (List.map ofFld a0))), (9, (I64 ((((a0).length : Nat) : Int)))), (10, (I64 (((i : Nat) : Int))))]) (fun i => []) 0 h ?_ ?_
 exact jN
 rintro g1_f s2 h; replace h : z7m a0 (fun y0 => g1_f y0) s2 = some r := h; unfold z7m at h
 change BW _ _ _ ⟨[(0, (PV.sl none 43 2 (List.map ofFld a0))), (8, (PV.sl none 43 2 (List.map ofFld a0))), (9, (I64 ((((a0).length : Nat) : Int)))), (10, (I64 (((s2 : Nat) : Int))))], [], _⟩ _
 refine bR ?_
 refine eX ?_
 refine z09 ?_
 refine z2f (t := 8) rfl fun hb4 => ?_
 try rw [List.length_map] at hb4
 refine cX h rfl ?_ ?_
 intro hc3 h
 have hc3_ := of_decide_eq_true hc3
 refine z07 ?_
 refine cBx ?_
 refine z09 ?_
 refine z0e ?_
 refine cBx ?_
 refine bR ?_
 refine sX ?_
 obtain ⟨x5, hx5, h⟩ := obind h
 refine sS rfl rfl rfl (z0w (i := s2) Try.underlying45 z2z rfl rfl rfl hx5 rfl) ?_
 refine sX ?_
 refine sS rfl rfl rfl ((z16 z2z rfl).cast (H'' := [.box 43 [(ofStr []), (ofV V.nil)]]) rfl (by simp only [mk_nil]; rfl)) ?_
 refine sX ?_
 refine z0m rfl rfl (z0d z2z rfl rfl rfl rfl rfl rfl (lbE rfl) (by show List.all [(ofStr x5.1), (ofV x5.2)] z9g = true; simp only [List.all_cons, List.all_nil, zm0, z99, Bool.and_true, Bool.true_and]; try rfl)) ?_
 refine z06 ?_
 refine cBx ?_
 refine jX (ι := Bool) (fun i => zal (fun y0 => g1_f y0) s2 i = some r) (fun i => [(0, (PV.sl none 43 2 (List.map ofFld a0))), (8, (PV.sl none 43 2 (List.map ofFld a0))), (9, (I64 ((((a0).length : Nat) : Int)))), (10, (I64 (((s2 : Nat) : Int)))), (33, (BO i))]) (fun i => []) ?_ ?_
 rintro s6 h; replace h : zal (fun y0 => g1_f y0) s2 s6 = some r := h; unfold zal at h
 change BW _ _ _ ⟨[(0, (PV.sl none 43 2 (List.map ofFld a0))), (8, (PV.sl none 43 2 (List.map ofFld a0))), (9, (I64 ((((a0).length : Nat) : Int)))), (10, (I64 (((s2 : Nat) : Int)))), (33, (BO s6))], [], _⟩ _
 refine cX h rfl ?_ ?_
 intro hc7 h
 refine bR ?_
 refine eX ?_
 obtain rfl := eI h; exact z05 eK
 intro hc7 h
 refine z07 ?_
 refine cBx ?_
 refine z0a ?_
 refine sS rfl rfl rfl (z1b (k := s2) (c := 1) rfl rfl rfl (by omega)) ?_
 refine sX (z06 ?_)
 exact ⟨rfl, (s2 + 1), h, jN⟩
 refine z13 16 [] [0] mo (by kernel_rfl) ?_
 iterate 2 refine gX ?_
 obtain ⟨x8, hx8, h⟩ := obind h
 refine z1h rfl rfl rfl rfl (fun H hp => z04 rfl Z3n rfl (wkr .nil) ⟨rfl, trivial⟩ (Z75 x5.1 x8 hx8) rfl) ?_
 iterate 2 refine gX ?_
 refine z1s 19 rfl ?_ ?_
 intro hb9; replace h := z0j hb9 h
 iterate 11 refine mX ?_
 refine z11 ?_
 change AO _ _ _ _ _
 iterate 2 refine nX ?_
 refine sX (z06 ?_)
 exact ⟨rfl, true, h, jN⟩
 intro hb9; replace h := z0k hb9 h
 iterate 3 refine wX ?_
 refine z1s 22 rfl ?_ ?_
 intro hb10; replace h := z0j hb10 h
 iterate 4 refine wX ?_
 refine z2l rfl rfl rfl rfl rfl rfl rfl (fun H hp => z95 rfl rfl rfl) ?_
 obtain ⟨x11, hx11, h⟩ := obind h
 refine z2l rfl rfl rfl rfl rfl rfl rfl (fun H hp => z1o Try.underlying45 z2z rfl rfl rfl hx11 rfl) ?_
 iterate 2 refine wX ?_
 refine z11 ?_
 change AO _ _ _ _ _
 refine z1g rfl rfl rfl rfl rfl rfl ((z21 (a := x5.1) (b := x11.1) rfl rfl rfl rfl).cast (y := (BO ((Op.bytesLess x5.1 x11.1 || x5.1 == x11.1)))) rfl rfl) ?_
 refine yX ?_
 refine sX (z06 ?_)
 exact ⟨rfl, (Op.bytesLess x5.1 x11.1 || x5.1 == x11.1), h, jN⟩
 intro hb10; replace h := z0k hb10 h
 iterate 8 refine mX ?_
 refine z11 ?_
 change AO _ _ _ _ _
 refine nX ?_
 refine yX ?_
 refine sX (z06 ?_)
 exact ⟨rfl, false, h, jN⟩
 intro hc3 h
 refine z1a ?_
 refine cBx ?_
 refine bR ?_
 refine eX ?_
 obtain rfl := eI h; exact z05 eK
end Go.Proofs.Ytiapdjdhaclmnaa
