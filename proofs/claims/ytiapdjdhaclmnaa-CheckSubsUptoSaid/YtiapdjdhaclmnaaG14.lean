/- Pure functions, and that calls answer as they say. -/
import Derived.Test.YtiapdjdhaclmnaaG13
namespace Go.Proofs.Ytiapdjdhaclmnaa
open Go Aw
set_option linter.unusedVariables false
set_option maxRecDepth 20000
set_option maxHeartbeats 2000000
variable {ι : Type} {ρ : ι → Type}
noncomputable def z6d (r_q1j : Term → Option Term) (a0 : (List (Str × Term))) (g1 : (List (Str × Term)) → Nat → Option (List (Str × Term))) (s1 : (List (Str × Term))) (s2 : Nat) : Option (List (Str × Term)) :=
 bif (decide (((s2 : Nat) : Int) < (((a0).length : Nat) : Int))) then (
 ((a0)[s2]?).bind fun x5 =>
 ((a0)[s2]?).bind fun x6 =>
 (r_q1j (x6.2)).bind fun x7 =>
 (z9f 168 s1 ([(x5.1, x7)] : (List (Str × Term)))).bind fun x8 =>
 g1 x8 (s2 + 1)
 ) else (
 some s1
 )
theorem zch (r_q1j : OF ρ → Term → Option Term) (h_r_q1j : ∀ y0, CM (fun G => r_q1j G y0)) (g1 : OF ρ → (List (Str × Term)) → Nat → Option (List (Str × Term))) (h_g1 : ∀ y0 y1, CM (fun G => g1 G y0 y1)) (a0 s1 : (List (Str × Term))) (s2 : Nat) : CM (fun G : OF ρ => z6d (r_q1j G) a0 (g1 G) s1 s2) := by
 simp only [z6d]
 repeat (first | exact z01 | exact h_r_q1j _ | exact h_g1 _ _ | refine z0h ?_ ?_ | refine z0i ?_ (fun _ => ?_))
noncomputable def zhm (r_q1j : Term → Option Term) (a0 s1 : (List (Str × Term))) (s2 : Nat) : Option (List (Str × Term)) :=
 z22 (ι := ((List (Str × Term)) × Nat)) (ρ := fun _ => (List (Str × Term))) (fun g i => z6d r_q1j a0 (fun s1 s2 => g (s1, s2)) i.1 i.2) (s1, s2)
theorem zl4 (r_q1j : Term → Option Term) (a0 s1 : (List (Str × Term))) (s2 : Nat) : zhm r_q1j a0 s1 s2 = z6d r_q1j a0 (zhm r_q1j a0) s1 s2 :=
 z0t (ι := ((List (Str × Term)) × Nat)) (ρ := fun _ => (List (Str × Term))) (Φ := fun g i => z6d r_q1j a0 (fun s1 s2 => g (s1, s2)) i.1 i.2) (fun i => zch (ι := ((List (Str × Term)) × Nat)) (ρ := fun _ => (List (Str × Term))) (fun _ => r_q1j) (fun _ => z01) (fun g => (fun s1 s2 => g (s1, s2))) (fun _ _ => z0s) a0 i.1 i.2) (s1, s2)
theorem zuo (r_q1j : OF ρ → Term → Option Term) (h_r_q1j : ∀ y0, CM (fun G => r_q1j G y0)) (a0 s1 : (List (Str × Term))) (s2 : Nat) : CM (fun G : OF ρ => zhm (r_q1j G) a0 s1 s2) :=
 z28 (κ := ((List (Str × Term)) × Nat)) (τ := fun _ => (List (Str × Term))) (Φ := fun G g i => z6d (r_q1j G) a0 (fun s1 s2 => g (s1, s2)) i.1 i.2) (fun g i => zch r_q1j h_r_q1j (fun _ => (fun s1 s2 => g (s1, s2))) (fun _ _ => z01) a0 i.1 i.2) (fun G i => zch (ι := ((List (Str × Term)) × Nat)) (ρ := fun _ => (List (Str × Term))) (fun _ => r_q1j G) (fun _ => z01) (fun g => (fun s1 s2 => g (s1, s2))) (fun _ _ => z0s) a0 i.1 i.2) (s1, s2)
noncomputable def zoq (r_q0y : (List (Str × Term)) → Option (List (Str × Term))) (r_q1j : Term → Option Term) (a0 : (List (Str × Term))) : Option (List (Str × Term)) :=
 zhm r_q1j a0 ([] : (List (Str × Term))) 0
theorem Z1s (r_q0y : OF ρ → (List (Str × Term)) → Option (List (Str × Term))) (h_r_q0y : ∀ y0, CM (fun G => r_q0y G y0)) (r_q1j : OF ρ → Term → Option Term) (h_r_q1j : ∀ y0, CM (fun G => r_q1j G y0)) (a0 : (List (Str × Term))) : CM (fun G : OF ρ => zoq (r_q0y G) (r_q1j G) a0) := by
 simp only [zoq]
 repeat (first | exact z01 | exact h_r_q0y _ | exact h_r_q1j _ | apply zuo | refine z0h ?_ ?_ | refine z0i ?_ (fun _ => ?_) | intro _ | assumption)
noncomputable def z4a (a0 : Term) (s1 : Bool) (s2 : Int) (s3 : Nat) (s4 s5 : Str) (s6 : Int) (s7 : (List Term)) (s8 : (List (Str × Term))) (s9 : Str) (s10 : Int) : Option Term :=
 some (Term.mk a0.kind s1 s2 s3 s4 s5 s6 s7 s8 s9 s10)
noncomputable def z64 (r_q1j : Term → Option Term) (a0 : Term) (g1 : Nat → (List Term) → Option Term) (s19 : Nat) (s20 : (List Term)) : Option Term :=
 bif (decide (((s19 : Nat) : Int) < (((a0.list).length : Nat) : Int))) then (
 ((a0.list)[s19]?).bind fun x23 =>
 (r_q1j x23).bind fun x24 =>
 (z9f 152 s20 ([x24] : (List Term))).bind fun x25 =>
 g1 (s19 + 1) x25
 ) else (
 z4a a0 false 0 0 ([]) ([]) 0 s20 ([]) ([]) 0
 )
theorem zc8 (r_q1j : OF ρ → Term → Option Term) (h_r_q1j : ∀ y0, CM (fun G => r_q1j G y0)) (g1 : OF ρ → Nat → (List Term) → Option Term) (h_g1 : ∀ y0 y1, CM (fun G => g1 G y0 y1)) (a0 : Term) (s19 : Nat) (s20 : (List Term)) : CM (fun G : OF ρ => z64 (r_q1j G) a0 (g1 G) s19 s20) := by
 simp only [z64]
 repeat (first | exact z01 | exact h_r_q1j _ | exact h_g1 _ _ | apply q1j_j1_cm | refine z0h ?_ ?_ | refine z0i ?_ (fun _ => ?_) | intro _ | assumption)
noncomputable def zhd (r_q1j : Term → Option Term) (a0 : Term) (s19 : Nat) (s20 : (List Term)) : Option Term :=
 z22 (ι := (Nat × (List Term))) (ρ := fun _ => Term) (fun g i => z64 r_q1j a0 (fun s19 s20 => g (s19, s20)) i.1 i.2) (s19, s20)
theorem zkq (r_q1j : Term → Option Term) (a0 : Term) (s19 : Nat) (s20 : (List Term)) : zhd r_q1j a0 s19 s20 = z64 r_q1j a0 (zhd r_q1j a0) s19 s20 :=
 z0t (ι := (Nat × (List Term))) (ρ := fun _ => Term) (Φ := fun g i => z64 r_q1j a0 (fun s19 s20 => g (s19, s20)) i.1 i.2) (fun i => zc8 (ι := (Nat × (List Term))) (ρ := fun _ => Term) (fun _ => r_q1j) (fun _ => z01) (fun g => (fun s19 s20 => g (s19, s20))) (fun _ _ => z0s) a0 i.1 i.2) (s19, s20)
theorem zu5 (r_q1j : OF ρ → Term → Option Term) (h_r_q1j : ∀ y0, CM (fun G => r_q1j G y0)) (a0 : Term) (s19 : Nat) (s20 : (List Term)) : CM (fun G : OF ρ => zhd (r_q1j G) a0 s19 s20) :=
 z28 (κ := (Nat × (List Term))) (τ := fun _ => Term) (Φ := fun G g i => z64 (r_q1j G) a0 (fun s19 s20 => g (s19, s20)) i.1 i.2) (fun g i => zc8 r_q1j h_r_q1j (fun _ => (fun s19 s20 => g (s19, s20))) (fun _ _ => z01) a0 i.1 i.2) (fun G i => zc8 (ι := (Nat × (List Term))) (ρ := fun _ => Term) (fun _ => r_q1j G) (fun _ => z01) (fun g => (fun s19 s20 => g (s19, s20))) (fun _ _ => z0s) a0 i.1 i.2) (s19, s20)
noncomputable def zog (r_q0y : (List (Str × Term)) → Option (List (Str × Term))) (r_q1j : Term → Option Term) (a0 : Term) : Option Term :=
 bif (a0.kind == 2) then (
 z4a a0 a0.bool 0 0 ([]) ([]) 0 ([]) ([]) ([]) 0
 ) else (
 bif (a0.kind == 3) then (
 z4a a0 false a0.int 0 ([]) ([]) 0 ([]) ([]) ([]) 0
 ) else (
 bif (a0.kind == 4) then (
 z4a a0 false 0 a0.float ([]) ([]) 0 ([]) ([]) ([]) 0
 ) else (
 bif (a0.kind == 5) then (
 z4a a0 false 0 0 a0.text ([]) 0 ([]) ([]) ([]) 0
 ) else (
 bif (a0.kind == 6) then (
 (z9f 1 ([] : Str) a0.bytes).bind fun x16 =>
 z4a a0 false 0 0 ([]) x16 0 ([]) ([]) ([]) 0
 ) else (
 bif (a0.kind == 7) then (
 z4a a0 false 0 0 ([]) ([]) a0.ref ([]) ([]) ([]) 0
 ) else (
 bif (a0.kind == 8) then (
 zhd r_q1j a0 0 ([])
 ) else (
 bif (a0.kind == 10) then (
 (r_q0y a0.fields).bind fun x27 =>
 z4a a0 false 0 0 ([]) ([]) 0 ([]) x27 a0.cls a0.ver
 ) else (
 bif (a0.kind == 9) then (
 (r_q0y a0.fields).bind fun x29 =>
 z4a a0 false 0 0 ([]) ([]) 0 ([]) x29 ([]) 0
 ) else (
 z4a a0 false 0 0 ([]) ([]) 0 ([]) ([]) ([]) 0
 )
 )
 )
 )
 )
 )
 )
 )
 )
theorem Z1i (r_q0y : OF ρ → (List (Str × Term)) → Option (List (Str × Term))) (h_r_q0y : ∀ y0, CM (fun G => r_q0y G y0)) (r_q1j : OF ρ → Term → Option Term) (h_r_q1j : ∀ y0, CM (fun G => r_q1j G y0)) (a0 : Term) : CM (fun G : OF ρ => zog (r_q0y G) (r_q1j G) a0) := by
 simp only [zog]
 repeat (first | exact z01 | exact h_r_q0y _ | exact h_r_q1j _ | apply q1j_j1_cm | apply zu5 | refine z0h ?_ ?_ | refine z0i ?_ (fun _ => ?_) | intro _ | assumption)
inductive C_q0y where
 | k_q0y (a0 : (List (Str × Term)))
 | k_q1j (a0 : Term)
def C_q0y.R : C_q0y → Type
 | .k_q0y _ => (List (Str × Term))
 | .k_q1j _ => Term
noncomputable def C_q0y.F (g : ∀ i : C_q0y, Option i.R) : ∀ i : C_q0y, Option i.R
 | .k_q0y a0 => zoq (fun a0 => g (.k_q0y a0)) (fun a0 => g (.k_q1j a0)) a0
 | .k_q1j a0 => zog (fun a0 => g (.k_q0y a0)) (fun a0 => g (.k_q1j a0)) a0
noncomputable def zz6 (a0 : (List (Str × Term))) : Option (List (Str × Term)) := z22 C_q0y.F (.k_q0y a0)
noncomputable def zfd (a0 : Term) : Option Term := z22 C_q0y.F (.k_q1j a0)
abbrev Zew := fun (g : ∀ i : C_q0y, Option i.R) a0 => g (.k_q0y a0)
theorem Zem (a0 : _) : CM (ρ := C_q0y.R) (fun g => g (C_q0y.k_q0y a0)) := z0s
abbrev Zev := fun (g : ∀ i : C_q0y, Option i.R) a0 => g (.k_q1j a0)
theorem Zel (a0 : _) : CM (ρ := C_q0y.R) (fun g => g (C_q0y.k_q1j a0)) := z0s
theorem C_q0y.cm (i : C_q0y) : CM (fun g : (∀ i : C_q0y, Option i.R) => C_q0y.F g i) := by
 cases i with
 | k_q0y a0 => exact Z1s Zew Zem Zev Zel a0
 | k_q1j a0 => exact Z1i Zew Zem Zev Zel a0
theorem Zdf (a0 : (List (Str × Term))) : zz6 a0 = zoq zz6 zfd a0 := z0t C_q0y.cm (.k_q0y a0)
theorem Zd6 (a0 : Term) : zfd a0 = zog zz6 zfd a0 := z0t C_q0y.cm (.k_q1j a0)
def C_q0y.Q : ∀ i : C_q0y, i.R → Prop
 | .k_q0y a0 => fun (r : (List (Str × Term))) => z08 Try.prog 82 [(PV.sl none 101 12 (List.map z0f a0))] (PV.sl none 101 12 (List.map z0f r))
 | .k_q1j a0 => fun (r : Term) => z08 Try.prog 47 [(z0v a0)] (z0v r)
theorem zeh (r_q0y : (List (Str × Term)) → Option (List (Str × Term))) (c_q0y : ∀ (a0 : (List (Str × Term))) r, r_q0y a0 = some r → z08 Try.prog 82 [(PV.sl none 101 12 (List.map z0f a0))] (PV.sl none 101 12 (List.map z0f r))) (r_q1j : Term → Option Term) (c_q1j : ∀ (a0 : Term) r, r_q1j a0 = some r → z08 Try.prog 47 [(z0v a0)] (z0v r)) (a0 r : (List (Str × Term))) (h : zoq r_q0y r_q1j a0 = some r) : z08 Try.prog 82 [(PV.sl none 101 12 (List.map z0f a0))] (PV.sl none 101 12 (List.map z0f r)) := by
 unfold zoq at h
 refine z0g Try.func82 rfl Try.ntmps82 Try.results82 rfl (z0q ?_)
 change BW _ _ _ ⟨[(0, (PV.sl none 101 12 (List.map z0f a0)))], [], _⟩ _
 refine bR ?_
 refine eX ?_
 refine bR ?_
 refine sS rfl rfl rfl ((z1q (xs := []) Try.underlying27 z24 rfl rfl rfl rfl rfl rfl ⟨lbE rfl, lbE rfl⟩ rfl).cast (y := (PV.sl (some 0) 101 12 (List.map z0f ([] : (List (Str × Term)))))) rfl rfl) ?_
 refine eX ?_
 refine z09 ?_
 refine bR ?_
 refine eX ?_
 refine z0e ?_
 refine cBx ?_
 unfold zhm at h
 refine z3c (σ := ((List (Str × Term)) × Nat)) (fun i => [(0, (PV.sl none 101 12 (List.map z0f a0))), (3, (PV.sl (some 0) 101 12 (List.map z0f i.1))), (4, (I64 (((i.2 : Nat) : Int))))]) (fun i => [.arr 101 (i.1).length]) (([] : (List (Str × Term))), 0) h ?_ ?_ ?_
 intro i; exact ⟨lbE rfl, ⟨(z00 (z0c z19 _)), ⟨(z8b rfl (z3p z19 _)), ⟨(z00 rfl), trivial⟩⟩⟩, trivial⟩
 exact jN
 rintro g1_f ⟨s1, s2⟩ h; replace h : z6d r_q1j a0 (fun y0 y1 => g1_f (y0, y1)) s1 s2 = some r := h; unfold z6d at h
 change BW _ _ _ ⟨[(0, (PV.sl none 101 12 (List.map z0f a0))), (3, (PV.sl (some 0) 101 12 (List.map z0f s1))), (4, (I64 (((s2 : Nat) : Int))))], [.arr 101 (s1).length], _⟩ _
 refine z09 ?_
 refine bR ?_
 iterate 3 refine sX ?_
 refine eX ?_
 refine z2f (t := 7) rfl fun hb4 => ?_
 try rw [List.length_map] at hb4
 refine cX h rfl ?_ ?_
 intro hc3 h
 have hc3_ := of_decide_eq_true hc3
 refine z07 ?_
 refine cBx ?_
 refine z09 ?_
 refine z0e ?_
 refine cBx ?_
 refine z13 14 [13] [] mo (by kernel_rfl) ?_
 iterate 3 refine gX ?_
 obtain ⟨x5, hx5, h⟩ := obind h
 refine z1h rfl rfl rfl rfl (fun H hp => z0w (i := s2) Try.underlying27 z24 rfl rfl rfl hx5 (z1r _)) ?_
 iterate 4 refine gX ?_
 obtain ⟨x6, hx6, h⟩ := obind h
 refine z1h rfl rfl rfl rfl (fun H hp => z0w (i := s2) Try.underlying27 z24 rfl rfl rfl hx6 (z1r _)) ?_
 iterate 2 refine gX ?_
 obtain ⟨x7, hx7, h⟩ := obind h
 refine z1h rfl rfl rfl rfl (fun H hp => z04 rfl Z5s rfl (wkr .nil) ⟨(z10 (x6.2)), trivial⟩ (c_q1j (x6.2) x7 hx7) (z10 x7)) ?_
 refine z1h rfl rfl rfl rfl (fun H hp => z1x (cs := [(ofStr x5.1), (I64 x7.kind), (BO x7.bool), (I64 x7.int), (PV.v (.float .f64 x7.float)), (ofStr x7.text), (PV.sl none 5 1 (List.map ofB x7.bytes)), (PV.v (.int .u64 x7.ref)), (PV.sl none 29 11 (List.map z0r x7.list)), (PV.sl none 101 12 (List.map z0f x7.fields)), (ofStr x7.cls), (I64 x7.ver)]) zsy z24 rfl rfl rfl rfl) ?_
 refine z7e rfl rfl rfl rfl ((z1q (xs := [(PV.agg [(ofStr x5.1), (I64 x7.kind), (BO x7.bool), (I64 x7.int), (PV.v (.float .f64 x7.float)), (ofStr x7.text), (PV.sl none 5 1 (List.map ofB x7.bytes)), (PV.v (.int .u64 x7.ref)), (PV.sl none 29 11 (List.map z0r x7.list)), (PV.sl none 101 12 (List.map z0f x7.fields)), (ofStr x7.cls), (I64 x7.ver)])]) Try.underlying27 z24 rfl rfl rfl rfl rfl rfl ⟨lbE rfl, lbE rfl⟩ rfl).cast (y := (PV.sl (some 1) 101 12 (List.map z0f ([(x5.1, x7)] : (List (Str × Term)))))) (by simp only [List.map_cons, List.map_nil, z1r]; try rfl) rfl) trivial ?_
 refine z11 ?_
 change AO _ _ _ _ _
 obtain ⟨x8, hx8, h⟩ := obind h
 refine sS rfl rfl rfl (z3k Try.underlying27 z24 rfl Try.underlying27 rfl rfl rfl rfl zmj zg5 hx8 rfl) ?_
 refine eX ?_
 refine z0a ?_
 refine sX ?_
 refine sS rfl rfl rfl (z1b (k := s2) (c := 1) rfl rfl rfl (by omega)) ?_
 refine sX (z06 ?_)
 exact ⟨rfl, (x8, (s2 + 1)), h, jN⟩
 intro hc3 h
 refine z1a ?_
 refine cBx ?_
 refine bR ?_
 refine sX ?_
 refine eX ?_
 obtain rfl := eI h; exact z05 ⟨_, rfl, z1f (y := (PV.sl none 101 12 (List.map z0f s1))) Wk.tok (z0c z19 s1) ⟨rfl, rfl⟩⟩
theorem ziu (r_q0y : (List (Str × Term)) → Option (List (Str × Term))) (c_q0y : ∀ (a0 : (List (Str × Term))) r, r_q0y a0 = some r → z08 Try.prog 82 [(PV.sl none 101 12 (List.map z0f a0))] (PV.sl none 101 12 (List.map z0f r))) (r_q1j : Term → Option Term) (c_q1j : ∀ (a0 : Term) r, r_q1j a0 = some r → z08 Try.prog 47 [(z0v a0)] (z0v r)) (a0 r : Term) (h : zog r_q0y r_q1j a0 = some r) : z08 Try.prog 47 [(z0v a0)] (z0v r) := by
 unfold zog at h
 refine z0g Try.func47 rfl Try.ntmps47 Try.results47 rfl (z0q ?_)
 change BW _ _ _ ⟨[(0, (z0v a0))], [], _⟩ _
 refine bR ?_
 refine sX ?_
 refine sS rfl rfl rfl (z16 z20 rfl) (z06 ?_)
 refine cBx ?_
 refine bR ?_
 iterate 2 refine sX ?_
 refine sS rfl rfl rfl (z1x (cs := [(I64 a0.kind), (BO false), (I64 0), (PV.v (.float .f64 0)), (ofStr []), (PV.v (.slice none 0 0)), (PV.v (.int .u64 0)), (PV.v (.slice none 0 0)), (PV.v (.slice none 0 0)), (ofStr []), (I64 0)]) zmy z20 rfl rfl rfl rfl) ?_
 refine sS rfl rfl rfl (z16 z20 rfl) ?_
 refine z0m rfl rfl (z0d z20 rfl rfl rfl rfl rfl rfl (lbE rfl) rfl) ?_
 refine z06 ?_
 refine cBx ?_
 refine jX (ι := (Bool × Int × Nat × Str × Str × Int × (List Term) × (List (Str × Term)) × Str × Int)) (fun i => z4a a0 i.1 i.2.1 i.2.2.1 i.2.2.2.1 i.2.2.2.2.1 i.2.2.2.2.2.1 i.2.2.2.2.2.2.1 i.2.2.2.2.2.2.2.1 i.2.2.2.2.2.2.2.2.1 i.2.2.2.2.2.2.2.2.2 = some r) (fun i => [(2, (PV.rf 1 0)), (3, (PV.rf 2 0))]) (fun i => [.dead, .box 29 zjt, .box 29 [(I64 a0.kind), (BO i.1), (I64 i.2.1), (PV.v (.float .f64 i.2.2.1)), (ofStr i.2.2.2.1), (PV.sl none 5 1 (List.map ofB i.2.2.2.2.1)), (PV.v (.int .u64 i.2.2.2.2.2.1)), (PV.sl none 29 11 (List.map z0r i.2.2.2.2.2.2.1)), (PV.sl none 101 12 (List.map z0f i.2.2.2.2.2.2.2.1)), (ofStr i.2.2.2.2.2.2.2.2.1), (I64 i.2.2.2.2.2.2.2.2.2)]]) ?_ ?_
 rintro ⟨s1, s2, s3, s4, s5, s6, s7, s8, s9, s10⟩ h; replace h : z4a a0 s1 s2 s3 s4 s5 s6 s7 s8 s9 s10 = some r := h; unfold z4a at h
 change BW _ _ _ ⟨[(2, (PV.rf 1 0)), (3, (PV.rf 2 0))], [.dead, .box 29 zjt, .box 29 [(I64 a0.kind), (BO s1), (I64 s2), (PV.v (.float .f64 s3)), (ofStr s4), (PV.sl none 5 1 (List.map ofB s5)), (PV.v (.int .u64 s6)), (PV.sl none 29 11 (List.map z0r s7)), (PV.sl none 101 12 (List.map z0f s8)), (ofStr s9), (I64 s10)]], _⟩ _
 refine bR ?_
 refine sX ?_
 refine z0m rfl rfl (z0d z20 rfl rfl rfl rfl rfl rfl (lbE rfl) rfl) ?_
 refine z06 ?_
 refine cBx ?_
 obtain rfl := eI h; exact z05 ⟨_, rfl, z1f (y := (z0v (Term.mk a0.kind s1 s2 s3 s4 s5 s6 s7 s8 s9 s10))) (Wk.refl _) (z10 (Term.mk a0.kind s1 s2 s3 s4 s5 s6 s7 s8 s9 s10)) ⟨rfl, rfl⟩⟩
 refine bR ?_
 refine sX ?_
 refine eX ?_
 refine z0e ?_
 refine cBx ?_
 refine bR ?_
 refine sX ?_
 refine eX ?_
 refine cX h rfl ?_ ?_
 intro hc11 h
 refine z0a ?_
 iterate 3 refine sX ?_
 refine z0m rfl rfl (z0d inf_4 rfl rfl rfl rfl rfl rfl (lbE rfl) rfl) ?_
 refine z06 ?_
 exact ⟨rfl, (a0.bool, 0, 0, [], [], 0, [], [], [], 0), h, ⟨(.cons .dead (.cons .same (.cons (.box (wkr (wkr (wkr (wkr (wkr (wkn (wkr (wkn (wkn (wkr (wkr .nil)))))))))))) .nil))), (sC rfl (sC rfl z1i))⟩⟩
 intro hc11 h
 refine bR ?_
 refine sX ?_
 refine eX ?_
 refine cX h rfl ?_ ?_
 intro hc12 h
 refine z0a ?_
 iterate 3 refine sX ?_
 refine z0m rfl rfl (z0d zse rfl rfl rfl rfl rfl rfl (lbE rfl) rfl) ?_
 refine z06 ?_
 exact ⟨rfl, (false, a0.int, 0, [], [], 0, [], [], [], 0), h, ⟨(.cons .dead (.cons .same (.cons (.box (wkr (wkr (wkr (wkr (wkr (wkn (wkr (wkn (wkn (wkr (wkr .nil)))))))))))) .nil))), (sC rfl (sC rfl z1i))⟩⟩
 intro hc12 h
 refine bR ?_
 refine sX ?_
 refine eX ?_
 refine cX h rfl ?_ ?_
 intro hc13 h
 refine z0a ?_
 iterate 3 refine sX ?_
 refine z0m rfl rfl (z0d zi9 rfl rfl rfl rfl rfl rfl (lbE rfl) rfl) ?_
 refine z06 ?_
 exact ⟨rfl, (false, 0, a0.float, [], [], 0, [], [], [], 0), h, ⟨(.cons .dead (.cons .same (.cons (.box (wkr (wkr (wkr (wkr (wkr (wkn (wkr (wkn (wkn (wkr (wkr .nil)))))))))))) .nil))), (sC rfl (sC rfl z1i))⟩⟩
 intro hc13 h
 refine bR ?_
 refine sX ?_
 refine eX ?_
 refine cX h rfl ?_ ?_
 intro hc14 h
 refine z0a ?_
 iterate 3 refine sX ?_
 refine z0m rfl rfl (z0d inf_9 rfl rfl rfl rfl rfl rfl (lbE rfl) rfl) ?_
 refine z06 ?_
 exact ⟨rfl, (false, 0, 0, a0.text, [], 0, [], [], [], 0), h, ⟨(.cons .dead (.cons .same (.cons (.box (wkr (wkr (wkr (wkr (wkr (wkn (wkr (wkn (wkn (wkr (wkr .nil)))))))))))) .nil))), (sC rfl (sC rfl z1i))⟩⟩
 intro hc14 h
 refine bR ?_
 refine sX ?_
 refine eX ?_
 refine cX h rfl ?_ ?_
 intro hc15 h
 refine z0a ?_
 refine sS rfl rfl rfl ((z1q (xs := []) Try.underlying23 inf_5 rfl rfl rfl rfl rfl rfl ⟨lbE rfl, lbE rfl⟩ rfl).cast (y := (PV.sl (some 3) 5 1 (List.map ofB ([] : Str)))) rfl rfl) ?_
 iterate 2 refine sX ?_
 obtain ⟨x16, hx16, h⟩ := obind h
 refine sS rfl rfl rfl (z3k Try.underlying23 inf_5 rfl Try.underlying23 rfl rfl rfl rfl (fun _ => rfl) (fun _ => rfl) hx16 rfl) ?_
 refine sX ?_
 refine z0m rfl rfl (z0d zi8 rfl rfl rfl rfl rfl rfl (lbE rfl) rfl) ?_
 refine z06 ?_
 exact ⟨rfl, (false, 0, 0, [], x16, 0, [], [], [], 0), h, ⟨(.cons .dead (.cons .same (.cons (.box (wkr (wkr (wkr (wkr (wkr (.cons Wk.tok (wkr (wkn (wkn (wkr (wkr .nil)))))))))))) .nil))), (sC rfl (sC rfl z1i))⟩⟩
 intro hc15 h
 refine bR ?_
 refine sX ?_
 refine eX ?_
 refine cX h rfl ?_ ?_
 intro hc17 h
 refine z0a ?_
 iterate 3 refine sX ?_
 refine z0m rfl rfl (z0d zi7 rfl rfl rfl rfl rfl rfl (lbE rfl) rfl) ?_
 refine z06 ?_
 exact ⟨rfl, (false, 0, 0, [], [], a0.ref, [], [], [], 0), h, ⟨(.cons .dead (.cons .same (.cons (.box (wkr (wkr (wkr (wkr (wkr (wkn (wkr (wkn (wkn (wkr (wkr .nil)))))))))))) .nil))), (sC rfl (sC rfl z1i))⟩⟩
 intro hc17 h
 refine bR ?_
 refine sX ?_
 refine eX ?_
 refine cX h rfl ?_ ?_
 intro hc18 h
 refine bR ?_
 refine eX ?_
 refine z0e ?_
 refine cBx ?_
 refine zbj (s := ⟨_, _, _⟩) 2 7 29 (sz := 11) rfl rfl rfl ?_
 unfold zhd at h
 refine z3c (σ := (Nat × (List Term))) (fun i => [(1, (PV.rf 0 0)), (2, (PV.rf 1 0)), (3, (PV.rf 2 0)), (4, (I64 (((i.1 : Nat) : Int))))]) (fun i => [.box 29 (z2j a0), .box 29 zjt, .box 29 [(I64 a0.kind), (BO false), (I64 0), (PV.v (.float .f64 0)), (ofStr []), (PV.v (.slice none 0 0)), (PV.v (.int .u64 0)), (PV.sl (some 3) 29 11 (List.map z0r i.2)), (PV.v (.slice none 0 0)), (ofStr []), (I64 0)], .arr 29 (i.2).length]) (0, []) h ?_ ?_ ?_
 intro i; exact ⟨lbE rfl, ⟨(il_rf rfl), ⟨(il_rf rfl), ⟨(il_rf rfl), ⟨(z00 rfl), trivial⟩⟩⟩⟩, ⟨wfC29, ⟨⟨(z00 rfl), ⟨(z00 rfl), ⟨(z00 rfl), ⟨(z00 rfl), ⟨(z00 rfl), ⟨(z00 rfl), ⟨(z00 rfl), ⟨(z00 rfl), ⟨(z00 rfl), ⟨(z00 rfl), ⟨(z00 rfl), trivial⟩⟩⟩⟩⟩⟩⟩⟩⟩⟩⟩, ⟨⟨(z00 rfl), ⟨(z00 rfl), ⟨(z00 rfl), ⟨(z00 rfl), ⟨(z00 rfl), ⟨(z00 rfl), ⟨(z00 rfl), ⟨(z8b rfl (z3p z1p _)), ⟨(z00 rfl), ⟨(z00 rfl), ⟨(z00 rfl), trivial⟩⟩⟩⟩⟩⟩⟩⟩⟩⟩⟩, trivial⟩⟩⟩⟩
 exact jN
 rintro g1_f ⟨s19, s20⟩ h; replace h : z64 r_q1j a0 (fun y0 y1 => g1_f (y0, y1)) s19 s20 = some r := h; unfold z64 at h
 change BW _ _ _ ⟨[(1, (PV.rf 0 0)), (2, (PV.rf 1 0)), (3, (PV.rf 2 0)), (4, (I64 (((s19 : Nat) : Int))))], [.box 29 (z2j a0), .box 29 zjt, .box 29 [(I64 a0.kind), (BO false), (I64 0), (PV.v (.float .f64 0)), (ofStr []), (PV.v (.slice none 0 0)), (PV.v (.int .u64 0)), (PV.sl (some 3) 29 11 (List.map z0r s20)), (PV.v (.slice none 0 0)), (ofStr []), (I64 0)], .arr 29 (s20).length], _⟩ _
 refine z09 ?_
 refine bR ?_
 iterate 4 refine sX ?_
 refine eX ?_
 refine z2f (t := 46) rfl fun hb22 => ?_
 try rw [List.length_map] at hb22
 refine cX h rfl ?_ ?_
 intro hc21 h
 have hc21_ := of_decide_eq_true hc21
 refine z07 ?_
 refine cBx ?_
 refine z09 ?_
 refine z0e ?_
 refine cBx ?_
 refine z13 9 [8] [0, 2] mo (by kernel_rfl) ?_
 iterate 5 refine gX ?_
 obtain ⟨x23, hx23, h⟩ := obind h
 refine z1h rfl rfl rfl rfl (fun H hp => z0w (i := s19) Try.underlying26 z20 rfl rfl rfl hx23 (z26 _)) ?_
 refine gX ?_
 obtain ⟨x24, hx24, h⟩ := obind h
 refine z1h rfl rfl rfl rfl (fun H hp => z04 rfl Z5s rfl (wkr .nil) ⟨(z10 x23), trivial⟩ (c_q1j x23 x24 hx24) (z10 x24)) ?_
 refine z7e rfl rfl rfl rfl ((z1q (xs := [(z0v x24)]) Try.underlying26 z20 rfl rfl rfl rfl rfl rfl ⟨lbE rfl, lbE rfl⟩ rfl).cast (y := (PV.sl (some 4) 29 11 (List.map z0r ([x24] : (List Term))))) (by simp only [List.map_cons, List.map_nil, z26]; try rfl) rfl) ⟨rfl, ⟨rfl, trivial⟩⟩ ?_
 refine z11 ?_
 change AO _ _ _ _ _
 obtain ⟨x25, hx25, h⟩ := obind h
 refine sS rfl rfl rfl (z3k Try.underlying26 z20 rfl Try.underlying26 rfl rfl rfl rfl zjm zd4 hx25 rfl) ?_
 refine sX ?_
 refine z0m rfl rfl (z0d Z3e rfl rfl rfl rfl rfl rfl (lbE rfl) rfl) ?_
 refine z06 ?_
 refine cBx ?_
 refine z0a ?_
 refine sX ?_
 refine sS rfl rfl rfl (z1b (k := s19) (c := 1) rfl rfl rfl (by omega)) ?_
 refine sX (z06 ?_)
 exact ⟨rfl, ((s19 + 1), x25), h, jN⟩
 intro hc21 h
 refine z1a ?_
 exact ⟨rfl, (false, 0, 0, [], [], 0, s20, [], [], 0), h, ⟨(.cons .dead (.cons .same (.cons (.box (wkr (wkr (wkr (wkr (wkr (wkn (wkr (.cons Wk.tok (wkn (wkr (wkr .nil)))))))))))) .nil))), (sC rfl (sC rfl z1i))⟩⟩
 intro hc18 h
 refine bR ?_
 refine sX ?_
 refine eX ?_
 refine cX h rfl ?_ ?_
 intro hc26 h
 refine z09 (z13 6 [5] [0] mo (by kernel_rfl) ?_)
 iterate 5 refine gX ?_
 refine z87 rfl rfl rfl (z0d inf_9 rfl rfl rfl rfl rfl rfl (lbE rfl) rfl) ⟨rfl, trivial⟩ ?_
 refine z11 ?_
 change AO _ _ _ _ _
 refine sX ?_
 refine z0m rfl rfl (z0d zfw rfl rfl rfl rfl rfl rfl (lbE rfl) rfl) ?_
 refine z06 ?_
 refine cBx ?_
 refine z0a ?_
 iterate 2 refine sX ?_
 obtain ⟨x27, hx27, h⟩ := obind h
 refine sS rfl rfl rfl (z04 rfl Z94 rfl (wkr .nil) ⟨(z0c z19 a0.fields), trivial⟩ (c_q0y a0.fields x27 hx27) (z0c z19 x27)) ?_
 refine sX ?_
 refine z0m rfl rfl (z0d zqb rfl rfl rfl rfl rfl rfl (lbE rfl) rfl) ?_
 refine z06 ?_
 exact ⟨rfl, (false, 0, 0, [], [], 0, [], x27, a0.cls, a0.ver), h, ⟨(.cons .dead (.cons .same (.cons (.box (wkr (wkr (wkr (wkr (wkr (wkn (wkr (wkn (wkr (wkr (wkr .nil)))))))))))) .nil))), (sC rfl (sC rfl z1i))⟩⟩
 intro hc26 h
 refine bR ?_
 refine sX ?_
 refine eX ?_
 refine cX h rfl ?_ ?_
 intro hc28 h
 refine z0a ?_
 iterate 2 refine sX ?_
 obtain ⟨x29, hx29, h⟩ := obind h
 refine sS rfl rfl rfl (z04 rfl Z94 rfl (wkr .nil) ⟨(z0c z19 a0.fields), trivial⟩ (c_q0y a0.fields x29 hx29) (z0c z19 x29)) ?_
 refine sX ?_
 refine z0m rfl rfl (z0d zqb rfl rfl rfl rfl rfl rfl (lbE rfl) rfl) ?_
 refine z06 ?_
 exact ⟨rfl, (false, 0, 0, [], [], 0, [], x29, [], 0), h, ⟨(.cons .dead (.cons .same (.cons (.box (wkr (wkr (wkr (wkr (wkr (wkn (wkr (wkn (wkr (wkr (wkr .nil)))))))))))) .nil))), (sC rfl (sC rfl z1i))⟩⟩
 intro hc28 h
 refine z07 ?_
 exact ⟨rfl, (false, 0, 0, [], [], 0, [], [], [], 0), h, ⟨(.cons .dead (.cons .same (.cons (.box (wkr (wkr (wkr (wkr (wkr (wkn (wkr (wkn (wkn (wkr (wkr .nil)))))))))))) .nil))), (sC rfl (sC rfl z1i))⟩⟩
theorem C_q0y.sound : ∀ (i : C_q0y) (r : i.R), z22 C_q0y.F i = some r → C_q0y.Q i r := by
 refine z2r (Φ := C_q0y.F) (Q := C_q0y.Q) ?_
 intro g hg i r h
 cases i with
 | k_q0y a0 => exact zeh (fun a0 => g (.k_q0y a0)) (fun a0 r hr => hg (.k_q0y a0) r hr) (fun a0 => g (.k_q1j a0)) (fun a0 r hr => hg (.k_q1j a0) r hr) a0 r h
 | k_q1j a0 => exact ziu (fun a0 => g (.k_q0y a0)) (fun a0 r hr => hg (.k_q0y a0) r hr) (fun a0 => g (.k_q1j a0)) (fun a0 r hr => hg (.k_q1j a0) r hr) a0 r h
theorem Zau (a0 r : Term) (h : zfd a0 = some r) : z08 Try.prog 47 [(z0v a0)] (z0v r) := C_q0y.sound (.k_q1j a0) r h
noncomputable def zhc (a0 : Typ) (s1 s2 : Int) (s3 : Bool) (s4 : Int) (s5 : Nat) (s6 s7 : Str) (s8 : Int) (s9 : (List Term)) (s10 : (List (Str × Term))) (s11 : Str) (s12 : Int) (s13 : (List Str)) (s14 : (List Bool)) (s15 : Bool) (s16 : Str) (s17 : (List Typ)) : Option Typ :=
 some (Typ.mk a0.kind s1 (Term.mk s2 s3 s4 s5 s6 s7 s8 s9 s10 s11 s12) s17 s13 s14 s15 s16)
noncomputable def z63 (r_q1n : Typ → Option Typ) (a0 : Typ) (s1 s2 : Int) (s3 : Bool) (s4 : Int) (s5 : Nat) (s6 s7 : Str) (s8 : Int) (s9 : (List Term)) (s10 : (List (Str × Term))) (s11 : Str) (s12 : Int) (s13 : (List Str)) (s14 : (List Bool)) (s15 : Bool) (s16 : Str) (g1 : Nat → (List Typ) → Option Typ) (s20 : Nat) (s21 : (List Typ)) : Option Typ :=
 bif (decide (((s20 : Nat) : Int) < (((a0.parts).length : Nat) : Int))) then (
 ((a0.parts)[s20]?).bind fun x24 =>
 (r_q1n x24).bind fun x25 =>
 (z9f 264 s21 ([x25] : (List Typ))).bind fun x26 =>
 g1 (s20 + 1) x26
 ) else (
 zhc a0 s1 s2 s3 s4 s5 s6 s7 s8 s9 s10 s11 s12 s13 s14 s15 s16 s21
 )
theorem zc7 (r_q1n : OF ρ → Typ → Option Typ) (h_r_q1n : ∀ y0, CM (fun G => r_q1n G y0)) (g1 : OF ρ → Nat → (List Typ) → Option Typ) (h_g1 : ∀ y0 y1, CM (fun G => g1 G y0 y1)) (a0 : Typ) (s1 s2 : Int) (s3 : Bool) (s4 : Int) (s5 : Nat) (s6 s7 : Str) (s8 : Int) (s9 : (List Term)) (s10 : (List (Str × Term))) (s11 : Str) (s12 : Int) (s13 : (List Str)) (s14 : (List Bool)) (s15 : Bool) (s16 : Str) (s20 : Nat) (s21 : (List Typ)) : CM (fun G : OF ρ => z63 (r_q1n G) a0 s1 s2 s3 s4 s5 s6 s7 s8 s9 s10 s11 s12 s13 s14 s15 s16 (g1 G) s20 s21) := by
 simp only [z63]
 repeat (first | exact z01 | exact h_r_q1n _ | exact h_g1 _ _ | apply q1n_j2_cm | refine z0h ?_ ?_ | refine z0i ?_ (fun _ => ?_) | intro _ | assumption)
noncomputable def zhb (r_q1n : Typ → Option Typ) (a0 : Typ) (s1 s2 : Int) (s3 : Bool) (s4 : Int) (s5 : Nat) (s6 s7 : Str) (s8 : Int) (s9 : (List Term)) (s10 : (List (Str × Term))) (s11 : Str) (s12 : Int) (s13 : (List Str)) (s14 : (List Bool)) (s15 : Bool) (s16 : Str) (s20 : Nat) (s21 : (List Typ)) : Option Typ :=
 z22 (ι := (Nat × (List Typ))) (ρ := fun _ => Typ) (fun g i => z63 r_q1n a0 s1 s2 s3 s4 s5 s6 s7 s8 s9 s10 s11 s12 s13 s14 s15 s16 (fun s20 s21 => g (s20, s21)) i.1 i.2) (s20, s21)
theorem zkp (r_q1n : Typ → Option Typ) (a0 : Typ) (s1 s2 : Int) (s3 : Bool) (s4 : Int) (s5 : Nat) (s6 s7 : Str) (s8 : Int) (s9 : (List Term)) (s10 : (List (Str × Term))) (s11 : Str) (s12 : Int) (s13 : (List Str)) (s14 : (List Bool)) (s15 : Bool) (s16 : Str) (s20 : Nat) (s21 : (List Typ)) : zhb r_q1n a0 s1 s2 s3 s4 s5 s6 s7 s8 s9 s10 s11 s12 s13 s14 s15 s16 s20 s21 = z63 r_q1n a0 s1 s2 s3 s4 s5 s6 s7 s8 s9 s10 s11 s12 s13 s14 s15 s16 (zhb r_q1n a0 s1 s2 s3 s4 s5 s6 s7 s8 s9 s10 s11 s12 s13 s14 s15 s16) s20 s21 :=
 z0t (ι := (Nat × (List Typ))) (ρ := fun _ => Typ) (Φ := fun g i => z63 r_q1n a0 s1 s2 s3 s4 s5 s6 s7 s8 s9 s10 s11 s12 s13 s14 s15 s16 (fun s20 s21 => g (s20, s21)) i.1 i.2) (fun i => zc7 (ι := (Nat × (List Typ))) (ρ := fun _ => Typ) (fun _ => r_q1n) (fun _ => z01) (fun g => (fun s20 s21 => g (s20, s21))) (fun _ _ => z0s) a0 s1 s2 s3 s4 s5 s6 s7 s8 s9 s10 s11 s12 s13 s14 s15 s16 i.1 i.2) (s20, s21)
theorem zu2 (r_q1n : OF ρ → Typ → Option Typ) (h_r_q1n : ∀ y0, CM (fun G => r_q1n G y0)) (a0 : Typ) (s1 s2 : Int) (s3 : Bool) (s4 : Int) (s5 : Nat) (s6 s7 : Str) (s8 : Int) (s9 : (List Term)) (s10 : (List (Str × Term))) (s11 : Str) (s12 : Int) (s13 : (List Str)) (s14 : (List Bool)) (s15 : Bool) (s16 : Str) (s20 : Nat) (s21 : (List Typ)) : CM (fun G : OF ρ => zhb (r_q1n G) a0 s1 s2 s3 s4 s5 s6 s7 s8 s9 s10 s11 s12 s13 s14 s15 s16 s20 s21) :=
 z28 (κ := (Nat × (List Typ))) (τ := fun _ => Typ) (Φ := fun G g i => z63 (r_q1n G) a0 s1 s2 s3 s4 s5 s6 s7 s8 s9 s10 s11 s12 s13 s14 s15 s16 (fun s20 s21 => g (s20, s21)) i.1 i.2) (fun g i => zc7 r_q1n h_r_q1n (fun _ => (fun s20 s21 => g (s20, s21))) (fun _ _ => z01) a0 s1 s2 s3 s4 s5 s6 s7 s8 s9 s10 s11 s12 s13 s14 s15 s16 i.1 i.2) (fun G i => zc7 (ι := (Nat × (List Typ))) (ρ := fun _ => Typ) (fun _ => r_q1n G) (fun _ => z01) (fun g => (fun s20 s21 => g (s20, s21))) (fun _ _ => z0s) a0 s1 s2 s3 s4 s5 s6 s7 s8 s9 s10 s11 s12 s13 s14 s15 s16 i.1 i.2) (s20, s21)
noncomputable def zah (r_q1n : Typ → Option Typ) (a0 : Typ) (s1 s2 : Int) (s3 : Bool) (s4 : Int) (s5 : Nat) (s6 s7 : Str) (s8 : Int) (s9 : (List Term)) (s10 : (List (Str × Term))) (s11 : Str) (s12 : Int) (s13 : (List Str)) (s14 : (List Bool)) (s15 : Bool) (s16 : Str) (s18 : Bool) : Option Typ :=
 bif s18 then (
 zhb r_q1n a0 s1 s2 s3 s4 s5 s6 s7 s8 s9 s10 s11 s12 s13 s14 s15 s16 0 ([])
 ) else (
 zhc a0 s1 s2 s3 s4 s5 s6 s7 s8 s9 s10 s11 s12 s13 s14 s15 s16 ([])
 )
theorem zu3 (r_q1n : OF ρ → Typ → Option Typ) (h_r_q1n : ∀ y0, CM (fun G => r_q1n G y0)) (a0 : Typ) (s1 s2 : Int) (s3 : Bool) (s4 : Int) (s5 : Nat) (s6 s7 : Str) (s8 : Int) (s9 : (List Term)) (s10 : (List (Str × Term))) (s11 : Str) (s12 : Int) (s13 : (List Str)) (s14 : (List Bool)) (s15 : Bool) (s16 : Str) (s18 : Bool) : CM (fun G : OF ρ => zah (r_q1n G) a0 s1 s2 s3 s4 s5 s6 s7 s8 s9 s10 s11 s12 s13 s14 s15 s16 s18) := by
 simp only [zah]
 repeat (first | exact z01 | exact h_r_q1n _ | apply q1n_j2_cm | apply zu2 | refine z0h ?_ ?_ | refine z0i ?_ (fun _ => ?_) | intro _ | assumption)
noncomputable def z89 (r_q1n : Typ → Option Typ) (a0 : Typ) (s1 s2 : Int) (s3 : Bool) (s4 : Int) (s5 : Nat) (s6 s7 : Str) (s8 : Int) (s9 : (List Term)) (s10 : (List (Str × Term))) (s11 : Str) (s12 : Int) (s13 : (List Str)) (s14 : (List Bool)) (s15 : Bool) (s16 : Str) : Option Typ :=
 bif (a0.kind == 5) then (
 zah r_q1n a0 s1 s2 s3 s4 s5 s6 s7 s8 s9 s10 s11 s12 s13 s14 s15 s16 true
 ) else (
 bif (a0.kind == 7) then (
 zah r_q1n a0 s1 s2 s3 s4 s5 s6 s7 s8 s9 s10 s11 s12 s13 s14 s15 s16 true
 ) else (
 zah r_q1n a0 s1 s2 s3 s4 s5 s6 s7 s8 s9 s10 s11 s12 s13 s14 s15 s16 (a0.kind == 6)
 )
 )
theorem zu4 (r_q1n : OF ρ → Typ → Option Typ) (h_r_q1n : ∀ y0, CM (fun G => r_q1n G y0)) (a0 : Typ) (s1 s2 : Int) (s3 : Bool) (s4 : Int) (s5 : Nat) (s6 s7 : Str) (s8 : Int) (s9 : (List Term)) (s10 : (List (Str × Term))) (s11 : Str) (s12 : Int) (s13 : (List Str)) (s14 : (List Bool)) (s15 : Bool) (s16 : Str) : CM (fun G : OF ρ => z89 (r_q1n G) a0 s1 s2 s3 s4 s5 s6 s7 s8 s9 s10 s11 s12 s13 s14 s15 s16) := by
 simp only [z89]
 repeat (first | exact z01 | exact h_r_q1n _ | apply zu3 | refine z0h ?_ ?_ | refine z0i ?_ (fun _ => ?_) | intro _ | assumption)
noncomputable def zof (r_q1n : Typ → Option Typ) (a0 : Typ) : Option Typ :=
 bif (a0.kind == 3) then (
 z89 r_q1n a0 a0.of 0 false 0 0 ([]) ([]) 0 ([]) ([]) ([]) 0 ([]) ([]) false ([])
 ) else (
 bif (a0.kind == 4) then (
 (zfd (a0.only)).bind fun x31 =>
 z89 r_q1n a0 0 x31.kind x31.bool x31.int x31.float x31.text x31.bytes x31.ref x31.list x31.fields x31.cls x31.ver ([]) ([]) false ([])
 ) else (
 bif (a0.kind == 8) then (
 z89 r_q1n a0 0 0 false 0 0 ([]) ([]) 0 ([]) ([]) ([]) 0 ([]) ([]) false a0.cls
 ) else (
 bif (a0.kind == 6) then (
 (z9f 16 ([] : (List Str)) a0.names).bind fun x34 =>
 (z9f 1 ([] : (List Bool)) a0.lacks).bind fun x35 =>
 z89 r_q1n a0 0 0 false 0 0 ([]) ([]) 0 ([]) ([]) ([]) 0 x34 x35 a0.opn ([])
 ) else (
 z89 r_q1n a0 0 0 false 0 0 ([]) ([]) 0 ([]) ([]) ([]) 0 ([]) ([]) false ([])
 )
 )
 )
 )
theorem Z1h (r_q1n : OF ρ → Typ → Option Typ) (h_r_q1n : ∀ y0, CM (fun G => r_q1n G y0)) (a0 : Typ) : CM (fun G : OF ρ => zof (r_q1n G) a0) := by
 simp only [zof]
 repeat (first | exact z01 | exact h_r_q1n _ | apply zu4 | refine z0h ?_ ?_ | refine z0i ?_ (fun _ => ?_) | intro _ | assumption)
inductive C_q1n where
 | k_q1n (a0 : Typ)
def C_q1n.R : C_q1n → Type
 | .k_q1n _ => Typ
noncomputable def C_q1n.F (g : ∀ i : C_q1n, Option i.R) : ∀ i : C_q1n, Option i.R
 | .k_q1n a0 => zof (fun a0 => g (.k_q1n a0)) a0
noncomputable def z9w (a0 : Typ) : Option Typ := z22 C_q1n.F (.k_q1n a0)
abbrev Zfp := fun (g : ∀ i : C_q1n, Option i.R) a0 => g (.k_q1n a0)
theorem Zfi (a0 : _) : CM (ρ := C_q1n.R) (fun g => g (C_q1n.k_q1n a0)) := z0s
theorem C_q1n.cm (i : C_q1n) : CM (fun g : (∀ i : C_q1n, Option i.R) => C_q1n.F g i) := by
 cases i with
 | k_q1n a0 => exact Z1h Zfp Zfi a0
theorem Zd5 (a0 : Typ) : z9w a0 = zof z9w a0 := z0t C_q1n.cm (.k_q1n a0)
def C_q1n.Q : ∀ i : C_q1n, i.R → Prop
 | .k_q1n a0 => fun (r : Typ) => z08 Try.prog 24 [(z02 a0)] (z02 r)
theorem zit (r_q1n : Typ → Option Typ) (c_q1n : ∀ (a0 : Typ) r, r_q1n a0 = some r → z08 Try.prog 24 [(z02 a0)] (z02 r)) (a0 r : Typ) (h : zof r_q1n a0 = some r) : z08 Try.prog 24 [(z02 a0)] (z02 r) := by
 unfold zof at h
 refine z0g Try.func24 rfl Try.ntmps24 Try.results24 rfl (z0q ?_)
 change BW _ _ _ ⟨[(0, (z02 a0))], [], _⟩ _
 refine bR ?_
 refine sX ?_
 refine sS rfl rfl rfl (z16 z0u rfl) (z06 ?_)
 refine cBx ?_
 refine bR ?_
 iterate 2 refine sX ?_
 refine sS rfl rfl rfl (z1x (cs := [(I64 a0.kind), (I64 0), (I64 0), (BO false), (I64 0), (PV.v (.float .f64 0)), (ofStr []), (PV.v (.slice none 0 0)), (PV.v (.int .u64 0)), (PV.v (.slice none 0 0)), (PV.v (.slice none 0 0)), (ofStr []), (I64 0), (PV.v (.slice none 0 0)), (PV.v (.slice none 0 0)), (PV.v (.slice none 0 0)), (BO false), (ofStr [])]) z5e z0u rfl rfl rfl rfl) ?_
 refine sS rfl rfl rfl (z16 z0u rfl) ?_
 refine z0m rfl rfl (z0d z0u rfl rfl rfl rfl rfl rfl (lbE rfl) rfl) ?_
 refine z06 ?_
 refine cBx ?_
 refine jX (ι := (Int × Int × Bool × Int × Nat × Str × Str × Int × (List Term) × (List (Str × Term)) × Str × Int × (List Str) × (List Bool) × Bool × Str)) (fun i => z89 r_q1n a0 i.1 i.2.1 i.2.2.1 i.2.2.2.1 i.2.2.2.2.1 i.2.2.2.2.2.1 i.2.2.2.2.2.2.1 i.2.2.2.2.2.2.2.1 i.2.2.2.2.2.2.2.2.1 i.2.2.2.2.2.2.2.2.2.1 i.2.2.2.2.2.2.2.2.2.2.1 i.2.2.2.2.2.2.2.2.2.2.2.1 i.2.2.2.2.2.2.2.2.2.2.2.2.1 i.2.2.2.2.2.2.2.2.2.2.2.2.2.1 i.2.2.2.2.2.2.2.2.2.2.2.2.2.2.1 i.2.2.2.2.2.2.2.2.2.2.2.2.2.2.2 = some r) (fun i => [(1, (PV.rf 0 0)), (2, (PV.rf 1 0)), (3, (PV.rf 2 0))]) (fun i => [.box 34 (z0x a0), .box 34 z5d, .box 34 [(I64 a0.kind), (I64 i.1), (I64 i.2.1), (BO i.2.2.1), (I64 i.2.2.2.1), (PV.v (.float .f64 i.2.2.2.2.1)), (ofStr i.2.2.2.2.2.1), (PV.sl none 5 1 (List.map ofB i.2.2.2.2.2.2.1)), (PV.v (.int .u64 i.2.2.2.2.2.2.2.1)), (PV.sl none 29 11 (List.map z0r i.2.2.2.2.2.2.2.2.1)), (PV.sl none 101 12 (List.map z0f i.2.2.2.2.2.2.2.2.2.1)), (ofStr i.2.2.2.2.2.2.2.2.2.2.1), (I64 i.2.2.2.2.2.2.2.2.2.2.2.1), (PV.v (.slice none 0 0)), (PV.sl none 9 1 (List.map ofStr i.2.2.2.2.2.2.2.2.2.2.2.2.1)), (PV.sl none 4 1 (List.map z17 i.2.2.2.2.2.2.2.2.2.2.2.2.2.1)), (BO i.2.2.2.2.2.2.2.2.2.2.2.2.2.2.1), (ofStr i.2.2.2.2.2.2.2.2.2.2.2.2.2.2.2)]]) ?_ ?_
 rintro ⟨s1, s2, s3, s4, s5, s6, s7, s8, s9, s10, s11, s12, s13, s14, s15, s16⟩ h; replace h : z89 r_q1n a0 s1 s2 s3 s4 s5 s6 s7 s8 s9 s10 s11 s12 s13 s14 s15 s16 = some r := h; unfold z89 at h
 change BW _ _ _ ⟨[(1, (PV.rf 0 0)), (2, (PV.rf 1 0)), (3, (PV.rf 2 0))], [.box 34 (z0x a0), .box 34 z5d, .box 34 [(I64 a0.kind), (I64 s1), (I64 s2), (BO s3), (I64 s4), (PV.v (.float .f64 s5)), (ofStr s6), (PV.sl none 5 1 (List.map ofB s7)), (PV.v (.int .u64 s8)), (PV.sl none 29 11 (List.map z0r s9)), (PV.sl none 101 12 (List.map z0f s10)), (ofStr s11), (I64 s12), (PV.v (.slice none 0 0)), (PV.sl none 9 1 (List.map ofStr s13)), (PV.sl none 4 1 (List.map z17 s14)), (BO s15), (ofStr s16)]], _⟩ _
 refine jX (ι := (List Typ)) (fun i => zhc a0 s1 s2 s3 s4 s5 s6 s7 s8 s9 s10 s11 s12 s13 s14 s15 s16 i = some r) (fun i => [(2, (PV.rf 1 0)), (3, (PV.rf 2 0))]) (fun i => [.dead, .box 34 z5d, .box 34 [(I64 a0.kind), (I64 s1), (I64 s2), (BO s3), (I64 s4), (PV.v (.float .f64 s5)), (ofStr s6), (PV.sl none 5 1 (List.map ofB s7)), (PV.v (.int .u64 s8)), (PV.sl none 29 11 (List.map z0r s9)), (PV.sl none 101 12 (List.map z0f s10)), (ofStr s11), (I64 s12), (PV.sl none 34 18 (List.map ofTyp i)), (PV.sl none 9 1 (List.map ofStr s13)), (PV.sl none 4 1 (List.map z17 s14)), (BO s15), (ofStr s16)]]) ?_ ?_
 rintro s17 h; replace h : zhc a0 s1 s2 s3 s4 s5 s6 s7 s8 s9 s10 s11 s12 s13 s14 s15 s16 s17 = some r := h; unfold zhc at h
 change BW _ _ _ ⟨[(2, (PV.rf 1 0)), (3, (PV.rf 2 0))], [.dead, .box 34 z5d, .box 34 [(I64 a0.kind), (I64 s1), (I64 s2), (BO s3), (I64 s4), (PV.v (.float .f64 s5)), (ofStr s6), (PV.sl none 5 1 (List.map ofB s7)), (PV.v (.int .u64 s8)), (PV.sl none 29 11 (List.map z0r s9)), (PV.sl none 101 12 (List.map z0f s10)), (ofStr s11), (I64 s12), (PV.sl none 34 18 (List.map ofTyp s17)), (PV.sl none 9 1 (List.map ofStr s13)), (PV.sl none 4 1 (List.map z17 s14)), (BO s15), (ofStr s16)]], _⟩ _
 refine bR ?_
 refine sX ?_
 refine z0m rfl rfl (z0d z0u rfl rfl rfl rfl rfl rfl (lbE rfl) rfl) ?_
 refine z06 ?_
 refine cBx ?_
 obtain rfl := eI h; exact z05 ⟨_, rfl, z1f (y := (z02 (Typ.mk a0.kind s1 (Term.mk s2 s3 s4 s5 s6 s7 s8 s9 s10 s11 s12) s17 s13 s14 s15 s16))) (Wk.refl _) (z0b (Typ.mk a0.kind s1 (Term.mk s2 s3 s4 s5 s6 s7 s8 s9 s10 s11 s12) s17 s13 s14 s15 s16)) ⟨rfl, rfl⟩⟩
 refine jX (ι := Bool) (fun i => zah r_q1n a0 s1 s2 s3 s4 s5 s6 s7 s8 s9 s10 s11 s12 s13 s14 s15 s16 i = some r) (fun i => [(1, (PV.rf 0 0)), (2, (PV.rf 1 0)), (3, (PV.rf 2 0)), (53, (BO i))]) (fun i => [.box 34 (z0x a0), .box 34 z5d, .box 34 [(I64 a0.kind), (I64 s1), (I64 s2), (BO s3), (I64 s4), (PV.v (.float .f64 s5)), (ofStr s6), (PV.sl none 5 1 (List.map ofB s7)), (PV.v (.int .u64 s8)), (PV.sl none 29 11 (List.map z0r s9)), (PV.sl none 101 12 (List.map z0f s10)), (ofStr s11), (I64 s12), (PV.v (.slice none 0 0)), (PV.sl none 9 1 (List.map ofStr s13)), (PV.sl none 4 1 (List.map z17 s14)), (BO s15), (ofStr s16)]]) ?_ ?_
 rintro s18 h; replace h : zah r_q1n a0 s1 s2 s3 s4 s5 s6 s7 s8 s9 s10 s11 s12 s13 s14 s15 s16 s18 = some r := h; unfold zah at h
 change BW _ _ _ ⟨[(1, (PV.rf 0 0)), (2, (PV.rf 1 0)), (3, (PV.rf 2 0)), (53, (BO s18))], [.box 34 (z0x a0), .box 34 z5d, .box 34 [(I64 a0.kind), (I64 s1), (I64 s2), (BO s3), (I64 s4), (PV.v (.float .f64 s5)), (ofStr s6), (PV.sl none 5 1 (List.map ofB s7)), (PV.v (.int .u64 s8)), (PV.sl none 29 11 (List.map z0r s9)), (PV.sl none 101 12 (List.map z0f s10)), (ofStr s11), (I64 s12), (PV.v (.slice none 0 0)), (PV.sl none 9 1 (List.map ofStr s13)), (PV.sl none 4 1 (List.map z17 s14)), (BO s15), (ofStr s16)]], _⟩ _
 refine cX h rfl ?_ ?_
 intro hc19 h
 refine bR ?_
 refine eX ?_
 refine z0e ?_
 refine cBx ?_
 refine zbj (s := ⟨_, _, _⟩) 2 13 34 (sz := 18) rfl rfl rfl ?_
 unfold zhb at h
 refine z3c (σ := (Nat × (List Typ))) (fun i => [(1, (PV.rf 0 0)), (2, (PV.rf 1 0)), (3, (PV.rf 2 0)), (4, (I64 (((i.1 : Nat) : Int))))]) (fun i => [.box 34 (z0x a0), .box 34 z5d, .box 34 [(I64 a0.kind), (I64 s1), (I64 s2), (BO s3), (I64 s4), (PV.v (.float .f64 s5)), (ofStr s6), (PV.sl none 5 1 (List.map ofB s7)), (PV.v (.int .u64 s8)), (PV.sl none 29 11 (List.map z0r s9)), (PV.sl none 101 12 (List.map z0f s10)), (ofStr s11), (I64 s12), (PV.sl (some 3) 34 18 (List.map ofTyp i.2)), (PV.sl none 9 1 (List.map ofStr s13)), (PV.sl none 4 1 (List.map z17 s14)), (BO s15), (ofStr s16)], .arr 34 (i.2).length]) (0, []) h ?_ ?_ ?_
 intro i; exact ⟨lbE rfl, ⟨(il_rf rfl), ⟨(il_rf rfl), ⟨(il_rf rfl), ⟨(z00 rfl), trivial⟩⟩⟩⟩, ⟨wfC34, ⟨⟨(z00 rfl), ⟨(z00 rfl), ⟨(z00 rfl), ⟨(z00 rfl), ⟨(z00 rfl), ⟨(z00 rfl), ⟨(z00 rfl), ⟨(z00 rfl), ⟨(z00 rfl), ⟨(z00 rfl), ⟨(z00 rfl), ⟨(z00 rfl), ⟨(z00 rfl), ⟨(z00 rfl), ⟨(z00 rfl), ⟨(z00 rfl), ⟨(z00 rfl), ⟨(z00 rfl), trivial⟩⟩⟩⟩⟩⟩⟩⟩⟩⟩⟩⟩⟩⟩⟩⟩⟩⟩, ⟨⟨(z00 rfl), ⟨(z00 rfl), ⟨(z00 rfl), ⟨(z00 rfl), ⟨(z00 rfl), ⟨(z00 rfl), ⟨(z00 rfl), ⟨(z00 (z0c (fun _ => rfl) _)), ⟨(z00 rfl), ⟨(z00 (z0c z1p _)), ⟨(z00 (z0c z19 _)), ⟨(z00 rfl), ⟨(z00 rfl), ⟨(z8b rfl (z3p z1m _)), ⟨(z00 (z0c (fun _ => rfl) _)), ⟨(z00 (z0c (fun _ => rfl) _)), ⟨(z00 rfl), ⟨(z00 rfl), trivial⟩⟩⟩⟩⟩⟩⟩⟩⟩⟩⟩⟩⟩⟩⟩⟩⟩⟩, trivial⟩⟩⟩⟩
 exact jN
 rintro g1_f ⟨s20, s21⟩ h; replace h : z63 r_q1n a0 s1 s2 s3 s4 s5 s6 s7 s8 s9 s10 s11 s12 s13 s14 s15 s16 (fun y0 y1 => g1_f (y0, y1)) s20 s21 = some r := h; unfold z63 at h
 change BW _ _ _ ⟨[(1, (PV.rf 0 0)), (2, (PV.rf 1 0)), (3, (PV.rf 2 0)), (4, (I64 (((s20 : Nat) : Int))))], [.box 34 (z0x a0), .box 34 z5d, .box 34 [(I64 a0.kind), (I64 s1), (I64 s2), (BO s3), (I64 s4), (PV.v (.float .f64 s5)), (ofStr s6), (PV.sl none 5 1 (List.map ofB s7)), (PV.v (.int .u64 s8)), (PV.sl none 29 11 (List.map z0r s9)), (PV.sl none 101 12 (List.map z0f s10)), (ofStr s11), (I64 s12), (PV.sl (some 3) 34 18 (List.map ofTyp s21)), (PV.sl none 9 1 (List.map ofStr s13)), (PV.sl none 4 1 (List.map z17 s14)), (BO s15), (ofStr s16)], .arr 34 (s21).length], _⟩ _
 refine z09 ?_
 refine bR ?_
 iterate 4 refine sX ?_
 refine eX ?_
 refine z2f (t := 56) rfl fun hb23 => ?_
 try rw [List.length_map] at hb23
 refine cX h rfl ?_ ?_
 intro hc22 h
 have hc22_ := of_decide_eq_true hc22
 refine z07 ?_
 refine cBx ?_
 refine z09 ?_
 refine z0e ?_
 refine cBx ?_
 refine z13 9 [8] [0, 2] mo (by kernel_rfl) ?_
 iterate 5 refine gX ?_
 obtain ⟨x24, hx24, h⟩ := obind h
 refine z1h rfl rfl rfl rfl (fun H hp => z0w (i := s20) Try.underlying30 z0u rfl rfl rfl hx24 (z1c _)) ?_
 refine gX ?_
 obtain ⟨x25, hx25, h⟩ := obind h
 refine z1h rfl rfl rfl rfl (fun H hp => z04 rfl zsg rfl (wkr .nil) ⟨(z0b x24), trivial⟩ (c_q1n x24 x25 hx25) (z0b x25)) ?_
 refine z7e rfl rfl rfl rfl ((z1q (xs := [(z02 x25)]) Try.underlying30 z0u rfl rfl rfl rfl rfl rfl ⟨lbE rfl, lbE rfl⟩ rfl).cast (y := (PV.sl (some 4) 34 18 (List.map ofTyp ([x25] : (List Typ))))) (by simp only [List.map_cons, List.map_nil, z1c]; try rfl) rfl) ⟨rfl, ⟨rfl, trivial⟩⟩ ?_
 refine z11 ?_
 change AO _ _ _ _ _
 obtain ⟨x26, hx26, h⟩ := obind h
 refine sS rfl rfl rfl (z3k Try.underlying30 z0u rfl Try.underlying30 rfl rfl rfl rfl zg4 z8x hx26 rfl) ?_
 refine sX ?_
 refine z0m rfl rfl (z0d zfv rfl rfl rfl rfl rfl rfl (lbE rfl) rfl) ?_
 refine z06 ?_
 refine cBx ?_
 refine z0a ?_
 refine sX ?_
 refine sS rfl rfl rfl (z1b (k := s20) (c := 1) rfl rfl rfl (by omega)) ?_
 refine sX (z06 ?_)
 exact ⟨rfl, ((s20 + 1), x26), h, jN⟩
 intro hc22 h
 refine z1a ?_
 exact ⟨rfl, s21, h, ⟨(.cons .dead (.cons .same (.cons (.box (wkr (wkr (wkr (wkr (wkr (wkr (wkr (wkr (wkr (wkr (wkr (wkr (wkr (.cons Wk.tok (wkr (wkr (wkr (wkr .nil))))))))))))))))))) .nil))), (sC rfl (sC rfl z1i))⟩⟩
 intro hc19 h
 refine z07 ?_
 exact ⟨rfl, [], h, ⟨(.cons .dead (.cons .same (.cons (.box (wkr (wkr (wkr (wkr (wkr (wkr (wkr (wkr (wkr (wkr (wkr (wkr (wkr (wkn (wkr (wkr (wkr (wkr .nil))))))))))))))))))) .nil))), (sC rfl (sC rfl z1i))⟩⟩
 refine z0a ?_
 iterate 4 refine sX ?_
 refine z0n (t := 44) rfl ?_ ?_
 intro hb27; replace h := z0j hb27 h
 iterate 3 refine nX ?_
 iterate 2 refine sX ?_
 iterate 3 refine nX ?_
 refine sX (z06 ?_)
 exact ⟨rfl, true, h, jN⟩
 intro hb27; replace h := z0k hb27 h
 iterate 3 refine yX ?_
 iterate 2 refine sX ?_
 refine z0n (t := 49) rfl ?_ ?_
 intro hb28; replace h := z0j hb28 h
 iterate 3 refine nX ?_
 refine sX (z06 ?_)
 exact ⟨rfl, true, h, jN⟩
 intro hb28; replace h := z0k hb28 h
 iterate 3 refine yX ?_
 refine sX (z06 ?_)
 exact ⟨rfl, (a0.kind == 6), h, jN⟩
 refine bR ?_
 refine sX ?_
 refine eX ?_
 refine z0e ?_
 refine cBx ?_
 refine bR ?_
 refine sX ?_
 refine eX ?_
 refine cX h rfl ?_ ?_
 intro hc29 h
 refine z0a ?_
 iterate 3 refine sX ?_
 refine z0m rfl rfl (z0d zfw rfl rfl rfl rfl rfl rfl (lbE rfl) rfl) ?_
 refine z06 ?_
 exact ⟨rfl, (a0.of, 0, false, 0, 0, [], [], 0, [], [], [], 0, [], [], false, []), h, ⟨(.cons .same (.cons .same (.cons (.box (wkr (wkr (wkr (wkr (wkr (wkr (wkr (wkn (wkr (wkn (wkn (wkr (wkr (wkr (wkn (wkn (wkr (wkr .nil))))))))))))))))))) .nil))), (sC rfl (sC rfl (sC rfl z1i)))⟩⟩
 intro hc29 h
 refine bR ?_
 refine sX ?_
 refine eX ?_
 refine cX h rfl ?_ ?_
 intro hc30 h
 refine z0a ?_
 iterate 2 refine sX ?_
 obtain ⟨x31, hx31, h⟩ := obind h
 refine sS rfl rfl rfl (z04 rfl Z5s rfl (wkr .nil) ⟨(z10 (a0.only)), trivial⟩ (Zau (a0.only) x31 hx31) (z10 x31)) ?_
 refine sX ?_
 refine z0m rfl rfl (z0d z20 rfl rfl rfl rfl rfl rfl (lbE rfl) rfl) ?_
 refine z06 ?_
 exact ⟨rfl, (0, x31.kind, x31.bool, x31.int, x31.float, x31.text, x31.bytes, x31.ref, x31.list, x31.fields, x31.cls, x31.ver, [], [], false, []), h, ⟨(.cons .same (.cons .same (.cons (.box (wkr (wkr (wkr (wkr (wkr (wkr (wkr (wkr (wkr (wkr (wkr (wkr (wkr (wkr (wkn (wkn (wkr (wkr .nil))))))))))))))))))) .nil))), (sC rfl (sC rfl (sC rfl z1i)))⟩⟩
 intro hc30 h
 refine bR ?_
 refine sX ?_
 refine eX ?_
 refine cX h rfl ?_ ?_
 intro hc32 h
 refine z0a ?_
 iterate 3 refine sX ?_
 refine z0m rfl rfl (z0d inf_9 rfl rfl rfl rfl rfl rfl (lbE rfl) rfl) ?_
 refine z06 ?_
 exact ⟨rfl, (0, 0, false, 0, 0, [], [], 0, [], [], [], 0, [], [], false, a0.cls), h, ⟨(.cons .same (.cons .same (.cons (.box (wkr (wkr (wkr (wkr (wkr (wkr (wkr (wkn (wkr (wkn (wkn (wkr (wkr (wkr (wkn (wkn (wkr (wkr .nil))))))))))))))))))) .nil))), (sC rfl (sC rfl (sC rfl z1i)))⟩⟩
 intro hc32 h
 refine bR ?_
 refine sX ?_
 refine eX ?_
 refine cX h rfl ?_ ?_
 intro hc33 h
 refine z13 14 [3, 7, 11, 13] [0] mo (by kernel_rfl) ?_
 refine z1h rfl rfl rfl rfl (fun H hp => zpr 0 Try.underlying31 inf_9 rfl) ?_
 iterate 2 refine gX ?_
 obtain ⟨x34, hx34, h⟩ := obind h
 refine z7e rfl rfl rfl rfl (zlz Try.underlying31 inf_9 rfl Try.underlying31 rfl rfl rfl (fun _ => rfl) (fun _ => rfl) hx34 rfl) ⟨rfl, trivial⟩ ?_
 refine z1h rfl rfl rfl rfl (fun H hp => zpr 0 Try.underlying32 inf_4 rfl) ?_
 iterate 2 refine gX ?_
 obtain ⟨x35, hx35, h⟩ := obind h
 refine z7e rfl rfl rfl rfl (zlz Try.underlying32 inf_4 rfl Try.underlying32 rfl rfl rfl (fun _ => rfl) (fun _ => rfl) hx35 rfl) ⟨rfl, trivial⟩ ?_
 iterate 3 refine gX ?_
 refine z87 rfl rfl rfl (z0d Z3d rfl rfl rfl rfl rfl rfl (lbE rfl) rfl) ⟨rfl, trivial⟩ ?_
 refine gX ?_
 refine z87 rfl rfl rfl (z0d Z3c rfl rfl rfl rfl rfl rfl (lbE rfl) rfl) ⟨rfl, trivial⟩ ?_
 refine z11 ?_
 change AO _ _ _ _ _
 refine sX ?_
 refine z0m rfl rfl (z0d inf_4 rfl rfl rfl rfl rfl rfl (lbE rfl) rfl) ?_
 refine z06 ?_
 exact ⟨rfl, (0, 0, false, 0, 0, [], [], 0, [], [], [], 0, x34, x35, a0.opn, []), h, ⟨(.cons .same (.cons .same (.cons (.box (wkr (wkr (wkr (wkr (wkr (wkr (wkr (wkn (wkr (wkn (wkn (wkr (wkr (wkr (.cons Wk.tok (.cons Wk.tok (wkr (wkr .nil))))))))))))))))))) .nil))), (sC rfl (sC rfl (sC rfl z1i)))⟩⟩
 intro hc33 h
 refine z07 ?_
 exact ⟨rfl, (0, 0, false, 0, 0, [], [], 0, [], [], [], 0, [], [], false, []), h, ⟨(.cons .same (.cons .same (.cons (.box (wkr (wkr (wkr (wkr (wkr (wkr (wkr (wkn (wkr (wkn (wkn (wkr (wkr (wkr (wkn (wkn (wkr (wkr .nil))))))))))))))))))) .nil))), (sC rfl (sC rfl (sC rfl z1i)))⟩⟩
theorem C_q1n.sound : ∀ (i : C_q1n) (r : i.R), z22 C_q1n.F i = some r → C_q1n.Q i r := by
 refine z2r (Φ := C_q1n.F) (Q := C_q1n.Q) ?_
 intro g hg i r h
 cases i with
 | k_q1n a0 => exact zit (fun a0 => g (.k_q1n a0)) (fun a0 r hr => hg (.k_q1n a0) r hr) a0 r h
theorem zt4 (a0 r : Typ) (h : z9w a0 = some r) : z08 Try.prog 24 [(z02 a0)] (z02 r) := C_q1n.sound (.k_q1n a0) r h
noncomputable def zrx (a0 : Typ) : Option (List Typ) :=
 bif (a0.kind == 7) then (
 some a0.parts
 ) else (
 some ([a0] : (List Typ))
 )
theorem Z7k (a0 : Typ) (r : (List Typ)) (h : zrx a0 = some r) : z08 Try.prog 45 [(z02 a0)] (PV.sl none 34 18 (List.map ofTyp r)) := by
 unfold zrx at h
 refine z0g Try.func45 rfl Try.ntmps45 Try.results45 rfl (z0q ?_)
 change BW _ _ _ ⟨[(0, (z02 a0))], [], _⟩ _
 refine bR ?_
 refine sX ?_
 refine eX ?_
 refine z09 ?_
 refine bR ?_
 iterate 2 refine sX ?_
 refine eX ?_
 refine cX h rfl ?_ ?_
 intro hc1 h
 refine bR ?_
 iterate 2 refine sX ?_
 refine eX ?_
 obtain rfl := eI h; exact z05 ⟨_, rfl, z1f (y := (PV.sl none 34 18 (List.map ofTyp a0.parts))) (Wk.refl _) (z0c z1m a0.parts) ⟨rfl, rfl⟩⟩
 intro hc1 h
 refine z07 ?_
 refine cBx ?_
 refine bR ?_
 refine sX ?_
 refine sS rfl rfl rfl ((z1q (xs := [(PV.agg (cc4 a0))]) Try.underlying30 z0u rfl rfl rfl rfl rfl rfl ⟨lbE rfl, lbE rfl⟩ rfl).cast (y := (PV.sl (some 1) 34 18 (List.map ofTyp ([a0] : (List Typ))))) (by simp only [List.map_cons, List.map_nil, z1c]; try rfl) rfl) ?_
 refine eX ?_
 obtain rfl := eI h; exact z05 ⟨_, rfl, z1f (y := (PV.sl none 34 18 (List.map ofTyp ([a0] : (List Typ))))) Wk.tok (z0c z1m ([a0] : (List Typ))) ⟨rfl, rfl⟩⟩
end Go.Proofs.Ytiapdjdhaclmnaa
