/- Pure functions, and that calls answer as they say. -/
import Derived.Test.YtmoijodjgkfhgaaGreatG3
namespace Go.Proofs.YtmoijodjgkfhgaaGreat
open Go Aw
set_option linter.unusedVariables false
set_option linter.unusedSimpArgs false
set_option maxRecDepth 20000
set_option maxHeartbeats 2000000
variable {ι : Type} {ρ : ι → Type}
noncomputable def z6a (r_q0m : S_merge_merger → (List S_api_Step) → S_merge_side → S_merge_side → S_merge_side → Option (S_merge_side × S_merge_merger)) (a1 : (List S_api_Step)) (a2 a3 a4 : V) (g1 : (List V) → Nat → Unit → (List S_api_Conflict) → Option (S_merge_side × Bool × S_merge_merger)) (s3 : (List V)) (s4 : Nat) (s5 : Unit) (s6 : (List S_api_Conflict)) : Option (S_merge_side × Bool × S_merge_merger) :=
 bif (decide (((s4 : Nat) : Int) < ((((a2).asList).length : Nat) : Int))) then (
 (zj5 a1).bind fun x9 =>
 (zch 32 x9 ([(S_api_Step.mk [] true ((s4 : Nat) : Int))] : (List S_api_Step))).bind fun x10 =>
 (((a2).asList)[s4]?).bind fun x11 =>
 (((a3).asList)[s4]?).bind fun x12 =>
 (((a4).asList)[s4]?).bind fun x13 =>
 (r_q0m (S_merge_merger.mk s5 s6) x10 (S_merge_side.mk x11 true) (S_merge_side.mk x12 true) (S_merge_side.mk x13 true)).bind fun x14 =>
 (zch 16 s3 ([(x14.1).f_v] : (List V))).bind fun x15 =>
 g1 x15 (s4 + 1) ((x14.2).f_settle) ((x14.2).f_conflicts)
 ) else (
 some ((S_merge_side.mk (V.list s3) true), true, (S_merge_merger.mk s5 s6))
 )
theorem zbl (r_q0m : OF ρ → S_merge_merger → (List S_api_Step) → S_merge_side → S_merge_side → S_merge_side → Option (S_merge_side × S_merge_merger)) (h_r_q0m : ∀ y0 y1 y2 y3 y4, CM (fun G => r_q0m G y0 y1 y2 y3 y4)) (g1 : OF ρ → (List V) → Nat → Unit → (List S_api_Conflict) → Option (S_merge_side × Bool × S_merge_merger)) (h_g1 : ∀ y0 y1 y2 y3, CM (fun G => g1 G y0 y1 y2 y3)) (a1 : (List S_api_Step)) (a2 a3 a4 : V) (s3 : (List V)) (s4 : Nat) (s5 : Unit) (s6 : (List S_api_Conflict)) : CM (fun G : OF ρ => z6a (r_q0m G) a1 a2 a3 a4 (g1 G) s3 s4 s5 s6) := by
 simp only [z6a]
 repeat (first | exact z0i | exact h_r_q0m _ _ _ _ _ | exact h_g1 _ _ _ _ | refine z18 ?_ ?_ | refine z19 ?_ (fun _ => ?_))
noncomputable def zff (r_q0m : S_merge_merger → (List S_api_Step) → S_merge_side → S_merge_side → S_merge_side → Option (S_merge_side × S_merge_merger)) (a1 : (List S_api_Step)) (a2 a3 a4 : V) (s3 : (List V)) (s4 : Nat) (s5 : Unit) (s6 : (List S_api_Conflict)) : Option (S_merge_side × Bool × S_merge_merger) :=
 z3q (ι := ((List V) × Nat × Unit × (List S_api_Conflict))) (ρ := fun _ => (S_merge_side × Bool × S_merge_merger)) (fun g i => z6a r_q0m a1 a2 a3 a4 (fun s3 s4 s5 s6 => g (s3, s4, s5, s6)) i.1 i.2.1 i.2.2.1 i.2.2.2) (s3, s4, s5, s6)
theorem zig (r_q0m : S_merge_merger → (List S_api_Step) → S_merge_side → S_merge_side → S_merge_side → Option (S_merge_side × S_merge_merger)) (a1 : (List S_api_Step)) (a2 a3 a4 : V) (s3 : (List V)) (s4 : Nat) (s5 : Unit) (s6 : (List S_api_Conflict)) : zff r_q0m a1 a2 a3 a4 s3 s4 s5 s6 = z6a r_q0m a1 a2 a3 a4 (zff r_q0m a1 a2 a3 a4) s3 s4 s5 s6 :=
 z1j (ι := ((List V) × Nat × Unit × (List S_api_Conflict))) (ρ := fun _ => (S_merge_side × Bool × S_merge_merger)) (Φ := fun g i => z6a r_q0m a1 a2 a3 a4 (fun s3 s4 s5 s6 => g (s3, s4, s5, s6)) i.1 i.2.1 i.2.2.1 i.2.2.2) (fun i => zbl (ι := ((List V) × Nat × Unit × (List S_api_Conflict))) (ρ := fun _ => (S_merge_side × Bool × S_merge_merger)) (fun _ => r_q0m) (fun _ _ _ _ _ => z0i) (fun g => (fun s3 s4 s5 s6 => g (s3, s4, s5, s6))) (fun _ _ _ _ => z1l) a1 a2 a3 a4 i.1 i.2.1 i.2.2.1 i.2.2.2) (s3, s4, s5, s6)
theorem zrs (r_q0m : OF ρ → S_merge_merger → (List S_api_Step) → S_merge_side → S_merge_side → S_merge_side → Option (S_merge_side × S_merge_merger)) (h_r_q0m : ∀ y0 y1 y2 y3 y4, CM (fun G => r_q0m G y0 y1 y2 y3 y4)) (a1 : (List S_api_Step)) (a2 a3 a4 : V) (s3 : (List V)) (s4 : Nat) (s5 : Unit) (s6 : (List S_api_Conflict)) : CM (fun G : OF ρ => zff (r_q0m G) a1 a2 a3 a4 s3 s4 s5 s6) :=
 z5z (κ := ((List V) × Nat × Unit × (List S_api_Conflict))) (τ := fun _ => (S_merge_side × Bool × S_merge_merger)) (Φ := fun G g i => z6a (r_q0m G) a1 a2 a3 a4 (fun s3 s4 s5 s6 => g (s3, s4, s5, s6)) i.1 i.2.1 i.2.2.1 i.2.2.2) (fun g i => zbl r_q0m h_r_q0m (fun _ => (fun s3 s4 s5 s6 => g (s3, s4, s5, s6))) (fun _ _ _ _ => z0i) a1 a2 a3 a4 i.1 i.2.1 i.2.2.1 i.2.2.2) (fun G i => zbl (ι := ((List V) × Nat × Unit × (List S_api_Conflict))) (ρ := fun _ => (S_merge_side × Bool × S_merge_merger)) (fun _ => r_q0m G) (fun _ _ _ _ _ => z0i) (fun g => (fun s3 s4 s5 s6 => g (s3, s4, s5, s6))) (fun _ _ _ _ => z1l) a1 a2 a3 a4 i.1 i.2.1 i.2.2.1 i.2.2.2) (s3, s4, s5, s6)
noncomputable def z80 (r_q0m : S_merge_merger → (List S_api_Step) → S_merge_side → S_merge_side → S_merge_side → Option (S_merge_side × S_merge_merger)) (a0 : S_merge_merger) (a1 : (List S_api_Step)) (a2 a3 a4 : V) (s1 : Bool) : Option (S_merge_side × Bool × S_merge_merger) :=
 bif s1 then (
 some ((S_merge_side.mk V.nil false), false, a0)
 ) else (
 zff r_q0m a1 a2 a3 a4 ([] : (List V)) 0 a0.f_settle a0.f_conflicts
 )
theorem zrt (r_q0m : OF ρ → S_merge_merger → (List S_api_Step) → S_merge_side → S_merge_side → S_merge_side → Option (S_merge_side × S_merge_merger)) (h_r_q0m : ∀ y0 y1 y2 y3 y4, CM (fun G => r_q0m G y0 y1 y2 y3 y4)) (a0 : S_merge_merger) (a1 : (List S_api_Step)) (a2 a3 a4 : V) (s1 : Bool) : CM (fun G : OF ρ => z80 (r_q0m G) a0 a1 a2 a3 a4 s1) := by
 simp only [z80]
 repeat (first | exact z0i | exact h_r_q0m _ _ _ _ _ | apply zrs | refine z18 ?_ ?_ | refine z19 ?_ (fun _ => ?_) | intro _ | assumption)
noncomputable def zk8 (r_q0h r_q0g : S_merge_merger → (List S_api_Step) → V → V → V → Option (S_merge_side × Bool × S_merge_merger)) (r_q0m : S_merge_merger → (List S_api_Step) → S_merge_side → S_merge_side → S_merge_side → Option (S_merge_side × S_merge_merger)) (a0 : S_merge_merger) (a1 : (List S_api_Step)) (a2 a3 a4 : V) : Option (S_merge_side × Bool × S_merge_merger) :=
 bif (!(a2).isList) then (
 z80 r_q0m a0 a1 a2 a3 a4 true
 ) else (
 bif (!(a3).isList) then (
 z80 r_q0m a0 a1 a2 a3 a4 true
 ) else (
 bif (!(a4).isList) then (
 z80 r_q0m a0 a1 a2 a3 a4 true
 ) else (
 bif (((((a2).asList).length : Nat) : Int) != ((((a3).asList).length : Nat) : Int)) then (
 z80 r_q0m a0 a1 a2 a3 a4 true
 ) else (
 z80 r_q0m a0 a1 a2 a3 a4 (((((a2).asList).length : Nat) : Int) != ((((a4).asList).length : Nat) : Int))
 )
 )
 )
 )
theorem zyg (r_q0h : OF ρ → S_merge_merger → (List S_api_Step) → V → V → V → Option (S_merge_side × Bool × S_merge_merger)) (h_r_q0h : ∀ y0 y1 y2 y3 y4, CM (fun G => r_q0h G y0 y1 y2 y3 y4)) (r_q0g : OF ρ → S_merge_merger → (List S_api_Step) → V → V → V → Option (S_merge_side × Bool × S_merge_merger)) (h_r_q0g : ∀ y0 y1 y2 y3 y4, CM (fun G => r_q0g G y0 y1 y2 y3 y4)) (r_q0m : OF ρ → S_merge_merger → (List S_api_Step) → S_merge_side → S_merge_side → S_merge_side → Option (S_merge_side × S_merge_merger)) (h_r_q0m : ∀ y0 y1 y2 y3 y4, CM (fun G => r_q0m G y0 y1 y2 y3 y4)) (a0 : S_merge_merger) (a1 : (List S_api_Step)) (a2 a3 a4 : V) : CM (fun G : OF ρ => zk8 (r_q0h G) (r_q0g G) (r_q0m G) a0 a1 a2 a3 a4) := by
 simp only [zk8]
 repeat (first | exact z0i | exact h_r_q0h _ _ _ _ _ | exact h_r_q0g _ _ _ _ _ | exact h_r_q0m _ _ _ _ _ | apply zrt | refine z18 ?_ ?_ | refine z19 ?_ (fun _ => ?_) | intro _ | assumption)
noncomputable def z6c (g1 : (List Str) → Int → Option (S_merge_side × Bool × S_merge_merger)) (s7 : Int) (x9 : (List (Str × V))) (g2 : (List Str) → Nat → Option (S_merge_side × Bool × S_merge_merger)) (s10 : (List Str)) (s11 : Nat) : Option (S_merge_side × Bool × S_merge_merger) :=
 bif (decide (((s11 : Nat) : Int) < (((x9).length : Nat) : Int))) then (
 ((x9)[s11]?).bind fun x14 =>
 (zch 16 s10 ([x14.1] : (List Str))).bind fun x15 =>
 g2 x15 (s11 + 1)
 ) else (
 g1 s10 (IntKind.i64.wrap (s7 + 1))
 )
theorem zbn (g1 : OF ρ → (List Str) → Int → Option (S_merge_side × Bool × S_merge_merger)) (h_g1 : ∀ y0 y1, CM (fun G => g1 G y0 y1)) (g2 : OF ρ → (List Str) → Nat → Option (S_merge_side × Bool × S_merge_merger)) (h_g2 : ∀ y0 y1, CM (fun G => g2 G y0 y1)) (s7 : Int) (x9 : (List (Str × V))) (s10 : (List Str)) (s11 : Nat) : CM (fun G : OF ρ => z6c (g1 G) s7 x9 (g2 G) s10 s11) := by
 simp only [z6c]
 repeat (first | exact z0i | exact h_g1 _ _ | exact h_g2 _ _ | refine z18 ?_ ?_ | refine z19 ?_ (fun _ => ?_))
noncomputable def zfh (g1 : (List Str) → Int → Option (S_merge_side × Bool × S_merge_merger)) (s7 : Int) (x9 : (List (Str × V))) (s10 : (List Str)) (s11 : Nat) : Option (S_merge_side × Bool × S_merge_merger) :=
 z3q (ι := ((List Str) × Nat)) (ρ := fun _ => (S_merge_side × Bool × S_merge_merger)) (fun g i => z6c g1 s7 x9 (fun s10 s11 => g (s10, s11)) i.1 i.2) (s10, s11)
theorem zii (g1 : (List Str) → Int → Option (S_merge_side × Bool × S_merge_merger)) (s7 : Int) (x9 : (List (Str × V))) (s10 : (List Str)) (s11 : Nat) : zfh g1 s7 x9 s10 s11 = z6c g1 s7 x9 (zfh g1 s7 x9) s10 s11 :=
 z1j (ι := ((List Str) × Nat)) (ρ := fun _ => (S_merge_side × Bool × S_merge_merger)) (Φ := fun g i => z6c g1 s7 x9 (fun s10 s11 => g (s10, s11)) i.1 i.2) (fun i => zbn (ι := ((List Str) × Nat)) (ρ := fun _ => (S_merge_side × Bool × S_merge_merger)) (fun _ => g1) (fun _ _ => z0i) (fun g => (fun s10 s11 => g (s10, s11))) (fun _ _ => z1l) s7 x9 i.1 i.2) (s10, s11)
theorem zrv (g1 : OF ρ → (List Str) → Int → Option (S_merge_side × Bool × S_merge_merger)) (h_g1 : ∀ y0 y1, CM (fun G => g1 G y0 y1)) (s7 : Int) (x9 : (List (Str × V))) (s10 : (List Str)) (s11 : Nat) : CM (fun G : OF ρ => zfh (g1 G) s7 x9 s10 s11) :=
 z5z (κ := ((List Str) × Nat)) (τ := fun _ => (S_merge_side × Bool × S_merge_merger)) (Φ := fun G g i => z6c (g1 G) s7 x9 (fun s10 s11 => g (s10, s11)) i.1 i.2) (fun g i => zbn g1 h_g1 (fun _ => (fun s10 s11 => g (s10, s11))) (fun _ _ => z0i) s7 x9 i.1 i.2) (fun G i => zbn (ι := ((List Str) × Nat)) (ρ := fun _ => (S_merge_side × Bool × S_merge_merger)) (fun _ => g1 G) (fun _ _ => z0i) (fun g => (fun s10 s11 => g (s10, s11))) (fun _ _ => z1l) s7 x9 i.1 i.2) (s10, s11)
noncomputable def zah (g2 : (List (Str × V)) → Int → Unit → (List S_api_Conflict) → Option (S_merge_side × Bool × S_merge_merger)) (s18 : Int) (s22 : (List (Str × V))) (s23 : Unit) (s24 : (List S_api_Conflict)) : Option (S_merge_side × Bool × S_merge_merger) :=
 g2 s22 (IntKind.i64.wrap (s18 + 1)) s23 s24
theorem zrx (g2 : OF ρ → (List (Str × V)) → Int → Unit → (List S_api_Conflict) → Option (S_merge_side × Bool × S_merge_merger)) (h_g2 : ∀ y0 y1 y2 y3, CM (fun G => g2 G y0 y1 y2 y3)) (s18 : Int) (s22 : (List (Str × V))) (s23 : Unit) (s24 : (List S_api_Conflict)) : CM (fun G : OF ρ => zah (g2 G) s18 s22 s23 s24) := by
 simp only [zah]
 repeat (first | exact z0i | exact h_g2 _ _ _ _ | refine z18 ?_ ?_ | refine z19 ?_ (fun _ => ?_))
noncomputable def z6b (r_q0m : S_merge_merger → (List S_api_Step) → S_merge_side → S_merge_side → S_merge_side → Option (S_merge_side × S_merge_merger)) (a1 : (List S_api_Step)) (x1 x2 x3 : ((List (Str × V)) × Str × Int × Bool)) (x16 : (List Str)) (g2 : (List (Str × V)) → Int → Unit → (List S_api_Conflict) → Option (S_merge_side × Bool × S_merge_merger)) (s17 : (List (Str × V))) (s18 : Int) (s19 : Unit) (s20 : (List S_api_Conflict)) : Option (S_merge_side × Bool × S_merge_merger) :=
 bif (decide (s18 < ((((compS x16)).length : Nat) : Int))) then (
 (z82 (compS x16) s18).bind fun x25 =>
 (zj5 a1).bind fun x26 =>
 (zch 32 x26 ([(S_api_Step.mk x25 false 0)] : (List S_api_Step))).bind fun x27 =>
 (zl0 x1.1 x25).bind fun x28 =>
 (zl0 x2.1 x25).bind fun x29 =>
 (zl0 x3.1 x25).bind fun x30 =>
 (r_q0m (S_merge_merger.mk s19 s20) x27 x28 x29 x30).bind fun x31 =>
 bif (x31.1).f_has then (
 (zch 32 s17 ([(x25, (x31.1).f_v)] : (List (Str × V)))).bind fun x33 =>
 zah g2 s18 x33 ((x31.2).f_settle) ((x31.2).f_conflicts)
 ) else (
 zah g2 s18 s17 ((x31.2).f_settle) ((x31.2).f_conflicts)
 )
 ) else (
 bif (x1.2.1 == ([] : Str)) then (
 some ((S_merge_side.mk (V.dict s17) true), true, (S_merge_merger.mk s19 s20))
 ) else (
 some ((S_merge_side.mk (V.record x1.2.1 x1.2.2.1 s17) true), true, (S_merge_merger.mk s19 s20))
 )
 )
theorem zbm (r_q0m : OF ρ → S_merge_merger → (List S_api_Step) → S_merge_side → S_merge_side → S_merge_side → Option (S_merge_side × S_merge_merger)) (h_r_q0m : ∀ y0 y1 y2 y3 y4, CM (fun G => r_q0m G y0 y1 y2 y3 y4)) (g2 : OF ρ → (List (Str × V)) → Int → Unit → (List S_api_Conflict) → Option (S_merge_side × Bool × S_merge_merger)) (h_g2 : ∀ y0 y1 y2 y3, CM (fun G => g2 G y0 y1 y2 y3)) (a1 : (List S_api_Step)) (x1 x2 x3 : ((List (Str × V)) × Str × Int × Bool)) (x16 : (List Str)) (s17 : (List (Str × V))) (s18 : Int) (s19 : Unit) (s20 : (List S_api_Conflict)) : CM (fun G : OF ρ => z6b (r_q0m G) a1 x1 x2 x3 x16 (g2 G) s17 s18 s19 s20) := by
 simp only [z6b]
 repeat (first | exact z0i | exact h_r_q0m _ _ _ _ _ | exact h_g2 _ _ _ _ | apply zrx | refine z18 ?_ ?_ | refine z19 ?_ (fun _ => ?_) | intro _ | assumption)
noncomputable def zfg (r_q0m : S_merge_merger → (List S_api_Step) → S_merge_side → S_merge_side → S_merge_side → Option (S_merge_side × S_merge_merger)) (a1 : (List S_api_Step)) (x1 x2 x3 : ((List (Str × V)) × Str × Int × Bool)) (x16 : (List Str)) (s17 : (List (Str × V))) (s18 : Int) (s19 : Unit) (s20 : (List S_api_Conflict)) : Option (S_merge_side × Bool × S_merge_merger) :=
 z3q (ι := ((List (Str × V)) × Int × Unit × (List S_api_Conflict))) (ρ := fun _ => (S_merge_side × Bool × S_merge_merger)) (fun g i => z6b r_q0m a1 x1 x2 x3 x16 (fun s17 s18 s19 s20 => g (s17, s18, s19, s20)) i.1 i.2.1 i.2.2.1 i.2.2.2) (s17, s18, s19, s20)
theorem zih (r_q0m : S_merge_merger → (List S_api_Step) → S_merge_side → S_merge_side → S_merge_side → Option (S_merge_side × S_merge_merger)) (a1 : (List S_api_Step)) (x1 x2 x3 : ((List (Str × V)) × Str × Int × Bool)) (x16 : (List Str)) (s17 : (List (Str × V))) (s18 : Int) (s19 : Unit) (s20 : (List S_api_Conflict)) : zfg r_q0m a1 x1 x2 x3 x16 s17 s18 s19 s20 = z6b r_q0m a1 x1 x2 x3 x16 (zfg r_q0m a1 x1 x2 x3 x16) s17 s18 s19 s20 :=
 z1j (ι := ((List (Str × V)) × Int × Unit × (List S_api_Conflict))) (ρ := fun _ => (S_merge_side × Bool × S_merge_merger)) (Φ := fun g i => z6b r_q0m a1 x1 x2 x3 x16 (fun s17 s18 s19 s20 => g (s17, s18, s19, s20)) i.1 i.2.1 i.2.2.1 i.2.2.2) (fun i => zbm (ι := ((List (Str × V)) × Int × Unit × (List S_api_Conflict))) (ρ := fun _ => (S_merge_side × Bool × S_merge_merger)) (fun _ => r_q0m) (fun _ _ _ _ _ => z0i) (fun g => (fun s17 s18 s19 s20 => g (s17, s18, s19, s20))) (fun _ _ _ _ => z1l) a1 x1 x2 x3 x16 i.1 i.2.1 i.2.2.1 i.2.2.2) (s17, s18, s19, s20)
theorem zru (r_q0m : OF ρ → S_merge_merger → (List S_api_Step) → S_merge_side → S_merge_side → S_merge_side → Option (S_merge_side × S_merge_merger)) (h_r_q0m : ∀ y0 y1 y2 y3 y4, CM (fun G => r_q0m G y0 y1 y2 y3 y4)) (a1 : (List S_api_Step)) (x1 x2 x3 : ((List (Str × V)) × Str × Int × Bool)) (x16 : (List Str)) (s17 : (List (Str × V))) (s18 : Int) (s19 : Unit) (s20 : (List S_api_Conflict)) : CM (fun G : OF ρ => zfg (r_q0m G) a1 x1 x2 x3 x16 s17 s18 s19 s20) :=
 z5z (κ := ((List (Str × V)) × Int × Unit × (List S_api_Conflict))) (τ := fun _ => (S_merge_side × Bool × S_merge_merger)) (Φ := fun G g i => z6b (r_q0m G) a1 x1 x2 x3 x16 (fun s17 s18 s19 s20 => g (s17, s18, s19, s20)) i.1 i.2.1 i.2.2.1 i.2.2.2) (fun g i => zbm r_q0m h_r_q0m (fun _ => (fun s17 s18 s19 s20 => g (s17, s18, s19, s20))) (fun _ _ _ _ => z0i) a1 x1 x2 x3 x16 i.1 i.2.1 i.2.2.1 i.2.2.2) (fun G i => zbm (ι := ((List (Str × V)) × Int × Unit × (List S_api_Conflict))) (ρ := fun _ => (S_merge_side × Bool × S_merge_merger)) (fun _ => r_q0m G) (fun _ _ _ _ _ => z0i) (fun g => (fun s17 s18 s19 s20 => g (s17, s18, s19, s20))) (fun _ _ _ _ => z1l) a1 x1 x2 x3 x16 i.1 i.2.1 i.2.2.1 i.2.2.2) (s17, s18, s19, s20)
noncomputable def z4r (r_q0m : S_merge_merger → (List S_api_Step) → S_merge_side → S_merge_side → S_merge_side → Option (S_merge_side × S_merge_merger)) (a0 : S_merge_merger) (a1 : (List S_api_Step)) (x1 x2 x3 : ((List (Str × V)) × Str × Int × Bool)) (g1 : (List Str) → Int → Option (S_merge_side × Bool × S_merge_merger)) (s6 : (List Str)) (s7 : Int) : Option (S_merge_side × Bool × S_merge_merger) :=
 bif (decide (s7 < (((([x1.1, x2.1, x3.1] : (List (List (Str × V))))).length : Nat) : Int))) then (
 (z82 ([x1.1, x2.1, x3.1] : (List (List (Str × V)))) s7).bind fun x9 =>
 zfh g1 s7 x9 s6 0
 ) else (
 (zkm s6).bind fun x16 =>
 zfg r_q0m a1 x1 x2 x3 x16 ([] : (List (Str × V))) 0 a0.f_settle a0.f_conflicts
 )
theorem zbo (r_q0m : OF ρ → S_merge_merger → (List S_api_Step) → S_merge_side → S_merge_side → S_merge_side → Option (S_merge_side × S_merge_merger)) (h_r_q0m : ∀ y0 y1 y2 y3 y4, CM (fun G => r_q0m G y0 y1 y2 y3 y4)) (g1 : OF ρ → (List Str) → Int → Option (S_merge_side × Bool × S_merge_merger)) (h_g1 : ∀ y0 y1, CM (fun G => g1 G y0 y1)) (a0 : S_merge_merger) (a1 : (List S_api_Step)) (x1 x2 x3 : ((List (Str × V)) × Str × Int × Bool)) (s6 : (List Str)) (s7 : Int) : CM (fun G : OF ρ => z4r (r_q0m G) a0 a1 x1 x2 x3 (g1 G) s6 s7) := by
 simp only [z4r]
 repeat (first | exact z0i | exact h_r_q0m _ _ _ _ _ | exact h_g1 _ _ | apply zrv | apply zru | refine z18 ?_ ?_ | refine z19 ?_ (fun _ => ?_) | intro _ | assumption)
noncomputable def zij (r_q0m : S_merge_merger → (List S_api_Step) → S_merge_side → S_merge_side → S_merge_side → Option (S_merge_side × S_merge_merger)) (a0 : S_merge_merger) (a1 : (List S_api_Step)) (x1 x2 x3 : ((List (Str × V)) × Str × Int × Bool)) (s6 : (List Str)) (s7 : Int) : Option (S_merge_side × Bool × S_merge_merger) :=
 z3q (ι := ((List Str) × Int)) (ρ := fun _ => (S_merge_side × Bool × S_merge_merger)) (fun g i => z4r r_q0m a0 a1 x1 x2 x3 (fun s6 s7 => g (s6, s7)) i.1 i.2) (s6, s7)
theorem zag (r_q0m : S_merge_merger → (List S_api_Step) → S_merge_side → S_merge_side → S_merge_side → Option (S_merge_side × S_merge_merger)) (a0 : S_merge_merger) (a1 : (List S_api_Step)) (x1 x2 x3 : ((List (Str × V)) × Str × Int × Bool)) (s6 : (List Str)) (s7 : Int) : zij r_q0m a0 a1 x1 x2 x3 s6 s7 = z4r r_q0m a0 a1 x1 x2 x3 (zij r_q0m a0 a1 x1 x2 x3) s6 s7 :=
 z1j (ι := ((List Str) × Int)) (ρ := fun _ => (S_merge_side × Bool × S_merge_merger)) (Φ := fun g i => z4r r_q0m a0 a1 x1 x2 x3 (fun s6 s7 => g (s6, s7)) i.1 i.2) (fun i => zbo (ι := ((List Str) × Int)) (ρ := fun _ => (S_merge_side × Bool × S_merge_merger)) (fun _ => r_q0m) (fun _ _ _ _ _ => z0i) (fun g => (fun s6 s7 => g (s6, s7))) (fun _ _ => z1l) a0 a1 x1 x2 x3 i.1 i.2) (s6, s7)
theorem zrw (r_q0m : OF ρ → S_merge_merger → (List S_api_Step) → S_merge_side → S_merge_side → S_merge_side → Option (S_merge_side × S_merge_merger)) (h_r_q0m : ∀ y0 y1 y2 y3 y4, CM (fun G => r_q0m G y0 y1 y2 y3 y4)) (a0 : S_merge_merger) (a1 : (List S_api_Step)) (x1 x2 x3 : ((List (Str × V)) × Str × Int × Bool)) (s6 : (List Str)) (s7 : Int) : CM (fun G : OF ρ => zij (r_q0m G) a0 a1 x1 x2 x3 s6 s7) :=
 z5z (κ := ((List Str) × Int)) (τ := fun _ => (S_merge_side × Bool × S_merge_merger)) (Φ := fun G g i => z4r (r_q0m G) a0 a1 x1 x2 x3 (fun s6 s7 => g (s6, s7)) i.1 i.2) (fun g i => zbo r_q0m h_r_q0m (fun _ => (fun s6 s7 => g (s6, s7))) (fun _ _ => z0i) a0 a1 x1 x2 x3 i.1 i.2) (fun G i => zbo (ι := ((List Str) × Int)) (ρ := fun _ => (S_merge_side × Bool × S_merge_merger)) (fun _ => r_q0m G) (fun _ _ _ _ _ => z0i) (fun g => (fun s6 s7 => g (s6, s7))) (fun _ _ => z1l) a0 a1 x1 x2 x3 i.1 i.2) (s6, s7)
noncomputable def z6r (r_q0m : S_merge_merger → (List S_api_Step) → S_merge_side → S_merge_side → S_merge_side → Option (S_merge_side × S_merge_merger)) (a0 : S_merge_merger) (a1 : (List S_api_Step)) (x1 x2 x3 : ((List (Str × V)) × Str × Int × Bool)) (s4 : Bool) : Option (S_merge_side × Bool × S_merge_merger) :=
 bif s4 then (
 some ((S_merge_side.mk V.nil false), false, a0)
 ) else (
 zij r_q0m a0 a1 x1 x2 x3 ([] : (List Str)) 0
 )
theorem zry (r_q0m : OF ρ → S_merge_merger → (List S_api_Step) → S_merge_side → S_merge_side → S_merge_side → Option (S_merge_side × S_merge_merger)) (h_r_q0m : ∀ y0 y1 y2 y3 y4, CM (fun G => r_q0m G y0 y1 y2 y3 y4)) (a0 : S_merge_merger) (a1 : (List S_api_Step)) (x1 x2 x3 : ((List (Str × V)) × Str × Int × Bool)) (s4 : Bool) : CM (fun G : OF ρ => z6r (r_q0m G) a0 a1 x1 x2 x3 s4) := by
 simp only [z6r]
 repeat (first | exact z0i | exact h_r_q0m _ _ _ _ _ | apply zrw | refine z18 ?_ ?_ | refine z19 ?_ (fun _ => ?_) | intro _ | assumption)
noncomputable def zk9 (r_q0h r_q0g : S_merge_merger → (List S_api_Step) → V → V → V → Option (S_merge_side × Bool × S_merge_merger)) (r_q0m : S_merge_merger → (List S_api_Step) → S_merge_side → S_merge_side → S_merge_side → Option (S_merge_side × S_merge_merger)) (a0 : S_merge_merger) (a1 : (List S_api_Step)) (a2 a3 a4 : V) : Option (S_merge_side × Bool × S_merge_merger) :=
 (zp8 a2).bind fun x1 =>
 (zp8 a3).bind fun x2 =>
 (zp8 a4).bind fun x3 =>
 bif (!x1.2.2.2) then (
 z6r r_q0m a0 a1 x1 x2 x3 true
 ) else (
 bif (!x2.2.2.2) then (
 z6r r_q0m a0 a1 x1 x2 x3 true
 ) else (
 bif (!x3.2.2.2) then (
 z6r r_q0m a0 a1 x1 x2 x3 true
 ) else (
 bif (!(x1.2.1 == x2.2.1)) then (
 z6r r_q0m a0 a1 x1 x2 x3 true
 ) else (
 bif (!(x1.2.1 == x3.2.1)) then (
 z6r r_q0m a0 a1 x1 x2 x3 true
 ) else (
 bif (x1.2.2.1 != x2.2.2.1) then (
 z6r r_q0m a0 a1 x1 x2 x3 true
 ) else (
 z6r r_q0m a0 a1 x1 x2 x3 (x1.2.2.1 != x3.2.2.1)
 )
 )
 )
 )
 )
 )
theorem zyh (r_q0h : OF ρ → S_merge_merger → (List S_api_Step) → V → V → V → Option (S_merge_side × Bool × S_merge_merger)) (h_r_q0h : ∀ y0 y1 y2 y3 y4, CM (fun G => r_q0h G y0 y1 y2 y3 y4)) (r_q0g : OF ρ → S_merge_merger → (List S_api_Step) → V → V → V → Option (S_merge_side × Bool × S_merge_merger)) (h_r_q0g : ∀ y0 y1 y2 y3 y4, CM (fun G => r_q0g G y0 y1 y2 y3 y4)) (r_q0m : OF ρ → S_merge_merger → (List S_api_Step) → S_merge_side → S_merge_side → S_merge_side → Option (S_merge_side × S_merge_merger)) (h_r_q0m : ∀ y0 y1 y2 y3 y4, CM (fun G => r_q0m G y0 y1 y2 y3 y4)) (a0 : S_merge_merger) (a1 : (List S_api_Step)) (a2 a3 a4 : V) : CM (fun G : OF ρ => zk9 (r_q0h G) (r_q0g G) (r_q0m G) a0 a1 a2 a3 a4) := by
 simp only [zk9]
 repeat (first | exact z0i | exact h_r_q0h _ _ _ _ _ | exact h_r_q0g _ _ _ _ _ | exact h_r_q0m _ _ _ _ _ | apply zry | refine z18 ?_ ?_ | refine z19 ?_ (fun _ => ?_) | intro _ | assumption)
noncomputable def zdw (a1 : (List S_api_Step)) (a2 a3 a4 : S_merge_side) (s5 : Unit) (s6 : (List S_api_Conflict)) : Option (S_merge_side × S_merge_merger) :=
 (zw9 (S_merge_merger.mk s5 s6) a1 a2 a3 a4).bind fun x7 =>
 some ((x7.1), (x7.2))
noncomputable def z4w (r_q0h r_q0g : S_merge_merger → (List S_api_Step) → V → V → V → Option (S_merge_side × Bool × S_merge_merger)) (a0 : S_merge_merger) (a1 : (List S_api_Step)) (a2 a3 a4 : S_merge_side) (s8 : Bool) : Option (S_merge_side × S_merge_merger) :=
 bif s8 then (
 (r_q0g a0 a1 a2.f_v a3.f_v a4.f_v).bind fun x10 =>
 bif x10.2.1 then (
 some ((x10.1), (x10.2.2))
 ) else (
 (r_q0h (x10.2.2) a1 a2.f_v a3.f_v a4.f_v).bind fun x12 =>
 bif x12.2.1 then (
 some ((x12.1), (x12.2.2))
 ) else (
 zdw a1 a2 a3 a4 ((x12.2.2).f_settle) ((x12.2.2).f_conflicts)
 )
 )
 ) else (
 zdw a1 a2 a3 a4 a0.f_settle a0.f_conflicts
 )
theorem zrp (r_q0h : OF ρ → S_merge_merger → (List S_api_Step) → V → V → V → Option (S_merge_side × Bool × S_merge_merger)) (h_r_q0h : ∀ y0 y1 y2 y3 y4, CM (fun G => r_q0h G y0 y1 y2 y3 y4)) (r_q0g : OF ρ → S_merge_merger → (List S_api_Step) → V → V → V → Option (S_merge_side × Bool × S_merge_merger)) (h_r_q0g : ∀ y0 y1 y2 y3 y4, CM (fun G => r_q0g G y0 y1 y2 y3 y4)) (a0 : S_merge_merger) (a1 : (List S_api_Step)) (a2 a3 a4 : S_merge_side) (s8 : Bool) : CM (fun G : OF ρ => z4w (r_q0h G) (r_q0g G) a0 a1 a2 a3 a4 s8) := by
 simp only [z4w]
 repeat (first | exact z0i | exact h_r_q0h _ _ _ _ _ | exact h_r_q0g _ _ _ _ _ | apply q0m_j2_cm | refine z18 ?_ ?_ | refine z19 ?_ (fun _ => ?_) | intro _ | assumption)
noncomputable def z9p (r_q0h r_q0g : S_merge_merger → (List S_api_Step) → V → V → V → Option (S_merge_side × Bool × S_merge_merger)) (a0 : S_merge_merger) (a1 : (List S_api_Step)) (a2 a3 a4 : S_merge_side) (s1 : Bool) : Option (S_merge_side × S_merge_merger) :=
 bif s1 then (
 some (a3, a0)
 ) else (
 (zkv a3 a2).bind fun x3 =>
 bif x3 then (
 some (a4, a0)
 ) else (
 bif a2.f_has then (
 bif a3.f_has then (
 z4w r_q0h r_q0g a0 a1 a2 a3 a4 a4.f_has
 ) else (
 z4w r_q0h r_q0g a0 a1 a2 a3 a4 false
 )
 ) else (
 z4w r_q0h r_q0g a0 a1 a2 a3 a4 false
 )
 )
 )
theorem zrq (r_q0h : OF ρ → S_merge_merger → (List S_api_Step) → V → V → V → Option (S_merge_side × Bool × S_merge_merger)) (h_r_q0h : ∀ y0 y1 y2 y3 y4, CM (fun G => r_q0h G y0 y1 y2 y3 y4)) (r_q0g : OF ρ → S_merge_merger → (List S_api_Step) → V → V → V → Option (S_merge_side × Bool × S_merge_merger)) (h_r_q0g : ∀ y0 y1 y2 y3 y4, CM (fun G => r_q0g G y0 y1 y2 y3 y4)) (a0 : S_merge_merger) (a1 : (List S_api_Step)) (a2 a3 a4 : S_merge_side) (s1 : Bool) : CM (fun G : OF ρ => z9p (r_q0h G) (r_q0g G) a0 a1 a2 a3 a4 s1) := by
 simp only [z9p]
 repeat (first | exact z0i | exact h_r_q0h _ _ _ _ _ | exact h_r_q0g _ _ _ _ _ | apply zrp | refine z18 ?_ ?_ | refine z19 ?_ (fun _ => ?_) | intro _ | assumption)
noncomputable def zez (r_q0h r_q0g : S_merge_merger → (List S_api_Step) → V → V → V → Option (S_merge_side × Bool × S_merge_merger)) (r_q0m : S_merge_merger → (List S_api_Step) → S_merge_side → S_merge_side → S_merge_side → Option (S_merge_side × S_merge_merger)) (a0 : S_merge_merger) (a1 : (List S_api_Step)) (a2 a3 a4 : S_merge_side) : Option (S_merge_side × S_merge_merger) :=
 (zkv a3 a4).bind fun x16 =>
 bif x16 then (
 z9p r_q0h r_q0g a0 a1 a2 a3 a4 true
 ) else (
 (zkv a4 a2).bind fun x18 =>
 z9p r_q0h r_q0g a0 a1 a2 a3 a4 x18
 )
theorem zyf (r_q0h : OF ρ → S_merge_merger → (List S_api_Step) → V → V → V → Option (S_merge_side × Bool × S_merge_merger)) (h_r_q0h : ∀ y0 y1 y2 y3 y4, CM (fun G => r_q0h G y0 y1 y2 y3 y4)) (r_q0g : OF ρ → S_merge_merger → (List S_api_Step) → V → V → V → Option (S_merge_side × Bool × S_merge_merger)) (h_r_q0g : ∀ y0 y1 y2 y3 y4, CM (fun G => r_q0g G y0 y1 y2 y3 y4)) (r_q0m : OF ρ → S_merge_merger → (List S_api_Step) → S_merge_side → S_merge_side → S_merge_side → Option (S_merge_side × S_merge_merger)) (h_r_q0m : ∀ y0 y1 y2 y3 y4, CM (fun G => r_q0m G y0 y1 y2 y3 y4)) (a0 : S_merge_merger) (a1 : (List S_api_Step)) (a2 a3 a4 : S_merge_side) : CM (fun G : OF ρ => zez (r_q0h G) (r_q0g G) (r_q0m G) a0 a1 a2 a3 a4) := by
 simp only [zez]
 repeat (first | exact z0i | exact h_r_q0h _ _ _ _ _ | exact h_r_q0g _ _ _ _ _ | exact h_r_q0m _ _ _ _ _ | apply zrq | refine z18 ?_ ?_ | refine z19 ?_ (fun _ => ?_) | intro _ | assumption)
inductive C_q0h where
 | k_q0h (a0 : S_merge_merger) (a1 : (List S_api_Step)) (a2 : V) (a3 : V) (a4 : V)
 | k_q0g (a0 : S_merge_merger) (a1 : (List S_api_Step)) (a2 : V) (a3 : V) (a4 : V)
 | k_q0m (a0 : S_merge_merger) (a1 : (List S_api_Step)) (a2 : S_merge_side) (a3 : S_merge_side) (a4 : S_merge_side)
def C_q0h.R : C_q0h → Type
 | .k_q0h _ _ _ _ _ => (S_merge_side × Bool × S_merge_merger)
 | .k_q0g _ _ _ _ _ => (S_merge_side × Bool × S_merge_merger)
 | .k_q0m _ _ _ _ _ => (S_merge_side × S_merge_merger)
noncomputable def C_q0h.F (g : ∀ i : C_q0h, Option i.R) : ∀ i : C_q0h, Option i.R
 | .k_q0h a0 a1 a2 a3 a4 => zk8 (fun a0 a1 a2 a3 a4 => g (.k_q0h a0 a1 a2 a3 a4)) (fun a0 a1 a2 a3 a4 => g (.k_q0g a0 a1 a2 a3 a4)) (fun a0 a1 a2 a3 a4 => g (.k_q0m a0 a1 a2 a3 a4)) a0 a1 a2 a3 a4
 | .k_q0g a0 a1 a2 a3 a4 => zk9 (fun a0 a1 a2 a3 a4 => g (.k_q0h a0 a1 a2 a3 a4)) (fun a0 a1 a2 a3 a4 => g (.k_q0g a0 a1 a2 a3 a4)) (fun a0 a1 a2 a3 a4 => g (.k_q0m a0 a1 a2 a3 a4)) a0 a1 a2 a3 a4
 | .k_q0m a0 a1 a2 a3 a4 => zez (fun a0 a1 a2 a3 a4 => g (.k_q0h a0 a1 a2 a3 a4)) (fun a0 a1 a2 a3 a4 => g (.k_q0g a0 a1 a2 a3 a4)) (fun a0 a1 a2 a3 a4 => g (.k_q0m a0 a1 a2 a3 a4)) a0 a1 a2 a3 a4
noncomputable def zbt (a0 : S_merge_merger) (a1 : (List S_api_Step)) (a2 a3 a4 : V) : Option (S_merge_side × Bool × S_merge_merger) := z3q C_q0h.F (.k_q0h a0 a1 a2 a3 a4)
noncomputable def z9j (a0 : S_merge_merger) (a1 : (List S_api_Step)) (a2 a3 a4 : V) : Option (S_merge_side × Bool × S_merge_merger) := z3q C_q0h.F (.k_q0g a0 a1 a2 a3 a4)
noncomputable def z5b (a0 : S_merge_merger) (a1 : (List S_api_Step)) (a2 a3 a4 : S_merge_side) : Option (S_merge_side × S_merge_merger) := z3q C_q0h.F (.k_q0m a0 a1 a2 a3 a4)
abbrev gg9 := fun (g : ∀ i : C_q0h, Option i.R) a0 a1 a2 a3 a4 => g (.k_q0h a0 a1 a2 a3 a4)
theorem hh9 (a0 a1 a2 a3 a4 : _) : CM (ρ := C_q0h.R) (fun g => g (C_q0h.k_q0h a0 a1 a2 a3 a4)) := z1l
abbrev Z83 := fun (g : ∀ i : C_q0h, Option i.R) a0 a1 a2 a3 a4 => g (.k_q0g a0 a1 a2 a3 a4)
theorem Z81 (a0 a1 a2 a3 a4 : _) : CM (ρ := C_q0h.R) (fun g => g (C_q0h.k_q0g a0 a1 a2 a3 a4)) := z1l
abbrev Z82 := fun (g : ∀ i : C_q0h, Option i.R) a0 a1 a2 a3 a4 => g (.k_q0m a0 a1 a2 a3 a4)
theorem Z80 (a0 a1 a2 a3 a4 : _) : CM (ρ := C_q0h.R) (fun g => g (C_q0h.k_q0m a0 a1 a2 a3 a4)) := z1l
theorem C_q0h.cm (i : C_q0h) : CM (fun g : (∀ i : C_q0h, Option i.R) => C_q0h.F g i) := by
 cases i with
 | k_q0h a0 a1 a2 a3 a4 => exact zyg gg9 hh9 Z83 Z81 Z82 Z80 a0 a1 a2 a3 a4
 | k_q0g a0 a1 a2 a3 a4 => exact zyh gg9 hh9 Z83 Z81 Z82 Z80 a0 a1 a2 a3 a4
 | k_q0m a0 a1 a2 a3 a4 => exact zyf gg9 hh9 Z83 Z81 Z82 Z80 a0 a1 a2 a3 a4
theorem Z63 (a0 : S_merge_merger) (a1 : (List S_api_Step)) (a2 a3 a4 : V) : zbt a0 a1 a2 a3 a4 = zk8 zbt z9j z5b a0 a1 a2 a3 a4 := z1j C_q0h.cm (.k_q0h a0 a1 a2 a3 a4)
theorem Z64 (a0 : S_merge_merger) (a1 : (List S_api_Step)) (a2 a3 a4 : V) : z9j a0 a1 a2 a3 a4 = zk9 zbt z9j z5b a0 a1 a2 a3 a4 := z1j C_q0h.cm (.k_q0g a0 a1 a2 a3 a4)
theorem zxo (a0 : S_merge_merger) (a1 : (List S_api_Step)) (a2 a3 a4 : S_merge_side) : z5b a0 a1 a2 a3 a4 = zez zbt z9j z5b a0 a1 a2 a3 a4 := z1j C_q0h.cm (.k_q0m a0 a1 a2 a3 a4)
def C_q0h.Q : ∀ i : C_q0h, i.R → Prop
 | .k_q0h a0 a1 a2 a3 a4 => fun (r : (S_merge_side × Bool × S_merge_merger)) => z2t Tryz.prog 88 [(PV.rf 0 0), (PV.sl none 82 3 (List.map z01 a1)), (ofV a2), (ofV a3), (ofV a4)] [.box 121 [(PV.v .nilFunc), (PV.sl (some 1) 88 7 (List.map z03 a0.f_conflicts))], .arr 88 (a0.f_conflicts).length] (PV.tup [(z09 r.1), (BO r.2.1)]) [.box 121 [(PV.v .nilFunc), (PV.sl (some 1) 88 7 (List.map z03 (r.2.2).f_conflicts))], .arr 88 ((r.2.2).f_conflicts).length]
 | .k_q0g a0 a1 a2 a3 a4 => fun (r : (S_merge_side × Bool × S_merge_merger)) => z2t Tryz.prog 87 [(PV.rf 0 0), (PV.sl none 82 3 (List.map z01 a1)), (ofV a2), (ofV a3), (ofV a4)] [.box 121 [(PV.v .nilFunc), (PV.sl (some 1) 88 7 (List.map z03 a0.f_conflicts))], .arr 88 (a0.f_conflicts).length] (PV.tup [(z09 r.1), (BO r.2.1)]) [.box 121 [(PV.v .nilFunc), (PV.sl (some 1) 88 7 (List.map z03 (r.2.2).f_conflicts))], .arr 88 ((r.2.2).f_conflicts).length]
 | .k_q0m a0 a1 a2 a3 a4 => fun (r : (S_merge_side × S_merge_merger)) => z2t Tryz.prog 49 [(PV.rf 0 0), (PV.sl none 82 3 (List.map z01 a1)), (z09 a2), (z09 a3), (z09 a4)] [.box 121 [(PV.v .nilFunc), (PV.sl (some 1) 88 7 (List.map z03 a0.f_conflicts))], .arr 88 (a0.f_conflicts).length] (z09 r.1) [.box 121 [(PV.v .nilFunc), (PV.sl (some 1) 88 7 (List.map z03 (r.2).f_conflicts))], .arr 88 ((r.2).f_conflicts).length]
theorem z9s (r_q0h : S_merge_merger → (List S_api_Step) → V → V → V → Option (S_merge_side × Bool × S_merge_merger)) (c_q0h : ∀ (a0 : S_merge_merger) (a1 : (List S_api_Step)) (a2 : V) (a3 : V) (a4 : V) r, r_q0h a0 a1 a2 a3 a4 = some r → z2t Tryz.prog 88 [(PV.rf 0 0), (PV.sl none 82 3 (List.map z01 a1)), (ofV a2), (ofV a3), (ofV a4)] [.box 121 [(PV.v .nilFunc), (PV.sl (some 1) 88 7 (List.map z03 a0.f_conflicts))], .arr 88 (a0.f_conflicts).length] (PV.tup [(z09 r.1), (BO r.2.1)]) [.box 121 [(PV.v .nilFunc), (PV.sl (some 1) 88 7 (List.map z03 (r.2.2).f_conflicts))], .arr 88 ((r.2.2).f_conflicts).length]) (r_q0g : S_merge_merger → (List S_api_Step) → V → V → V → Option (S_merge_side × Bool × S_merge_merger)) (c_q0g : ∀ (a0 : S_merge_merger) (a1 : (List S_api_Step)) (a2 : V) (a3 : V) (a4 : V) r, r_q0g a0 a1 a2 a3 a4 = some r → z2t Tryz.prog 87 [(PV.rf 0 0), (PV.sl none 82 3 (List.map z01 a1)), (ofV a2), (ofV a3), (ofV a4)] [.box 121 [(PV.v .nilFunc), (PV.sl (some 1) 88 7 (List.map z03 a0.f_conflicts))], .arr 88 (a0.f_conflicts).length] (PV.tup [(z09 r.1), (BO r.2.1)]) [.box 121 [(PV.v .nilFunc), (PV.sl (some 1) 88 7 (List.map z03 (r.2.2).f_conflicts))], .arr 88 ((r.2.2).f_conflicts).length]) (r_q0m : S_merge_merger → (List S_api_Step) → S_merge_side → S_merge_side → S_merge_side → Option (S_merge_side × S_merge_merger)) (c_q0m : ∀ (a0 : S_merge_merger) (a1 : (List S_api_Step)) (a2 : S_merge_side) (a3 : S_merge_side) (a4 : S_merge_side) r, r_q0m a0 a1 a2 a3 a4 = some r → z2t Tryz.prog 49 [(PV.rf 0 0), (PV.sl none 82 3 (List.map z01 a1)), (z09 a2), (z09 a3), (z09 a4)] [.box 121 [(PV.v .nilFunc), (PV.sl (some 1) 88 7 (List.map z03 a0.f_conflicts))], .arr 88 (a0.f_conflicts).length] (z09 r.1) [.box 121 [(PV.v .nilFunc), (PV.sl (some 1) 88 7 (List.map z03 (r.2).f_conflicts))], .arr 88 ((r.2).f_conflicts).length]) (a0 : S_merge_merger) (a1 : (List S_api_Step)) (a2 a3 a4 : V) (r : (S_merge_side × Bool × S_merge_merger)) (h : zk8 r_q0h r_q0g r_q0m a0 a1 a2 a3 a4 = some r) : z2t Tryz.prog 88 [(PV.rf 0 0), (PV.sl none 82 3 (List.map z01 a1)), (ofV a2), (ofV a3), (ofV a4)] [.box 121 [(PV.v .nilFunc), (PV.sl (some 1) 88 7 (List.map z03 a0.f_conflicts))], .arr 88 (a0.f_conflicts).length] (PV.tup [(z09 r.1), (BO r.2.1)]) [.box 121 [(PV.v .nilFunc), (PV.sl (some 1) 88 7 (List.map z03 (r.2.2).f_conflicts))], .arr 88 ((r.2.2).f_conflicts).length] := by
 unfold zk8 at h
 refine z0j Tryz.func88 rfl Tryz.ntmps88 Tryz.results88 rfl (z0n ?_)
 change BW _ _ _ ⟨[(0, (PV.rf 0 0)), (1, (PV.sl none 82 3 (List.map z01 a1))), (2, (ofV a2)), (3, (ofV a3)), (4, (ofV a4))], [.box 121 [(PV.v .nilFunc), (PV.sl (some 1) 88 7 (List.map z03 a0.f_conflicts))], .arr 88 (a0.f_conflicts).length], _⟩ _
 refine bR ?_
 refine sS rfl rfl rfl ((z1h z1m rfl).cast (H'' := [.box 121 [(PV.v .nilFunc), (PV.sl (some 1) 88 7 (List.map z03 a0.f_conflicts))], .arr 88 (a0.f_conflicts).length, .box 125 [(ofV V.nil), (BO false)]]) rfl (by simp only [mk_nil]; rfl)) ?_
 refine eX ?_
 refine bR ?_
 refine sX ?_
 refine sS rfl rfl rfl (z1x rfl rfl) ?_
 iterate 4 refine sX ?_
 refine eX ?_
 refine bR ?_
 refine sX ?_
 refine sS rfl rfl rfl (z1x rfl rfl) ?_
 iterate 4 refine sX ?_
 refine eX ?_
 refine bR ?_
 refine sX ?_
 refine sS rfl rfl rfl (z1x rfl rfl) ?_
 iterate 4 refine sX ?_
 refine eX ?_
 refine z0f ?_
 refine z2e (ι := Bool) (fun i => z80 r_q0m a0 a1 a2 a3 a4 i = some r) (fun i => [(0, (PV.rf 0 0)), (1, (PV.sl none 82 3 (List.map z01 a1))), (10, (PV.rf 2 0)), (12, (PV.sl none 20 1 (List.map ofV (a2).asList))), (14, (PV.sl none 20 1 (List.map ofV (a3).asList))), (16, (PV.sl none 20 1 (List.map ofV (a4).asList))), (59, (BO i))]) (fun i => [.box 121 [(PV.v .nilFunc), (PV.sl (some 1) 88 7 (List.map z03 a0.f_conflicts))], .arr 88 (a0.f_conflicts).length, .box 125 [(ofV V.nil), (BO false)]]) ?_ ?_ ?_
 intro i; exact ⟨lbE rfl, ⟨(il_rf rfl), ⟨(z07 (z05 z02 _)), ⟨(il_rf rfl), ⟨(z07 (z05 ids_V _)), ⟨(z07 (z05 ids_V _)), ⟨(z07 (z05 ids_V _)), ⟨(z07 rfl), trivial⟩⟩⟩⟩⟩⟩⟩, ⟨⟨(z07 rfl), ⟨(z2x rfl (z0s z0a _)), trivial⟩⟩, ⟨⟨(z07 (ids_V _)), ⟨(z07 rfl), trivial⟩⟩, trivial⟩⟩⟩
 rintro s1 h; replace h : z80 r_q0m a0 a1 a2 a3 a4 s1 = some r := h; unfold z80 at h
 change BW _ _ _ ⟨[(0, (PV.rf 0 0)), (1, (PV.sl none 82 3 (List.map z01 a1))), (10, (PV.rf 2 0)), (12, (PV.sl none 20 1 (List.map ofV (a2).asList))), (14, (PV.sl none 20 1 (List.map ofV (a3).asList))), (16, (PV.sl none 20 1 (List.map ofV (a4).asList))), (59, (BO s1))], [.box 121 [(PV.v .nilFunc), (PV.sl (some 1) 88 7 (List.map z03 a0.f_conflicts))], .arr 88 (a0.f_conflicts).length, .box 125 [(ofV V.nil), (BO false)]], _⟩ _
 refine cX h rfl ?_ ?_
 intro hc2 h
 refine bR ?_
 refine sS rfl rfl rfl (z12 (cs := [(PV.v .nilIface), (BO false)]) z5r z1m rfl rfl rfl rfl) ?_
 refine z14 rfl rfl (z0y z1m rfl rfl rfl rfl rfl rfl (lbE rfl) (by show List.all [(PV.v .nilIface), (BO false)] z45 = true; simp only [List.all_cons, List.all_nil, z3w, z1q, Bool.and_true, Bool.true_and]; try rfl)) ?_
 refine eX ?_
 obtain rfl := eI h; exact z06 ⟨_, rfl, endR (y := (PV.tup [(z09 (S_merge_side.mk V.nil false)), (BO false)])) 2 (Wk.tup (.cons (Wk.agg (.cons (Wk.eq mk_nil.symm) (wkr .nil))) (wkr .nil))) rfl rfl (.tup (.cons (.same (z0d (S_merge_side.mk V.nil false))) (.cons (.same rfl) .nil))) (.cons (.box (.cons (.same rfl) (.cons (.row rfl (z0s z0a a0.f_conflicts)) .nil))) (.cons .arr .nil)) ⟨rfl, rfl⟩⟩
 intro hc2 h
 refine z0g ?_
 refine cBx ?_
 refine bR ?_
 refine sS rfl rfl rfl ((z1a (xs := []) Tryz.underlying66 z1v rfl rfl rfl rfl rfl rfl ⟨lbE rfl, lbE rfl⟩ rfl).cast (y := (PV.sl (some 3) 20 1 (List.map ofV ([] : (List V))))) rfl rfl) ?_
 refine eX ?_
 refine z0f ?_
 refine bR ?_
 iterate 2 refine sX ?_
 refine eX ?_
 refine z0o ?_
 refine cBx ?_
 unfold zff at h
 refine z3p (σ := ((List V) × Nat × Unit × (List S_api_Conflict))) (fun i => [(0, (PV.rf 0 0)), (1, (PV.sl none 82 3 (List.map z01 a1))), (10, (PV.rf 2 0)), (12, (PV.sl none 20 1 (List.map ofV (a2).asList))), (14, (PV.sl none 20 1 (List.map ofV (a3).asList))), (16, (PV.sl none 20 1 (List.map ofV (a4).asList))), (18, (PV.sl (some 3) 20 1 (List.map ofV i.1))), (63, (I64 (((((a2).asList).length : Nat) : Int)))), (64, (I64 (((i.2.1 : Nat) : Int))))]) (fun i => [.box 121 [(PV.v .nilFunc), (PV.sl (some 1) 88 7 (List.map z03 i.2.2.2))], .arr 88 (i.2.2.2).length, .box 125 [(ofV V.nil), (BO false)], .arr 20 (i.1).length]) (([] : (List V)), 0, a0.f_settle, a0.f_conflicts) h ?_ ?_ ?_
 intro i; exact ⟨lbE rfl, ⟨(il_rf rfl), ⟨(z07 (z05 z02 _)), ⟨(il_rf rfl), ⟨(z07 (z05 ids_V _)), ⟨(z07 (z05 ids_V _)), ⟨(z07 (z05 ids_V _)), ⟨(z2x rfl (z0s ids_V _)), ⟨(z07 rfl), ⟨(z07 rfl), trivial⟩⟩⟩⟩⟩⟩⟩⟩⟩, ⟨⟨(z07 rfl), ⟨(z2x rfl (z0s z0a _)), trivial⟩⟩, ⟨⟨(z07 (ids_V _)), ⟨(z07 rfl), trivial⟩⟩, trivial⟩⟩⟩
 exact jN
 rintro g1_f ⟨s3, s4, s5, s6⟩ h; replace h : z6a r_q0m a1 a2 a3 a4 (fun y0 y1 y2 y3 => g1_f (y0, y1, y2, y3)) s3 s4 s5 s6 = some r := h; unfold z6a at h
 change BW _ _ _ ⟨[(0, (PV.rf 0 0)), (1, (PV.sl none 82 3 (List.map z01 a1))), (10, (PV.rf 2 0)), (12, (PV.sl none 20 1 (List.map ofV (a2).asList))), (14, (PV.sl none 20 1 (List.map ofV (a3).asList))), (16, (PV.sl none 20 1 (List.map ofV (a4).asList))), (18, (PV.sl (some 3) 20 1 (List.map ofV s3))), (63, (I64 (((((a2).asList).length : Nat) : Int)))), (64, (I64 (((s4 : Nat) : Int))))], [.box 121 [(PV.v .nilFunc), (PV.sl (some 1) 88 7 (List.map z03 s6))], .arr 88 (s6).length, .box 125 [(ofV V.nil), (BO false)], .arr 20 (s3).length], _⟩ _
 refine bR ?_
 refine eX ?_
 refine z0f ?_
 refine z4a (t := 12) rfl fun hb8 => ?_
 try rw [List.length_map] at hb8
 refine cX h rfl ?_ ?_
 intro hc7 h
 have hc7_ := of_decide_eq_true hc7
 refine z0g ?_
 refine cBx ?_
 refine z0f ?_
 refine z0o ?_
 refine cBx ?_
 refine bR ?_
 refine sX ?_
 refine eX ?_
 refine z0f ?_
 refine zy2 125 ?_
 refine zy5 23 4 (.box 125 [(PV.v .nilIface), (BO false)]) [2, 6, 22, 24] [] mo (by kernel_rfl) rfl ?_
 refine z76 rfl rfl rfl rfl rfl (fun H hp => z3b rfl rfl) ?_
 refine z76 rfl rfl rfl rfl rfl (fun H hp => z3b rfl rfl) ?_
 obtain ⟨x9, hx9, h⟩ := obind h
 refine zm9 (H1 := [.box 121 [(PV.v .nilFunc), (PV.sl (some 1) 88 7 (List.map z03 s6))], .arr 88 (s6).length, .box 125 [(ofV V.nil), (BO false)], .arr 20 (s3).length, .arr 125 0]) rfl rfl rfl rfl (z4m rfl zxj rfl (wkr .nil) ⟨(z05 z02 a1), trivial⟩ (zvk a1 x9 hx9) (z6o (z0s z02 _) rfl) rfl) trivial rfl (z4m rfl zxj rfl (wkr .nil) ⟨(z05 z02 a1), trivial⟩ (zvk a1 x9 hx9) (z6o (z0s z02 _) rfl) rfl) rfl rfl ?_
 refine z76 rfl rfl rfl rfl rfl (fun H hp => z3b rfl rfl) ?_
 refine z76 rfl rfl rfl rfl rfl (fun H hp => z12 (cs := [(ofStr []), (BO true), (I64 (((s4 : Nat) : Int)))]) zgh z1u rfl rfl rfl rfl) ?_
 refine z76 rfl rfl rfl rfl rfl (fun H hp => (zeb (xs := [(PV.agg [(ofStr []), (BO true), (I64 (((s4 : Nat) : Int)))])]) Tryz.underlying47 z1u rfl rfl rfl rfl rfl rfl ⟨lbE rfl, lbE rfl⟩ rfl).cast (y := (PV.sl none 82 3 (List.map z01 ([(S_api_Step.mk [] true ((s4 : Nat) : Int))] : (List S_api_Step))))) rfl rfl) ?_
 obtain ⟨x10, hx10, h⟩ := obind h
 refine zm9 (H1 := [.box 121 [(PV.v .nilFunc), (PV.sl (some 1) 88 7 (List.map z03 s6))], .arr 88 (s6).length, .box 125 [(ofV V.nil), (BO false)], .arr 20 (s3).length, .arr 125 0, .arr 82 (x9).length]) rfl rfl rfl rfl (z34 Tryz.underlying47 z1u rfl Tryz.underlying47 rfl rfl rfl rfl z3r z37 hx10 rfl) trivial rfl (z34 Tryz.underlying47 z1u rfl Tryz.underlying47 rfl rfl rfl rfl z3r z37 hx10 rfl) rfl rfl ?_
 refine z76 rfl rfl rfl rfl rfl (fun H hp => z3b rfl rfl) ?_
 refine z76 rfl rfl rfl rfl rfl (fun H hp => z3b rfl rfl) ?_
 obtain ⟨x11, hx11, h⟩ := obind h
 refine z76 rfl rfl rfl rfl rfl (fun H hp => z1p (i := s4) Tryz.underlying66 z1v rfl rfl rfl hx11 rfl) ?_
 refine z76 rfl rfl rfl rfl rfl (fun H hp => z4e (y := (ofV x11)) Tryz.underlying20 rfl rfl rfl (by rw [z0u]; rfl)) ?_
 refine z76 rfl rfl rfl rfl rfl (fun H hp => z12 (cs := [(ofV x11), (BO true)]) z5r z1m rfl rfl (by simp only [List.all_cons, List.all_nil, z2l, z16, Bool.and_true, Bool.true_and]; try rfl) (by simp only [z2c, List.getElem?_cons_zero, List.getElem?_cons_succ, z0u, z0k]; rfl)) ?_
 refine z76 rfl rfl rfl rfl rfl (fun H hp => z3b rfl rfl) ?_
 refine z76 rfl rfl rfl rfl rfl (fun H hp => z3b rfl rfl) ?_
 obtain ⟨x12, hx12, h⟩ := obind h
 refine z76 rfl rfl rfl rfl rfl (fun H hp => z1p (i := s4) Tryz.underlying66 z1v rfl rfl rfl hx12 rfl) ?_
 refine z76 rfl rfl rfl rfl rfl (fun H hp => z4e (y := (ofV x12)) Tryz.underlying20 rfl rfl rfl (by rw [z0u]; rfl)) ?_
 refine z76 rfl rfl rfl rfl rfl (fun H hp => z12 (cs := [(ofV x12), (BO true)]) z5r z1m rfl rfl (by simp only [List.all_cons, List.all_nil, z2l, z16, Bool.and_true, Bool.true_and]; try rfl) (by simp only [z2c, List.getElem?_cons_zero, List.getElem?_cons_succ, z0u, z0k]; rfl)) ?_
 refine z76 rfl rfl rfl rfl rfl (fun H hp => z3b rfl rfl) ?_
 refine z76 rfl rfl rfl rfl rfl (fun H hp => z3b rfl rfl) ?_
 obtain ⟨x13, hx13, h⟩ := obind h
 refine z76 rfl rfl rfl rfl rfl (fun H hp => z1p (i := s4) Tryz.underlying66 z1v rfl rfl rfl hx13 rfl) ?_
 refine z76 rfl rfl rfl rfl rfl (fun H hp => z4e (y := (ofV x13)) Tryz.underlying20 rfl rfl rfl (by rw [z0u]; rfl)) ?_
 refine z76 rfl rfl rfl rfl rfl (fun H hp => z12 (cs := [(ofV x13), (BO true)]) z5r z1m rfl rfl (by simp only [List.all_cons, List.all_nil, z2l, z16, Bool.and_true, Bool.true_and]; try rfl) (by simp only [z2c, List.getElem?_cons_zero, List.getElem?_cons_succ, z0u, z0k]; rfl)) ?_
 obtain ⟨x14, hx14, h⟩ := obind h
 refine zm9 (H1 := [.box 121 [(PV.v .nilFunc), (PV.sl (some 1) 88 7 (List.map z03 s6))], .arr 88 (s6).length, .box 125 [(ofV V.nil), (BO false)], .arr 20 (s3).length, .arr 125 0, .arr 82 (x10).length]) rfl rfl rfl rfl (z2i [0, 1] (.func rfl) zxl rfl (wkr (.cons Wk.tok (wkr (wkr (wkr .nil))))) rfl (.cons rfl (.box (.cons (.same rfl) (.cons (.row rfl (z0s z0a (((S_merge_merger.mk s5 s6)).f_conflicts))) .nil))) (.cons rfl .arr .nil)) (.cons (.rf rfl) (.cons (.same (z05 z02 x10)) (.cons (.same (z0d (S_merge_side.mk x11 true))) (.cons (.same (z0d (S_merge_side.mk x12 true))) (.cons (.same (z0d (S_merge_side.mk x13 true))) .nil))))) (c_q0m (S_merge_merger.mk s5 s6) x10 (S_merge_side.mk x11 true) (S_merge_side.mk x12 true) (S_merge_side.mk x13 true) x14 hx14) (.same (z0d x14.1)) (.cons (.box (.cons (.same rfl) (.cons (.row rfl (z0s z0a ((x14.2).f_conflicts))) .nil))) (.cons .arr .nil)) rfl) trivial rfl (z2i [0, 1] (.func rfl) zxl rfl (wkr (.cons Wk.tok (wkr (wkr (wkr .nil))))) rfl (.cons rfl (.box (.cons (.same rfl) (.cons (.row rfl (z0s z0a (((S_merge_merger.mk s5 s6)).f_conflicts))) .nil))) (.cons rfl .arr .nil)) (.cons (.rf rfl) (.cons (.same (z05 z02 x10)) (.cons (.same (z0d (S_merge_side.mk x11 true))) (.cons (.same (z0d (S_merge_side.mk x12 true))) (.cons (.same (z0d (S_merge_side.mk x13 true))) .nil))))) (c_q0m (S_merge_merger.mk s5 s6) x10 (S_merge_side.mk x11 true) (S_merge_side.mk x12 true) (S_merge_side.mk x13 true) x14 hx14) (.same (z0d x14.1)) (.cons (.box (.cons (.same rfl) (.cons (.row rfl (z0s z0a ((x14.2).f_conflicts))) .nil))) (.cons .arr .nil)) rfl) rfl rfl ?_
 refine Z37 rfl rfl rfl rfl rfl z1m rfl rfl ?_
 refine Z36 rfl (by kernel_rfl) rfl rfl (z0y z1m rfl rfl rfl rfl rfl rfl (lbE rfl) (by show List.all [(ofV (x14.1).f_v), (BO ((x14.1).f_has))] z45 = true; simp only [List.all_cons, List.all_nil, z3w, z1q, Bool.and_true, Bool.true_and]; try rfl)) trivial ?_
 refine Z6k ?_
 refine cBx ?_
 refine z0l ?_
 iterate 3 refine sX ?_
 refine sS rfl rfl rfl ((z1a (xs := [(ofV (x14.1).f_v)]) Tryz.underlying66 z1v rfl rfl rfl (by simp only [List.all_cons, List.all_nil, z2l, z16, Bool.and_true, Bool.true_and]; try rfl) (by simp only [List.all_cons, List.all_nil, csz_V, z2p, z0u, z0k]; try rfl) rfl ⟨lbE rfl, lbE rfl⟩ (by simp only [z8y, z2c, List.flatMap_cons, List.flatMap_nil, z0u, z0k]; try rfl)).cast (y := (PV.sl (some 6) 20 1 (List.map ofV ([(x14.1).f_v] : (List V))))) rfl rfl) ?_
 obtain ⟨x15, hx15, h⟩ := obind h
 refine sS rfl rfl rfl (z34 Tryz.underlying66 z1v rfl Tryz.underlying66 rfl rfl rfl rfl csz_V z7x hx15 rfl) ?_
 refine eX ?_
 refine z0l ?_
 refine sS rfl rfl rfl (z2o (k := s4) (c := 1) rfl rfl rfl (by omega)) ?_
 refine sX (z0h ?_)
 exact ⟨rfl, (x15, (s4 + 1), (x14.2).f_settle, (x14.2).f_conflicts), h, jN⟩
 intro hc7 h
 refine z2b ?_
 refine cBx ?_
 refine bR ?_
 refine sX ?_
 refine sS rfl rfl rfl ((z15 Tryz.underlying66 rfl rfl rfl).wk ((Wk.iface Wk.tok).trans (Wk.eq (zby _).symm))) ?_
 refine sS rfl rfl rfl (z12 (cs := [(ofV (V.list s3)), (BO true)]) z5r z1m rfl rfl (by simp only [List.all_cons, List.all_nil, z2l, z16, Bool.and_true, Bool.true_and]; try rfl) (by simp only [z2c, List.getElem?_cons_zero, List.getElem?_cons_succ, z0u, z0k]; rfl)) ?_
 refine z14 rfl rfl (z0y z1m rfl rfl rfl rfl rfl rfl (lbE rfl) (by show List.all [(ofV (V.list s3)), (BO true)] z45 = true; simp only [List.all_cons, List.all_nil, z3w, z1q, Bool.and_true, Bool.true_and]; try rfl)) ?_
 refine eX ?_
 obtain rfl := eI h; exact z06 ⟨_, rfl, endR (y := (PV.tup [(z09 (S_merge_side.mk (V.list s3) true)), (BO true)])) 2 (Wk.refl _) rfl rfl (.tup (.cons (.same (z0d (S_merge_side.mk (V.list s3) true))) (.cons (.same rfl) .nil))) (.cons (.box (.cons (.same rfl) (.cons (.row rfl (z0s z0a (((S_merge_merger.mk s5 s6)).f_conflicts))) .nil))) (.cons .arr .nil)) ⟨rfl, rfl⟩⟩
 refine z0l ?_
 iterate 3 refine sX ?_
 refine z0t (t := 38) rfl ?_ ?_
 intro hb16; replace h := z10 hb16 h
 iterate 2 refine nX ?_
 iterate 2 refine sX ?_
 iterate 2 refine nX ?_
 iterate 2 refine sX ?_
 iterate 5 refine nX ?_
 iterate 2 refine sX ?_
 iterate 5 refine nX ?_
 refine sX (z0h ?_)
 exact ⟨rfl, true, h, jN⟩
 intro hb16; replace h := z11 hb16 h
 iterate 2 refine yX ?_
 iterate 2 refine sX ?_
 refine z0t (t := 42) rfl ?_ ?_
 intro hb17; replace h := z10 hb17 h
 iterate 2 refine nX ?_
 iterate 2 refine sX ?_
 iterate 5 refine nX ?_
 iterate 2 refine sX ?_
 iterate 5 refine nX ?_
 refine sX (z0h ?_)
 exact ⟨rfl, true, h, jN⟩
 intro hb17; replace h := z11 hb17 h
 iterate 2 refine yX ?_
 iterate 2 refine sX ?_
 refine z0t (t := 46) rfl ?_ ?_
 intro hb18; replace h := z10 hb18 h
 iterate 5 refine nX ?_
 iterate 2 refine sX ?_
 iterate 5 refine nX ?_
 refine sX (z0h ?_)
 exact ⟨rfl, true, h, jN⟩
 intro hb18; replace h := z11 hb18 h
 iterate 5 refine yX ?_
 iterate 2 refine sX ?_
 refine z0t (t := 53) rfl ?_ ?_
 intro hb19; replace h := z10 hb19 h
 iterate 5 refine nX ?_
 refine sX (z0h ?_)
 exact ⟨rfl, true, h, jN⟩
 intro hb19; replace h := z11 hb19 h
 iterate 5 refine yX ?_
 refine sX (z0h ?_)
 exact ⟨rfl, (((((a2).asList).length : Nat) : Int) != ((((a4).asList).length : Nat) : Int)), h, jN⟩
theorem z8a (r_q0h : S_merge_merger → (List S_api_Step) → V → V → V → Option (S_merge_side × Bool × S_merge_merger)) (c_q0h : ∀ (a0 : S_merge_merger) (a1 : (List S_api_Step)) (a2 : V) (a3 : V) (a4 : V) r, r_q0h a0 a1 a2 a3 a4 = some r → z2t Tryz.prog 88 [(PV.rf 0 0), (PV.sl none 82 3 (List.map z01 a1)), (ofV a2), (ofV a3), (ofV a4)] [.box 121 [(PV.v .nilFunc), (PV.sl (some 1) 88 7 (List.map z03 a0.f_conflicts))], .arr 88 (a0.f_conflicts).length] (PV.tup [(z09 r.1), (BO r.2.1)]) [.box 121 [(PV.v .nilFunc), (PV.sl (some 1) 88 7 (List.map z03 (r.2.2).f_conflicts))], .arr 88 ((r.2.2).f_conflicts).length]) (r_q0g : S_merge_merger → (List S_api_Step) → V → V → V → Option (S_merge_side × Bool × S_merge_merger)) (c_q0g : ∀ (a0 : S_merge_merger) (a1 : (List S_api_Step)) (a2 : V) (a3 : V) (a4 : V) r, r_q0g a0 a1 a2 a3 a4 = some r → z2t Tryz.prog 87 [(PV.rf 0 0), (PV.sl none 82 3 (List.map z01 a1)), (ofV a2), (ofV a3), (ofV a4)] [.box 121 [(PV.v .nilFunc), (PV.sl (some 1) 88 7 (List.map z03 a0.f_conflicts))], .arr 88 (a0.f_conflicts).length] (PV.tup [(z09 r.1), (BO r.2.1)]) [.box 121 [(PV.v .nilFunc), (PV.sl (some 1) 88 7 (List.map z03 (r.2.2).f_conflicts))], .arr 88 ((r.2.2).f_conflicts).length]) (r_q0m : S_merge_merger → (List S_api_Step) → S_merge_side → S_merge_side → S_merge_side → Option (S_merge_side × S_merge_merger)) (c_q0m : ∀ (a0 : S_merge_merger) (a1 : (List S_api_Step)) (a2 : S_merge_side) (a3 : S_merge_side) (a4 : S_merge_side) r, r_q0m a0 a1 a2 a3 a4 = some r → z2t Tryz.prog 49 [(PV.rf 0 0), (PV.sl none 82 3 (List.map z01 a1)), (z09 a2), (z09 a3), (z09 a4)] [.box 121 [(PV.v .nilFunc), (PV.sl (some 1) 88 7 (List.map z03 a0.f_conflicts))], .arr 88 (a0.f_conflicts).length] (z09 r.1) [.box 121 [(PV.v .nilFunc), (PV.sl (some 1) 88 7 (List.map z03 (r.2).f_conflicts))], .arr 88 ((r.2).f_conflicts).length]) (a0 : S_merge_merger) (a1 : (List S_api_Step)) (a2 a3 a4 : V) (r : (S_merge_side × Bool × S_merge_merger)) (h : zk9 r_q0h r_q0g r_q0m a0 a1 a2 a3 a4 = some r) : z2t Tryz.prog 87 [(PV.rf 0 0), (PV.sl none 82 3 (List.map z01 a1)), (ofV a2), (ofV a3), (ofV a4)] [.box 121 [(PV.v .nilFunc), (PV.sl (some 1) 88 7 (List.map z03 a0.f_conflicts))], .arr 88 (a0.f_conflicts).length] (PV.tup [(z09 r.1), (BO r.2.1)]) [.box 121 [(PV.v .nilFunc), (PV.sl (some 1) 88 7 (List.map z03 (r.2.2).f_conflicts))], .arr 88 ((r.2.2).f_conflicts).length] := by
 unfold zk9 at h
 refine z0j Tryz.func87 rfl Tryz.ntmps87 Tryz.results87 rfl (z0n ?_)
 change BW _ _ _ ⟨[(0, (PV.rf 0 0)), (1, (PV.sl none 82 3 (List.map z01 a1))), (2, (ofV a2)), (3, (ofV a3)), (4, (ofV a4))], [.box 121 [(PV.v .nilFunc), (PV.sl (some 1) 88 7 (List.map z03 a0.f_conflicts))], .arr 88 (a0.f_conflicts).length], _⟩ _
 refine bR ?_
 refine sS rfl rfl rfl ((z1h z1m rfl).cast (H'' := [.box 121 [(PV.v .nilFunc), (PV.sl (some 1) 88 7 (List.map z03 a0.f_conflicts))], .arr 88 (a0.f_conflicts).length, .box 125 [(ofV V.nil), (BO false)]]) rfl (by simp only [mk_nil]; rfl)) ?_
 refine eX ?_
 refine bR ?_
 refine sX ?_
 obtain ⟨x1, hx1, h⟩ := obind h
 refine sS rfl rfl rfl (z08 rfl zud rfl (wkr .nil) ⟨(ids_V a2), trivial⟩ (Z0o a2 x1 hx1) (z00 (z05 z0m x1.1) (z00 rfl (z00 rfl (z00 rfl z04))))) ?_
 iterate 8 refine sX ?_
 refine eX ?_
 refine bR ?_
 refine sX ?_
 obtain ⟨x2, hx2, h⟩ := obind h
 refine sS rfl rfl rfl (z08 rfl zud rfl (wkr .nil) ⟨(ids_V a3), trivial⟩ (Z0o a3 x2 hx2) (z00 (z05 z0m x2.1) (z00 rfl (z00 rfl (z00 rfl z04))))) ?_
 iterate 8 refine sX ?_
 refine eX ?_
 refine bR ?_
 refine sX ?_
 obtain ⟨x3, hx3, h⟩ := obind h
 refine sS rfl rfl rfl (z08 rfl zud rfl (wkr .nil) ⟨(ids_V a4), trivial⟩ (Z0o a4 x3 hx3) (z00 (z05 z0m x3.1) (z00 rfl (z00 rfl (z00 rfl z04))))) ?_
 iterate 8 refine sX ?_
 refine eX ?_
 refine z0f ?_
 refine z2e (ι := Bool) (fun i => z6r r_q0m a0 a1 x1 x2 x3 i = some r) (fun i => [(0, (PV.rf 0 0)), (1, (PV.sl none 82 3 (List.map z01 a1))), (10, (PV.rf 2 0)), (12, (PV.sl none 86 2 (List.map ofFld x1.1))), (13, (ofStr x1.2.1)), (14, (I64 x1.2.2.1)), (16, (PV.sl none 86 2 (List.map ofFld x2.1))), (20, (PV.sl none 86 2 (List.map ofFld x3.1))), (83, (BO i))]) (fun i => [.box 121 [(PV.v .nilFunc), (PV.sl (some 1) 88 7 (List.map z03 a0.f_conflicts))], .arr 88 (a0.f_conflicts).length, .box 125 [(ofV V.nil), (BO false)]]) ?_ ?_ ?_
 intro i; exact ⟨lbE rfl, ⟨(il_rf rfl), ⟨(z07 (z05 z02 _)), ⟨(il_rf rfl), ⟨(z07 (z05 z0m _)), ⟨(z07 rfl), ⟨(z07 rfl), ⟨(z07 (z05 z0m _)), ⟨(z07 (z05 z0m _)), ⟨(z07 rfl), trivial⟩⟩⟩⟩⟩⟩⟩⟩⟩, ⟨⟨(z07 rfl), ⟨(z2x rfl (z0s z0a _)), trivial⟩⟩, ⟨⟨(z07 (ids_V _)), ⟨(z07 rfl), trivial⟩⟩, trivial⟩⟩⟩
 rintro s4 h; replace h : z6r r_q0m a0 a1 x1 x2 x3 s4 = some r := h; unfold z6r at h
 change BW _ _ _ ⟨[(0, (PV.rf 0 0)), (1, (PV.sl none 82 3 (List.map z01 a1))), (10, (PV.rf 2 0)), (12, (PV.sl none 86 2 (List.map ofFld x1.1))), (13, (ofStr x1.2.1)), (14, (I64 x1.2.2.1)), (16, (PV.sl none 86 2 (List.map ofFld x2.1))), (20, (PV.sl none 86 2 (List.map ofFld x3.1))), (83, (BO s4))], [.box 121 [(PV.v .nilFunc), (PV.sl (some 1) 88 7 (List.map z03 a0.f_conflicts))], .arr 88 (a0.f_conflicts).length, .box 125 [(ofV V.nil), (BO false)]], _⟩ _
 refine cX h rfl ?_ ?_
 intro hc5 h
 refine bR ?_
 refine sS rfl rfl rfl (z12 (cs := [(PV.v .nilIface), (BO false)]) z5r z1m rfl rfl rfl rfl) ?_
 refine z14 rfl rfl (z0y z1m rfl rfl rfl rfl rfl rfl (lbE rfl) (by show List.all [(PV.v .nilIface), (BO false)] z45 = true; simp only [List.all_cons, List.all_nil, z3w, z1q, Bool.and_true, Bool.true_and]; try rfl)) ?_
 refine eX ?_
 obtain rfl := eI h; exact z06 ⟨_, rfl, endR (y := (PV.tup [(z09 (S_merge_side.mk V.nil false)), (BO false)])) 2 (Wk.tup (.cons (Wk.agg (.cons (Wk.eq mk_nil.symm) (wkr .nil))) (wkr .nil))) rfl rfl (.tup (.cons (.same (z0d (S_merge_side.mk V.nil false))) (.cons (.same rfl) .nil))) (.cons (.box (.cons (.same rfl) (.cons (.row rfl (z0s z0a a0.f_conflicts)) .nil))) (.cons .arr .nil)) ⟨rfl, rfl⟩⟩
 intro hc5 h
 refine z0g ?_
 refine cBx ?_
 refine bR ?_
 refine sS rfl rfl rfl ((z7p (e := 9) (sz := 1) (.inl rfl) rfl).cast (y := (PV.rs 3 0 (([] : (List Str))).length 9 1)) (H'' := [.box 121 [(PV.v .nilFunc), (PV.sl (some 1) 88 7 (List.map z03 a0.f_conflicts))], .arr 88 (a0.f_conflicts).length, .box 125 [(ofV V.nil), (BO false)], rowM ofStr 9 ([] : (List Str))]) rfl rfl) (z0h ?_)
 refine cBx ?_
 refine z0f ?_
 refine bR ?_
 iterate 3 refine sX ?_
 refine sS rfl rfl rfl ((z1a (xs := [(PV.sl none 86 2 (List.map ofFld x1.1)), (PV.sl none 86 2 (List.map ofFld x2.1)), (PV.sl none 86 2 (List.map ofFld x3.1))]) Tryz.underlying192 zeh rfl rfl rfl rfl rfl rfl ⟨lbE rfl, lbE rfl⟩ rfl).cast (y := (PV.sl (some 4) 68 1 (List.map (Z3a 86 2 ofFld) ([x1.1, x2.1, x3.1] : (List (List (Str × V))))))) rfl rfl) ?_
 refine sX ?_
 refine eX ?_
 refine z0o ?_
 refine cBx ?_
 unfold zij at h
 refine z3p (σ := ((List Str) × Int)) (fun i => [(0, (PV.rf 0 0)), (1, (PV.sl none 82 3 (List.map z01 a1))), (10, (PV.rf 2 0)), (12, (PV.sl none 86 2 (List.map ofFld x1.1))), (13, (ofStr x1.2.1)), (14, (I64 x1.2.2.1)), (16, (PV.sl none 86 2 (List.map ofFld x2.1))), (20, (PV.sl none 86 2 (List.map ofFld x3.1))), (24, (PV.rs 3 0 (i.1).length 9 1)), (88, (PV.sl (some 4) 68 1 (List.map (Z3a 86 2 ofFld) ([x1.1, x2.1, x3.1] : (List (List (Str × V))))))), (89, (I64 ((((([x1.1, x2.1, x3.1] : (List (List (Str × V))))).length : Nat) : Int)))), (90, (I64 i.2))]) (fun i => [.box 121 [(PV.v .nilFunc), (PV.sl (some 1) 88 7 (List.map z03 a0.f_conflicts))], .arr 88 (a0.f_conflicts).length, .box 125 [(ofV V.nil), (BO false)], rowM ofStr 9 i.1, .arr 68 (([x1.1, x2.1, x3.1] : (List (List (Str × V))))).length]) (([] : (List Str)), 0) h ?_ ?_ ?_
 intro i; exact ⟨lbE rfl, ⟨(il_rf rfl), ⟨(z07 (z05 z02 _)), ⟨(il_rf rfl), ⟨(z07 (z05 z0m _)), ⟨(z07 rfl), ⟨(z07 rfl), ⟨(z07 (z05 z0m _)), ⟨(z07 (z05 z0m _)), ⟨(zxc rfl), ⟨(z2x rfl (z0s (fun a => z05 z0m a) _)), ⟨(z07 rfl), ⟨(z07 rfl), trivial⟩⟩⟩⟩⟩⟩⟩⟩⟩⟩⟩⟩, ⟨⟨(z07 rfl), ⟨(z2x rfl (z0s z0a _)), trivial⟩⟩, ⟨⟨(z07 (ids_V _)), ⟨(z07 rfl), trivial⟩⟩, (zg8 (fun _ => rfl) trivial)⟩⟩⟩
 exact jN
 rintro g1_f ⟨s6, s7⟩ h; replace h : z4r r_q0m a0 a1 x1 x2 x3 (fun y0 y1 => g1_f (y0, y1)) s6 s7 = some r := h; unfold z4r at h
 change BW _ _ _ ⟨[(0, (PV.rf 0 0)), (1, (PV.sl none 82 3 (List.map z01 a1))), (10, (PV.rf 2 0)), (12, (PV.sl none 86 2 (List.map ofFld x1.1))), (13, (ofStr x1.2.1)), (14, (I64 x1.2.2.1)), (16, (PV.sl none 86 2 (List.map ofFld x2.1))), (20, (PV.sl none 86 2 (List.map ofFld x3.1))), (24, (PV.rs 3 0 (s6).length 9 1)), (88, (PV.sl (some 4) 68 1 (List.map (Z3a 86 2 ofFld) ([x1.1, x2.1, x3.1] : (List (List (Str × V))))))), (89, (I64 ((((([x1.1, x2.1, x3.1] : (List (List (Str × V))))).length : Nat) : Int)))), (90, (I64 s7))], [.box 121 [(PV.v .nilFunc), (PV.sl (some 1) 88 7 (List.map z03 a0.f_conflicts))], .arr 88 (a0.f_conflicts).length, .box 125 [(ofV V.nil), (BO false)], rowM ofStr 9 s6, .arr 68 (([x1.1, x2.1, x3.1] : (List (List (Str × V))))).length], _⟩ _
 refine bR ?_
 refine eX ?_
 refine z0f ?_
 refine cX h rfl ?_ ?_
 intro hc8 h
 refine z0g ?_
 refine cBx ?_
 refine z0f ?_
 refine z0o ?_
 refine cBx ?_
 refine bR ?_
 obtain ⟨x9, hx9, h⟩ := obind h
 refine sS rfl rfl rfl (z26 Tryz.underlying192 zeh rfl rfl rfl hx9 rfl) ?_
 refine sX ?_
 refine eX ?_
 refine bR ?_
 iterate 2 refine sX ?_
 refine eX ?_
 refine z0o ?_
 refine cBx ?_
 unfold zfh at h
 refine zy3 (σ := ((List Str) × Nat)) (fun i => [(0, (PV.rf 0 0)), (1, (PV.sl none 82 3 (List.map z01 a1))), (10, (PV.rf 2 0)), (12, (PV.sl none 86 2 (List.map ofFld x1.1))), (13, (ofStr x1.2.1)), (14, (I64 x1.2.2.1)), (16, (PV.sl none 86 2 (List.map ofFld x2.1))), (20, (PV.sl none 86 2 (List.map ofFld x3.1))), (24, (PV.rs 3 0 (i.1).length 9 1)), (88, (PV.sl (some 4) 68 1 (List.map (Z3a 86 2 ofFld) ([x1.1, x2.1, x3.1] : (List (List (Str × V))))))), (89, (I64 ((((([x1.1, x2.1, x3.1] : (List (List (Str × V))))).length : Nat) : Int)))), (90, (I64 s7)), (94, (PV.sl none 86 2 (List.map ofFld x9))), (95, (I64 ((((x9).length : Nat) : Int)))), (96, (I64 (((i.2 : Nat) : Int))))]) (fun i => [.box 121 [(PV.v .nilFunc), (PV.sl (some 1) 88 7 (List.map z03 a0.f_conflicts))], .arr 88 (a0.f_conflicts).length, .box 125 [(ofV V.nil), (BO false)], rowM ofStr 9 i.1, .arr 68 (([x1.1, x2.1, x3.1] : (List (List (Str × V))))).length]) (s6, 0) h ?_ ?_ ?_
 intro i; exact ⟨lbE rfl, ⟨(il_rf rfl), ⟨(z07 (z05 z02 _)), ⟨(il_rf rfl), ⟨(z07 (z05 z0m _)), ⟨(z07 rfl), ⟨(z07 rfl), ⟨(z07 (z05 z0m _)), ⟨(z07 (z05 z0m _)), ⟨(zxc rfl), ⟨(z2x rfl (z0s (fun a => z05 z0m a) _)), ⟨(z07 rfl), ⟨(z07 rfl), ⟨(z07 (z05 z0m _)), ⟨(z07 rfl), ⟨(z07 rfl), trivial⟩⟩⟩⟩⟩⟩⟩⟩⟩⟩⟩⟩⟩⟩⟩, ⟨⟨(z07 rfl), ⟨(z2x rfl (z0s z0a _)), trivial⟩⟩, ⟨⟨(z07 (ids_V _)), ⟨(z07 rfl), trivial⟩⟩, (zg8 (fun _ => rfl) trivial)⟩⟩⟩
 exact (zzi [0, 1, 2, 3, 4] rfl (.cons rfl (.box (.cons (.none rfl (Wk.refl _)) (.cons (.tok rfl rfl (z0s z0a _)) .nil))) (.cons rfl (.same rfl) (.cons rfl (.box (.cons (.none (ids_V _) (Wk.refl _)) (.cons (.none rfl (Wk.refl _)) .nil))) (.cons rfl (.same (z4k (fun _ => rfl))) (.cons rfl (.same rfl) .nil))))) (z1f rfl (Wk.refl _) (.rf rfl rfl) (z1f rfl (Wk.refl _) (.none (z05 z02 _) (Wk.refl _)) (z1f rfl (Wk.refl _) (.rf rfl rfl) (z1f rfl (Wk.refl _) (.none (z05 z0m _) (Wk.refl _)) (z1f rfl (Wk.refl _) (.none rfl (Wk.refl _)) (z1f rfl (Wk.refl _) (.none rfl (Wk.refl _)) (z1f rfl (Wk.refl _) (.none (z05 z0m _) (Wk.refl _)) (z1f rfl (Wk.refl _) (.none (z05 z0m _) (Wk.refl _)) (z1f rfl (Wk.refl _) (.rs rfl rfl rfl) (z1f rfl (Wk.refl _) (.tok rfl rfl (z0s (fun a => z05 z0m a) _)) (z1f rfl (Wk.refl _) (.none rfl (Wk.refl _)) (z1f rfl (Wk.refl _) (.none rfl (Wk.refl _)) (z1f rfl (Wk.refl _) (.none (z05 z0m _) (Wk.refl _)) (z1f rfl (Wk.refl _) (.none rfl (Wk.refl _)) (z1f rfl (Wk.refl _) (.none rfl (Wk.refl _)) zmo))))))))))))))))
 rintro g2_f ⟨s10, s11⟩ h; replace h : z6c (fun y0 y1 => g1_f (y0, y1)) s7 x9 (fun y0 y1 => g2_f (y0, y1)) s10 s11 = some r := h; unfold z6c at h
 change BW _ _ _ ⟨[(0, (PV.rf 0 0)), (1, (PV.sl none 82 3 (List.map z01 a1))), (10, (PV.rf 2 0)), (12, (PV.sl none 86 2 (List.map ofFld x1.1))), (13, (ofStr x1.2.1)), (14, (I64 x1.2.2.1)), (16, (PV.sl none 86 2 (List.map ofFld x2.1))), (20, (PV.sl none 86 2 (List.map ofFld x3.1))), (24, (PV.rs 3 0 (s10).length 9 1)), (88, (PV.sl (some 4) 68 1 (List.map (Z3a 86 2 ofFld) ([x1.1, x2.1, x3.1] : (List (List (Str × V))))))), (89, (I64 ((((([x1.1, x2.1, x3.1] : (List (List (Str × V))))).length : Nat) : Int)))), (90, (I64 s7)), (94, (PV.sl none 86 2 (List.map ofFld x9))), (95, (I64 ((((x9).length : Nat) : Int)))), (96, (I64 (((s11 : Nat) : Int))))], [.box 121 [(PV.v .nilFunc), (PV.sl (some 1) 88 7 (List.map z03 a0.f_conflicts))], .arr 88 (a0.f_conflicts).length, .box 125 [(ofV V.nil), (BO false)], rowM ofStr 9 s10, .arr 68 (([x1.1, x2.1, x3.1] : (List (List (Str × V))))).length], _⟩ _
 refine bR ?_
 refine eX ?_
 refine z0f ?_
 refine z4a (t := 94) rfl fun hb13 => ?_
 try rw [List.length_map] at hb13
 refine cX h rfl ?_ ?_
 intro hc12 h
 have hc12_ := of_decide_eq_true hc12
 refine z0g ?_
 refine cBx ?_
 refine z0f ?_
 refine z0o ?_
 refine cBx ?_
 refine bR ?_
 obtain ⟨x14, hx14, h⟩ := obind h
 refine sS rfl rfl rfl (z1p (i := s11) Tryz.underlying68 z13 rfl rfl rfl hx14 rfl) ?_
 refine sX ?_
 refine sS rfl rfl rfl ((z1h z13 rfl).cast (H'' := [.box 121 [(PV.v .nilFunc), (PV.sl (some 1) 88 7 (List.map z03 a0.f_conflicts))], .arr 88 (a0.f_conflicts).length, .box 125 [(ofV V.nil), (BO false)], rowM ofStr 9 s10, .arr 68 (([x1.1, x2.1, x3.1] : (List (List (Str × V))))).length, .box 86 [(ofStr []), (ofV V.nil)]]) rfl (by simp only [mk_nil]; rfl)) ?_
 refine z14 rfl rfl (z0y z13 rfl rfl rfl rfl rfl rfl (lbE rfl) (by show List.all [(ofStr x14.1), (ofV x14.2)] z45 = true; simp only [List.all_cons, List.all_nil, z3w, z1q, Bool.and_true, Bool.true_and]; try rfl)) ?_
 refine z0h ?_
 refine cBx ?_
 refine z0l ?_
 iterate 3 refine sX ?_
 refine sS rfl rfl rfl ((z1a (xs := [(ofStr x14.1)]) Tryz.underlying158 zlf rfl rfl rfl rfl rfl rfl ⟨lbE rfl, lbE rfl⟩ rfl).cast (y := (PV.sl (some 6) 9 1 (List.map ofStr ([x14.1] : (List Str))))) rfl rfl) ?_
 obtain ⟨x15, hx15, h⟩ := obind h
 refine sS rfl rfl rfl (zar (f := ofStr) (l := s10) Tryz.underlying158 zlf rfl rfl Tryz.underlying158 rfl rfl rfl rfl rfl (fun _ => rfl) (fun _ => rfl) hx15 rfl) ?_
 refine eX ?_
 refine z0l ?_
 refine sS rfl rfl rfl (z2o (k := s11) (c := 1) rfl rfl rfl (by omega)) ?_
 refine sX (z0h ?_)
 exact ⟨rfl, (x15, (s11 + 1)), h, (zzi [0, 1, 2, 7, 4] rfl (.cons rfl (.box (.cons (.none rfl (Wk.refl _)) (.cons (.tok rfl rfl (z0s z0a _)) .nil))) (.cons rfl (.same rfl) (.cons rfl (.box (.cons (.none (ids_V _) (Wk.refl _)) (.cons (.none rfl (Wk.refl _)) .nil))) (.cons rfl (.same (z4k (fun _ => rfl))) (.cons rfl (.same rfl) .nil))))) (z1f rfl (Wk.refl _) (.rf rfl rfl) (z1f rfl (Wk.refl _) (.none (z05 z02 _) (Wk.refl _)) (z1f rfl (Wk.refl _) (.rf rfl rfl) (z1f rfl (Wk.refl _) (.none (z05 z0m _) (Wk.refl _)) (z1f rfl (Wk.refl _) (.none rfl (Wk.refl _)) (z1f rfl (Wk.refl _) (.none rfl (Wk.refl _)) (z1f rfl (Wk.refl _) (.none (z05 z0m _) (Wk.refl _)) (z1f rfl (Wk.refl _) (.none (z05 z0m _) (Wk.refl _)) (z1f rfl (Wk.refl _) (.rs rfl rfl rfl) (z1f rfl (Wk.refl _) (.tok rfl rfl (z0s (fun a => z05 z0m a) _)) (z1f rfl (Wk.refl _) (.none rfl (Wk.refl _)) (z1f rfl (Wk.refl _) (.none rfl (Wk.refl _)) (z1f rfl (Wk.refl _) (.none (z05 z0m _) (Wk.refl _)) (z1f rfl (Wk.refl _) (.none rfl (Wk.refl _)) (z1f rfl (Wk.refl _) (.none rfl (Wk.refl _)) zmo))))))))))))))))⟩
 intro hc12 h
 refine z2b ?_
 refine cBx ?_
 refine z0l ?_
 refine sX ?_
 refine sX (z0h ?_)
 exact ⟨rfl, (s10, (IntKind.i64.wrap (s7 + 1))), h, jN⟩
 intro hc8 h
 refine z2b ?_
 refine cBx ?_
 refine bR ?_
 refine sX ?_
 obtain ⟨x16, hx16, h⟩ := obind h
 refine sS rfl rfl rfl (zsw (l := s6) zqs Z5x rfl rfl rfl rfl hx16) (z0h ?_)
 refine cBx ?_
 refine bR ?_
 refine sS rfl rfl rfl ((z1a (xs := []) Tryz.underlying68 z13 rfl rfl rfl rfl rfl rfl ⟨lbE rfl, lbE rfl⟩ rfl).cast (y := (PV.sl (some 5) 86 2 (List.map ofFld ([] : (List (Str × V)))))) rfl rfl) ?_
 refine eX ?_
 refine z0f ?_
 refine bR ?_
 refine sX ?_
 refine sS rfl rfl rfl (zsz (l := x16) zk1 Z5w rfl rfl (zqt hx16) rfl) ?_
 refine sS rfl rfl rfl (zn5 Tryz.underlying158 rfl rfl) ?_
 refine eX ?_
 refine z0o ?_
 refine cBx ?_
 unfold zfg at h
 refine z3p (σ := ((List (Str × V)) × Int × Unit × (List S_api_Conflict))) (fun i => [(0, (PV.rf 0 0)), (1, (PV.sl none 82 3 (List.map z01 a1))), (10, (PV.rf 2 0)), (12, (PV.sl none 86 2 (List.map ofFld x1.1))), (13, (ofStr x1.2.1)), (14, (I64 x1.2.2.1)), (16, (PV.sl none 86 2 (List.map ofFld x2.1))), (20, (PV.sl none 86 2 (List.map ofFld x3.1))), (29, (PV.sl (some 5) 86 2 (List.map ofFld i.1))), (111, (PV.rs 3 0 ((compS x16)).length 9 1)), (112, (I64 (((((compS x16)).length : Nat) : Int)))), (113, (I64 i.2.1))]) (fun i => [.box 121 [(PV.v .nilFunc), (PV.sl (some 1) 88 7 (List.map z03 i.2.2.2))], .arr 88 (i.2.2.2).length, .box 125 [(ofV V.nil), (BO false)], rowM ofStr 9 (compS x16), .dead, .arr 86 (i.1).length]) (([] : (List (Str × V))), 0, a0.f_settle, a0.f_conflicts) h ?_ ?_ ?_
 intro i; exact ⟨lbE rfl, ⟨(il_rf rfl), ⟨(z07 (z05 z02 _)), ⟨(il_rf rfl), ⟨(z07 (z05 z0m _)), ⟨(z07 rfl), ⟨(z07 rfl), ⟨(z07 (z05 z0m _)), ⟨(z07 (z05 z0m _)), ⟨(z2x rfl (z0s z0m _)), ⟨(zxc rfl), ⟨(z07 rfl), ⟨(z07 rfl), trivial⟩⟩⟩⟩⟩⟩⟩⟩⟩⟩⟩⟩, ⟨⟨(z07 rfl), ⟨(z2x rfl (z0s z0a _)), trivial⟩⟩, ⟨⟨(z07 (ids_V _)), ⟨(z07 rfl), trivial⟩⟩, (zg8 (fun _ => rfl) trivial)⟩⟩⟩
 exact ⟨(.cons .same (.cons .same (.cons .same (.cons .same (.cons .dead (.cons .same .nil)))))), (sC rfl (sC rfl (sC rfl (sC rfl (sC rfl (sC rfl (sC rfl (sC rfl (sC rfl (sC rfl (sC rfl (sC rfl zdd))))))))))))⟩
 rintro g2_f ⟨s17, s18, s19, s20⟩ h; replace h : z6b r_q0m a1 x1 x2 x3 x16 (fun y0 y1 y2 y3 => g2_f (y0, y1, y2, y3)) s17 s18 s19 s20 = some r := h; unfold z6b at h
 change BW _ _ _ ⟨[(0, (PV.rf 0 0)), (1, (PV.sl none 82 3 (List.map z01 a1))), (10, (PV.rf 2 0)), (12, (PV.sl none 86 2 (List.map ofFld x1.1))), (13, (ofStr x1.2.1)), (14, (I64 x1.2.2.1)), (16, (PV.sl none 86 2 (List.map ofFld x2.1))), (20, (PV.sl none 86 2 (List.map ofFld x3.1))), (29, (PV.sl (some 5) 86 2 (List.map ofFld s17))), (111, (PV.rs 3 0 ((compS x16)).length 9 1)), (112, (I64 (((((compS x16)).length : Nat) : Int)))), (113, (I64 s18))], [.box 121 [(PV.v .nilFunc), (PV.sl (some 1) 88 7 (List.map z03 s20))], .arr 88 (s20).length, .box 125 [(ofV V.nil), (BO false)], rowM ofStr 9 (compS x16), .dead, .arr 86 (s17).length], _⟩ _
 refine bR ?_
 refine eX ?_
 refine z0f ?_
 refine cX h rfl ?_ ?_
 intro hc21 h
 refine z0g ?_
 refine cBx ?_
 refine z2e (ι := ((List (Str × V)) × Unit × (List S_api_Conflict))) (fun i => zah (fun y0 y1 y2 y3 => g2_f (y0, y1, y2, y3)) s18 i.1 i.2.1 i.2.2 = some r) (fun i => [(0, (PV.rf 0 0)), (1, (PV.sl none 82 3 (List.map z01 a1))), (10, (PV.rf 2 0)), (12, (PV.sl none 86 2 (List.map ofFld x1.1))), (13, (ofStr x1.2.1)), (14, (I64 x1.2.2.1)), (16, (PV.sl none 86 2 (List.map ofFld x2.1))), (20, (PV.sl none 86 2 (List.map ofFld x3.1))), (29, (PV.sl (some 5) 86 2 (List.map ofFld i.1))), (111, (PV.rs 3 0 ((compS x16)).length 9 1)), (112, (I64 (((((compS x16)).length : Nat) : Int)))), (113, (I64 s18))]) (fun i => [.box 121 [(PV.v .nilFunc), (PV.sl (some 1) 88 7 (List.map z03 i.2.2))], .arr 88 (i.2.2).length, .box 125 [(ofV V.nil), (BO false)], rowM ofStr 9 (compS x16), .dead, .arr 86 (i.1).length]) ?_ ?_ ?_
 intro i; exact ⟨lbE rfl, ⟨(il_rf rfl), ⟨(z07 (z05 z02 _)), ⟨(il_rf rfl), ⟨(z07 (z05 z0m _)), ⟨(z07 rfl), ⟨(z07 rfl), ⟨(z07 (z05 z0m _)), ⟨(z07 (z05 z0m _)), ⟨(z2x rfl (z0s z0m _)), ⟨(zxc rfl), ⟨(z07 rfl), ⟨(z07 rfl), trivial⟩⟩⟩⟩⟩⟩⟩⟩⟩⟩⟩⟩, ⟨⟨(z07 rfl), ⟨(z2x rfl (z0s z0a _)), trivial⟩⟩, ⟨⟨(z07 (ids_V _)), ⟨(z07 rfl), trivial⟩⟩, (zg8 (fun _ => rfl) trivial)⟩⟩⟩
 rintro ⟨s22, s23, s24⟩ h; replace h : zah (fun y0 y1 y2 y3 => g2_f (y0, y1, y2, y3)) s18 s22 s23 s24 = some r := h; unfold zah at h
 change BW _ _ _ ⟨[(0, (PV.rf 0 0)), (1, (PV.sl none 82 3 (List.map z01 a1))), (10, (PV.rf 2 0)), (12, (PV.sl none 86 2 (List.map ofFld x1.1))), (13, (ofStr x1.2.1)), (14, (I64 x1.2.2.1)), (16, (PV.sl none 86 2 (List.map ofFld x2.1))), (20, (PV.sl none 86 2 (List.map ofFld x3.1))), (29, (PV.sl (some 5) 86 2 (List.map ofFld s22))), (111, (PV.rs 3 0 ((compS x16)).length 9 1)), (112, (I64 (((((compS x16)).length : Nat) : Int)))), (113, (I64 s18))], [.box 121 [(PV.v .nilFunc), (PV.sl (some 1) 88 7 (List.map z03 s24))], .arr 88 (s24).length, .box 125 [(ofV V.nil), (BO false)], rowM ofStr 9 (compS x16), .dead, .arr 86 (s22).length], _⟩ _
 refine z0l ?_
 refine sX ?_
 refine sX (z0h ?_)
 exact ⟨rfl, (s22, (IntKind.i64.wrap (s18 + 1)), s23, s24), h, ⟨(.cons .same (.cons .same (.cons .same (.cons .same (.cons .dead (.cons .same .nil)))))), (sC rfl (sC rfl (sC rfl (sC rfl (sC rfl (sC rfl (sC rfl (sC rfl (sC rfl (sC rfl (sC rfl (sC rfl zdd))))))))))))⟩⟩
 refine z0o ?_
 refine cBx ?_
 refine bR ?_
 obtain ⟨x25, hx25, h⟩ := obind h
 refine sS rfl rfl rfl (ze5 (l := (compS x16)) Tryz.underlying158 zlf rfl rfl rfl rfl hx25) ?_
 refine sS rfl rfl rfl (Z1c (f := ofStr) (y := (ofStr x25)) Tryz.underlying9 rfl rfl rfl rfl (z71 hx25).2 (fun _ => rfl) rfl (q := 0) rfl rfl) ?_
 refine eX ?_
 refine bR ?_
 iterate 2 refine sX ?_
 obtain ⟨x26, hx26, h⟩ := obind h
 refine sS rfl rfl rfl (z4m rfl zxj rfl (wkr .nil) ⟨(z05 z02 a1), trivial⟩ (zvk a1 x26 hx26) (z6o (z0s z02 _) rfl) rfl) ?_
 refine sX ?_
 refine sS rfl rfl rfl (z12 (cs := [(ofStr x25), (BO false), (I64 0)]) zgh z1u rfl rfl rfl rfl) ?_
 refine sS rfl rfl rfl ((z1a (xs := [(PV.agg [(ofStr x25), (BO false), (I64 0)])]) Tryz.underlying47 z1u rfl rfl rfl rfl rfl rfl ⟨lbE rfl, lbE rfl⟩ rfl).cast (y := (PV.sl (some 7) 82 3 (List.map z01 ([(S_api_Step.mk x25 false 0)] : (List S_api_Step))))) rfl rfl) ?_
 obtain ⟨x27, hx27, h⟩ := obind h
 refine sS rfl rfl rfl (z34 Tryz.underlying47 z1u rfl Tryz.underlying47 rfl rfl rfl rfl z3r z37 hx27 rfl) ?_
 iterate 2 refine sX ?_
 obtain ⟨x28, hx28, h⟩ := obind h
 refine sS rfl rfl rfl (z08 rfl zuc rfl (wkr (wkr .nil)) ⟨(z05 z0m x1.1), ⟨rfl, trivial⟩⟩ (Z0l x1.1 x25 x28 hx28) (z0d x28)) ?_
 iterate 2 refine sX ?_
 obtain ⟨x29, hx29, h⟩ := obind h
 refine sS rfl rfl rfl (z08 rfl zuc rfl (wkr (wkr .nil)) ⟨(z05 z0m x2.1), ⟨rfl, trivial⟩⟩ (Z0l x2.1 x25 x29 hx29) (z0d x29)) ?_
 iterate 2 refine sX ?_
 obtain ⟨x30, hx30, h⟩ := obind h
 refine sS rfl rfl rfl (z08 rfl zuc rfl (wkr (wkr .nil)) ⟨(z05 z0m x3.1), ⟨rfl, trivial⟩⟩ (Z0l x3.1 x25 x30 hx30) (z0d x30)) ?_
 obtain ⟨x31, hx31, h⟩ := obind h
 refine sS rfl rfl rfl (z2i [0, 1] (.func rfl) zxl rfl (wkr (.cons Wk.tok (wkr (wkr (wkr .nil))))) rfl (.cons rfl (.box (.cons (.same rfl) (.cons (.row rfl (z0s z0a (((S_merge_merger.mk s19 s20)).f_conflicts))) .nil))) (.cons rfl .arr .nil)) (.cons (.rf rfl) (.cons (.same (z05 z02 x27)) (.cons (.same (z0d x28)) (.cons (.same (z0d x29)) (.cons (.same (z0d x30)) .nil))))) (c_q0m (S_merge_merger.mk s19 s20) x27 x28 x29 x30 x31 hx31) (.same (z0d x31.1)) (.cons (.box (.cons (.same rfl) (.cons (.row rfl (z0s z0a ((x31.2).f_conflicts))) .nil))) (.cons .arr .nil)) rfl) ?_
 refine sS rfl rfl rfl ((z1h z1m rfl).cast (H'' := [.box 121 [(PV.v .nilFunc), (PV.sl (some 1) 88 7 (List.map z03 (x31.2).f_conflicts))], .arr 88 ((x31.2).f_conflicts).length, .box 125 [(ofV V.nil), (BO false)], rowM ofStr 9 (compS x16), .dead, .arr 86 (s17).length, .arr 82 (x27).length, .arr 82 (([(S_api_Step.mk x25 false 0)] : (List S_api_Step))).length, .box 125 [(ofV V.nil), (BO false)]]) rfl (by simp only [mk_nil]; rfl)) ?_
 refine z14 rfl rfl (z0y z1m rfl rfl rfl rfl rfl rfl (lbE rfl) (by show List.all [(ofV (x31.1).f_v), (BO ((x31.1).f_has))] z45 = true; simp only [List.all_cons, List.all_nil, z3w, z1q, Bool.and_true, Bool.true_and]; try rfl)) ?_
 refine z0h ?_
 refine cBx ?_
 refine bR ?_
 refine sX ?_
 refine eX ?_
 refine cX h rfl ?_ ?_
 intro hc32 h
 refine z0l ?_
 iterate 4 refine sX ?_
 refine sS rfl rfl rfl (z12 (cs := [(ofStr x25), (ofV (x31.1).f_v)]) z9g z13 rfl rfl (by simp only [List.all_cons, List.all_nil, z2l, z16, Bool.and_true, Bool.true_and]; try rfl) (by simp only [z2c, List.getElem?_cons_zero, List.getElem?_cons_succ, z0u, z0k]; rfl)) ?_
 refine sS rfl rfl rfl ((z1a (xs := [(PV.agg [(ofStr x25), (ofV (x31.1).f_v)])]) Tryz.underlying68 z13 rfl rfl rfl (by simp only [List.all_cons, List.all_nil, z2l, z16, Bool.and_true, Bool.true_and]; try rfl) (by simp only [List.all_cons, List.all_nil, csz_V, z2p, z0u, z0k]; try rfl) rfl ⟨lbE rfl, lbE rfl⟩ (by simp only [z8y, z2c, List.flatMap_cons, List.flatMap_nil, z0u, z0k]; try rfl)).cast (y := (PV.sl (some 9) 86 2 (List.map ofFld ([(x25, (x31.1).f_v)] : (List (Str × V)))))) rfl rfl) ?_
 obtain ⟨x33, hx33, h⟩ := obind h
 refine sS rfl rfl rfl (z34 Tryz.underlying68 z13 rfl Tryz.underlying68 rfl rfl rfl rfl z7w z75 hx33 rfl) ?_
 refine sX (z0h ?_)
 exact ⟨rfl, (x33, (x31.2).f_settle, (x31.2).f_conflicts), h, ⟨(.cons .same (.cons .same (.cons .same (.cons .same (.cons .dead (.cons .same .nil)))))), (sC rfl (sC rfl (sC rfl (sC rfl (sC rfl (sC rfl (sC rfl (sC rfl (sC rfl (sC rfl (sC rfl (sC rfl zdd))))))))))))⟩⟩
 intro hc32 h
 refine z0g ?_
 exact ⟨rfl, (s17, (x31.2).f_settle, (x31.2).f_conflicts), h, ⟨(.cons .same (.cons .same (.cons .same (.cons .same (.cons .dead (.cons .same .nil)))))), (sC rfl (sC rfl (sC rfl (sC rfl (sC rfl (sC rfl (sC rfl (sC rfl (sC rfl (sC rfl (sC rfl (sC rfl zdd))))))))))))⟩⟩
 intro hc21 h
 refine z2b ?_
 refine cBx ?_
 refine z0f ?_
 refine bR ?_
 refine sX ?_
 refine sS rfl rfl rfl ((z2r (a := x1.2.1) (b := ([] : Str)) rfl rfl rfl rfl).cast (y := (BO ((x1.2.1 == ([] : Str))))) rfl rfl) (z0h ?_)
 refine cBx ?_
 refine cX h rfl ?_ ?_
 intro hc34 h
 refine bR ?_
 refine sX ?_
 refine sS rfl rfl rfl ((z15 Tryz.underlying68 rfl rfl rfl).wk ((Wk.iface Wk.tok).trans (Wk.eq (z4t _).symm))) ?_
 refine sS rfl rfl rfl (z12 (cs := [(ofV (V.dict s17)), (BO true)]) z5r z1m rfl rfl (by simp only [List.all_cons, List.all_nil, z2l, z16, Bool.and_true, Bool.true_and]; try rfl) (by simp only [z2c, List.getElem?_cons_zero, List.getElem?_cons_succ, z0u, z0k]; rfl)) ?_
 refine z14 rfl rfl (z0y z1m rfl rfl rfl rfl rfl rfl (lbE rfl) (by show List.all [(ofV (V.dict s17)), (BO true)] z45 = true; simp only [List.all_cons, List.all_nil, z3w, z1q, Bool.and_true, Bool.true_and]; try rfl)) ?_
 refine eX ?_
 obtain rfl := eI h; exact z06 ⟨_, rfl, endR (y := (PV.tup [(z09 (S_merge_side.mk (V.dict s17) true)), (BO true)])) 2 (Wk.refl _) rfl rfl (.tup (.cons (.same (z0d (S_merge_side.mk (V.dict s17) true))) (.cons (.same rfl) .nil))) (.cons (.box (.cons (.same rfl) (.cons (.row rfl (z0s z0a (((S_merge_merger.mk s19 s20)).f_conflicts))) .nil))) (.cons .arr .nil)) ⟨rfl, rfl⟩⟩
 intro hc34 h
 refine z0g ?_
 refine cBx ?_
 refine bR ?_
 iterate 3 refine sX ?_
 refine sS rfl rfl rfl (z12 (cs := [(ofStr x1.2.1), (I64 x1.2.2.1), (PV.sl (some 5) 86 2 (List.map ofFld s17))]) zkl zfu rfl rfl rfl rfl) ?_
 refine sX ?_
 refine sS rfl rfl rfl (z15 Tryz.underlying70 rfl rfl rfl) ?_
 refine Z33 (s := ⟨_, _, _⟩) 6 154 (y := (ofV (V.record x1.2.1 x1.2.2.1 s17))) rfl rfl ((Wk.iface (Wk.pt (x := .agg [(ofStr x1.2.1), (I64 x1.2.2.1), (PV.sl (some 5) 86 2 (List.map ofFld s17))]) (y := zgy (Rec.mk x1.2.1 x1.2.2.1 s17)) (wkr (wkr (.cons Wk.tok .nil))))).trans (Wk.eq (zfp (some (Rec.mk x1.2.1 x1.2.2.1 s17))).symm)) ?_
 refine sS rfl rfl rfl (z12 (cs := [(ofV (V.record x1.2.1 x1.2.2.1 s17)), (BO true)]) z5r z1m rfl rfl (by simp only [List.all_cons, List.all_nil, z2l, z16, Bool.and_true, Bool.true_and]; try rfl) (by simp only [z2c, List.getElem?_cons_zero, List.getElem?_cons_succ, z0u, z0k]; rfl)) ?_
 refine z14 rfl rfl (z0y z1m rfl rfl rfl rfl rfl rfl (lbE rfl) (by show List.all [(ofV (V.record x1.2.1 x1.2.2.1 s17)), (BO true)] z45 = true; simp only [List.all_cons, List.all_nil, z3w, z1q, Bool.and_true, Bool.true_and]; try rfl)) ?_
 refine eX ?_
 obtain rfl := eI h; exact z06 ⟨_, rfl, endR (y := (PV.tup [(z09 (S_merge_side.mk (V.record x1.2.1 x1.2.2.1 s17) true)), (BO true)])) 2 (Wk.refl _) rfl rfl (.tup (.cons (.same (z0d (S_merge_side.mk (V.record x1.2.1 x1.2.2.1 s17) true))) (.cons (.same rfl) .nil))) (.cons (.box (.cons (.same rfl) (.cons (.row rfl (z0s z0a (((S_merge_merger.mk s19 s20)).f_conflicts))) .nil))) (.cons .arr .nil)) ⟨rfl, rfl⟩⟩
 refine z0l ?_
 iterate 3 refine sX ?_
 refine z0t (t := 56) rfl ?_ ?_
 intro hb35; replace h := z10 hb35 h
 iterate 2 refine nX ?_
 iterate 2 refine sX ?_
 iterate 2 refine nX ?_
 iterate 2 refine sX ?_
 iterate 3 refine nX ?_
 iterate 2 refine sX ?_
 iterate 3 refine nX ?_
 iterate 2 refine sX ?_
 iterate 3 refine nX ?_
 iterate 2 refine sX ?_
 iterate 3 refine nX ?_
 refine sX (z0h ?_)
 exact ⟨rfl, true, h, jN⟩
 intro hb35; replace h := z11 hb35 h
 iterate 2 refine yX ?_
 iterate 2 refine sX ?_
 refine z0t (t := 60) rfl ?_ ?_
 intro hb36; replace h := z10 hb36 h
 iterate 2 refine nX ?_
 iterate 2 refine sX ?_
 iterate 3 refine nX ?_
 iterate 2 refine sX ?_
 iterate 3 refine nX ?_
 iterate 2 refine sX ?_
 iterate 3 refine nX ?_
 iterate 2 refine sX ?_
 iterate 3 refine nX ?_
 refine sX (z0h ?_)
 exact ⟨rfl, true, h, jN⟩
 intro hb36; replace h := z11 hb36 h
 iterate 2 refine yX ?_
 iterate 2 refine sX ?_
 refine z0t (t := 64) rfl ?_ ?_
 intro hb37; replace h := z10 hb37 h
 iterate 3 refine nX ?_
 iterate 2 refine sX ?_
 iterate 3 refine nX ?_
 iterate 2 refine sX ?_
 iterate 3 refine nX ?_
 iterate 2 refine sX ?_
 iterate 3 refine nX ?_
 refine sX (z0h ?_)
 exact ⟨rfl, true, h, jN⟩
 intro hb37; replace h := z11 hb37 h
 iterate 2 refine yX ?_
 refine z23 rfl rfl rfl rfl rfl rfl ((z2r (a := x1.2.1) (b := x2.2.1) rfl rfl rfl rfl).cast (y := (BO ((!(x1.2.1 == x2.2.1))))) rfl rfl) ?_
 iterate 2 refine sX ?_
 refine z0t (t := 69) rfl ?_ ?_
 intro hb38; replace h := z10 hb38 h
 iterate 3 refine nX ?_
 iterate 2 refine sX ?_
 iterate 3 refine nX ?_
 iterate 2 refine sX ?_
 iterate 3 refine nX ?_
 refine sX (z0h ?_)
 exact ⟨rfl, true, h, jN⟩
 intro hb38; replace h := z11 hb38 h
 iterate 2 refine yX ?_
 refine z23 rfl rfl rfl rfl rfl rfl ((z2r (a := x1.2.1) (b := x3.2.1) rfl rfl rfl rfl).cast (y := (BO ((!(x1.2.1 == x3.2.1))))) rfl rfl) ?_
 iterate 2 refine sX ?_
 refine z0t (t := 74) rfl ?_ ?_
 intro hb39; replace h := z10 hb39 h
 iterate 3 refine nX ?_
 iterate 2 refine sX ?_
 iterate 3 refine nX ?_
 refine sX (z0h ?_)
 exact ⟨rfl, true, h, jN⟩
 intro hb39; replace h := z11 hb39 h
 iterate 3 refine yX ?_
 iterate 2 refine sX ?_
 refine z0t (t := 79) rfl ?_ ?_
 intro hb40; replace h := z10 hb40 h
 iterate 3 refine nX ?_
 refine sX (z0h ?_)
 exact ⟨rfl, true, h, jN⟩
 intro hb40; replace h := z11 hb40 h
 iterate 3 refine yX ?_
 refine sX (z0h ?_)
 exact ⟨rfl, (x1.2.2.1 != x3.2.2.1), h, jN⟩
theorem za7 (r_q0h : S_merge_merger → (List S_api_Step) → V → V → V → Option (S_merge_side × Bool × S_merge_merger)) (c_q0h : ∀ (a0 : S_merge_merger) (a1 : (List S_api_Step)) (a2 : V) (a3 : V) (a4 : V) r, r_q0h a0 a1 a2 a3 a4 = some r → z2t Tryz.prog 88 [(PV.rf 0 0), (PV.sl none 82 3 (List.map z01 a1)), (ofV a2), (ofV a3), (ofV a4)] [.box 121 [(PV.v .nilFunc), (PV.sl (some 1) 88 7 (List.map z03 a0.f_conflicts))], .arr 88 (a0.f_conflicts).length] (PV.tup [(z09 r.1), (BO r.2.1)]) [.box 121 [(PV.v .nilFunc), (PV.sl (some 1) 88 7 (List.map z03 (r.2.2).f_conflicts))], .arr 88 ((r.2.2).f_conflicts).length]) (r_q0g : S_merge_merger → (List S_api_Step) → V → V → V → Option (S_merge_side × Bool × S_merge_merger)) (c_q0g : ∀ (a0 : S_merge_merger) (a1 : (List S_api_Step)) (a2 : V) (a3 : V) (a4 : V) r, r_q0g a0 a1 a2 a3 a4 = some r → z2t Tryz.prog 87 [(PV.rf 0 0), (PV.sl none 82 3 (List.map z01 a1)), (ofV a2), (ofV a3), (ofV a4)] [.box 121 [(PV.v .nilFunc), (PV.sl (some 1) 88 7 (List.map z03 a0.f_conflicts))], .arr 88 (a0.f_conflicts).length] (PV.tup [(z09 r.1), (BO r.2.1)]) [.box 121 [(PV.v .nilFunc), (PV.sl (some 1) 88 7 (List.map z03 (r.2.2).f_conflicts))], .arr 88 ((r.2.2).f_conflicts).length]) (r_q0m : S_merge_merger → (List S_api_Step) → S_merge_side → S_merge_side → S_merge_side → Option (S_merge_side × S_merge_merger)) (c_q0m : ∀ (a0 : S_merge_merger) (a1 : (List S_api_Step)) (a2 : S_merge_side) (a3 : S_merge_side) (a4 : S_merge_side) r, r_q0m a0 a1 a2 a3 a4 = some r → z2t Tryz.prog 49 [(PV.rf 0 0), (PV.sl none 82 3 (List.map z01 a1)), (z09 a2), (z09 a3), (z09 a4)] [.box 121 [(PV.v .nilFunc), (PV.sl (some 1) 88 7 (List.map z03 a0.f_conflicts))], .arr 88 (a0.f_conflicts).length] (z09 r.1) [.box 121 [(PV.v .nilFunc), (PV.sl (some 1) 88 7 (List.map z03 (r.2).f_conflicts))], .arr 88 ((r.2).f_conflicts).length]) (a0 : S_merge_merger) (a1 : (List S_api_Step)) (a2 a3 a4 : S_merge_side) (r : (S_merge_side × S_merge_merger)) (h : zez r_q0h r_q0g r_q0m a0 a1 a2 a3 a4 = some r) : z2t Tryz.prog 49 [(PV.rf 0 0), (PV.sl none 82 3 (List.map z01 a1)), (z09 a2), (z09 a3), (z09 a4)] [.box 121 [(PV.v .nilFunc), (PV.sl (some 1) 88 7 (List.map z03 a0.f_conflicts))], .arr 88 (a0.f_conflicts).length] (z09 r.1) [.box 121 [(PV.v .nilFunc), (PV.sl (some 1) 88 7 (List.map z03 (r.2).f_conflicts))], .arr 88 ((r.2).f_conflicts).length] := by
 unfold zez at h
 refine z0j Tryz.func49 rfl Tryz.ntmps49 Tryz.results49 rfl (z0n ?_)
 change BW _ _ _ ⟨[(0, (PV.rf 0 0)), (1, (PV.sl none 82 3 (List.map z01 a1))), (2, (z09 a2)), (3, (z09 a3)), (4, (z09 a4))], [.box 121 [(PV.v .nilFunc), (PV.sl (some 1) 88 7 (List.map z03 a0.f_conflicts))], .arr 88 (a0.f_conflicts).length], _⟩ _
 refine bR ?_
 iterate 3 refine sX ?_
 refine sS rfl rfl rfl ((z1h z1m rfl).cast (H'' := [.box 121 [(PV.v .nilFunc), (PV.sl (some 1) 88 7 (List.map z03 a0.f_conflicts))], .arr 88 (a0.f_conflicts).length, .box 125 [(ofV a2.f_v), (BO a2.f_has)], .box 125 [(ofV a3.f_v), (BO a3.f_has)], .box 125 [(ofV a4.f_v), (BO a4.f_has)], .box 125 [(ofV V.nil), (BO false)]]) rfl (by simp only [mk_nil]; rfl)) (z0h ?_)
 refine cBx ?_
 refine z0f ?_
 refine z0o ?_
 refine cBx ?_
 refine z2e (ι := Bool) (fun i => z9p r_q0h r_q0g a0 a1 a2 a3 a4 i = some r) (fun i => [(0, (PV.rf 0 0)), (1, (PV.sl none 82 3 (List.map z01 a1))), (7, (PV.rf 2 0)), (8, (PV.rf 3 0)), (9, (PV.rf 4 0)), (10, (PV.rf 5 0)), (15, (BO i))]) (fun i => [.box 121 [(PV.v .nilFunc), (PV.sl (some 1) 88 7 (List.map z03 a0.f_conflicts))], .arr 88 (a0.f_conflicts).length, .box 125 [(ofV a2.f_v), (BO a2.f_has)], .box 125 [(ofV a3.f_v), (BO a3.f_has)], .box 125 [(ofV a4.f_v), (BO a4.f_has)], .box 125 [(ofV V.nil), (BO false)]]) ?_ ?_ ?_
 intro i; exact ⟨lbE rfl, ⟨(il_rf rfl), ⟨(z07 (z05 z02 _)), ⟨(il_rf rfl), ⟨(il_rf rfl), ⟨(il_rf rfl), ⟨(il_rf rfl), ⟨(z07 rfl), trivial⟩⟩⟩⟩⟩⟩⟩, ⟨⟨(z07 rfl), ⟨(z2x rfl (z0s z0a _)), trivial⟩⟩, ⟨⟨(z07 (ids_V _)), ⟨(z07 rfl), trivial⟩⟩, ⟨⟨(z07 (ids_V _)), ⟨(z07 rfl), trivial⟩⟩, ⟨⟨(z07 (ids_V _)), ⟨(z07 rfl), trivial⟩⟩, ⟨⟨(z07 (ids_V _)), ⟨(z07 rfl), trivial⟩⟩, trivial⟩⟩⟩⟩⟩⟩
 rintro s1 h; replace h : z9p r_q0h r_q0g a0 a1 a2 a3 a4 s1 = some r := h; unfold z9p at h
 change BW _ _ _ ⟨[(0, (PV.rf 0 0)), (1, (PV.sl none 82 3 (List.map z01 a1))), (7, (PV.rf 2 0)), (8, (PV.rf 3 0)), (9, (PV.rf 4 0)), (10, (PV.rf 5 0)), (15, (BO s1))], [.box 121 [(PV.v .nilFunc), (PV.sl (some 1) 88 7 (List.map z03 a0.f_conflicts))], .arr 88 (a0.f_conflicts).length, .box 125 [(ofV a2.f_v), (BO a2.f_has)], .box 125 [(ofV a3.f_v), (BO a3.f_has)], .box 125 [(ofV a4.f_v), (BO a4.f_has)], .box 125 [(ofV V.nil), (BO false)]], _⟩ _
 refine cX h rfl ?_ ?_
 intro hc2 h
 refine bR ?_
 refine sX ?_
 refine z14 rfl rfl (z0y z1m rfl rfl rfl rfl rfl rfl (lbE rfl) (by show List.all [(ofV a3.f_v), (BO a3.f_has)] z45 = true; simp only [List.all_cons, List.all_nil, z3w, z1q, Bool.and_true, Bool.true_and]; try rfl)) ?_
 refine z0h ?_
 refine cBx ?_
 obtain rfl := eI h; exact z06 ⟨_, rfl, endR (y := (z09 a3)) 2 (Wk.refl _) rfl rfl (.same (z0d a3)) (.cons (.box (.cons (.same rfl) (.cons (.row rfl (z0s z0a a0.f_conflicts)) .nil))) (.cons .arr .nil)) ⟨rfl, rfl⟩⟩
 intro hc2 h
 refine bR ?_
 iterate 2 refine sX ?_
 obtain ⟨x3, hx3, h⟩ := obind h
 refine sS rfl rfl rfl (z08 rfl Z29 rfl (wkr (wkr .nil)) ⟨(z0d a3), ⟨(z0d a2), trivial⟩⟩ (Z0i a3 a2 x3 hx3) rfl) ?_
 refine eX ?_
 refine cX h rfl ?_ ?_
 intro hc4 h
 refine bR ?_
 refine sX ?_
 refine z14 rfl rfl (z0y z1m rfl rfl rfl rfl rfl rfl (lbE rfl) (by show List.all [(ofV a4.f_v), (BO a4.f_has)] z45 = true; simp only [List.all_cons, List.all_nil, z3w, z1q, Bool.and_true, Bool.true_and]; try rfl)) ?_
 refine z0h ?_
 refine cBx ?_
 obtain rfl := eI h; exact z06 ⟨_, rfl, endR (y := (z09 a4)) 2 (Wk.refl _) rfl rfl (.same (z0d a4)) (.cons (.box (.cons (.same rfl) (.cons (.row rfl (z0s z0a a0.f_conflicts)) .nil))) (.cons .arr .nil)) ⟨rfl, rfl⟩⟩
 intro hc4 h
 refine z0g ?_
 refine cBx ?_
 refine z2e (ι := (Unit × (List S_api_Conflict))) (fun i => zdw a1 a2 a3 a4 i.1 i.2 = some r) (fun i => [(0, (PV.rf 0 0)), (1, (PV.sl none 82 3 (List.map z01 a1))), (7, (PV.rf 2 0)), (8, (PV.rf 3 0)), (9, (PV.rf 4 0)), (10, (PV.rf 5 0))]) (fun i => [.box 121 [(PV.v .nilFunc), (PV.sl (some 1) 88 7 (List.map z03 i.2))], .arr 88 (i.2).length, .box 125 [(ofV a2.f_v), (BO a2.f_has)], .box 125 [(ofV a3.f_v), (BO a3.f_has)], .box 125 [(ofV a4.f_v), (BO a4.f_has)], .box 125 [(ofV V.nil), (BO false)]]) ?_ ?_ ?_
 intro i; exact ⟨lbE rfl, ⟨(il_rf rfl), ⟨(z07 (z05 z02 _)), ⟨(il_rf rfl), ⟨(il_rf rfl), ⟨(il_rf rfl), ⟨(il_rf rfl), trivial⟩⟩⟩⟩⟩⟩, ⟨⟨(z07 rfl), ⟨(z2x rfl (z0s z0a _)), trivial⟩⟩, ⟨⟨(z07 (ids_V _)), ⟨(z07 rfl), trivial⟩⟩, ⟨⟨(z07 (ids_V _)), ⟨(z07 rfl), trivial⟩⟩, ⟨⟨(z07 (ids_V _)), ⟨(z07 rfl), trivial⟩⟩, ⟨⟨(z07 (ids_V _)), ⟨(z07 rfl), trivial⟩⟩, trivial⟩⟩⟩⟩⟩⟩
 rintro ⟨s5, s6⟩ h; replace h : zdw a1 a2 a3 a4 s5 s6 = some r := h; unfold zdw at h
 change BW _ _ _ ⟨[(0, (PV.rf 0 0)), (1, (PV.sl none 82 3 (List.map z01 a1))), (7, (PV.rf 2 0)), (8, (PV.rf 3 0)), (9, (PV.rf 4 0)), (10, (PV.rf 5 0))], [.box 121 [(PV.v .nilFunc), (PV.sl (some 1) 88 7 (List.map z03 s6))], .arr 88 (s6).length, .box 125 [(ofV a2.f_v), (BO a2.f_has)], .box 125 [(ofV a3.f_v), (BO a3.f_has)], .box 125 [(ofV a4.f_v), (BO a4.f_has)], .box 125 [(ofV V.nil), (BO false)]], _⟩ _
 refine bR ?_
 iterate 5 refine sX ?_
 obtain ⟨x7, hx7, h⟩ := obind h
 refine sS rfl rfl rfl (z2i [0, 1] (.func rfl) Z88 rfl (wkr (wkr (wkr (wkr (wkr .nil))))) rfl (.cons rfl (.box (.cons (.same rfl) (.cons (.row rfl (z0s z0a (((S_merge_merger.mk s5 s6)).f_conflicts))) .nil))) (.cons rfl .arr .nil)) (.cons (.rf rfl) (.cons (.same (z05 z02 a1)) (.cons (.same (z0d a2)) (.cons (.same (z0d a3)) (.cons (.same (z0d a4)) .nil))))) (Z7m (S_merge_merger.mk s5 s6) a1 a2 a3 a4 x7 hx7) (.same (z0d x7.1)) (.cons (.box (.cons (.same rfl) (.cons (.row rfl (z0s z0a ((x7.2).f_conflicts))) .nil))) (.cons .arr .nil)) rfl) ?_
 refine z14 rfl rfl (z0y z1m rfl rfl rfl rfl rfl rfl (lbE rfl) (by show List.all [(ofV (x7.1).f_v), (BO ((x7.1).f_has))] z45 = true; simp only [List.all_cons, List.all_nil, z3w, z1q, Bool.and_true, Bool.true_and]; try rfl)) ?_
 refine z0h ?_
 refine cBx ?_
 obtain rfl := eI h; exact z06 ⟨_, rfl, endR (y := (z09 (x7.1))) 2 (Wk.refl _) rfl rfl (.same (z0d (x7.1))) (.cons (.box (.cons (.same rfl) (.cons (.row rfl (z0s z0a (((x7.2)).f_conflicts))) .nil))) (.cons .arr .nil)) ⟨rfl, rfl⟩⟩
 refine z2e (ι := Bool) (fun i => z4w r_q0h r_q0g a0 a1 a2 a3 a4 i = some r) (fun i => [(0, (PV.rf 0 0)), (1, (PV.sl none 82 3 (List.map z01 a1))), (7, (PV.rf 2 0)), (8, (PV.rf 3 0)), (9, (PV.rf 4 0)), (10, (PV.rf 5 0)), (39, (BO i))]) (fun i => [.box 121 [(PV.v .nilFunc), (PV.sl (some 1) 88 7 (List.map z03 a0.f_conflicts))], .arr 88 (a0.f_conflicts).length, .box 125 [(ofV a2.f_v), (BO a2.f_has)], .box 125 [(ofV a3.f_v), (BO a3.f_has)], .box 125 [(ofV a4.f_v), (BO a4.f_has)], .box 125 [(ofV V.nil), (BO false)]]) ?_ ?_ ?_
 intro i; exact ⟨lbE rfl, ⟨(il_rf rfl), ⟨(z07 (z05 z02 _)), ⟨(il_rf rfl), ⟨(il_rf rfl), ⟨(il_rf rfl), ⟨(il_rf rfl), ⟨(z07 rfl), trivial⟩⟩⟩⟩⟩⟩⟩, ⟨⟨(z07 rfl), ⟨(z2x rfl (z0s z0a _)), trivial⟩⟩, ⟨⟨(z07 (ids_V _)), ⟨(z07 rfl), trivial⟩⟩, ⟨⟨(z07 (ids_V _)), ⟨(z07 rfl), trivial⟩⟩, ⟨⟨(z07 (ids_V _)), ⟨(z07 rfl), trivial⟩⟩, ⟨⟨(z07 (ids_V _)), ⟨(z07 rfl), trivial⟩⟩, trivial⟩⟩⟩⟩⟩⟩
 rintro s8 h; replace h : z4w r_q0h r_q0g a0 a1 a2 a3 a4 s8 = some r := h; unfold z4w at h
 change BW _ _ _ ⟨[(0, (PV.rf 0 0)), (1, (PV.sl none 82 3 (List.map z01 a1))), (7, (PV.rf 2 0)), (8, (PV.rf 3 0)), (9, (PV.rf 4 0)), (10, (PV.rf 5 0)), (39, (BO s8))], [.box 121 [(PV.v .nilFunc), (PV.sl (some 1) 88 7 (List.map z03 a0.f_conflicts))], .arr 88 (a0.f_conflicts).length, .box 125 [(ofV a2.f_v), (BO a2.f_has)], .box 125 [(ofV a3.f_v), (BO a3.f_has)], .box 125 [(ofV a4.f_v), (BO a4.f_has)], .box 125 [(ofV V.nil), (BO false)]], _⟩ _
 refine cX h rfl ?_ ?_
 intro hc9 h
 refine z0f ?_
 refine bR ?_
 iterate 8 refine sX ?_
 obtain ⟨x10, hx10, h⟩ := obind h
 refine sS rfl rfl rfl (z2i [0, 1] (.func rfl) Z8a rfl (wkr (wkr (wkr (wkr (wkr .nil))))) rfl (.cons rfl (.box (.cons (.same rfl) (.cons (.row rfl (z0s z0a a0.f_conflicts)) .nil))) (.cons rfl .arr .nil)) (.cons (.rf rfl) (.cons (.same (z05 z02 a1)) (.cons (.same (ids_V a2.f_v)) (.cons (.same (ids_V a3.f_v)) (.cons (.same (ids_V a4.f_v)) .nil))))) (c_q0g a0 a1 a2.f_v a3.f_v a4.f_v x10 hx10) (.same (z00 (z0d x10.1) (z00 rfl z04))) (.cons (.box (.cons (.same rfl) (.cons (.row rfl (z0s z0a ((x10.2.2).f_conflicts))) .nil))) (.cons .arr .nil)) rfl) ?_
 iterate 3 refine sX ?_
 refine sS rfl rfl rfl ((z1h z1m rfl).cast (H'' := [.box 121 [(PV.v .nilFunc), (PV.sl (some 1) 88 7 (List.map z03 (x10.2.2).f_conflicts))], .arr 88 ((x10.2.2).f_conflicts).length, .box 125 [(ofV a2.f_v), (BO a2.f_has)], .box 125 [(ofV a3.f_v), (BO a3.f_has)], .box 125 [(ofV a4.f_v), (BO a4.f_has)], .box 125 [(ofV V.nil), (BO false)], .box 125 [(ofV V.nil), (BO false)]]) rfl (by simp only [mk_nil]; rfl)) ?_
 refine z14 rfl rfl (z0y z1m rfl rfl rfl rfl rfl rfl (lbE rfl) (by show List.all [(ofV (x10.1).f_v), (BO ((x10.1).f_has))] z45 = true; simp only [List.all_cons, List.all_nil, z3w, z1q, Bool.and_true, Bool.true_and]; try rfl)) ?_
 refine eX ?_
 refine bR ?_
 refine eX ?_
 refine cX h rfl ?_ ?_
 intro hc11 h
 refine bR ?_
 refine sX ?_
 refine z14 rfl rfl (z0y z1m rfl rfl rfl rfl rfl rfl (lbE rfl) (by show List.all [(ofV (x10.1).f_v), (BO ((x10.1).f_has))] z45 = true; simp only [List.all_cons, List.all_nil, z3w, z1q, Bool.and_true, Bool.true_and]; try rfl)) ?_
 refine z0h ?_
 refine cBx ?_
 obtain rfl := eI h; exact z06 ⟨_, rfl, endR (y := (z09 (x10.1))) 2 (Wk.refl _) rfl rfl (.same (z0d (x10.1))) (.cons (.box (.cons (.same rfl) (.cons (.row rfl (z0s z0a (((x10.2.2)).f_conflicts))) .nil))) (.cons .arr .nil)) ⟨rfl, rfl⟩⟩
 intro hc11 h
 refine z0g ?_
 refine cBx ?_
 refine bR ?_
 iterate 8 refine sX ?_
 obtain ⟨x12, hx12, h⟩ := obind h
 refine sS rfl rfl rfl (z2i [0, 1] (.func rfl) Z89 rfl (wkr (wkr (wkr (wkr (wkr .nil))))) rfl (.cons rfl (.box (.cons (.same rfl) (.cons (.row rfl (z0s z0a (((x10.2.2)).f_conflicts))) .nil))) (.cons rfl .arr .nil)) (.cons (.rf rfl) (.cons (.same (z05 z02 a1)) (.cons (.same (ids_V a2.f_v)) (.cons (.same (ids_V a3.f_v)) (.cons (.same (ids_V a4.f_v)) .nil))))) (c_q0h (x10.2.2) a1 a2.f_v a3.f_v a4.f_v x12 hx12) (.same (z00 (z0d x12.1) (z00 rfl z04))) (.cons (.box (.cons (.same rfl) (.cons (.row rfl (z0s z0a ((x12.2.2).f_conflicts))) .nil))) (.cons .arr .nil)) rfl) ?_
 iterate 3 refine sX ?_
 refine sS rfl rfl rfl ((z1h z1m rfl).cast (H'' := [.box 121 [(PV.v .nilFunc), (PV.sl (some 1) 88 7 (List.map z03 (x12.2.2).f_conflicts))], .arr 88 ((x12.2.2).f_conflicts).length, .box 125 [(ofV a2.f_v), (BO a2.f_has)], .box 125 [(ofV a3.f_v), (BO a3.f_has)], .box 125 [(ofV a4.f_v), (BO a4.f_has)], .box 125 [(ofV V.nil), (BO false)], .box 125 [(ofV (x10.1).f_v), (BO ((x10.1).f_has))], .box 125 [(ofV V.nil), (BO false)]]) rfl (by simp only [mk_nil]; rfl)) ?_
 refine z14 rfl rfl (z0y z1m rfl rfl rfl rfl rfl rfl (lbE rfl) (by show List.all [(ofV (x12.1).f_v), (BO ((x12.1).f_has))] z45 = true; simp only [List.all_cons, List.all_nil, z3w, z1q, Bool.and_true, Bool.true_and]; try rfl)) ?_
 refine eX ?_
 refine bR ?_
 refine eX ?_
 refine cX h rfl ?_ ?_
 intro hc13 h
 refine bR ?_
 refine sX ?_
 refine z14 rfl rfl (z0y z1m rfl rfl rfl rfl rfl rfl (lbE rfl) (by show List.all [(ofV (x12.1).f_v), (BO ((x12.1).f_has))] z45 = true; simp only [List.all_cons, List.all_nil, z3w, z1q, Bool.and_true, Bool.true_and]; try rfl)) ?_
 refine z0h ?_
 refine cBx ?_
 obtain rfl := eI h; exact z06 ⟨_, rfl, endR (y := (z09 (x12.1))) 2 (Wk.refl _) rfl rfl (.same (z0d (x12.1))) (.cons (.box (.cons (.same rfl) (.cons (.row rfl (z0s z0a (((x12.2.2)).f_conflicts))) .nil))) (.cons .arr .nil)) ⟨rfl, rfl⟩⟩
 intro hc13 h
 refine z0g ?_
 exact ⟨rfl, ((x12.2.2).f_settle, (x12.2.2).f_conflicts), h, jN⟩
 intro hc9 h
 refine z0g ?_
 exact ⟨rfl, (a0.f_settle, a0.f_conflicts), h, jN⟩
 refine z0l ?_
 iterate 3 refine sX ?_
 refine z0t (t := 32) rfl ?_ ?_
 intro hb14; replace h := z10 hb14 h
 iterate 2 refine yX ?_
 iterate 2 refine sX ?_
 refine z0t (t := 36) rfl ?_ ?_
 intro hb15; replace h := z10 hb15 h
 iterate 2 refine yX ?_
 refine sX (z0h ?_)
 exact ⟨rfl, a4.f_has, h, jN⟩
 intro hb15; replace h := z11 hb15 h
 iterate 2 refine nX ?_
 refine sX (z0h ?_)
 exact ⟨rfl, false, h, jN⟩
 intro hb14; replace h := z11 hb14 h
 iterate 2 refine nX ?_
 iterate 2 refine sX ?_
 iterate 2 refine nX ?_
 refine sX (z0h ?_)
 exact ⟨rfl, false, h, jN⟩
 refine z0l ?_
 iterate 2 refine sX ?_
 obtain ⟨x16, hx16, h⟩ := obind h
 refine sS rfl rfl rfl (z08 rfl Z29 rfl (wkr (wkr .nil)) ⟨(z0d a3), ⟨(z0d a4), trivial⟩⟩ (Z0i a3 a4 x16 hx16) rfl) ?_
 refine sX ?_
 refine z0t (t := 19) rfl ?_ ?_
 intro hb17; replace h := z10 hb17 h
 iterate 3 refine nX ?_
 refine sX ?_
 refine sX (z0h ?_)
 exact ⟨rfl, true, h, jN⟩
 intro hb17; replace h := z11 hb17 h
 iterate 2 refine yX ?_
 obtain ⟨x18, hx18, h⟩ := obind h
 refine z23 rfl rfl rfl rfl rfl rfl (z08 rfl Z29 rfl (wkr (wkr .nil)) ⟨(z0d a4), ⟨(z0d a2), trivial⟩⟩ (Z0i a4 a2 x18 hx18) rfl) ?_
 refine sX ?_
 refine sX (z0h ?_)
 exact ⟨rfl, x18, h, jN⟩
theorem C_q0h.sound : ∀ (i : C_q0h) (r : i.R), z3q C_q0h.F i = some r → C_q0h.Q i r := by
 refine z50 (Φ := C_q0h.F) (Q := C_q0h.Q) ?_
 intro g hg i r h
 cases i with
 | k_q0h a0 a1 a2 a3 a4 => exact z9s (fun a0 a1 a2 a3 a4 => g (.k_q0h a0 a1 a2 a3 a4)) (fun a0 a1 a2 a3 a4 r hr => hg (.k_q0h a0 a1 a2 a3 a4) r hr) (fun a0 a1 a2 a3 a4 => g (.k_q0g a0 a1 a2 a3 a4)) (fun a0 a1 a2 a3 a4 r hr => hg (.k_q0g a0 a1 a2 a3 a4) r hr) (fun a0 a1 a2 a3 a4 => g (.k_q0m a0 a1 a2 a3 a4)) (fun a0 a1 a2 a3 a4 r hr => hg (.k_q0m a0 a1 a2 a3 a4) r hr) a0 a1 a2 a3 a4 r h
 | k_q0g a0 a1 a2 a3 a4 => exact z8a (fun a0 a1 a2 a3 a4 => g (.k_q0h a0 a1 a2 a3 a4)) (fun a0 a1 a2 a3 a4 r hr => hg (.k_q0h a0 a1 a2 a3 a4) r hr) (fun a0 a1 a2 a3 a4 => g (.k_q0g a0 a1 a2 a3 a4)) (fun a0 a1 a2 a3 a4 r hr => hg (.k_q0g a0 a1 a2 a3 a4) r hr) (fun a0 a1 a2 a3 a4 => g (.k_q0m a0 a1 a2 a3 a4)) (fun a0 a1 a2 a3 a4 r hr => hg (.k_q0m a0 a1 a2 a3 a4) r hr) a0 a1 a2 a3 a4 r h
 | k_q0m a0 a1 a2 a3 a4 => exact za7 (fun a0 a1 a2 a3 a4 => g (.k_q0h a0 a1 a2 a3 a4)) (fun a0 a1 a2 a3 a4 r hr => hg (.k_q0h a0 a1 a2 a3 a4) r hr) (fun a0 a1 a2 a3 a4 => g (.k_q0g a0 a1 a2 a3 a4)) (fun a0 a1 a2 a3 a4 r hr => hg (.k_q0g a0 a1 a2 a3 a4) r hr) (fun a0 a1 a2 a3 a4 => g (.k_q0m a0 a1 a2 a3 a4)) (fun a0 a1 a2 a3 a4 r hr => hg (.k_q0m a0 a1 a2 a3 a4) r hr) a0 a1 a2 a3 a4 r h
theorem Z7k (a0 : S_merge_merger) (a1 : (List S_api_Step)) (a2 a3 a4 : S_merge_side) (r : (S_merge_side × S_merge_merger)) (h : z5b a0 a1 a2 a3 a4 = some r) : z2t Tryz.prog 49 [(PV.rf 0 0), (PV.sl none 82 3 (List.map z01 a1)), (z09 a2), (z09 a3), (z09 a4)] [.box 121 [(PV.v .nilFunc), (PV.sl (some 1) 88 7 (List.map z03 a0.f_conflicts))], .arr 88 (a0.f_conflicts).length] (z09 r.1) [.box 121 [(PV.v .nilFunc), (PV.sl (some 1) 88 7 (List.map z03 (r.2).f_conflicts))], .arr 88 ((r.2).f_conflicts).length] := C_q0h.sound (.k_q0m a0 a1 a2 a3 a4) r h
end Go.Proofs.YtmoijodjgkfhgaaGreat
