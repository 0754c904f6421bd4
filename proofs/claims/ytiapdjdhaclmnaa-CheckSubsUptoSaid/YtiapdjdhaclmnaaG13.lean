/- Pure functions, and that calls answer as they say. -/
import Derived.Test.YtiapdjdhaclmnaaG12
namespace Go.Proofs.Ytiapdjdhaclmnaa
open Go Aw
set_option linter.unusedVariables false
set_option maxRecDepth 20000
set_option maxHeartbeats 2000000
variable {ι : Type} {ρ : ι → Type}
noncomputable def z8n (a0 : Typ) (s1 s2 : Int) (s3 : Bool) (s4 : Int) (s5 : Nat) (s6 s7 : Str) (s8 : Int) (s9 : (List Term)) (s10 : (List (Str × Term))) (s11 : Str) (s12 : Int) (s13 : (List Str)) (s14 : (List Bool)) (s15 : Bool) (s16 : Str) (s17 : (List Typ)) : Option Typ :=
 some (Typ.mk a0.kind s1 (Term.mk s2 s3 s4 s5 s6 s7 s8 s9 s10 s11 s12) s17 s13 s14 s15 s16)
noncomputable def z67 (r_q1e : Typ → Option Typ) (a0 : Typ) (s1 s2 : Int) (s3 : Bool) (s4 : Int) (s5 : Nat) (s6 s7 : Str) (s8 : Int) (s9 : (List Term)) (s10 : (List (Str × Term))) (s11 : Str) (s12 : Int) (s13 : (List Str)) (s14 : (List Bool)) (s15 : Bool) (s16 : Str) (g1 : Nat → (List Typ) → Option Typ) (s20 : Nat) (s21 : (List Typ)) : Option Typ :=
 bif (decide (((s20 : Nat) : Int) < (((a0.parts).length : Nat) : Int))) then (
 ((a0.parts)[s20]?).bind fun x24 =>
 (r_q1e x24).bind fun x25 =>
 (z9f 264 s21 ([x25] : (List Typ))).bind fun x26 =>
 g1 (s20 + 1) x26
 ) else (
 z8n a0 s1 s2 s3 s4 s5 s6 s7 s8 s9 s10 s11 s12 s13 s14 s15 s16 s21
 )
theorem zcb (r_q1e : OF ρ → Typ → Option Typ) (h_r_q1e : ∀ y0, CM (fun G => r_q1e G y0)) (g1 : OF ρ → Nat → (List Typ) → Option Typ) (h_g1 : ∀ y0 y1, CM (fun G => g1 G y0 y1)) (a0 : Typ) (s1 s2 : Int) (s3 : Bool) (s4 : Int) (s5 : Nat) (s6 s7 : Str) (s8 : Int) (s9 : (List Term)) (s10 : (List (Str × Term))) (s11 : Str) (s12 : Int) (s13 : (List Str)) (s14 : (List Bool)) (s15 : Bool) (s16 : Str) (s20 : Nat) (s21 : (List Typ)) : CM (fun G : OF ρ => z67 (r_q1e G) a0 s1 s2 s3 s4 s5 s6 s7 s8 s9 s10 s11 s12 s13 s14 s15 s16 (g1 G) s20 s21) := by
 simp only [z67]
 repeat (first | exact z01 | exact h_r_q1e _ | exact h_g1 _ _ | apply q1e_j2_cm | refine z0h ?_ ?_ | refine z0i ?_ (fun _ => ?_) | intro _ | assumption)
noncomputable def zhf (r_q1e : Typ → Option Typ) (a0 : Typ) (s1 s2 : Int) (s3 : Bool) (s4 : Int) (s5 : Nat) (s6 s7 : Str) (s8 : Int) (s9 : (List Term)) (s10 : (List (Str × Term))) (s11 : Str) (s12 : Int) (s13 : (List Str)) (s14 : (List Bool)) (s15 : Bool) (s16 : Str) (s20 : Nat) (s21 : (List Typ)) : Option Typ :=
 z22 (ι := (Nat × (List Typ))) (ρ := fun _ => Typ) (fun g i => z67 r_q1e a0 s1 s2 s3 s4 s5 s6 s7 s8 s9 s10 s11 s12 s13 s14 s15 s16 (fun s20 s21 => g (s20, s21)) i.1 i.2) (s20, s21)
theorem zkt (r_q1e : Typ → Option Typ) (a0 : Typ) (s1 s2 : Int) (s3 : Bool) (s4 : Int) (s5 : Nat) (s6 s7 : Str) (s8 : Int) (s9 : (List Term)) (s10 : (List (Str × Term))) (s11 : Str) (s12 : Int) (s13 : (List Str)) (s14 : (List Bool)) (s15 : Bool) (s16 : Str) (s20 : Nat) (s21 : (List Typ)) : zhf r_q1e a0 s1 s2 s3 s4 s5 s6 s7 s8 s9 s10 s11 s12 s13 s14 s15 s16 s20 s21 = z67 r_q1e a0 s1 s2 s3 s4 s5 s6 s7 s8 s9 s10 s11 s12 s13 s14 s15 s16 (zhf r_q1e a0 s1 s2 s3 s4 s5 s6 s7 s8 s9 s10 s11 s12 s13 s14 s15 s16) s20 s21 :=
 z0t (ι := (Nat × (List Typ))) (ρ := fun _ => Typ) (Φ := fun g i => z67 r_q1e a0 s1 s2 s3 s4 s5 s6 s7 s8 s9 s10 s11 s12 s13 s14 s15 s16 (fun s20 s21 => g (s20, s21)) i.1 i.2) (fun i => zcb (ι := (Nat × (List Typ))) (ρ := fun _ => Typ) (fun _ => r_q1e) (fun _ => z01) (fun g => (fun s20 s21 => g (s20, s21))) (fun _ _ => z0s) a0 s1 s2 s3 s4 s5 s6 s7 s8 s9 s10 s11 s12 s13 s14 s15 s16 i.1 i.2) (s20, s21)
theorem zu8 (r_q1e : OF ρ → Typ → Option Typ) (h_r_q1e : ∀ y0, CM (fun G => r_q1e G y0)) (a0 : Typ) (s1 s2 : Int) (s3 : Bool) (s4 : Int) (s5 : Nat) (s6 s7 : Str) (s8 : Int) (s9 : (List Term)) (s10 : (List (Str × Term))) (s11 : Str) (s12 : Int) (s13 : (List Str)) (s14 : (List Bool)) (s15 : Bool) (s16 : Str) (s20 : Nat) (s21 : (List Typ)) : CM (fun G : OF ρ => zhf (r_q1e G) a0 s1 s2 s3 s4 s5 s6 s7 s8 s9 s10 s11 s12 s13 s14 s15 s16 s20 s21) :=
 z28 (κ := (Nat × (List Typ))) (τ := fun _ => Typ) (Φ := fun G g i => z67 (r_q1e G) a0 s1 s2 s3 s4 s5 s6 s7 s8 s9 s10 s11 s12 s13 s14 s15 s16 (fun s20 s21 => g (s20, s21)) i.1 i.2) (fun g i => zcb r_q1e h_r_q1e (fun _ => (fun s20 s21 => g (s20, s21))) (fun _ _ => z01) a0 s1 s2 s3 s4 s5 s6 s7 s8 s9 s10 s11 s12 s13 s14 s15 s16 i.1 i.2) (fun G i => zcb (ι := (Nat × (List Typ))) (ρ := fun _ => Typ) (fun _ => r_q1e G) (fun _ => z01) (fun g => (fun s20 s21 => g (s20, s21))) (fun _ _ => z0s) a0 s1 s2 s3 s4 s5 s6 s7 s8 s9 s10 s11 s12 s13 s14 s15 s16 i.1 i.2) (s20, s21)
noncomputable def z9l (r_q1e : Typ → Option Typ) (a0 : Typ) (s1 s2 : Int) (s3 : Bool) (s4 : Int) (s5 : Nat) (s6 s7 : Str) (s8 : Int) (s9 : (List Term)) (s10 : (List (Str × Term))) (s11 : Str) (s12 : Int) (s13 : (List Str)) (s14 : (List Bool)) (s15 : Bool) (s16 : Str) (s18 : Bool) : Option Typ :=
 bif s18 then (
 zhf r_q1e a0 s1 s2 s3 s4 s5 s6 s7 s8 s9 s10 s11 s12 s13 s14 s15 s16 0 ([])
 ) else (
 z8n a0 s1 s2 s3 s4 s5 s6 s7 s8 s9 s10 s11 s12 s13 s14 s15 s16 ([])
 )
theorem zu9 (r_q1e : OF ρ → Typ → Option Typ) (h_r_q1e : ∀ y0, CM (fun G => r_q1e G y0)) (a0 : Typ) (s1 s2 : Int) (s3 : Bool) (s4 : Int) (s5 : Nat) (s6 s7 : Str) (s8 : Int) (s9 : (List Term)) (s10 : (List (Str × Term))) (s11 : Str) (s12 : Int) (s13 : (List Str)) (s14 : (List Bool)) (s15 : Bool) (s16 : Str) (s18 : Bool) : CM (fun G : OF ρ => z9l (r_q1e G) a0 s1 s2 s3 s4 s5 s6 s7 s8 s9 s10 s11 s12 s13 s14 s15 s16 s18) := by
 simp only [z9l]
 repeat (first | exact z01 | exact h_r_q1e _ | apply q1e_j2_cm | apply zu8 | refine z0h ?_ ?_ | refine z0i ?_ (fun _ => ?_) | intro _ | assumption)
noncomputable def z5m (r_q1e : Typ → Option Typ) (a0 : Typ) (s1 s2 : Int) (s3 : Bool) (s4 : Int) (s5 : Nat) (s6 s7 : Str) (s8 : Int) (s9 : (List Term)) (s10 : (List (Str × Term))) (s11 : Str) (s12 : Int) (s13 : (List Str)) (s14 : (List Bool)) (s15 : Bool) (s16 : Str) : Option Typ :=
 bif (a0.kind == 5) then (
 z9l r_q1e a0 s1 s2 s3 s4 s5 s6 s7 s8 s9 s10 s11 s12 s13 s14 s15 s16 (a0.kind == 5)
 ) else (
 bif (a0.kind == 6) then (
 z9l r_q1e a0 s1 s2 s3 s4 s5 s6 s7 s8 s9 s10 s11 s12 s13 s14 s15 s16 (a0.kind == 6)
 ) else (
 z9l r_q1e a0 s1 s2 s3 s4 s5 s6 s7 s8 s9 s10 s11 s12 s13 s14 s15 s16 (a0.kind == 7)
 )
 )
theorem zua (r_q1e : OF ρ → Typ → Option Typ) (h_r_q1e : ∀ y0, CM (fun G => r_q1e G y0)) (a0 : Typ) (s1 s2 : Int) (s3 : Bool) (s4 : Int) (s5 : Nat) (s6 s7 : Str) (s8 : Int) (s9 : (List Term)) (s10 : (List (Str × Term))) (s11 : Str) (s12 : Int) (s13 : (List Str)) (s14 : (List Bool)) (s15 : Bool) (s16 : Str) : CM (fun G : OF ρ => z5m (r_q1e G) a0 s1 s2 s3 s4 s5 s6 s7 s8 s9 s10 s11 s12 s13 s14 s15 s16) := by
 simp only [z5m]
 repeat (first | exact z01 | exact h_r_q1e _ | apply zu9 | refine z0h ?_ ?_ | refine z0i ?_ (fun _ => ?_) | intro _ | assumption)
noncomputable def zoj (r_q1e : Typ → Option Typ) (a0 : Typ) : Option Typ :=
 bif (a0.kind == 3) then (
 z5m r_q1e a0 a0.of 0 false 0 0 ([]) ([]) 0 ([]) ([]) ([]) 0 ([]) ([]) false ([])
 ) else (
 bif (a0.kind == 4) then (
 (zgh (a0.only)).bind fun x31 =>
 (zvy x31.1).bind fun x32 =>
 z5m r_q1e a0 0 ((x32.1).kind) ((x32.1).bool) ((x32.1).int) ((x32.1).float) ((x32.1).text) ((x32.1).bytes) ((x32.1).ref) ((x32.1).list) ((x32.1).fields) ((x32.1).cls) ((x32.1).ver) ([]) ([]) false ([])
 ) else (
 bif (a0.kind == 8) then (
 z5m r_q1e a0 0 0 false 0 0 ([]) ([]) 0 ([]) ([]) ([]) 0 ([]) ([]) false a0.cls
 ) else (
 bif (a0.kind == 6) then (
 (zw8 a0.names).bind fun x35 =>
 (zw7 a0.lacks).bind fun x36 =>
 z5m r_q1e a0 0 0 false 0 0 ([]) ([]) 0 ([]) ([]) ([]) 0 x35 x36 a0.opn ([])
 ) else (
 z5m r_q1e a0 0 0 false 0 0 ([]) ([]) 0 ([]) ([]) ([]) 0 ([]) ([]) false ([])
 )
 )
 )
 )
theorem Z1l (r_q1e : OF ρ → Typ → Option Typ) (h_r_q1e : ∀ y0, CM (fun G => r_q1e G y0)) (a0 : Typ) : CM (fun G : OF ρ => zoj (r_q1e G) a0) := by
 simp only [zoj]
 repeat (first | exact z01 | exact h_r_q1e _ | apply zua | refine z0h ?_ ?_ | refine z0i ?_ (fun _ => ?_) | intro _ | assumption)
inductive C_q1e where
 | k_q1e (a0 : Typ)
def C_q1e.R : C_q1e → Type
 | .k_q1e _ => Typ
noncomputable def C_q1e.F (g : ∀ i : C_q1e, Option i.R) : ∀ i : C_q1e, Option i.R
 | .k_q1e a0 => zoj (fun a0 => g (.k_q1e a0)) a0
noncomputable def zcw (a0 : Typ) : Option Typ := z22 C_q1e.F (.k_q1e a0)
abbrev Zfq := fun (g : ∀ i : C_q1e, Option i.R) a0 => g (.k_q1e a0)
theorem Zfj (a0 : _) : CM (ρ := C_q1e.R) (fun g => g (C_q1e.k_q1e a0)) := z0s
theorem C_q1e.cm (i : C_q1e) : CM (fun g : (∀ i : C_q1e, Option i.R) => C_q1e.F g i) := by
 cases i with
 | k_q1e a0 => exact Z1l Zfq Zfj a0
theorem Zd8 (a0 : Typ) : zcw a0 = zoj zcw a0 := z0t C_q1e.cm (.k_q1e a0)
def C_q1e.Q : ∀ i : C_q1e, i.R → Prop
 | .k_q1e a0 => fun (r : Typ) => z08 Try.prog 44 [(PV.old (z02 a0))] (z02 r)
theorem ziy (r_q1e : Typ → Option Typ) (c_q1e : ∀ (a0 : Typ) r, r_q1e a0 = some r → z08 Try.prog 44 [(PV.old (z02 a0))] (z02 r)) (a0 r : Typ) (h : zoj r_q1e a0 = some r) : z08 Try.prog 44 [(PV.old (z02 a0))] (z02 r) := by
 unfold zoj at h
 refine z0g Try.func44 rfl Try.ntmps44 Try.results44 rfl (z0q ?_)
 change BW _ _ _ ⟨[(0, (PV.old (z02 a0)))], [], _⟩ _
 refine zy3 0 rfl (Wk.opened (cs := (cc4 a0)) (wko (wko (wko (wko (wko (wko (wko (wkr (wko (wkr (wkr (wko (wko (wkr (wkr (wkr (wko (wko .nil))))))))))))))))))) ?_
 refine bR ?_
 refine sX ?_
 refine sS rfl rfl rfl (z16 z0u rfl) (z06 ?_)
 refine cBx ?_
 refine bR ?_
 iterate 2 refine sX ?_
 refine sS rfl rfl rfl (z1x (cs := [(I64 a0.kind), (I64 0), (I64 0), (BO false), (I64 0), (PV.v (.float .f64 0)), (ofStr []), (PV.v (.slice none 0 0)), (PV.v (.int .u64 0)), (PV.v (.slice none 0 0)), (PV.v (.slice none 0 0)), (ofStr []), (I64 0), (PV.v (.slice none 0 0)), (PV.v (.slice none 0 0)), (PV.v (.slice none 0 0)), (BO false), (ofStr [])]) z5e z0u rfl rfl rfl rfl) ?_
 refine sS rfl rfl rfl (z16 z0u rfl) ?_
 refine z0m rfl rfl (z0d z0u rfl rfl rfl rfl rfl rfl (lbE rfl) rfl) ?_
 refine z06 ?_
 refine cBx ?_
 refine z37 (ι := (Int × Int × Bool × Int × Nat × Str × Str × Int × (List Term) × (List (Str × Term)) × Str × Int × (List Str) × (List Bool) × Bool × Str)) (fun i => z5m r_q1e a0 i.1 i.2.1 i.2.2.1 i.2.2.2.1 i.2.2.2.2.1 i.2.2.2.2.2.1 i.2.2.2.2.2.2.1 i.2.2.2.2.2.2.2.1 i.2.2.2.2.2.2.2.2.1 i.2.2.2.2.2.2.2.2.2.1 i.2.2.2.2.2.2.2.2.2.2.1 i.2.2.2.2.2.2.2.2.2.2.2.1 i.2.2.2.2.2.2.2.2.2.2.2.2.1 i.2.2.2.2.2.2.2.2.2.2.2.2.2.1 i.2.2.2.2.2.2.2.2.2.2.2.2.2.2.1 i.2.2.2.2.2.2.2.2.2.2.2.2.2.2.2 = some r) (fun i => [(1, (PV.rf 0 0)), (2, (PV.rf 1 0)), (3, (PV.rf 2 0))]) (fun i => [.box 34 (cc3 a0), .box 34 z5d, .box 34 [(I64 a0.kind), (I64 i.1), (I64 i.2.1), (BO i.2.2.1), (I64 i.2.2.2.1), (PV.v (.float .f64 i.2.2.2.2.1)), (ofStr i.2.2.2.2.2.1), (PV.sl none 5 1 (List.map ofB i.2.2.2.2.2.2.1)), (PV.v (.int .u64 i.2.2.2.2.2.2.2.1)), (PV.sl none 29 11 (List.map z0r i.2.2.2.2.2.2.2.2.1)), (PV.sl none 101 12 (List.map z0f i.2.2.2.2.2.2.2.2.2.1)), (ofStr i.2.2.2.2.2.2.2.2.2.2.1), (I64 i.2.2.2.2.2.2.2.2.2.2.2.1), (PV.v (.slice none 0 0)), (PV.sl none 9 1 (List.map ofStr i.2.2.2.2.2.2.2.2.2.2.2.2.1)), (PV.sl none 4 1 (List.map z17 i.2.2.2.2.2.2.2.2.2.2.2.2.2.1)), (BO i.2.2.2.2.2.2.2.2.2.2.2.2.2.2.1), (ofStr i.2.2.2.2.2.2.2.2.2.2.2.2.2.2.2)]]) ?_ ?_ ?_
 intro i; exact ⟨lbE rfl, ⟨(il_rf rfl), ⟨(il_rf rfl), ⟨(il_rf rfl), trivial⟩⟩⟩, ⟨⟨(z00 rfl), ⟨(z00 rfl), ⟨(z00 rfl), ⟨(z00 rfl), ⟨(z00 rfl), ⟨(z00 rfl), ⟨(z00 rfl), ⟨(z00 (z1e (z0c (fun _ => rfl) _))), ⟨(z00 rfl), ⟨(z00 (z1e (z0c z1p _))), ⟨(z00 (z1e (z0c z19 _))), ⟨(z00 rfl), ⟨(z00 rfl), ⟨(z00 (z1e (z0c z1m _))), ⟨(z00 (z1e (z0c (fun _ => rfl) _))), ⟨(z00 (z1e (z0c (fun _ => rfl) _))), ⟨(z00 rfl), ⟨(z00 rfl), trivial⟩⟩⟩⟩⟩⟩⟩⟩⟩⟩⟩⟩⟩⟩⟩⟩⟩⟩, ⟨⟨(z00 rfl), ⟨(z00 rfl), ⟨(z00 rfl), ⟨(z00 rfl), ⟨(z00 rfl), ⟨(z00 rfl), ⟨(z00 rfl), ⟨(z00 rfl), ⟨(z00 rfl), ⟨(z00 rfl), ⟨(z00 rfl), ⟨(z00 rfl), ⟨(z00 rfl), ⟨(z00 rfl), ⟨(z00 rfl), ⟨(z00 rfl), ⟨(z00 rfl), ⟨(z00 rfl), trivial⟩⟩⟩⟩⟩⟩⟩⟩⟩⟩⟩⟩⟩⟩⟩⟩⟩⟩, ⟨⟨(z00 rfl), ⟨(z00 rfl), ⟨(z00 rfl), ⟨(z00 rfl), ⟨(z00 rfl), ⟨(z00 rfl), ⟨(z00 rfl), ⟨(z00 (z0c (fun _ => rfl) _)), ⟨(z00 rfl), ⟨(z00 (z0c z1p _)), ⟨(z00 (z0c z19 _)), ⟨(z00 rfl), ⟨(z00 rfl), ⟨(z00 rfl), ⟨(z00 (z0c (fun _ => rfl) _)), ⟨(z00 (z0c (fun _ => rfl) _)), ⟨(z00 rfl), ⟨(z00 rfl), trivial⟩⟩⟩⟩⟩⟩⟩⟩⟩⟩⟩⟩⟩⟩⟩⟩⟩⟩, trivial⟩⟩⟩⟩
 rintro ⟨s1, s2, s3, s4, s5, s6, s7, s8, s9, s10, s11, s12, s13, s14, s15, s16⟩ h; replace h : z5m r_q1e a0 s1 s2 s3 s4 s5 s6 s7 s8 s9 s10 s11 s12 s13 s14 s15 s16 = some r := h; unfold z5m at h
 change BW _ _ _ ⟨[(1, (PV.rf 0 0)), (2, (PV.rf 1 0)), (3, (PV.rf 2 0))], [.box 34 (cc3 a0), .box 34 z5d, .box 34 [(I64 a0.kind), (I64 s1), (I64 s2), (BO s3), (I64 s4), (PV.v (.float .f64 s5)), (ofStr s6), (PV.sl none 5 1 (List.map ofB s7)), (PV.v (.int .u64 s8)), (PV.sl none 29 11 (List.map z0r s9)), (PV.sl none 101 12 (List.map z0f s10)), (ofStr s11), (I64 s12), (PV.v (.slice none 0 0)), (PV.sl none 9 1 (List.map ofStr s13)), (PV.sl none 4 1 (List.map z17 s14)), (BO s15), (ofStr s16)]], _⟩ _
 refine jX (ι := (List Typ)) (fun i => z8n a0 s1 s2 s3 s4 s5 s6 s7 s8 s9 s10 s11 s12 s13 s14 s15 s16 i = some r) (fun i => [(2, (PV.rf 1 0)), (3, (PV.rf 2 0))]) (fun i => [.dead, .box 34 z5d, .box 34 [(I64 a0.kind), (I64 s1), (I64 s2), (BO s3), (I64 s4), (PV.v (.float .f64 s5)), (ofStr s6), (PV.sl none 5 1 (List.map ofB s7)), (PV.v (.int .u64 s8)), (PV.sl none 29 11 (List.map z0r s9)), (PV.sl none 101 12 (List.map z0f s10)), (ofStr s11), (I64 s12), (PV.sl none 34 18 (List.map ofTyp i)), (PV.sl none 9 1 (List.map ofStr s13)), (PV.sl none 4 1 (List.map z17 s14)), (BO s15), (ofStr s16)]]) ?_ ?_
 rintro s17 h; replace h : z8n a0 s1 s2 s3 s4 s5 s6 s7 s8 s9 s10 s11 s12 s13 s14 s15 s16 s17 = some r := h; unfold z8n at h
 change BW _ _ _ ⟨[(2, (PV.rf 1 0)), (3, (PV.rf 2 0))], [.dead, .box 34 z5d, .box 34 [(I64 a0.kind), (I64 s1), (I64 s2), (BO s3), (I64 s4), (PV.v (.float .f64 s5)), (ofStr s6), (PV.sl none 5 1 (List.map ofB s7)), (PV.v (.int .u64 s8)), (PV.sl none 29 11 (List.map z0r s9)), (PV.sl none 101 12 (List.map z0f s10)), (ofStr s11), (I64 s12), (PV.sl none 34 18 (List.map ofTyp s17)), (PV.sl none 9 1 (List.map ofStr s13)), (PV.sl none 4 1 (List.map z17 s14)), (BO s15), (ofStr s16)]], _⟩ _
 refine bR ?_
 refine sX ?_
 refine z0m rfl rfl (z0d z0u rfl rfl rfl rfl rfl rfl (lbE rfl) rfl) ?_
 refine z06 ?_
 refine cBx ?_
 obtain rfl := eI h; exact z05 ⟨_, rfl, z1f (y := (z02 (Typ.mk a0.kind s1 (Term.mk s2 s3 s4 s5 s6 s7 s8 s9 s10 s11 s12) s17 s13 s14 s15 s16))) (Wk.refl _) (z0b (Typ.mk a0.kind s1 (Term.mk s2 s3 s4 s5 s6 s7 s8 s9 s10 s11 s12) s17 s13 s14 s15 s16)) ⟨rfl, rfl⟩⟩
 refine bR ?_
 refine sX ?_
 refine eX ?_
 refine z0e ?_
 refine cBx ?_
 refine z37 (ι := Bool) (fun i => z9l r_q1e a0 s1 s2 s3 s4 s5 s6 s7 s8 s9 s10 s11 s12 s13 s14 s15 s16 i = some r) (fun i => [(1, (PV.rf 0 0)), (2, (PV.rf 1 0)), (3, (PV.rf 2 0)), (52, (BO i))]) (fun i => [.box 34 (cc3 a0), .box 34 z5d, .box 34 [(I64 a0.kind), (I64 s1), (I64 s2), (BO s3), (I64 s4), (PV.v (.float .f64 s5)), (ofStr s6), (PV.sl none 5 1 (List.map ofB s7)), (PV.v (.int .u64 s8)), (PV.sl none 29 11 (List.map z0r s9)), (PV.sl none 101 12 (List.map z0f s10)), (ofStr s11), (I64 s12), (PV.v (.slice none 0 0)), (PV.sl none 9 1 (List.map ofStr s13)), (PV.sl none 4 1 (List.map z17 s14)), (BO s15), (ofStr s16)]]) ?_ ?_ ?_
 intro i; exact ⟨lbE rfl, ⟨(il_rf rfl), ⟨(il_rf rfl), ⟨(il_rf rfl), ⟨(z00 rfl), trivial⟩⟩⟩⟩, ⟨⟨(z00 rfl), ⟨(z00 rfl), ⟨(z00 rfl), ⟨(z00 rfl), ⟨(z00 rfl), ⟨(z00 rfl), ⟨(z00 rfl), ⟨(z00 (z1e (z0c (fun _ => rfl) _))), ⟨(z00 rfl), ⟨(z00 (z1e (z0c z1p _))), ⟨(z00 (z1e (z0c z19 _))), ⟨(z00 rfl), ⟨(z00 rfl), ⟨(z00 (z1e (z0c z1m _))), ⟨(z00 (z1e (z0c (fun _ => rfl) _))), ⟨(z00 (z1e (z0c (fun _ => rfl) _))), ⟨(z00 rfl), ⟨(z00 rfl), trivial⟩⟩⟩⟩⟩⟩⟩⟩⟩⟩⟩⟩⟩⟩⟩⟩⟩⟩, ⟨⟨(z00 rfl), ⟨(z00 rfl), ⟨(z00 rfl), ⟨(z00 rfl), ⟨(z00 rfl), ⟨(z00 rfl), ⟨(z00 rfl), ⟨(z00 rfl), ⟨(z00 rfl), ⟨(z00 rfl), ⟨(z00 rfl), ⟨(z00 rfl), ⟨(z00 rfl), ⟨(z00 rfl), ⟨(z00 rfl), ⟨(z00 rfl), ⟨(z00 rfl), ⟨(z00 rfl), trivial⟩⟩⟩⟩⟩⟩⟩⟩⟩⟩⟩⟩⟩⟩⟩⟩⟩⟩, ⟨⟨(z00 rfl), ⟨(z00 rfl), ⟨(z00 rfl), ⟨(z00 rfl), ⟨(z00 rfl), ⟨(z00 rfl), ⟨(z00 rfl), ⟨(z00 (z0c (fun _ => rfl) _)), ⟨(z00 rfl), ⟨(z00 (z0c z1p _)), ⟨(z00 (z0c z19 _)), ⟨(z00 rfl), ⟨(z00 rfl), ⟨(z00 rfl), ⟨(z00 (z0c (fun _ => rfl) _)), ⟨(z00 (z0c (fun _ => rfl) _)), ⟨(z00 rfl), ⟨(z00 rfl), trivial⟩⟩⟩⟩⟩⟩⟩⟩⟩⟩⟩⟩⟩⟩⟩⟩⟩⟩, trivial⟩⟩⟩⟩
 rintro s18 h; replace h : z9l r_q1e a0 s1 s2 s3 s4 s5 s6 s7 s8 s9 s10 s11 s12 s13 s14 s15 s16 s18 = some r := h; unfold z9l at h
 change BW _ _ _ ⟨[(1, (PV.rf 0 0)), (2, (PV.rf 1 0)), (3, (PV.rf 2 0)), (52, (BO s18))], [.box 34 (cc3 a0), .box 34 z5d, .box 34 [(I64 a0.kind), (I64 s1), (I64 s2), (BO s3), (I64 s4), (PV.v (.float .f64 s5)), (ofStr s6), (PV.sl none 5 1 (List.map ofB s7)), (PV.v (.int .u64 s8)), (PV.sl none 29 11 (List.map z0r s9)), (PV.sl none 101 12 (List.map z0f s10)), (ofStr s11), (I64 s12), (PV.v (.slice none 0 0)), (PV.sl none 9 1 (List.map ofStr s13)), (PV.sl none 4 1 (List.map z17 s14)), (BO s15), (ofStr s16)]], _⟩ _
 refine cX h rfl ?_ ?_
 intro hc19 h
 refine bR ?_
 iterate 2 refine sX ?_
 refine sS rfl rfl rfl (z23 (z4i Try.underlying30 rfl rfl) Sc.v) ?_
 refine eX ?_
 refine z0e ?_
 refine cBx ?_
 refine zbj (s := ⟨_, _, _⟩) 2 13 34 (sz := 18) rfl rfl rfl ?_
 unfold zhf at h
 refine z3c (σ := (Nat × (List Typ))) (fun i => [(2, (PV.rf 1 0)), (3, (PV.rf 2 0)), (57, (PV.old (PV.sl none 34 18 (List.map ofTyp a0.parts)))), (58, (I64 ((((a0.parts).length : Nat) : Int)))), (59, (I64 (((i.1 : Nat) : Int))))]) (fun i => [.dead, .box 34 z5d, .box 34 [(I64 a0.kind), (I64 s1), (I64 s2), (BO s3), (I64 s4), (PV.v (.float .f64 s5)), (ofStr s6), (PV.sl none 5 1 (List.map ofB s7)), (PV.v (.int .u64 s8)), (PV.sl none 29 11 (List.map z0r s9)), (PV.sl none 101 12 (List.map z0f s10)), (ofStr s11), (I64 s12), (PV.sl (some 3) 34 18 (List.map ofTyp i.2)), (PV.sl none 9 1 (List.map ofStr s13)), (PV.sl none 4 1 (List.map z17 s14)), (BO s15), (ofStr s16)], .arr 34 (i.2).length]) (0, []) h ?_ ?_ ?_
 intro i; exact ⟨lbE rfl, ⟨(il_rf rfl), ⟨(il_rf rfl), ⟨(z00 (z1e (z0c z1m _))), ⟨(z00 rfl), ⟨(z00 rfl), trivial⟩⟩⟩⟩⟩, ⟨⟨(z00 rfl), ⟨(z00 rfl), ⟨(z00 rfl), ⟨(z00 rfl), ⟨(z00 rfl), ⟨(z00 rfl), ⟨(z00 rfl), ⟨(z00 rfl), ⟨(z00 rfl), ⟨(z00 rfl), ⟨(z00 rfl), ⟨(z00 rfl), ⟨(z00 rfl), ⟨(z00 rfl), ⟨(z00 rfl), ⟨(z00 rfl), ⟨(z00 rfl), ⟨(z00 rfl), trivial⟩⟩⟩⟩⟩⟩⟩⟩⟩⟩⟩⟩⟩⟩⟩⟩⟩⟩, ⟨⟨(z00 rfl), ⟨(z00 rfl), ⟨(z00 rfl), ⟨(z00 rfl), ⟨(z00 rfl), ⟨(z00 rfl), ⟨(z00 rfl), ⟨(z00 (z0c (fun _ => rfl) _)), ⟨(z00 rfl), ⟨(z00 (z0c z1p _)), ⟨(z00 (z0c z19 _)), ⟨(z00 rfl), ⟨(z00 rfl), ⟨(z8b rfl (z3p z1m _)), ⟨(z00 (z0c (fun _ => rfl) _)), ⟨(z00 (z0c (fun _ => rfl) _)), ⟨(z00 rfl), ⟨(z00 rfl), trivial⟩⟩⟩⟩⟩⟩⟩⟩⟩⟩⟩⟩⟩⟩⟩⟩⟩⟩, trivial⟩⟩⟩
 exact ⟨(.cons .dead (.cons .same (.cons .same (.cons .same .nil)))), (sC rfl (sC rfl (sC rfl (sC rfl (sC rfl z1i)))))⟩
 rintro g1_f ⟨s20, s21⟩ h; replace h : z67 r_q1e a0 s1 s2 s3 s4 s5 s6 s7 s8 s9 s10 s11 s12 s13 s14 s15 s16 (fun y0 y1 => g1_f (y0, y1)) s20 s21 = some r := h; unfold z67 at h
 change BW _ _ _ ⟨[(2, (PV.rf 1 0)), (3, (PV.rf 2 0)), (57, (PV.old (PV.sl none 34 18 (List.map ofTyp a0.parts)))), (58, (I64 ((((a0.parts).length : Nat) : Int)))), (59, (I64 (((s20 : Nat) : Int))))], [.dead, .box 34 z5d, .box 34 [(I64 a0.kind), (I64 s1), (I64 s2), (BO s3), (I64 s4), (PV.v (.float .f64 s5)), (ofStr s6), (PV.sl none 5 1 (List.map ofB s7)), (PV.v (.int .u64 s8)), (PV.sl none 29 11 (List.map z0r s9)), (PV.sl none 101 12 (List.map z0f s10)), (ofStr s11), (I64 s12), (PV.sl (some 3) 34 18 (List.map ofTyp s21)), (PV.sl none 9 1 (List.map ofStr s13)), (PV.sl none 4 1 (List.map z17 s14)), (BO s15), (ofStr s16)], .arr 34 (s21).length], _⟩ _
 refine bR ?_
 refine eX ?_
 refine z09 ?_
 refine zg7 (t := 57) rfl fun hb23 => ?_
 try rw [List.length_map] at hb23
 refine cX h rfl ?_ ?_
 intro hc22 h
 have hc22_ := of_decide_eq_true hc22
 refine z07 ?_
 refine cBx ?_
 refine z09 ?_
 refine z0e ?_
 refine cBx ?_
 refine bR ?_
 obtain ⟨x24, hx24, h⟩ := obind h
 refine sS rfl rfl rfl (z25 (z0w (i := s20) Try.underlying30 z0u rfl rfl rfl hx24 (z1c _))) ?_
 refine sS rfl rfl rfl (Op1.wk (x := (PV.old (z02 x24))) (z25 (zb0 z0u Try.underlying34 rfl rfl rfl rfl rfl)) (Wk.opened (cs := (cc4 x24)) (wko (wko (wko (wko (wko (wko (wko (wkr (wko (wkr (wkr (wko (wko (wkr (wkr (wkr (wko (wko .nil)))))))))))))))))))) ?_
 refine sS rfl rfl rfl (z16 z0u rfl) ?_
 refine z0m rfl rfl (z0d z0u rfl rfl rfl rfl rfl rfl (lbE rfl) rfl) ?_
 refine z06 ?_
 refine cBx ?_
 refine z13 5 [4] [2, 4] mo (by kernel_rfl) ?_
 iterate 3 refine gX ?_
 obtain ⟨x25, hx25, h⟩ := obind h
 refine z1h rfl rfl rfl rfl (fun H hp => z04 rfl Z9h rfl (.cons (Wk.aggOld (ys := (cc4 x24)) (.cons (Wk.toOld Pl.v) (.cons (Wk.toOld Pl.v) (.cons (Wk.toOld Pl.v) (.cons (Wk.toOld Pl.v) (.cons (Wk.toOld Pl.v) (.cons (Wk.toOld Pl.v) (.cons (Wk.toOld Pl.v) (wkr (.cons (Wk.toOld Pl.v) (wkr (wkr (.cons (Wk.toOld Pl.v) (.cons (Wk.toOld Pl.v) (wkr (wkr (wkr (.cons (Wk.toOld Pl.v) (.cons (Wk.toOld Pl.v) .nil))))))))))))))))))) .nil) ⟨(z1e (z0b x24)), trivial⟩ (c_q1e x24 x25 hx25) (z0b x25)) ?_
 refine z7e rfl rfl rfl rfl ((z1q (xs := [(z02 x25)]) Try.underlying30 z0u rfl rfl rfl rfl rfl rfl ⟨lbE rfl, lbE rfl⟩ rfl).cast (y := (PV.sl (some 5) 34 18 (List.map ofTyp ([x25] : (List Typ))))) (by simp only [List.map_cons, List.map_nil, z1c]; try rfl) rfl) ⟨rfl, ⟨rfl, trivial⟩⟩ ?_
 refine z11 ?_
 change AO _ _ _ _ _
 obtain ⟨x26, hx26, h⟩ := obind h
 refine sS rfl rfl rfl (z3k Try.underlying30 z0u rfl Try.underlying30 rfl rfl rfl rfl zg4 z8x hx26 rfl) ?_
 refine sX ?_
 refine z0m rfl rfl (z0d zfv rfl rfl rfl rfl rfl rfl (lbE rfl) rfl) ?_
 refine z06 ?_
 refine cBx ?_
 refine z0a ?_
 refine sS rfl rfl rfl (z1b (k := s20) (c := 1) rfl rfl rfl (by omega)) ?_
 refine sX (z06 ?_)
 exact ⟨rfl, ((s20 + 1), x26), h, ⟨(.cons .dead (.cons .same (.cons .same (.cons .same .nil)))), (sC rfl (sC rfl (sC rfl (sC rfl (sC rfl z1i)))))⟩⟩
 intro hc22 h
 refine z1a ?_
 exact ⟨rfl, s21, h, ⟨(.cons .dead (.cons .same (.cons (.box (wkr (wkr (wkr (wkr (wkr (wkr (wkr (wkr (wkr (wkr (wkr (wkr (wkr (.cons Wk.tok (wkr (wkr (wkr (wkr .nil))))))))))))))))))) .nil))), (sC rfl (sC rfl z1i))⟩⟩
 intro hc19 h
 refine z07 ?_
 exact ⟨rfl, [], h, ⟨(.cons .dead (.cons .same (.cons (.box (wkr (wkr (wkr (wkr (wkr (wkr (wkr (wkr (wkr (wkr (wkr (wkr (wkr (wkn (wkr (wkr (wkr (wkr .nil))))))))))))))))))) .nil))), (sC rfl (sC rfl z1i))⟩⟩
 refine bR ?_
 refine sX ?_
 refine eX ?_
 refine cX h rfl ?_ ?_
 intro hc27 h
 refine z07 ?_
 exact ⟨rfl, (a0.kind == 5), h, jN⟩
 intro hc27 h
 refine bR ?_
 refine sX ?_
 refine eX ?_
 refine cX h rfl ?_ ?_
 intro hc28 h
 refine z07 ?_
 exact ⟨rfl, (a0.kind == 6), h, jN⟩
 intro hc28 h
 refine z0a ?_
 refine sX ?_
 refine sX (z06 ?_)
 exact ⟨rfl, (a0.kind == 7), h, jN⟩
 refine bR ?_
 refine sX ?_
 refine eX ?_
 refine z0e ?_
 refine cBx ?_
 refine bR ?_
 refine sX ?_
 refine eX ?_
 refine cX h rfl ?_ ?_
 intro hc29 h
 refine z0a ?_
 iterate 3 refine sX ?_
 refine z0m rfl rfl (z0d zfw rfl rfl rfl rfl rfl rfl (lbE rfl) rfl) ?_
 refine z06 ?_
 exact ⟨rfl, (a0.of, 0, false, 0, 0, [], [], 0, [], [], [], 0, [], [], false, []), h, ⟨(.cons .same (.cons .same (.cons (.box (wkr (wkr (wkr (wkr (wkr (wkr (wkr (wkn (wkr (wkn (wkn (wkr (wkr (wkr (wkn (wkn (wkr (wkr .nil))))))))))))))))))) .nil))), (sC rfl (sC rfl (sC rfl z1i)))⟩⟩
 intro hc29 h
 refine bR ?_
 refine sX ?_
 refine eX ?_
 refine cX h rfl ?_ ?_
 intro hc30 h
 refine bR ?_
 iterate 2 refine sX ?_
 obtain ⟨x31, hx31, h⟩ := obind h
 refine sS rfl rfl rfl (z04 rfl Z0r rfl (.cons (Wk.aggOld (ys := (cc0 (a0.only))) (.cons (Wk.toOld Pl.v) (.cons (Wk.toOld Pl.v) (.cons (Wk.toOld Pl.v) (.cons (Wk.toOld Pl.v) (.cons (Wk.toOld Pl.v) (wkr (.cons (Wk.toOld Pl.v) (wkr (wkr (.cons (Wk.toOld Pl.v) (.cons (Wk.toOld Pl.v) .nil)))))))))))) .nil) ⟨(z1e (z10 (a0.only))), trivial⟩ (zys (a0.only) x31 hx31) (z03 (ids_V x31.1) (z03 rfl z0o))) ?_
 iterate 4 refine sX ?_
 refine eX ?_
 refine z0a ?_
 refine sX ?_
 obtain ⟨x32, hx32, h⟩ := obind h
 refine sS rfl rfl rfl (z04 rfl Zcd rfl (.cons (Wk.toOld (Zbn x31.1)) .nil) ⟨(z1e (ids_V x31.1)), trivial⟩ (Zaw x31.1 x32 hx32) (z03 (z10 x32.1) (z03 rfl z0o))) ?_
 iterate 4 refine sX ?_
 refine z0m rfl rfl (z0d z20 rfl rfl rfl rfl rfl rfl (lbE rfl) rfl) ?_
 refine z06 ?_
 exact ⟨rfl, (0, (x32.1).kind, (x32.1).bool, (x32.1).int, (x32.1).float, (x32.1).text, (x32.1).bytes, (x32.1).ref, (x32.1).list, (x32.1).fields, (x32.1).cls, (x32.1).ver, [], [], false, []), h, ⟨(.cons .same (.cons .same (.cons (.box (wkr (wkr (wkr (wkr (wkr (wkr (wkr (wkr (wkr (wkr (wkr (wkr (wkr (wkr (wkn (wkn (wkr (wkr .nil))))))))))))))))))) .nil))), (sC rfl (sC rfl (sC rfl z1i)))⟩⟩
 intro hc30 h
 refine bR ?_
 refine sX ?_
 refine eX ?_
 refine cX h rfl ?_ ?_
 intro hc33 h
 refine z0a ?_
 iterate 3 refine sX ?_
 refine z0m rfl rfl (z0d inf_9 rfl rfl rfl rfl rfl rfl (lbE rfl) rfl) ?_
 refine z06 ?_
 exact ⟨rfl, (0, 0, false, 0, 0, [], [], 0, [], [], [], 0, [], [], false, a0.cls), h, ⟨(.cons .same (.cons .same (.cons (.box (wkr (wkr (wkr (wkr (wkr (wkr (wkr (wkn (wkr (wkn (wkn (wkr (wkr (wkr (wkn (wkn (wkr (wkr .nil))))))))))))))))))) .nil))), (sC rfl (sC rfl (sC rfl z1i)))⟩⟩
 intro hc33 h
 refine bR ?_
 refine sX ?_
 refine eX ?_
 refine cX h rfl ?_ ?_
 intro hc34 h
 refine z13 12 [9, 11] [0] mo (by kernel_rfl) ?_
 iterate 2 refine gX ?_
 obtain ⟨x35, hx35, h⟩ := obind h
 refine z1h rfl rfl rfl rfl (fun H hp => z04 rfl Zcc rfl (wkr .nil) ⟨(z1e (z0c (fun _ => rfl) a0.names)), trivial⟩ (Zbe a0.names x35 hx35) (z0c (fun _ => rfl) x35)) ?_
 iterate 2 refine gX ?_
 obtain ⟨x36, hx36, h⟩ := obind h
 refine z1h rfl rfl rfl rfl (fun H hp => z04 rfl Zcb rfl (wkr .nil) ⟨(z1e (z0c (fun _ => rfl) a0.lacks)), trivial⟩ (Zbc a0.lacks x36 hx36) (z0c (fun _ => rfl) x36)) ?_
 iterate 3 refine gX ?_
 refine z87 rfl rfl rfl (z0d Z3d rfl rfl rfl rfl rfl rfl (lbE rfl) rfl) ⟨rfl, trivial⟩ ?_
 refine gX ?_
 refine z87 rfl rfl rfl (z0d Z3c rfl rfl rfl rfl rfl rfl (lbE rfl) rfl) ⟨rfl, trivial⟩ ?_
 refine z11 ?_
 change AO _ _ _ _ _
 refine sX ?_
 refine z0m rfl rfl (z0d inf_4 rfl rfl rfl rfl rfl rfl (lbE rfl) rfl) ?_
 refine z06 ?_
 exact ⟨rfl, (0, 0, false, 0, 0, [], [], 0, [], [], [], 0, x35, x36, a0.opn, []), h, ⟨(.cons .same (.cons .same (.cons (.box (wkr (wkr (wkr (wkr (wkr (wkr (wkr (wkn (wkr (wkn (wkn (wkr (wkr (wkr (wkr (wkr (wkr (wkr .nil))))))))))))))))))) .nil))), (sC rfl (sC rfl (sC rfl z1i)))⟩⟩
 intro hc34 h
 refine z07 ?_
 exact ⟨rfl, (0, 0, false, 0, 0, [], [], 0, [], [], [], 0, [], [], false, []), h, ⟨(.cons .same (.cons .same (.cons (.box (wkr (wkr (wkr (wkr (wkr (wkr (wkr (wkn (wkr (wkn (wkn (wkr (wkr (wkr (wkn (wkn (wkr (wkr .nil))))))))))))))))))) .nil))), (sC rfl (sC rfl (sC rfl z1i)))⟩⟩
theorem C_q1e.sound : ∀ (i : C_q1e) (r : i.R), z22 C_q1e.F i = some r → C_q1e.Q i r := by
 refine z2r (Φ := C_q1e.F) (Q := C_q1e.Q) ?_
 intro g hg i r h
 cases i with
 | k_q1e a0 => exact ziy (fun a0 => g (.k_q1e a0)) (fun a0 r hr => hg (.k_q1e a0) r hr) a0 r h
theorem Zay (a0 r : Typ) (h : zcw a0 = some r) : z08 Try.prog 44 [(PV.old (z02 a0))] (z02 r) := C_q1e.sound (.k_q1e a0) r h
noncomputable def zhl (a0 a1 : Typ) (s1 : Bool) : Option (Typ × Int) :=
 bif s1 then (
 some ((Typ.mk 0 0 (Term.mk 0 false 0 0 [] [] 0 [] [] [] 0) [] [] [] false []), 70)
 ) else (
 (zw3 a0 a1).bind fun x3 =>
 bif (!x3.2) then (
 some ((Typ.mk 0 0 (Term.mk 0 false 0 0 [] [] 0 [] [] [] 0) [] [] [] false []), 70)
 ) else (
 (zcw (x3.1)).bind fun x5 =>
 some (x5, 0)
 )
 )
noncomputable def zrt (a0 a1 : Typ) : Option (Typ × Int) :=
 (zj9 a0).bind fun x6 =>
 bif (!x6) then (
 zhl a0 a1 true
 ) else (
 (zj9 a1).bind fun x8 =>
 zhl a0 a1 (!x8)
 )
theorem Z7h (a0 a1 : Typ) (r : (Typ × Int)) (h : zrt a0 a1 = some r) : z08 Try.prog 20 [(PV.old (z02 a0)), (PV.old (z02 a1))] (PV.tup [(z02 r.1), (I64 r.2)]) := by
 unfold zrt at h
 refine z0g Try.func20 rfl Try.ntmps20 Try.results20 rfl (z0q ?_)
 change BW _ _ _ ⟨[(0, (PV.old (z02 a0))), (1, (PV.old (z02 a1)))], [], _⟩ _
 refine zy3 0 rfl (Wk.opened (cs := (cc4 a0)) (wko (wko (wko (wko (wko (wko (wko (wkr (wko (wkr (wkr (wko (wko (wkr (wkr (wkr (wko (wko .nil))))))))))))))))))) ?_
 refine zy3 1 rfl (Wk.opened (cs := (cc4 a1)) (wko (wko (wko (wko (wko (wko (wko (wkr (wko (wkr (wkr (wko (wko (wkr (wkr (wkr (wko (wko .nil))))))))))))))))))) ?_
 refine bR ?_
 iterate 2 refine sX ?_
 refine sS rfl rfl rfl (z16 z0u rfl) ?_
 refine eX ?_
 refine z09 ?_
 refine z37 (ι := Bool) (fun i => zhl a0 a1 i = some r) (fun i => [(2, (PV.rf 0 0)), (3, (PV.rf 1 0)), (4, (PV.rf 2 0)), (15, (BO i))]) (fun i => [.box 34 (cc3 a0), .box 34 (cc3 a1), .box 34 z5d]) ?_ ?_ ?_
 intro i; exact ⟨lbE rfl, ⟨(il_rf rfl), ⟨(il_rf rfl), ⟨(il_rf rfl), ⟨(z00 rfl), trivial⟩⟩⟩⟩, ⟨⟨(z00 rfl), ⟨(z00 rfl), ⟨(z00 rfl), ⟨(z00 rfl), ⟨(z00 rfl), ⟨(z00 rfl), ⟨(z00 rfl), ⟨(z00 (z1e (z0c (fun _ => rfl) _))), ⟨(z00 rfl), ⟨(z00 (z1e (z0c z1p _))), ⟨(z00 (z1e (z0c z19 _))), ⟨(z00 rfl), ⟨(z00 rfl), ⟨(z00 (z1e (z0c z1m _))), ⟨(z00 (z1e (z0c (fun _ => rfl) _))), ⟨(z00 (z1e (z0c (fun _ => rfl) _))), ⟨(z00 rfl), ⟨(z00 rfl), trivial⟩⟩⟩⟩⟩⟩⟩⟩⟩⟩⟩⟩⟩⟩⟩⟩⟩⟩, ⟨⟨(z00 rfl), ⟨(z00 rfl), ⟨(z00 rfl), ⟨(z00 rfl), ⟨(z00 rfl), ⟨(z00 rfl), ⟨(z00 rfl), ⟨(z00 (z1e (z0c (fun _ => rfl) _))), ⟨(z00 rfl), ⟨(z00 (z1e (z0c z1p _))), ⟨(z00 (z1e (z0c z19 _))), ⟨(z00 rfl), ⟨(z00 rfl), ⟨(z00 (z1e (z0c z1m _))), ⟨(z00 (z1e (z0c (fun _ => rfl) _))), ⟨(z00 (z1e (z0c (fun _ => rfl) _))), ⟨(z00 rfl), ⟨(z00 rfl), trivial⟩⟩⟩⟩⟩⟩⟩⟩⟩⟩⟩⟩⟩⟩⟩⟩⟩⟩, ⟨⟨(z00 rfl), ⟨(z00 rfl), ⟨(z00 rfl), ⟨(z00 rfl), ⟨(z00 rfl), ⟨(z00 rfl), ⟨(z00 rfl), ⟨(z00 rfl), ⟨(z00 rfl), ⟨(z00 rfl), ⟨(z00 rfl), ⟨(z00 rfl), ⟨(z00 rfl), ⟨(z00 rfl), ⟨(z00 rfl), ⟨(z00 rfl), ⟨(z00 rfl), ⟨(z00 rfl), trivial⟩⟩⟩⟩⟩⟩⟩⟩⟩⟩⟩⟩⟩⟩⟩⟩⟩⟩, trivial⟩⟩⟩⟩
 rintro s1 h; replace h : zhl a0 a1 s1 = some r := h; unfold zhl at h
 change BW _ _ _ ⟨[(2, (PV.rf 0 0)), (3, (PV.rf 1 0)), (4, (PV.rf 2 0)), (15, (BO s1))], [.box 34 (cc3 a0), .box 34 (cc3 a1), .box 34 z5d], _⟩ _
 refine cX h rfl ?_ ?_
 intro hc2 h
 refine bR ?_
 refine sS rfl rfl rfl (z1x (cs := [(I64 0), (I64 0), (I64 0), (BO false), (I64 0), (PV.v (.float .f64 0)), (ofStr []), (PV.v (.slice none 0 0)), (PV.v (.int .u64 0)), (PV.v (.slice none 0 0)), (PV.v (.slice none 0 0)), (ofStr []), (I64 0), (PV.v (.slice none 0 0)), (PV.v (.slice none 0 0)), (PV.v (.slice none 0 0)), (BO false), (ofStr [])]) z5e z0u rfl rfl rfl rfl) ?_
 refine z0m rfl rfl (z0d z0u rfl rfl rfl rfl rfl rfl (lbE rfl) rfl) ?_
 refine eX ?_
 obtain rfl := eI h; exact z05 ⟨_, rfl, z1f (y := (PV.tup [(z02 (Typ.mk 0 0 (Term.mk 0 false 0 0 [] [] 0 [] [] [] 0) [] [] [] false [])), (I64 70)])) (Wk.tup (.cons (Wk.agg (wkr (wkr (wkr (wkr (wkr (wkr (wkr (wkn (wkr (wkn (wkn (wkr (wkr (wkn (wkn (wkn (wkr (wkr .nil))))))))))))))))))) (wkr .nil))) (z03 (z0b (Typ.mk 0 0 (Term.mk 0 false 0 0 [] [] 0 [] [] [] 0) [] [] [] false [])) (z03 rfl z0o)) ⟨rfl, rfl⟩⟩
 intro hc2 h
 refine z07 ?_
 refine cBx ?_
 refine bR ?_
 iterate 2 refine sX ?_
 obtain ⟨x3, hx3, h⟩ := obind h
 refine zsk 18 rfl (Wk.aggOld (ys := (cc4 a0)) (.cons (Wk.toOld Pl.v) (.cons (Wk.toOld Pl.v) (.cons (Wk.toOld Pl.v) (.cons (Wk.toOld Pl.v) (.cons (Wk.toOld Pl.v) (.cons (Wk.toOld Pl.v) (.cons (Wk.toOld Pl.v) (wkr (.cons (Wk.toOld Pl.v) (wkr (wkr (.cons (Wk.toOld Pl.v) (.cons (Wk.toOld Pl.v) (wkr (wkr (wkr (.cons (Wk.toOld Pl.v) (.cons (Wk.toOld Pl.v) .nil))))))))))))))))))) ?_
 refine zsk 19 rfl (Wk.aggOld (ys := (cc4 a1)) (.cons (Wk.toOld Pl.v) (.cons (Wk.toOld Pl.v) (.cons (Wk.toOld Pl.v) (.cons (Wk.toOld Pl.v) (.cons (Wk.toOld Pl.v) (.cons (Wk.toOld Pl.v) (.cons (Wk.toOld Pl.v) (wkr (.cons (Wk.toOld Pl.v) (wkr (wkr (.cons (Wk.toOld Pl.v) (.cons (Wk.toOld Pl.v) (wkr (wkr (wkr (.cons (Wk.toOld Pl.v) (.cons (Wk.toOld Pl.v) .nil))))))))))))))))))) ?_
 refine sS rfl rfl rfl (z25 (z04 rfl Zco rfl (wkr (wkr .nil)) ⟨(z0b a0), ⟨(z0b a1), trivial⟩⟩ (Zb2 a0 a1 x3 hx3) (z03 (z0b x3.1) (z03 rfl z0o)))) ?_
 refine sX ?_
 refine sS rfl rfl rfl (Op1.wk (x := (PV.old (z02 x3.1))) (z25 (z3w rfl rfl rfl)) (Wk.opened (cs := (cc4 (x3.1))) (wko (wko (wko (wko (wko (wko (wko (wkr (wko (wkr (wkr (wko (wko (wkr (wkr (wkr (wko (wko .nil)))))))))))))))))))) ?_
 refine sS rfl rfl rfl (z23 (z3w rfl rfl rfl) Sc.v) ?_
 refine sS rfl rfl rfl (z16 z0u rfl) ?_
 refine z0m rfl rfl (z0d z0u rfl rfl rfl rfl rfl rfl (lbE rfl) rfl) ?_
 refine eX ?_
 refine z09 ?_
 refine bR ?_
 refine sX ?_
 refine eX ?_
 refine cX h rfl ?_ ?_
 intro hc4 h
 refine bR ?_
 refine sS rfl rfl rfl (z1x (cs := [(I64 0), (I64 0), (I64 0), (BO false), (I64 0), (PV.v (.float .f64 0)), (ofStr []), (PV.v (.slice none 0 0)), (PV.v (.int .u64 0)), (PV.v (.slice none 0 0)), (PV.v (.slice none 0 0)), (ofStr []), (I64 0), (PV.v (.slice none 0 0)), (PV.v (.slice none 0 0)), (PV.v (.slice none 0 0)), (BO false), (ofStr [])]) z5e z0u rfl rfl rfl rfl) ?_
 refine z0m rfl rfl (z0d z0u rfl rfl rfl rfl rfl rfl (lbE rfl) rfl) ?_
 refine eX ?_
 obtain rfl := eI h; exact z05 ⟨_, rfl, z1f (y := (PV.tup [(z02 (Typ.mk 0 0 (Term.mk 0 false 0 0 [] [] 0 [] [] [] 0) [] [] [] false [])), (I64 70)])) (Wk.tup (.cons (Wk.agg (wkr (wkr (wkr (wkr (wkr (wkr (wkr (wkn (wkr (wkn (wkn (wkr (wkr (wkn (wkn (wkn (wkr (wkr .nil))))))))))))))))))) (wkr .nil))) (z03 (z0b (Typ.mk 0 0 (Term.mk 0 false 0 0 [] [] 0 [] [] [] 0) [] [] [] false [])) (z03 rfl z0o)) ⟨rfl, rfl⟩⟩
 intro hc4 h
 refine z07 ?_
 refine cBx ?_
 refine bR ?_
 refine sX ?_
 obtain ⟨x5, hx5, h⟩ := obind h
 refine sS rfl rfl rfl (z04 rfl Z9h rfl (.cons (Wk.aggOld (ys := (cc4 (x3.1))) (.cons (Wk.toOld Pl.v) (.cons (Wk.toOld Pl.v) (.cons (Wk.toOld Pl.v) (.cons (Wk.toOld Pl.v) (.cons (Wk.toOld Pl.v) (.cons (Wk.toOld Pl.v) (.cons (Wk.toOld Pl.v) (wkr (.cons (Wk.toOld Pl.v) (wkr (wkr (.cons (Wk.toOld Pl.v) (.cons (Wk.toOld Pl.v) (wkr (wkr (wkr (.cons (Wk.toOld Pl.v) (.cons (Wk.toOld Pl.v) .nil))))))))))))))))))) .nil) ⟨(z1e (z0b (x3.1))), trivial⟩ (Zay (x3.1) x5 hx5) (z0b x5)) ?_
 refine z0m rfl rfl (z0d z0u rfl rfl rfl rfl rfl rfl (lbE rfl) rfl) ?_
 refine eX ?_
 obtain rfl := eI h; exact z05 ⟨_, rfl, z1f (y := (PV.tup [(z02 x5), (I64 0)])) (Wk.refl _) (z03 (z0b x5) (z03 rfl z0o)) ⟨rfl, rfl⟩⟩
 refine z0a ?_
 refine sX ?_
 obtain ⟨x6, hx6, h⟩ := obind h
 refine zsk 8 rfl (Wk.aggOld (ys := (cc4 a0)) (.cons (Wk.toOld Pl.v) (.cons (Wk.toOld Pl.v) (.cons (Wk.toOld Pl.v) (.cons (Wk.toOld Pl.v) (.cons (Wk.toOld Pl.v) (.cons (Wk.toOld Pl.v) (.cons (Wk.toOld Pl.v) (wkr (.cons (Wk.toOld Pl.v) (wkr (wkr (.cons (Wk.toOld Pl.v) (.cons (Wk.toOld Pl.v) (wkr (wkr (wkr (.cons (Wk.toOld Pl.v) (.cons (Wk.toOld Pl.v) .nil))))))))))))))))))) ?_
 refine sS rfl rfl rfl (z23 (z04 rfl zxq rfl (wkr .nil) ⟨(z0b a0), trivial⟩ (zt2 a0 x6 hx6) rfl) Sc.v) ?_
 iterate 2 refine sX ?_
 refine z0n (t := 11) rfl ?_ ?_
 intro hb7; replace h := z0j hb7 h
 iterate 3 refine nX ?_
 refine sX (z06 ?_)
 exact ⟨rfl, true, h, jN⟩
 intro hb7; replace h := z0k hb7 h
 refine yX ?_
 obtain ⟨x8, hx8, h⟩ := obind h
 refine zsk 12 rfl (Wk.aggOld (ys := (cc4 a1)) (.cons (Wk.toOld Pl.v) (.cons (Wk.toOld Pl.v) (.cons (Wk.toOld Pl.v) (.cons (Wk.toOld Pl.v) (.cons (Wk.toOld Pl.v) (.cons (Wk.toOld Pl.v) (.cons (Wk.toOld Pl.v) (wkr (.cons (Wk.toOld Pl.v) (wkr (wkr (.cons (Wk.toOld Pl.v) (.cons (Wk.toOld Pl.v) (wkr (wkr (wkr (.cons (Wk.toOld Pl.v) (.cons (Wk.toOld Pl.v) .nil))))))))))))))))))) ?_
 refine z1g rfl rfl rfl rfl rfl rfl (z23 (z04 rfl zxq rfl (wkr .nil) ⟨(z0b a1), trivial⟩ (zt2 a1 x8 hx8) rfl) Sc.v) ?_
 refine yX ?_
 refine sX (z06 ?_)
 exact ⟨rfl, (!x8), h, jN⟩
end Go.Proofs.Ytiapdjdhaclmnaa
