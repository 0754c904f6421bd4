/- Pure functions, and that calls answer as they say. -/
import Derived.Test.YtiapdjdhaclmnaaG3
namespace Go.Proofs.Ytiapdjdhaclmnaa
open Go Aw
set_option linter.unusedVariables false
set_option maxRecDepth 20000
set_option maxHeartbeats 2000000
variable {ι : Type} {ρ : ι → Type}
noncomputable def z7r (a0 : (List Str)) (a1c0 : Typ) (g1 : Nat → Option Int) (s1 : Nat) : Option Int :=
 bif (decide (((s1 : Nat) : Int) < (((a0).length : Nat) : Int))) then (
 ((a0)[s1]?).bind fun x4 =>
 (zw5 x4 a1c0).bind fun x5 =>
 bif x5 then (
 some ((s1 : Nat) : Int)
 ) else (
 g1 (s1 + 1)
 )
 ) else (
 some (-1)
 )
theorem zrj (g1 : OF ρ → Nat → Option Int) (h_g1 : ∀ y0, CM (fun G => g1 G y0)) (a0 : (List Str)) (a1c0 : Typ) (s1 : Nat) : CM (fun G : OF ρ => z7r a0 a1c0 (g1 G) s1) := by
 simp only [z7r]
 repeat (first | exact z01 | exact h_g1 _ | refine z0h ?_ ?_ | refine z0i ?_ (fun _ => ?_))
noncomputable def zlj (a0 : (List Str)) (a1c0 : Typ) (s1 : Nat) : Option Int :=
 z22 (ι := Nat) (ρ := fun _ => Int) (fun g i => z7r a0 a1c0 (fun s1 => g s1) i) s1
theorem zli (a0 : (List Str)) (a1c0 : Typ) (s1 : Nat) : zlj a0 a1c0 s1 = z7r a0 a1c0 (zlj a0 a1c0) s1 :=
 z0t (ι := Nat) (ρ := fun _ => Int) (Φ := fun g i => z7r a0 a1c0 (fun s1 => g s1) i) (fun i => zrj (ι := Nat) (ρ := fun _ => Int) (fun g => (fun s1 => g s1)) (fun _ => z0s) a0 a1c0 i) s1
noncomputable def zzc (a0 : (List Str)) (a1c0 : Typ) : Option Int :=
 zlj a0 a1c0 0
theorem Zbh (a0 : (List Str)) (a1c0 : Typ) (r : Int) (h : zzc a0 a1c0 = some r) : z08 Try.prog 116 [(PV.sl none 9 1 (List.map ofStr a0)), (PV.fn (.func 95) [] [(PV.pt 34 (z02 a1c0) 0)])] (I64 r) := by
 unfold zzc at h
 refine z0g Try.func116 rfl Try.ntmps116 Try.results116 rfl (z0q ?_)
 change BW _ _ _ ⟨[(0, (PV.sl none 9 1 (List.map ofStr a0))), (1, (PV.fn (.func 95) [] [(PV.pt 34 (z02 a1c0) 0)]))], [], _⟩ _
 refine bR ?_
 refine eX ?_
 refine z09 ?_
 refine bR ?_
 iterate 2 refine sX ?_
 refine eX ?_
 refine z0e ?_
 refine cBx ?_
 unfold zlj at h
 refine z3c (σ := Nat) (fun i => [(0, (PV.sl none 9 1 (List.map ofStr a0))), (1, (PV.fn (.func 95) [] [(PV.pt 34 (z02 a1c0) 0)])), (7, (I64 ((((a0).length : Nat) : Int)))), (8, (I64 (((i : Nat) : Int))))]) (fun i => []) 0 h ?_ ?_ ?_
 intro i; exact ⟨lbE rfl, ⟨(z00 (z0c (fun _ => rfl) _)), ⟨(z00 (z4q (z4p (z0b a1c0) rfl))), ⟨(z00 rfl), ⟨(z00 rfl), trivial⟩⟩⟩⟩, trivial⟩
 exact jN
 rintro g1_f s1 h; replace h : z7r a0 a1c0 (fun y0 => g1_f y0) s1 = some r := h; unfold z7r at h
 change BW _ _ _ ⟨[(0, (PV.sl none 9 1 (List.map ofStr a0))), (1, (PV.fn (.func 95) [] [(PV.pt 34 (z02 a1c0) 0)])), (7, (I64 ((((a0).length : Nat) : Int)))), (8, (I64 (((s1 : Nat) : Int))))], [], _⟩ _
 refine bR ?_
 refine eX ?_
 refine z09 ?_
 refine z2f (t := 0) rfl fun hb3 => ?_
 try rw [List.length_map] at hb3
 refine cX h rfl ?_ ?_
 intro hc2 h
 have hc2_ := of_decide_eq_true hc2
 refine z07 ?_
 refine cBx ?_
 refine z09 ?_
 refine z0e ?_
 refine cBx ?_
 refine bR ?_
 refine sX ?_
 refine eX ?_
 refine bR ?_
 iterate 3 refine sX ?_
 obtain ⟨x4, hx4, h⟩ := obind h
 refine sS rfl rfl rfl (z0w (i := s1) Try.underlying31 inf_9 rfl rfl rfl hx4 rfl) ?_
 refine sX ?_
 obtain ⟨x5, hx5, h⟩ := obind h
 refine sS rfl rfl rfl (z76 rfl rfl Zc8 rfl (wkr (wkr .nil)) ⟨rfl, ⟨(z0b a1c0), trivial⟩⟩ (Zb3 x4 a1c0 x5 hx5) rfl) (z06 ?_)
 refine cBx ?_
 refine cX h rfl ?_ ?_
 intro hc6 h
 refine bR ?_
 refine sX ?_
 refine eX ?_
 obtain rfl := eI h; exact z05 eK
 intro hc6 h
 refine z07 ?_
 refine cBx ?_
 refine z0a ?_
 refine sS rfl rfl rfl (z1b (k := s1) (c := 1) rfl rfl rfl (by omega)) ?_
 refine sX (z06 ?_)
 exact ⟨rfl, (s1 + 1), h, jN⟩
 intro hc2 h
 refine z1a ?_
 refine cBx ?_
 refine bR ?_
 refine eX ?_
 obtain rfl := eI h; exact z05 eK
noncomputable def zwb (a0 : (List Str)) (a1c0 : Typ) : Option Bool :=
 (zzc a0 a1c0).bind fun x1 =>
 some (decide (x1 ≥ 0))
theorem Zbi (a0 : (List Str)) (a1c0 : Typ) (r : Bool) (h : zwb a0 a1c0 = some r) : z08 Try.prog 94 [(PV.sl none 9 1 (List.map ofStr a0)), (PV.fn (.func 95) [] [(PV.pt 34 (z02 a1c0) 0)])] (BO r) := by
 unfold zwb at h
 refine z0g Try.func94 rfl Try.ntmps94 Try.results94 rfl (z0q ?_)
 change BW _ _ _ ⟨[(0, (PV.sl none 9 1 (List.map ofStr a0))), (1, (PV.fn (.func 95) [] [(PV.pt 34 (z02 a1c0) 0)]))], [], _⟩ _
 refine bR ?_
 refine eX ?_
 refine bR ?_
 iterate 2 refine sX ?_
 obtain ⟨x1, hx1, h⟩ := obind h
 refine sS rfl rfl rfl (z04 rfl Z9p rfl (wkr (wkr .nil)) ⟨(z0c (fun _ => rfl) a0), ⟨(z4q (z4p (z0b a1c0) rfl)), trivial⟩⟩ (Zbh a0 a1c0 x1 hx1) rfl) ?_
 refine sX ?_
 refine eX ?_
 obtain rfl := eI h; exact z05 eK
end Go.Proofs.Ytiapdjdhaclmnaa
