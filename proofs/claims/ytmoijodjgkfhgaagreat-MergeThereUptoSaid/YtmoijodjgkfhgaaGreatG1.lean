/- Pure functions, and that calls answer as they say. -/
import Derived.Test.YtmoijodjgkfhgaaGreatG0
namespace Go.Proofs.YtmoijodjgkfhgaaGreat
open Go Aw
set_option linter.unusedVariables false
set_option linter.unusedSimpArgs false
set_option maxRecDepth 20000
set_option maxHeartbeats 2000000
variable {ι : Type} {ρ : ι → Type}
noncomputable def z7e (a0 : (List V)) (g1 : Nat → Option Int) (s1 : Nat) : Option Int :=
 bif (decide (((s1 : Nat) : Int) < (((a0).length : Nat) : Int))) then (
 ((a0)[s1]?).bind fun x4 =>
 (zgs x4).bind fun x5 =>
 bif (x5.2 != 0) then (
 some x5.2
 ) else (
 g1 (s1 + 1)
 )
 ) else (
 some 0
 )
theorem zou (g1 : OF ρ → Nat → Option Int) (h_g1 : ∀ y0, CM (fun G => g1 G y0)) (a0 : (List V)) (s1 : Nat) : CM (fun G : OF ρ => z7e a0 (g1 G) s1) := by
 simp only [z7e]
 repeat (first | exact z0i | exact h_g1 _ | refine z18 ?_ ?_ | refine z19 ?_ (fun _ => ?_))
noncomputable def zi8 (a0 : (List V)) (s1 : Nat) : Option Int :=
 z3q (ι := Nat) (ρ := fun _ => Int) (fun g i => z7e a0 (fun s1 => g s1) i) s1
theorem zi7 (a0 : (List V)) (s1 : Nat) : zi8 a0 s1 = z7e a0 (zi8 a0) s1 :=
 z1j (ι := Nat) (ρ := fun _ => Int) (Φ := fun g i => z7e a0 (fun s1 => g s1) i) (fun i => zou (ι := Nat) (ρ := fun _ => Int) (fun g => (fun s1 => g s1)) (fun _ => z1l) a0 i) s1
noncomputable def zsk (a0 : (List V)) : Option Int :=
 zi8 a0 0
theorem Z3y (a0 : (List V)) (r : Int) (h : zsk a0 = some r) : z0p Tryz.prog 25 [(PV.sl none 20 1 (List.map ofV a0))] (I64 r) := by
 unfold zsk at h
 refine z0j Tryz.func25 rfl Tryz.ntmps25 Tryz.results25 rfl (z0n ?_)
 change BW _ _ _ ⟨[(0, (PV.sl none 20 1 (List.map ofV a0)))], [], _⟩ _
 refine bR ?_
 refine eX ?_
 refine z0f ?_
 refine bR ?_
 iterate 2 refine sX ?_
 refine eX ?_
 refine z0o ?_
 refine cBx ?_
 unfold zi8 at h
 refine lX (σ := Nat) (fun i => [(7, (PV.sl none 20 1 (List.map ofV a0))), (8, (I64 ((((a0).length : Nat) : Int)))), (9, (I64 (((i : Nat) : Int))))]) (fun i => []) 0 h ?_ ?_
 exact jN
 rintro g1_f s1 h; replace h : z7e a0 (fun y0 => g1_f y0) s1 = some r := h; unfold z7e at h
 change BW _ _ _ ⟨[(7, (PV.sl none 20 1 (List.map ofV a0))), (8, (I64 ((((a0).length : Nat) : Int)))), (9, (I64 (((s1 : Nat) : Int))))], [], _⟩ _
 refine bR ?_
 refine eX ?_
 refine z0f ?_
 refine z4a (t := 7) rfl fun hb3 => ?_
 try rw [List.length_map] at hb3
 refine cX h rfl ?_ ?_
 intro hc2 h
 have hc2_ := of_decide_eq_true hc2
 refine z0g ?_
 refine cBx ?_
 refine z0f ?_
 refine z0o ?_
 refine cBx ?_
 refine bR ?_
 obtain ⟨x4, hx4, h⟩ := obind h
 refine sS rfl rfl rfl (z1p (i := s1) Tryz.underlying65 z1v rfl rfl rfl hx4 rfl) ?_
 refine sS rfl rfl rfl (z4e (y := (ofV x4)) Tryz.underlying20 rfl rfl rfl (by rw [z0u]; rfl)) ?_
 refine eX ?_
 refine bR ?_
 refine sX ?_
 obtain ⟨x5, hx5, h⟩ := obind h
 refine sS rfl rfl rfl (z08 rfl zub rfl (wkr .nil) ⟨(ids_V x4), trivial⟩ (zr5 x4 x5 hx5) (z00 rfl (z00 rfl z04))) ?_
 iterate 4 refine sX ?_
 refine eX ?_
 refine bR ?_
 refine sX ?_
 refine eX ?_
 refine cX h rfl ?_ ?_
 intro hc6 h
 refine bR ?_
 refine sX ?_
 refine eX ?_
 obtain rfl := eI h; exact z06 eK
 intro hc6 h
 refine z0g ?_
 refine cBx ?_
 refine z0l ?_
 refine sS rfl rfl rfl (z2o (k := s1) (c := 1) rfl rfl rfl (by omega)) ?_
 refine sX (z0h ?_)
 exact ⟨rfl, (s1 + 1), h, jN⟩
 intro hc2 h
 refine z2b ?_
 refine cBx ?_
 refine bR ?_
 refine eX ?_
 obtain rfl := eI h; exact z06 eK
noncomputable def zp5 (a0 a1 : Int) : Option Int :=
 bif (decide (a0 < a1)) then (
 some (-1)
 ) else (
 bif (decide (a0 > a1)) then (
 some 1
 ) else (
 some 0
 )
 )
theorem Z0m (a0 a1 r : Int) (h : zp5 a0 a1 = some r) : z0p Tryz.prog 69 [(I64 a0), (I64 a1)] (I64 r) := by
 unfold zp5 at h
 refine z0j Tryz.func69 rfl Tryz.ntmps69 Tryz.results69 rfl (z0n ?_)
 change BW _ _ _ ⟨[(0, (I64 a0)), (1, (I64 a1))], [], _⟩ _
 refine bR ?_
 refine eX ?_
 refine z0f ?_
 refine z0o ?_
 refine cBx ?_
 refine bR ?_
 iterate 3 refine sX ?_
 refine eX ?_
 refine cX h rfl ?_ ?_
 intro hc1 h
 refine bR ?_
 refine eX ?_
 obtain rfl := eI h; exact z06 eK
 intro hc1 h
 refine bR ?_
 iterate 3 refine sX ?_
 refine eX ?_
 refine cX h rfl ?_ ?_
 intro hc2 h
 refine bR ?_
 refine eX ?_
 obtain rfl := eI h; exact z06 eK
 intro hc2 h
 refine z0g ?_
 refine cBx ?_
 refine bR ?_
 refine eX ?_
 obtain rfl := eI h; exact z06 eK
noncomputable def zsl (a0 : Bool) : Option Int :=
 bif a0 then (
 some 1
 ) else (
 some 0
 )
theorem Z3z (a0 : Bool) (r : Int) (h : zsl a0 = some r) : z0p Tryz.prog 71 [(BO a0)] (I64 r) := by
 unfold zsl at h
 refine z0j Tryz.func71 rfl Tryz.ntmps71 Tryz.results71 rfl (z0n ?_)
 change BW _ _ _ ⟨[(0, (BO a0))], [], _⟩ _
 refine bR ?_
 refine eX ?_
 refine z0f ?_
 refine bR ?_
 refine eX ?_
 refine cX h rfl ?_ ?_
 intro hc1 h
 refine bR ?_
 refine eX ?_
 obtain rfl := eI h; exact z06 eK
 intro hc1 h
 refine z0g ?_
 refine cBx ?_
 refine bR ?_
 refine eX ?_
 obtain rfl := eI h; exact z06 eK
noncomputable def zw4 (a0 a1 : Int) : Option Int :=
 bif (decide (a0 < a1)) then (
 some (-1)
 ) else (
 bif (decide (a0 > a1)) then (
 some 1
 ) else (
 some 0
 )
 )
theorem Z7f (a0 a1 r : Int) (h : zw4 a0 a1 = some r) : z0p Tryz.prog 72 [(I64 a0), (I64 a1)] (I64 r) := by
 unfold zw4 at h
 refine z0j Tryz.func72 rfl Tryz.ntmps72 Tryz.results72 rfl (z0n ?_)
 change BW _ _ _ ⟨[(0, (I64 a0)), (1, (I64 a1))], [], _⟩ _
 refine bR ?_
 refine eX ?_
 refine z0f ?_
 refine z0o ?_
 refine cBx ?_
 refine bR ?_
 iterate 3 refine sX ?_
 refine eX ?_
 refine cX h rfl ?_ ?_
 intro hc1 h
 refine bR ?_
 refine eX ?_
 obtain rfl := eI h; exact z06 eK
 intro hc1 h
 refine bR ?_
 iterate 3 refine sX ?_
 refine eX ?_
 refine cX h rfl ?_ ?_
 intro hc2 h
 refine bR ?_
 refine eX ?_
 obtain rfl := eI h; exact z06 eK
 intro hc2 h
 refine z0g ?_
 refine cBx ?_
 refine bR ?_
 refine eX ?_
 obtain rfl := eI h; exact z06 eK
noncomputable def zp2 (a0 : Nat) : Option Int :=
 bif ((zoj .u64 ((a0 : Nat) : Int) 63) == 1) then (
 some (Z9k .u64 ((a0 : Nat) : Int))
 ) else (
 some (orK .u64 ((a0 : Nat) : Int) 9223372036854775808)
 )
theorem Z40 (a0 : Nat) (r : Int) (h : zp2 a0 = some r) : z0p Tryz.prog 74 [(PV.v (.float .f64 a0))] (PV.v (.int .u64 r)) := by
 unfold zp2 at h
 refine z0j Tryz.func74 rfl Tryz.ntmps74 Tryz.results74 rfl (z0n ?_)
 change BW _ _ _ ⟨[(0, (PV.v (.float .f64 a0)))], [], _⟩ _
 refine bR ?_
 refine eX ?_
 refine bR ?_
 refine sX ?_
 refine sS rfl rfl rfl (zl9 rfl rfl) ?_
 refine eX ?_
 refine z0f ?_
 refine bR ?_
 refine sX ?_
 refine sS rfl rfl rfl ((zsu rfl rfl rfl (by decide)).cast (y := (PV.v (.int .u64 (zoj .u64 ((a0 : Nat) : Int) 63)))) rfl rfl) ?_
 refine eX ?_
 refine cX h rfl ?_ ?_
 intro hc1 h
 refine bR ?_
 refine sX ?_
 refine sS rfl rfl rfl (zwe rfl rfl) ?_
 refine eX ?_
 obtain rfl := eI h; exact z06 eK
 intro hc1 h
 refine z0g ?_
 refine cBx ?_
 refine bR ?_
 refine sX ?_
 refine sS rfl rfl rfl ((Z1e rfl rfl rfl).cast (y := (PV.v (.int .u64 (orK .u64 ((a0 : Nat) : Int) 9223372036854775808)))) rfl rfl) ?_
 refine eX ?_
 obtain rfl := eI h; exact z06 eK
noncomputable def zw5 (a0 a1 : Int) : Option Int :=
 bif (decide (a0 < a1)) then (
 some (-1)
 ) else (
 bif (decide (a0 > a1)) then (
 some 1
 ) else (
 some 0
 )
 )
theorem Z7h (a0 a1 r : Int) (h : zw5 a0 a1 = some r) : z0p Tryz.prog 73 [(PV.v (.int .u64 a0)), (PV.v (.int .u64 a1))] (I64 r) := by
 unfold zw5 at h
 refine z0j Tryz.func73 rfl Tryz.ntmps73 Tryz.results73 rfl (z0n ?_)
 change BW _ _ _ ⟨[(0, (PV.v (.int .u64 a0))), (1, (PV.v (.int .u64 a1)))], [], _⟩ _
 refine bR ?_
 refine eX ?_
 refine z0f ?_
 refine z0o ?_
 refine cBx ?_
 refine bR ?_
 iterate 3 refine sX ?_
 refine eX ?_
 refine cX h rfl ?_ ?_
 intro hc1 h
 refine bR ?_
 refine eX ?_
 obtain rfl := eI h; exact z06 eK
 intro hc1 h
 refine bR ?_
 iterate 3 refine sX ?_
 refine eX ?_
 refine cX h rfl ?_ ?_
 intro hc2 h
 refine bR ?_
 refine eX ?_
 obtain rfl := eI h; exact z06 eK
 intro hc2 h
 refine z0g ?_
 refine cBx ?_
 refine bR ?_
 refine eX ?_
 obtain rfl := eI h; exact z06 eK
noncomputable def zl4 (a0 a1 : Str) : Option Int :=
 bif (Op.bytesLess a0 a1) then (
 some (-1)
 ) else (
 bif (!(Op.bytesLess a0 a1 || a0 == a1)) then (
 some 1
 ) else (
 some 0
 )
 )
theorem Z0p (a0 a1 : Str) (r : Int) (h : zl4 a0 a1 = some r) : z0p Tryz.prog 75 [(ofStr a0), (ofStr a1)] (I64 r) := by
 unfold zl4 at h
 refine z0j Tryz.func75 rfl Tryz.ntmps75 Tryz.results75 rfl (z0n ?_)
 change BW _ _ _ ⟨[(0, (ofStr a0)), (1, (ofStr a1))], [], _⟩ _
 refine bR ?_
 refine eX ?_
 refine z0f ?_
 refine z0o ?_
 refine cBx ?_
 refine bR ?_
 iterate 2 refine sX ?_
 refine sS rfl rfl rfl ((z2r (a := a0) (b := a1) rfl rfl rfl rfl).cast (y := (BO ((Op.bytesLess a0 a1)))) rfl rfl) ?_
 refine eX ?_
 refine cX h rfl ?_ ?_
 intro hc1 h
 refine bR ?_
 refine eX ?_
 obtain rfl := eI h; exact z06 eK
 intro hc1 h
 refine bR ?_
 iterate 2 refine sX ?_
 refine sS rfl rfl rfl ((z2r (a := a0) (b := a1) rfl rfl rfl rfl).cast (y := (BO ((!(Op.bytesLess a0 a1 || a0 == a1))))) rfl rfl) ?_
 refine eX ?_
 refine cX h rfl ?_ ?_
 intro hc2 h
 refine bR ?_
 refine eX ?_
 obtain rfl := eI h; exact z06 eK
 intro hc2 h
 refine z0g ?_
 refine cBx ?_
 refine bR ?_
 refine eX ?_
 obtain rfl := eI h; exact z06 eK
noncomputable def zp7 (a0 : UInt8) : Option Bool :=
 some (((a0).toNat : Int) != ((a0).toNat : Int))
theorem Z44 (a0 : UInt8) (r : Bool) (h : zp7 a0 = some r) : z0p Tryz.prog 128 [(ofB a0)] (BO r) := by
 unfold zp7 at h
 refine z0j Tryz.func128 rfl Tryz.ntmps128 Tryz.results128 rfl (z0n ?_)
 change BW _ _ _ ⟨[(0, (ofB a0))], [], _⟩ _
 refine bR ?_
 refine eX ?_
 refine bR ?_
 iterate 3 refine sX ?_
 refine eX ?_
 obtain rfl := eI h; exact z06 eK
noncomputable def zsn (a0 a1 : UInt8) : Option Int :=
 (zp7 a0).bind fun x1 =>
 (zp7 a1).bind fun x2 =>
 bif x1 then (
 bif x2 then (
 some 0
 ) else (
 some (-1)
 )
 ) else (
 bif x2 then (
 some 1
 ) else (
 bif (decide (((a0).toNat : Int) < ((a1).toNat : Int))) then (
 some (-1)
 ) else (
 bif (decide (((a0).toNat : Int) > ((a1).toNat : Int))) then (
 some 1
 ) else (
 some 0
 )
 )
 )
 )
theorem Z7g (a0 a1 : UInt8) (r : Int) (h : zsn a0 a1 = some r) : z0p Tryz.prog 109 [(ofB a0), (ofB a1)] (I64 r) := by
 unfold zsn at h
 refine z0j Tryz.func109 rfl Tryz.ntmps109 Tryz.results109 rfl (z0n ?_)
 change BW _ _ _ ⟨[(0, (ofB a0)), (1, (ofB a1))], [], _⟩ _
 refine bR ?_
 refine eX ?_
 refine bR ?_
 refine sX ?_
 obtain ⟨x1, hx1, h⟩ := obind h
 refine sS rfl rfl rfl (z08 rfl zzr rfl (wkr .nil) ⟨rfl, trivial⟩ (Z44 a0 x1 hx1) rfl) ?_
 refine eX ?_
 refine bR ?_
 refine sX ?_
 obtain ⟨x2, hx2, h⟩ := obind h
 refine sS rfl rfl rfl (z08 rfl zzr rfl (wkr .nil) ⟨rfl, trivial⟩ (Z44 a1 x2 hx2) rfl) ?_
 refine eX ?_
 refine z0f ?_
 refine bR ?_
 refine eX ?_
 refine cX h rfl ?_ ?_
 intro hc3 h
 refine z0f ?_
 refine bR ?_
 refine eX ?_
 refine cX h rfl ?_ ?_
 intro hc4 h
 refine bR ?_
 refine eX ?_
 obtain rfl := eI h; exact z06 eK
 intro hc4 h
 refine z0g ?_
 refine cBx ?_
 refine bR ?_
 refine eX ?_
 obtain rfl := eI h; exact z06 eK
 intro hc3 h
 refine z0g ?_
 refine cBx ?_
 refine z0f ?_
 refine bR ?_
 refine eX ?_
 refine cX h rfl ?_ ?_
 intro hc5 h
 refine bR ?_
 refine eX ?_
 obtain rfl := eI h; exact z06 eK
 intro hc5 h
 refine z0g ?_
 refine cBx ?_
 refine z0f ?_
 refine bR ?_
 iterate 2 refine sX ?_
 refine eX ?_
 refine cX h rfl ?_ ?_
 intro hc6 h
 refine bR ?_
 refine eX ?_
 obtain rfl := eI h; exact z06 eK
 intro hc6 h
 refine z0g ?_
 refine cBx ?_
 refine z0f ?_
 refine bR ?_
 iterate 2 refine sX ?_
 refine eX ?_
 refine cX h rfl ?_ ?_
 intro hc7 h
 refine bR ?_
 refine eX ?_
 obtain rfl := eI h; exact z06 eK
 intro hc7 h
 refine z0g ?_
 refine cBx ?_
 refine bR ?_
 refine eX ?_
 obtain rfl := eI h; exact z06 eK
noncomputable def z7g (a0 a1 : Str) (g1 : Nat → Option Int) (s1 : Nat) : Option Int :=
 bif (decide (((s1 : Nat) : Int) < (((a0).length : Nat) : Int))) then (
 ((a0)[s1]?).bind fun x4 =>
 bif (decide (((s1 : Nat) : Int) ≥ (((a1).length : Nat) : Int))) then (
 some 1
 ) else (
 ((a1)[s1]?).bind fun x6 =>
 (zsn x4 x6).bind fun x7 =>
 bif (x7 != 0) then (
 some x7
 ) else (
 g1 (s1 + 1)
 )
 )
 ) else (
 bif (decide ((((a0).length : Nat) : Int) < (((a1).length : Nat) : Int))) then (
 some (-1)
 ) else (
 some 0
 )
 )
theorem zoy (g1 : OF ρ → Nat → Option Int) (h_g1 : ∀ y0, CM (fun G => g1 G y0)) (a0 a1 : Str) (s1 : Nat) : CM (fun G : OF ρ => z7g a0 a1 (g1 G) s1) := by
 simp only [z7g]
 repeat (first | exact z0i | exact h_g1 _ | refine z18 ?_ ?_ | refine z19 ?_ (fun _ => ?_))
noncomputable def zin (a0 a1 : Str) (s1 : Nat) : Option Int :=
 z3q (ι := Nat) (ρ := fun _ => Int) (fun g i => z7g a0 a1 (fun s1 => g s1) i) s1
theorem zim (a0 a1 : Str) (s1 : Nat) : zin a0 a1 s1 = z7g a0 a1 (zin a0 a1) s1 :=
 z1j (ι := Nat) (ρ := fun _ => Int) (Φ := fun g i => z7g a0 a1 (fun s1 => g s1) i) (fun i => zoy (ι := Nat) (ρ := fun _ => Int) (fun g => (fun s1 => g s1)) (fun _ => z1l) a0 a1 i) s1
noncomputable def zwb (a0 a1 : Str) : Option Int :=
 zin a0 a1 0
theorem Z7p (a0 a1 : Str) (r : Int) (h : zwb a0 a1 = some r) : z0p Tryz.prog 76 [(PV.sl none 5 1 (List.map ofB a0)), (PV.sl none 5 1 (List.map ofB a1))] (I64 r) := by
 unfold zwb at h
 refine z0j Tryz.func76 rfl Tryz.ntmps76 Tryz.results76 rfl (z0n ?_)
 change BW _ _ _ ⟨[(0, (PV.sl none 5 1 (List.map ofB a0))), (1, (PV.sl none 5 1 (List.map ofB a1)))], [], _⟩ _
 refine bR ?_
 refine eX ?_
 refine z0f ?_
 refine bR ?_
 iterate 2 refine sX ?_
 refine eX ?_
 refine z0o ?_
 refine cBx ?_
 unfold zin at h
 refine lX (σ := Nat) (fun i => [(0, (PV.sl none 5 1 (List.map ofB a0))), (1, (PV.sl none 5 1 (List.map ofB a1))), (9, (PV.sl none 5 1 (List.map ofB a0))), (10, (I64 ((((a0).length : Nat) : Int)))), (11, (I64 (((i : Nat) : Int))))]) (fun i => []) 0 h ?_ ?_
 exact jN
 rintro g1_f s1 h; replace h : z7g a0 a1 (fun y0 => g1_f y0) s1 = some r := h; unfold z7g at h
 change BW _ _ _ ⟨[(0, (PV.sl none 5 1 (List.map ofB a0))), (1, (PV.sl none 5 1 (List.map ofB a1))), (9, (PV.sl none 5 1 (List.map ofB a0))), (10, (I64 ((((a0).length : Nat) : Int)))), (11, (I64 (((s1 : Nat) : Int))))], [], _⟩ _
 refine bR ?_
 refine eX ?_
 refine z0f ?_
 refine z4a (t := 9) rfl fun hb3 => ?_
 try rw [List.length_map] at hb3
 refine cX h rfl ?_ ?_
 intro hc2 h
 have hc2_ := of_decide_eq_true hc2
 refine z0g ?_
 refine cBx ?_
 refine z0f ?_
 refine z0o ?_
 refine cBx ?_
 refine bR ?_
 refine sX ?_
 obtain ⟨x4, hx4, h⟩ := obind h
 refine sS rfl rfl rfl (z1p (i := s1) Tryz.underlying23 inf_5 rfl rfl rfl hx4 rfl) ?_
 iterate 2 refine sX ?_
 refine eX ?_
 refine z0f ?_
 refine bR ?_
 iterate 3 refine sX ?_
 refine eX ?_
 refine cX h rfl ?_ ?_
 intro hc5 h
 refine bR ?_
 refine eX ?_
 obtain rfl := eI h; exact z06 eK
 intro hc5 h
 refine z0g ?_
 refine cBx ?_
 refine bR ?_
 iterate 2 refine sX ?_
 obtain ⟨x6, hx6, h⟩ := obind h
 refine sS rfl rfl rfl (z1p (i := s1) Tryz.underlying23 inf_5 rfl rfl rfl hx6 rfl) ?_
 refine sX ?_
 refine eX ?_
 refine bR ?_
 iterate 2 refine sX ?_
 obtain ⟨x7, hx7, h⟩ := obind h
 refine sS rfl rfl rfl (z08 rfl Z5y rfl (wkr (wkr .nil)) ⟨rfl, ⟨rfl, trivial⟩⟩ (Z7g x4 x6 x7 hx7) rfl) ?_
 refine eX ?_
 refine bR ?_
 refine sX ?_
 refine eX ?_
 refine cX h rfl ?_ ?_
 intro hc8 h
 refine bR ?_
 refine sX ?_
 refine eX ?_
 obtain rfl := eI h; exact z06 eK
 intro hc8 h
 refine z0g ?_
 refine cBx ?_
 refine z0l ?_
 refine sS rfl rfl rfl (z2o (k := s1) (c := 1) rfl rfl rfl (by omega)) ?_
 refine sX (z0h ?_)
 exact ⟨rfl, (s1 + 1), h, jN⟩
 intro hc2 h
 refine z2b ?_
 refine cBx ?_
 refine z0f ?_
 refine bR ?_
 iterate 4 refine sX ?_
 refine eX ?_
 refine cX h rfl ?_ ?_
 intro hc9 h
 refine bR ?_
 refine eX ?_
 obtain rfl := eI h; exact z06 eK
 intro hc9 h
 refine z0g ?_
 refine cBx ?_
 refine bR ?_
 refine eX ?_
 obtain rfl := eI h; exact z06 eK
noncomputable def zw7 (a0 a1 : Int) : Option Int :=
 bif (decide (a0 < a1)) then (
 some (-1)
 ) else (
 bif (decide (a0 > a1)) then (
 some 1
 ) else (
 some 0
 )
 )
theorem Z7l (a0 a1 r : Int) (h : zw7 a0 a1 = some r) : z0p Tryz.prog 77 [(PV.v (.int .u64 a0)), (PV.v (.int .u64 a1))] (I64 r) := by
 unfold zw7 at h
 refine z0j Tryz.func77 rfl Tryz.ntmps77 Tryz.results77 rfl (z0n ?_)
 change BW _ _ _ ⟨[(0, (PV.v (.int .u64 a0))), (1, (PV.v (.int .u64 a1)))], [], _⟩ _
 refine bR ?_
 refine eX ?_
 refine z0f ?_
 refine z0o ?_
 refine cBx ?_
 refine bR ?_
 iterate 3 refine sX ?_
 refine eX ?_
 refine cX h rfl ?_ ?_
 intro hc1 h
 refine bR ?_
 refine eX ?_
 obtain rfl := eI h; exact z06 eK
 intro hc1 h
 refine bR ?_
 iterate 3 refine sX ?_
 refine eX ?_
 refine cX h rfl ?_ ?_
 intro hc2 h
 refine bR ?_
 refine eX ?_
 obtain rfl := eI h; exact z06 eK
 intro hc2 h
 refine z0g ?_
 refine cBx ?_
 refine bR ?_
 refine eX ?_
 obtain rfl := eI h; exact z06 eK
end Go.Proofs.YtmoijodjgkfhgaaGreat
