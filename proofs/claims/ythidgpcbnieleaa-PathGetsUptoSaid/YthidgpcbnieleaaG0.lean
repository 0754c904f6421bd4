/- Pure functions, and that calls answer as they say. -/
import Derived.Test.YthidgpcbnieleaaGS
namespace Go.Proofs.Ythidgpcbnieleaa
open Go Aw
set_option linter.unusedVariables false
set_option linter.unusedSimpArgs false
set_option maxRecDepth 20000
set_option maxHeartbeats 2000000
variable {ι : Type} {ρ : ι → Type}
noncomputable def znd (a0 : Int) : Option V :=
 bif ((Int.tmod a0 14) == 0) then (
 some (V.alien ⟨3, rfl⟩)
 ) else (
 bif ((Int.tmod a0 14) == 1) then (
 some (V.alien ⟨5, rfl⟩)
 ) else (
 bif ((Int.tmod a0 14) == 2) then (
 some (V.alien ⟨97, rfl⟩)
 ) else (
 bif ((Int.tmod a0 14) == 3) then (
 some (V.alien ⟨1, rfl⟩)
 ) else (
 bif ((Int.tmod a0 14) == 4) then (
 some (V.alien ⟨99, rfl⟩)
 ) else (
 bif ((Int.tmod a0 14) == 5) then (
 some (V.alien ⟨61, rfl⟩)
 ) else (
 bif ((Int.tmod a0 14) == 6) then (
 some (V.alien ⟨100, rfl⟩)
 ) else (
 bif ((Int.tmod a0 14) == 7) then (
 some (V.alien ⟨101, rfl⟩)
 ) else (
 bif ((Int.tmod a0 14) == 8) then (
 some (V.alien ⟨68, rfl⟩)
 ) else (
 bif ((Int.tmod a0 14) == 9) then (
 some (V.alien ⟨63, rfl⟩)
 ) else (
 bif ((Int.tmod a0 14) == 10) then (
 some (V.alien ⟨102, rfl⟩)
 ) else (
 bif ((Int.tmod a0 14) == 11) then (
 some (V.alien ⟨32, rfl⟩)
 ) else (
 bif ((Int.tmod a0 14) == 12) then (
 some (V.alien ⟨103, rfl⟩)
 ) else (
 some (V.alien ⟨104, rfl⟩)
 )
 )
 )
 )
 )
 )
 )
 )
 )
 )
 )
 )
 )
theorem Z2z (a0 : Int) (r : V) (h : znd a0 = some r) : z0o Try.prog 27 [(I64 a0)] (ofV r) := by
 unfold znd at h
 refine z0j Try.func27 rfl Try.ntmps27 Try.results27 rfl (z0q ?_)
 change BW _ _ _ ⟨[(0, (I64 a0))], [], _⟩ _
 refine bR ?_
 refine eX ?_
 refine z0d ?_
 refine bR ?_
 refine sX ?_
 refine sS rfl rfl rfl (zxk rfl rfl rfl (by decide)) (z08 ?_)
 refine cBx ?_
 refine z0r ?_
 refine cBx ?_
 refine bR ?_
 refine sX ?_
 refine eX ?_
 refine cX h rfl ?_ ?_
 intro hc1 h
 refine bR ?_
 refine sS rfl rfl rfl ((z1q Try.underlying3 rfl rfl rfl).wk ((Wk.iface Wk.junk).trans (Wk.eq (z30 ⟨3, rfl⟩).symm))) ?_
 refine eX ?_
 obtain rfl := eI h; exact z04 ⟨_, rfl, z0p (y := (ofV (V.alien ⟨3, rfl⟩))) (Wk.refl _) (ids_V (V.alien ⟨3, rfl⟩)) ⟨rfl, rfl⟩⟩
 intro hc1 h
 refine bR ?_
 refine sX ?_
 refine eX ?_
 refine cX h rfl ?_ ?_
 intro hc2 h
 refine bR ?_
 refine sS rfl rfl rfl ((z1q Try.underlying5 rfl rfl rfl).wk ((Wk.iface Wk.junk).trans (Wk.eq (z30 ⟨5, rfl⟩).symm))) ?_
 refine eX ?_
 obtain rfl := eI h; exact z04 ⟨_, rfl, z0p (y := (ofV (V.alien ⟨5, rfl⟩))) (Wk.refl _) (ids_V (V.alien ⟨5, rfl⟩)) ⟨rfl, rfl⟩⟩
 intro hc2 h
 refine bR ?_
 refine sX ?_
 refine eX ?_
 refine cX h rfl ?_ ?_
 intro hc3 h
 refine bR ?_
 refine zss rfl rfl rfl rfl rfl rfl rfl Try.underlying97 Try.underlying9 ?_
 refine sX ?_
 refine sS rfl rfl rfl ((z1q Try.underlying97 rfl rfl rfl).wk ((Wk.iface Wk.junk).trans (Wk.eq (z30 ⟨97, rfl⟩).symm))) ?_
 refine eX ?_
 obtain rfl := eI h; exact z04 ⟨_, rfl, z0p (y := (ofV (V.alien ⟨97, rfl⟩))) (Wk.refl _) (ids_V (V.alien ⟨97, rfl⟩)) ⟨rfl, rfl⟩⟩
 intro hc3 h
 refine bR ?_
 refine sX ?_
 refine eX ?_
 refine cX h rfl ?_ ?_
 intro hc4 h
 refine bR ?_
 refine sS rfl rfl rfl ((z1q Try.underlying1 rfl rfl rfl).wk ((Wk.iface Wk.junk).trans (Wk.eq (z30 ⟨1, rfl⟩).symm))) ?_
 refine eX ?_
 obtain rfl := eI h; exact z04 ⟨_, rfl, z0p (y := (ofV (V.alien ⟨1, rfl⟩))) (Wk.refl _) (ids_V (V.alien ⟨1, rfl⟩)) ⟨rfl, rfl⟩⟩
 intro hc4 h
 refine bR ?_
 refine sX ?_
 refine eX ?_
 refine cX h rfl ?_ ?_
 intro hc5 h
 refine bR ?_
 refine sS rfl rfl rfl ((z16 (xs := [(I64 1)]) Try.underlying30 zg8 rfl rfl rfl rfl rfl rfl ⟨lbE rfl, lbE rfl⟩ rfl).cast (y := (PV.sl (some 0) 3 1 (List.map (ofI .i64) ([1] : (List Int))))) rfl rfl) ?_
 refine sS rfl rfl rfl (z1a (cs := [(PV.sl (some 0) 3 1 (List.map (ofI .i64) ([1] : (List Int))))]) zzq Z13 rfl rfl rfl rfl) ?_
 refine sS rfl rfl rfl ((z1q Try.underlying99 rfl rfl rfl).wk ((Wk.iface Wk.junk).trans (Wk.eq (z30 ⟨99, rfl⟩).symm))) ?_
 refine eX ?_
 obtain rfl := eI h; exact z04 ⟨_, rfl, z0p (y := (ofV (V.alien ⟨99, rfl⟩))) (Wk.refl _) (ids_V (V.alien ⟨99, rfl⟩)) ⟨rfl, rfl⟩⟩
 intro hc5 h
 refine bR ?_
 refine sX ?_
 refine eX ?_
 refine cX h rfl ?_ ?_
 intro hc6 h
 refine bR ?_
 refine sS rfl rfl rfl ((z1q Try.underlying4 rfl rfl rfl).wk ((Wk.iface (Wk.refl _)).trans (Wk.eq (zrc _).symm))) ?_
 refine sS rfl rfl rfl ((z16 (xs := [(ofV (V.bool true))]) Try.underlying61 z2g rfl rfl rfl (by simp only [List.all_cons, List.all_nil, zbm, z44, Bool.and_true, Bool.true_and]; try rfl) (by simp only [List.all_cons, List.all_nil, csz_V, z6r, z1x, z1u]; try rfl) rfl ⟨lbE rfl, lbE rfl⟩ (by simp only [zgl, z6y, List.flatMap_cons, List.flatMap_nil, z1x, z1u]; try rfl)).cast (y := (PV.sl (some 0) 20 1 (List.map ofV ([(V.bool true)] : (List V))))) rfl rfl) ?_
 refine sS rfl rfl rfl ((z1q Try.underlying61 rfl rfl rfl).wk ((Wk.iface Wk.junk).trans (Wk.eq (z30 ⟨61, rfl⟩).symm))) ?_
 refine eX ?_
 obtain rfl := eI h; exact z04 ⟨_, rfl, z0p (y := (ofV (V.alien ⟨61, rfl⟩))) (Wk.refl _) (ids_V (V.alien ⟨61, rfl⟩)) ⟨rfl, rfl⟩⟩
 intro hc6 h
 refine bR ?_
 refine sX ?_
 refine eX ?_
 refine cX h rfl ?_ ?_
 intro hc7 h
 refine bR ?_
 refine sS rfl rfl rfl ((z1q Try.underlying100 rfl rfl rfl).wk ((Wk.iface Wk.junk).trans (Wk.eq (z30 ⟨100, rfl⟩).symm))) ?_
 refine eX ?_
 obtain rfl := eI h; exact z04 ⟨_, rfl, z0p (y := (ofV (V.alien ⟨100, rfl⟩))) (Wk.refl _) (ids_V (V.alien ⟨100, rfl⟩)) ⟨rfl, rfl⟩⟩
 intro hc7 h
 refine bR ?_
 refine sX ?_
 refine eX ?_
 refine cX h rfl ?_ ?_
 intro hc8 h
 refine bR ?_
 refine sS rfl rfl rfl ((z1q Try.underlying101 rfl rfl rfl).wk ((Wk.iface Wk.junk).trans (Wk.eq (z30 ⟨101, rfl⟩).symm))) ?_
 refine eX ?_
 obtain rfl := eI h; exact z04 ⟨_, rfl, z0p (y := (ofV (V.alien ⟨101, rfl⟩))) (Wk.refl _) (ids_V (V.alien ⟨101, rfl⟩)) ⟨rfl, rfl⟩⟩
 intro hc8 h
 refine bR ?_
 refine sX ?_
 refine eX ?_
 refine cX h rfl ?_ ?_
 intro hc9 h
 refine bR ?_
 refine sS rfl rfl rfl (z1a (cs := [(z0k ([97] : Str)), (I64 1), (PV.v (.slice none 0 0))]) zbi zix rfl rfl rfl rfl) ?_
 refine sS rfl rfl rfl ((z1q Try.underlying68 rfl rfl rfl).wk ((Wk.iface Wk.junk).trans (Wk.eq (z30 ⟨68, rfl⟩).symm))) ?_
 refine eX ?_
 obtain rfl := eI h; exact z04 ⟨_, rfl, z0p (y := (ofV (V.alien ⟨68, rfl⟩))) (Wk.refl _) (ids_V (V.alien ⟨68, rfl⟩)) ⟨rfl, rfl⟩⟩
 intro hc9 h
 refine bR ?_
 refine sX ?_
 refine eX ?_
 refine cX h rfl ?_ ?_
 intro hc10 h
 refine bR ?_
 refine sS rfl rfl rfl ((z16 (xs := []) Try.underlying63 z1c rfl rfl rfl rfl rfl rfl ⟨lbE rfl, lbE rfl⟩ rfl).cast (y := (PV.sl (some 0) 96 2 (List.map ofFld ([] : (List (Str × V)))))) rfl rfl) ?_
 refine sS rfl rfl rfl ((z1q Try.underlying63 rfl rfl rfl).wk ((Wk.iface Wk.junk).trans (Wk.eq (z30 ⟨63, rfl⟩).symm))) ?_
 refine eX ?_
 obtain rfl := eI h; exact z04 ⟨_, rfl, z0p (y := (ofV (V.alien ⟨63, rfl⟩))) (Wk.refl _) (ids_V (V.alien ⟨63, rfl⟩)) ⟨rfl, rfl⟩⟩
 intro hc10 h
 refine bR ?_
 refine sX ?_
 refine eX ?_
 refine cX h rfl ?_ ?_
 intro hc11 h
 refine bR ?_
 refine eX ?_
 refine bR ?_
 refine sX ?_
 refine sS rfl rfl rfl ((z1q Try.underlying102 rfl rfl rfl).wk ((Wk.iface Wk.junk).trans (Wk.eq (z30 ⟨102, rfl⟩).symm))) ?_
 refine eX ?_
 obtain rfl := eI h; exact z04 ⟨_, rfl, z0p (y := (ofV (V.alien ⟨102, rfl⟩))) (Wk.refl _) (ids_V (V.alien ⟨102, rfl⟩)) ⟨rfl, rfl⟩⟩
 intro hc11 h
 refine bR ?_
 refine sX ?_
 refine eX ?_
 refine cX h rfl ?_ ?_
 intro hc12 h
 refine bR ?_
 refine sS rfl rfl rfl ((z1q Try.underlying32 rfl rfl rfl).wk ((Wk.iface Wk.junk).trans (Wk.eq (z30 ⟨32, rfl⟩).symm))) ?_
 refine eX ?_
 obtain rfl := eI h; exact z04 ⟨_, rfl, z0p (y := (ofV (V.alien ⟨32, rfl⟩))) (Wk.refl _) (ids_V (V.alien ⟨32, rfl⟩)) ⟨rfl, rfl⟩⟩
 intro hc12 h
 refine bR ?_
 refine sX ?_
 refine eX ?_
 refine cX h rfl ?_ ?_
 intro hc13 h
 refine bR ?_
 refine eX ?_
 refine bR ?_
 refine sX ?_
 refine sS rfl rfl rfl ((z1q Try.underlying103 rfl rfl rfl).wk ((Wk.iface Wk.junk).trans (Wk.eq (z30 ⟨103, rfl⟩).symm))) ?_
 refine eX ?_
 obtain rfl := eI h; exact z04 ⟨_, rfl, z0p (y := (ofV (V.alien ⟨103, rfl⟩))) (Wk.refl _) (ids_V (V.alien ⟨103, rfl⟩)) ⟨rfl, rfl⟩⟩
 intro hc13 h
 refine z0c ?_
 refine cBx ?_
 refine bR ?_
 refine sS rfl rfl rfl (Op1.junk (zim (cs := [(I64 1), (I64 2)]) Try.underlying104 zy0 zg8 rfl rfl rfl rfl)) ?_
 refine sS rfl rfl rfl ((z1q Try.underlying104 rfl rfl rfl).wk ((Wk.iface Wk.junk).trans (Wk.eq (z30 ⟨104, rfl⟩).symm))) ?_
 refine eX ?_
 obtain rfl := eI h; exact z04 ⟨_, rfl, z0p (y := (ofV (V.alien ⟨104, rfl⟩))) (Wk.refl _) (ids_V (V.alien ⟨104, rfl⟩)) ⟨rfl, rfl⟩⟩
noncomputable def z50 (r_q1n : Term → Option V) (a0 : (List (Str × Term))) (g1 : (List (Str × V)) → Nat → Option (List (Str × V))) (s1 : (List (Str × V))) (s2 : Nat) : Option (List (Str × V)) :=
 bif (decide (((s2 : Nat) : Int) < (((a0).length : Nat) : Int))) then (
 ((a0)[s2]?).bind fun x5 =>
 ((a0)[s2]?).bind fun x6 =>
 (r_q1n (x6.2)).bind fun x7 =>
 (z6x 32 s1 ([(x5.1, x7)] : (List (Str × V)))).bind fun x8 =>
 g1 x8 (s2 + 1)
 ) else (
 some s1
 )
theorem zaa (r_q1n : OF ρ → Term → Option V) (h_r_q1n : ∀ y0, CM (fun G => r_q1n G y0)) (g1 : OF ρ → (List (Str × V)) → Nat → Option (List (Str × V))) (h_g1 : ∀ y0 y1, CM (fun G => g1 G y0 y1)) (a0 : (List (Str × Term))) (s1 : (List (Str × V))) (s2 : Nat) : CM (fun G : OF ρ => z50 (r_q1n G) a0 (g1 G) s1 s2) := by
 simp only [z50]
 repeat (first | exact z0h | exact h_r_q1n _ | exact h_g1 _ _ | refine z10 ?_ ?_ | refine z11 ?_ (fun _ => ?_))
noncomputable def zeb (r_q1n : Term → Option V) (a0 : (List (Str × Term))) (s1 : (List (Str × V))) (s2 : Nat) : Option (List (Str × V)) :=
 z3b (ι := ((List (Str × V)) × Nat)) (ρ := fun _ => (List (Str × V))) (fun g i => z50 r_q1n a0 (fun s1 s2 => g (s1, s2)) i.1 i.2) (s1, s2)
theorem zh7 (r_q1n : Term → Option V) (a0 : (List (Str × Term))) (s1 : (List (Str × V))) (s2 : Nat) : zeb r_q1n a0 s1 s2 = z50 r_q1n a0 (zeb r_q1n a0) s1 s2 :=
 z1f (ι := ((List (Str × V)) × Nat)) (ρ := fun _ => (List (Str × V))) (Φ := fun g i => z50 r_q1n a0 (fun s1 s2 => g (s1, s2)) i.1 i.2) (fun i => zaa (ι := ((List (Str × V)) × Nat)) (ρ := fun _ => (List (Str × V))) (fun _ => r_q1n) (fun _ => z0h) (fun g => (fun s1 s2 => g (s1, s2))) (fun _ _ => z1i) a0 i.1 i.2) (s1, s2)
theorem zp3 (r_q1n : OF ρ → Term → Option V) (h_r_q1n : ∀ y0, CM (fun G => r_q1n G y0)) (a0 : (List (Str × Term))) (s1 : (List (Str × V))) (s2 : Nat) : CM (fun G : OF ρ => zeb (r_q1n G) a0 s1 s2) :=
 z5z (κ := ((List (Str × V)) × Nat)) (τ := fun _ => (List (Str × V))) (Φ := fun G g i => z50 (r_q1n G) a0 (fun s1 s2 => g (s1, s2)) i.1 i.2) (fun g i => zaa r_q1n h_r_q1n (fun _ => (fun s1 s2 => g (s1, s2))) (fun _ _ => z0h) a0 i.1 i.2) (fun G i => zaa (ι := ((List (Str × V)) × Nat)) (ρ := fun _ => (List (Str × V))) (fun _ => r_q1n G) (fun _ => z0h) (fun g => (fun s1 s2 => g (s1, s2))) (fun _ _ => z1i) a0 i.1 i.2) (s1, s2)
noncomputable def zkb (r_q1x : (List (Str × Term)) → Option (List (Str × V))) (r_q1n : Term → Option V) (a0 : (List (Str × Term))) : Option (List (Str × V)) :=
 zeb r_q1n a0 ([] : (List (Str × V))) 0
theorem zux (r_q1x : OF ρ → (List (Str × Term)) → Option (List (Str × V))) (h_r_q1x : ∀ y0, CM (fun G => r_q1x G y0)) (r_q1n : OF ρ → Term → Option V) (h_r_q1n : ∀ y0, CM (fun G => r_q1n G y0)) (a0 : (List (Str × Term))) : CM (fun G : OF ρ => zkb (r_q1x G) (r_q1n G) a0) := by
 simp only [zkb]
 repeat (first | exact z0h | exact h_r_q1x _ | exact h_r_q1n _ | apply zp3 | refine z10 ?_ ?_ | refine z11 ?_ (fun _ => ?_) | intro _ | assumption)
noncomputable def z53 (r_q1n : Term → Option V) (a0 : Term) (g1 : (List V) → Nat → Option V) (s10 : (List V)) (s11 : Nat) : Option V :=
 bif (decide (((s11 : Nat) : Int) < (((a0.list).length : Nat) : Int))) then (
 ((a0.list)[s11]?).bind fun x14 =>
 (r_q1n x14).bind fun x15 =>
 (z6x 16 s10 ([x15] : (List V))).bind fun x16 =>
 g1 x16 (s11 + 1)
 ) else (
 some (V.list s10)
 )
theorem zad (r_q1n : OF ρ → Term → Option V) (h_r_q1n : ∀ y0, CM (fun G => r_q1n G y0)) (g1 : OF ρ → (List V) → Nat → Option V) (h_g1 : ∀ y0 y1, CM (fun G => g1 G y0 y1)) (a0 : Term) (s10 : (List V)) (s11 : Nat) : CM (fun G : OF ρ => z53 (r_q1n G) a0 (g1 G) s10 s11) := by
 simp only [z53]
 repeat (first | exact z0h | exact h_r_q1n _ | exact h_g1 _ _ | refine z10 ?_ ?_ | refine z11 ?_ (fun _ => ?_))
noncomputable def zch (r_q1n : Term → Option V) (a0 : Term) (s10 : (List V)) (s11 : Nat) : Option V :=
 z3b (ι := ((List V) × Nat)) (ρ := fun _ => V) (fun g i => z53 r_q1n a0 (fun s10 s11 => g (s10, s11)) i.1 i.2) (s10, s11)
theorem zhc (r_q1n : Term → Option V) (a0 : Term) (s10 : (List V)) (s11 : Nat) : zch r_q1n a0 s10 s11 = z53 r_q1n a0 (zch r_q1n a0) s10 s11 :=
 z1f (ι := ((List V) × Nat)) (ρ := fun _ => V) (Φ := fun g i => z53 r_q1n a0 (fun s10 s11 => g (s10, s11)) i.1 i.2) (fun i => zad (ι := ((List V) × Nat)) (ρ := fun _ => V) (fun _ => r_q1n) (fun _ => z0h) (fun g => (fun s10 s11 => g (s10, s11))) (fun _ _ => z1i) a0 i.1 i.2) (s10, s11)
theorem zp6 (r_q1n : OF ρ → Term → Option V) (h_r_q1n : ∀ y0, CM (fun G => r_q1n G y0)) (a0 : Term) (s10 : (List V)) (s11 : Nat) : CM (fun G : OF ρ => zch (r_q1n G) a0 s10 s11) :=
 z5z (κ := ((List V) × Nat)) (τ := fun _ => V) (Φ := fun G g i => z53 (r_q1n G) a0 (fun s10 s11 => g (s10, s11)) i.1 i.2) (fun g i => zad r_q1n h_r_q1n (fun _ => (fun s10 s11 => g (s10, s11))) (fun _ _ => z0h) a0 i.1 i.2) (fun G i => zad (ι := ((List V) × Nat)) (ρ := fun _ => V) (fun _ => r_q1n G) (fun _ => z0h) (fun g => (fun s10 s11 => g (s10, s11))) (fun _ _ => z1i) a0 i.1 i.2) (s10, s11)
noncomputable def zke (r_q1x : (List (Str × Term)) → Option (List (Str × V))) (r_q1n : Term → Option V) (a0 : Term) : Option V :=
 bif (a0.kind == 1) then (
 some V.nil
 ) else (
 bif (a0.kind == 2) then (
 some (V.bool a0.bool)
 ) else (
 bif (a0.kind == 3) then (
 some (V.int a0.int)
 ) else (
 bif (a0.kind == 4) then (
 some (V.float a0.float)
 ) else (
 bif (a0.kind == 5) then (
 some (V.text a0.text)
 ) else (
 bif (a0.kind == 6) then (
 (z6x 1 ([] : Str) a0.bytes).bind fun x7 =>
 some (V.bytes x7)
 ) else (
 bif (a0.kind == 7) then (
 some (V.ref a0.ref)
 ) else (
 bif (a0.kind == 8) then (
 zch r_q1n a0 ([] : (List V)) 0
 ) else (
 bif (a0.kind == 9) then (
 (r_q1x a0.fields).bind fun x18 =>
 some (V.dict x18)
 ) else (
 bif (a0.kind == 10) then (
 (r_q1x a0.fields).bind fun x20 =>
 some (V.record a0.cls a0.ver x20)
 ) else (
 bif (a0.kind == 11) then (
 some V.nothing
 ) else (
 (znd a0.int).bind fun x22 =>
 some x22
 )
 )
 )
 )
 )
 )
 )
 )
 )
 )
 )
theorem zv0 (r_q1x : OF ρ → (List (Str × Term)) → Option (List (Str × V))) (h_r_q1x : ∀ y0, CM (fun G => r_q1x G y0)) (r_q1n : OF ρ → Term → Option V) (h_r_q1n : ∀ y0, CM (fun G => r_q1n G y0)) (a0 : Term) : CM (fun G : OF ρ => zke (r_q1x G) (r_q1n G) a0) := by
 simp only [zke]
 repeat (first | exact z0h | exact h_r_q1x _ | exact h_r_q1n _ | apply zp6 | refine z10 ?_ ?_ | refine z11 ?_ (fun _ => ?_) | intro _ | assumption)
inductive C_q1x where
 | k_q1x (a0 : (List (Str × Term)))
 | k_q1n (a0 : Term)
def C_q1x.R : C_q1x → Type
 | .k_q1x _ => (List (Str × V))
 | .k_q1n _ => V
noncomputable def C_q1x.F (g : ∀ i : C_q1x, Option i.R) : ∀ i : C_q1x, Option i.R
 | .k_q1x a0 => zkb (fun a0 => g (.k_q1x a0)) (fun a0 => g (.k_q1n a0)) a0
 | .k_q1n a0 => zke (fun a0 => g (.k_q1x a0)) (fun a0 => g (.k_q1n a0)) a0
noncomputable def ztm (a0 : (List (Str × Term))) : Option (List (Str × V)) := z3b C_q1x.F (.k_q1x a0)
noncomputable def z8h (a0 : Term) : Option V := z3b C_q1x.F (.k_q1n a0)
abbrev gg1 := fun (g : ∀ i : C_q1x, Option i.R) a0 => g (.k_q1x a0)
theorem hh1 (a0 : _) : CM (ρ := C_q1x.R) (fun g => g (C_q1x.k_q1x a0)) := z1i
abbrev gg2 := fun (g : ∀ i : C_q1x, Option i.R) a0 => g (.k_q1n a0)
theorem hh2 (a0 : _) : CM (ρ := C_q1x.R) (fun g => g (C_q1x.k_q1n a0)) := z1i
theorem C_q1x.cm (i : C_q1x) : CM (fun g : (∀ i : C_q1x, Option i.R) => C_q1x.F g i) := by
 cases i with
 | k_q1x a0 => exact zux gg1 hh1 gg2 hh2 a0
 | k_q1n a0 => exact zv0 gg1 hh1 gg2 hh2 a0
theorem Z4v (a0 : (List (Str × Term))) : ztm a0 = zkb ztm z8h a0 := z1f C_q1x.cm (.k_q1x a0)
theorem Z4y (a0 : Term) : z8h a0 = zke ztm z8h a0 := z1f C_q1x.cm (.k_q1n a0)
def C_q1x.Q : ∀ i : C_q1x, i.R → Prop
 | .k_q1x a0 => fun (r : (List (Str × V))) => z0o Try.prog 26 [(PV.sl none 94 12 (List.map z0s a0))] (PV.sl none 96 2 (List.map ofFld r))
 | .k_q1n a0 => fun (r : V) => z0o Try.prog 7 [(z0b a0)] (ofV r)
theorem zon (r_q1x : (List (Str × Term)) → Option (List (Str × V))) (c_q1x : ∀ (a0 : (List (Str × Term))) r, r_q1x a0 = some r → z0o Try.prog 26 [(PV.sl none 94 12 (List.map z0s a0))] (PV.sl none 96 2 (List.map ofFld r))) (r_q1n : Term → Option V) (c_q1n : ∀ (a0 : Term) r, r_q1n a0 = some r → z0o Try.prog 7 [(z0b a0)] (ofV r)) (a0 : (List (Str × Term))) (r : (List (Str × V))) (h : zkb r_q1x r_q1n a0 = some r) : z0o Try.prog 26 [(PV.sl none 94 12 (List.map z0s a0))] (PV.sl none 96 2 (List.map ofFld r)) := by
 unfold zkb at h
 refine z0j Try.func26 rfl Try.ntmps26 Try.results26 rfl (z0q ?_)
 change BW _ _ _ ⟨[(0, (PV.sl none 94 12 (List.map z0s a0)))], [], _⟩ _
 refine bR ?_
 refine eX ?_
 refine bR ?_
 refine sS rfl rfl rfl ((z16 (xs := []) Try.underlying64 z1c rfl rfl rfl rfl rfl rfl ⟨lbE rfl, lbE rfl⟩ rfl).cast (y := (PV.sl (some 0) 96 2 (List.map ofFld ([] : (List (Str × V)))))) rfl rfl) ?_
 refine eX ?_
 refine z0d ?_
 refine bR ?_
 refine eX ?_
 refine z0r ?_
 refine cBx ?_
 unfold zeb at h
 refine z3c (σ := ((List (Str × V)) × Nat)) (fun i => [(0, (PV.sl none 94 12 (List.map z0s a0))), (3, (PV.sl (some 0) 96 2 (List.map ofFld i.1))), (4, (I64 (((i.2 : Nat) : Int))))]) (fun i => [.arr 96 (i.1).length]) (([] : (List (Str × V))), 0) h ?_ ?_ ?_
 intro i; exact ⟨lbE rfl, ⟨(z02 (z0f z1l _)), ⟨(z4m rfl (z36 z19 _)), ⟨(z02 rfl), trivial⟩⟩⟩, trivial⟩
 exact jN
 rintro g1_f ⟨s1, s2⟩ h; replace h : z50 r_q1n a0 (fun y0 y1 => g1_f (y0, y1)) s1 s2 = some r := h; unfold z50 at h
 change BW _ _ _ ⟨[(0, (PV.sl none 94 12 (List.map z0s a0))), (3, (PV.sl (some 0) 96 2 (List.map ofFld s1))), (4, (I64 (((s2 : Nat) : Int))))], [.arr 96 (s1).length], _⟩ _
 refine z0d ?_
 refine bR ?_
 iterate 3 refine sX ?_
 refine eX ?_
 refine z3p (t := 7) rfl fun hb4 => ?_
 try rw [List.length_map] at hb4
 refine cX h rfl ?_ ?_
 intro hc3 h
 have hc3_ := of_decide_eq_true hc3
 refine z0c ?_
 refine cBx ?_
 refine z0d ?_
 refine z0r ?_
 refine cBx ?_
 refine z1y 14 [13] [] mo (by kernel_rfl) ?_
 iterate 3 refine gX ?_
 obtain ⟨x5, hx5, h⟩ := obind h
 refine z1v rfl rfl rfl rfl (fun H hp => z1d (i := s2) Try.underlying27 z22 rfl rfl rfl hx5 (z1o _)) ?_
 iterate 4 refine gX ?_
 obtain ⟨x6, hx6, h⟩ := obind h
 refine z1v rfl rfl rfl rfl (fun H hp => z1d (i := s2) Try.underlying27 z22 rfl rfl rfl hx6 (z1o _)) ?_
 iterate 2 refine gX ?_
 obtain ⟨x7, hx7, h⟩ := obind h
 refine z1v rfl rfl rfl rfl (fun H hp => z03 rfl Z2q rfl (wkr .nil) ⟨(z06 (x6.2)), trivial⟩ (c_q1n (x6.2) x7 hx7) (ids_V x7)) ?_
 refine z1v rfl rfl rfl rfl (fun H hp => z1a (cs := [(z0k x5.1), (ofV x7)]) zgv z1c rfl rfl (by simp only [List.all_cons, List.all_nil, zbm, z44, Bool.and_true, Bool.true_and]; try rfl) (by simp only [z6y, List.getElem?_cons_zero, List.getElem?_cons_succ, z1x, z1u]; rfl)) ?_
 refine z9y rfl rfl rfl rfl ((z16 (xs := [(PV.agg [(z0k x5.1), (ofV x7)])]) Try.underlying64 z1c rfl rfl rfl (by simp only [List.all_cons, List.all_nil, zbm, z44, Bool.and_true, Bool.true_and]; try rfl) (by simp only [List.all_cons, List.all_nil, csz_V, z6r, z1x, z1u]; try rfl) rfl ⟨lbE rfl, lbE rfl⟩ (by simp only [zgl, z6y, List.flatMap_cons, List.flatMap_nil, z1x, z1u]; try rfl)).cast (y := (PV.sl (some 1) 96 2 (List.map ofFld ([(x5.1, x7)] : (List (Str × V)))))) rfl rfl) trivial ?_
 refine z23 ?_
 change AO _ _ _ _ _
 obtain ⟨x8, hx8, h⟩ := obind h
 refine sS rfl rfl rfl (z21 Try.underlying64 z1c rfl Try.underlying64 rfl rfl rfl rfl z7i z7l hx8 rfl) ?_
 refine eX ?_
 refine z0e ?_
 refine sX ?_
 refine sS rfl rfl rfl (z20 (k := s2) (c := 1) rfl rfl rfl (by omega)) ?_
 refine sX (z08 ?_)
 exact ⟨rfl, (x8, (s2 + 1)), h, jN⟩
 intro hc3 h
 refine z1z ?_
 refine cBx ?_
 refine bR ?_
 refine sX ?_
 refine eX ?_
 obtain rfl := eI h; exact z04 ⟨_, rfl, z0p (y := (PV.sl none 96 2 (List.map ofFld s1))) Wk.tok (z0f z19 s1) ⟨rfl, rfl⟩⟩
theorem zmt (r_q1x : (List (Str × Term)) → Option (List (Str × V))) (c_q1x : ∀ (a0 : (List (Str × Term))) r, r_q1x a0 = some r → z0o Try.prog 26 [(PV.sl none 94 12 (List.map z0s a0))] (PV.sl none 96 2 (List.map ofFld r))) (r_q1n : Term → Option V) (c_q1n : ∀ (a0 : Term) r, r_q1n a0 = some r → z0o Try.prog 7 [(z0b a0)] (ofV r)) (a0 : Term) (r : V) (h : zke r_q1x r_q1n a0 = some r) : z0o Try.prog 7 [(z0b a0)] (ofV r) := by
 unfold zke at h
 refine z0j Try.func7 rfl Try.ntmps7 Try.results7 rfl (z0q ?_)
 change BW _ _ _ ⟨[(0, (z0b a0))], [], _⟩ _
 refine bR ?_
 refine sX ?_
 refine eX ?_
 refine z0d ?_
 refine bR ?_
 refine sX ?_
 refine eX ?_
 refine z0r ?_
 refine cBx ?_
 refine bR ?_
 refine sX ?_
 refine eX ?_
 refine cX h rfl ?_ ?_
 intro hc1 h
 refine bR ?_
 refine eX ?_
 obtain rfl := eI h; exact z04 ⟨_, rfl, z0p (y := (ofV V.nil)) (Wk.eq mk_nil.symm) (ids_V V.nil) ⟨rfl, rfl⟩⟩
 intro hc1 h
 refine bR ?_
 refine sX ?_
 refine eX ?_
 refine cX h rfl ?_ ?_
 intro hc2 h
 refine bR ?_
 iterate 2 refine sX ?_
 refine sS rfl rfl rfl ((z1q Try.underlying4 rfl rfl rfl).wk ((Wk.iface (Wk.refl _)).trans (Wk.eq (zrc _).symm))) ?_
 refine eX ?_
 obtain rfl := eI h; exact z04 ⟨_, rfl, z0p (y := (ofV (V.bool a0.bool))) (Wk.refl _) (ids_V (V.bool a0.bool)) ⟨rfl, rfl⟩⟩
 intro hc2 h
 refine bR ?_
 refine sX ?_
 refine eX ?_
 refine cX h rfl ?_ ?_
 intro hc3 h
 refine bR ?_
 iterate 2 refine sX ?_
 refine sS rfl rfl rfl ((z1q Try.underlying2 rfl rfl rfl).wk ((Wk.iface (Wk.refl _)).trans (Wk.eq (Z0z _).symm))) ?_
 refine eX ?_
 obtain rfl := eI h; exact z04 ⟨_, rfl, z0p (y := (ofV (V.int a0.int))) (Wk.refl _) (ids_V (V.int a0.int)) ⟨rfl, rfl⟩⟩
 intro hc3 h
 refine bR ?_
 refine sX ?_
 refine eX ?_
 refine cX h rfl ?_ ?_
 intro hc4 h
 refine bR ?_
 iterate 2 refine sX ?_
 refine sS rfl rfl rfl ((z1q Try.underlying22 rfl rfl rfl).wk ((Wk.iface (Wk.refl _)).trans (Wk.eq (zu9 _).symm))) ?_
 refine eX ?_
 obtain rfl := eI h; exact z04 ⟨_, rfl, z0p (y := (ofV (V.float a0.float))) (Wk.refl _) (ids_V (V.float a0.float)) ⟨rfl, rfl⟩⟩
 intro hc4 h
 refine bR ?_
 refine sX ?_
 refine eX ?_
 refine cX h rfl ?_ ?_
 intro hc5 h
 refine bR ?_
 iterate 2 refine sX ?_
 refine sS rfl rfl rfl ((z1q Try.underlying9 rfl rfl rfl).wk ((Wk.iface (Wk.refl _)).trans (Wk.eq (zxu _).symm))) ?_
 refine eX ?_
 obtain rfl := eI h; exact z04 ⟨_, rfl, z0p (y := (ofV (V.text a0.text))) (Wk.refl _) (ids_V (V.text a0.text)) ⟨rfl, rfl⟩⟩
 intro hc5 h
 refine bR ?_
 refine sX ?_
 refine eX ?_
 refine cX h rfl ?_ ?_
 intro hc6 h
 refine bR ?_
 refine sS rfl rfl rfl ((z16 (xs := []) Try.underlying23 inf_5 rfl rfl rfl rfl rfl rfl ⟨lbE rfl, lbE rfl⟩ rfl).cast (y := (PV.sl (some 1) 5 1 (List.map ofB ([] : Str)))) rfl rfl) ?_
 iterate 2 refine sX ?_
 obtain ⟨x7, hx7, h⟩ := obind h
 refine sS rfl rfl rfl (z21 Try.underlying23 inf_5 rfl Try.underlying23 rfl rfl rfl rfl (fun _ => rfl) (fun _ => rfl) hx7 rfl) ?_
 refine sS rfl rfl rfl ((z1q Try.underlying23 rfl rfl rfl).wk ((Wk.iface Wk.tok).trans (Wk.eq (zll _).symm))) ?_
 refine eX ?_
 obtain rfl := eI h; exact z04 ⟨_, rfl, z0p (y := (ofV (V.bytes x7))) (Wk.refl _) (ids_V (V.bytes x7)) ⟨rfl, rfl⟩⟩
 intro hc6 h
 refine bR ?_
 refine sX ?_
 refine eX ?_
 refine cX h rfl ?_ ?_
 intro hc8 h
 refine bR ?_
 iterate 2 refine sX ?_
 refine sS rfl rfl rfl ((z1q Try.underlying25 rfl rfl rfl).wk ((Wk.iface (Wk.refl _)).trans (Wk.eq (Z0y _).symm))) ?_
 refine eX ?_
 obtain rfl := eI h; exact z04 ⟨_, rfl, z0p (y := (ofV (V.ref a0.ref))) (Wk.refl _) (ids_V (V.ref a0.ref)) ⟨rfl, rfl⟩⟩
 intro hc8 h
 refine bR ?_
 refine sX ?_
 refine eX ?_
 refine cX h rfl ?_ ?_
 intro hc9 h
 refine bR ?_
 refine sS rfl rfl rfl ((z16 (xs := []) Try.underlying62 z2g rfl rfl rfl rfl rfl rfl ⟨lbE rfl, lbE rfl⟩ rfl).cast (y := (PV.sl (some 1) 20 1 (List.map ofV ([] : (List V))))) rfl rfl) ?_
 refine eX ?_
 refine z0d ?_
 refine bR ?_
 refine eX ?_
 refine z0r ?_
 refine cBx ?_
 unfold zch at h
 refine z3c (σ := ((List V) × Nat)) (fun i => [(1, (PV.rf 0 0)), (3, (PV.sl (some 1) 20 1 (List.map ofV i.1))), (4, (I64 (((i.2 : Nat) : Int))))]) (fun i => [.box 29 (z1r a0), .arr 20 (i.1).length]) (([] : (List V)), 0) h ?_ ?_ ?_
 intro i; exact ⟨lbE rfl, ⟨(il_rf rfl), ⟨(z4m rfl (z36 ids_V _)), ⟨(z02 rfl), trivial⟩⟩⟩, ⟨wfC29, trivial⟩⟩
 exact jN
 rintro g1_f ⟨s10, s11⟩ h; replace h : z53 r_q1n a0 (fun y0 y1 => g1_f (y0, y1)) s10 s11 = some r := h; unfold z53 at h
 change BW _ _ _ ⟨[(1, (PV.rf 0 0)), (3, (PV.sl (some 1) 20 1 (List.map ofV s10))), (4, (I64 (((s11 : Nat) : Int))))], [.box 29 (z1r a0), .arr 20 (s10).length], _⟩ _
 refine z0d ?_
 refine bR ?_
 iterate 4 refine sX ?_
 refine eX ?_
 refine z3p (t := 47) rfl fun hb13 => ?_
 try rw [List.length_map] at hb13
 refine cX h rfl ?_ ?_
 intro hc12 h
 have hc12_ := of_decide_eq_true hc12
 refine z0c ?_
 refine cBx ?_
 refine z0d ?_
 refine z0r ?_
 refine cBx ?_
 refine z0e ?_
 iterate 4 refine sX ?_
 obtain ⟨x14, hx14, h⟩ := obind h
 refine sS rfl rfl rfl (z1d (i := s11) Try.underlying26 z0v rfl rfl rfl hx14 (z2b _)) ?_
 refine sX ?_
 obtain ⟨x15, hx15, h⟩ := obind h
 refine sS rfl rfl rfl (z03 rfl Z2q rfl (wkr .nil) ⟨(z06 x14), trivial⟩ (c_q1n x14 x15 hx15) (ids_V x15)) ?_
 refine sS rfl rfl rfl ((z16 (xs := [(ofV x15)]) Try.underlying62 z2g rfl rfl rfl (by simp only [List.all_cons, List.all_nil, zbm, z44, Bool.and_true, Bool.true_and]; try rfl) (by simp only [List.all_cons, List.all_nil, csz_V, z6r, z1x, z1u]; try rfl) rfl ⟨lbE rfl, lbE rfl⟩ (by simp only [zgl, z6y, List.flatMap_cons, List.flatMap_nil, z1x, z1u]; try rfl)).cast (y := (PV.sl (some 2) 20 1 (List.map ofV ([x15] : (List V))))) rfl rfl) ?_
 obtain ⟨x16, hx16, h⟩ := obind h
 refine sS rfl rfl rfl (z21 Try.underlying62 z2g rfl Try.underlying62 rfl rfl rfl rfl csz_V z8t hx16 rfl) ?_
 refine eX ?_
 refine z0e ?_
 refine sX ?_
 refine sS rfl rfl rfl (z20 (k := s11) (c := 1) rfl rfl rfl (by omega)) ?_
 refine sX (z08 ?_)
 exact ⟨rfl, (x16, (s11 + 1)), h, jN⟩
 intro hc12 h
 refine z1z ?_
 refine cBx ?_
 refine bR ?_
 refine sX ?_
 refine sS rfl rfl rfl ((z1q Try.underlying62 rfl rfl rfl).wk ((Wk.iface Wk.tok).trans (Wk.eq (zda _).symm))) ?_
 refine eX ?_
 obtain rfl := eI h; exact z04 ⟨_, rfl, z0p (y := (ofV (V.list s10))) (Wk.refl _) (ids_V (V.list s10)) ⟨rfl, rfl⟩⟩
 intro hc9 h
 refine bR ?_
 refine sX ?_
 refine eX ?_
 refine cX h rfl ?_ ?_
 intro hc17 h
 refine bR ?_
 iterate 2 refine sX ?_
 obtain ⟨x18, hx18, h⟩ := obind h
 refine sS rfl rfl rfl (z03 rfl Z22 rfl (wkr .nil) ⟨(z0f z1l a0.fields), trivial⟩ (c_q1x a0.fields x18 hx18) (z0f z19 x18)) ?_
 refine sS rfl rfl rfl ((z1q Try.underlying64 rfl rfl rfl).wk ((Wk.iface (Wk.refl _)).trans (Wk.eq (zg2 _).symm))) ?_
 refine eX ?_
 obtain rfl := eI h; exact z04 ⟨_, rfl, z0p (y := (ofV (V.dict x18))) (Wk.refl _) (ids_V (V.dict x18)) ⟨rfl, rfl⟩⟩
 intro hc17 h
 refine bR ?_
 refine sX ?_
 refine eX ?_
 refine cX h rfl ?_ ?_
 intro hc19 h
 refine z0d (z1y 7 [] [0] mo (by kernel_rfl) ?_)
 iterate 6 refine gX ?_
 obtain ⟨x20, hx20, h⟩ := obind h
 refine z1v rfl rfl rfl rfl (fun H hp => z03 rfl Z22 rfl (wkr .nil) ⟨(z0f z1l a0.fields), trivial⟩ (c_q1x a0.fields x20 hx20) (z0f z19 x20)) ?_
 refine z23 ?_
 change AO _ _ _ _ _
 refine sS rfl rfl rfl (z1a (cs := [(z0k a0.cls), (I64 a0.ver), (PV.sl none 96 2 (List.map ofFld x20))]) zbi zix rfl rfl rfl rfl) ?_
 refine sX ?_
 refine sS rfl rfl rfl (z1q Try.underlying66 rfl rfl rfl) ?_
 refine eX ?_
 refine zav 1 2 (y := (ofV (V.record a0.cls a0.ver x20))) rfl rfl ((Wk.iface (Wk.pt (x := .agg [(z0k a0.cls), (I64 a0.ver), (PV.sl none 96 2 (List.map ofFld x20))]) (y := zio (Rec.mk a0.cls a0.ver x20)) (wkr (wkr (wkr .nil))))).trans (Wk.eq (ziq (some (Rec.mk a0.cls a0.ver x20))).symm)) ?_
 obtain rfl := eI h; exact z04 ⟨_, rfl, z0p (y := (ofV (V.record a0.cls a0.ver x20))) (Wk.refl _) (ids_V (V.record a0.cls a0.ver x20)) ⟨rfl, rfl⟩⟩
 intro hc19 h
 refine bR ?_
 refine sX ?_
 refine eX ?_
 refine cX h rfl ?_ ?_
 intro hc21 h
 refine bR ?_
 refine eX ?_
 refine bR ?_
 refine sX ?_
 refine sS rfl rfl rfl ((z1q Try.underlying66 rfl rfl rfl).wk (Wk.eq (ziq none).symm)) ?_
 refine eX ?_
 obtain rfl := eI h; exact z04 ⟨_, rfl, z0p (y := (ofV V.nothing)) (Wk.refl _) (ids_V V.nothing) ⟨rfl, rfl⟩⟩
 intro hc21 h
 refine z0c ?_
 refine cBx ?_
 refine bR ?_
 iterate 2 refine sX ?_
 obtain ⟨x22, hx22, h⟩ := obind h
 refine sS rfl rfl rfl (z03 rfl Z4m rfl (wkr .nil) ⟨rfl, trivial⟩ (Z2z a0.int x22 hx22) (ids_V x22)) ?_
 refine eX ?_
 obtain rfl := eI h; exact z04 ⟨_, rfl, z0p (y := (ofV x22)) (Wk.refl _) (ids_V x22) ⟨rfl, rfl⟩⟩
theorem C_q1x.sound : ∀ (i : C_q1x) (r : i.R), z3b C_q1x.F i = some r → C_q1x.Q i r := by
 refine z42 (Φ := C_q1x.F) (Q := C_q1x.Q) ?_
 intro g hg i r h
 cases i with
 | k_q1x a0 => exact zon (fun a0 => g (.k_q1x a0)) (fun a0 r hr => hg (.k_q1x a0) r hr) (fun a0 => g (.k_q1n a0)) (fun a0 r hr => hg (.k_q1n a0) r hr) a0 r h
 | k_q1n a0 => exact zmt (fun a0 => g (.k_q1x a0)) (fun a0 r hr => hg (.k_q1x a0) r hr) (fun a0 => g (.k_q1n a0)) (fun a0 r hr => hg (.k_q1n a0) r hr) a0 r h
theorem zzw (a0 : Term) (r : V) (h : z8h a0 = some r) : z0o Try.prog 7 [(z0b a0)] (ofV r) := C_q1x.sound (.k_q1n a0) r h
noncomputable def zqj (a0 : (List S_api_Step)) : Option (List S_api_Step) :=
 (z6x 32 ([] : (List S_api_Step)) a0).bind fun x1 =>
 (z6x 32 x1 ([(S_api_Step.mk ([98, 101, 104, 105, 110, 100] : Str) false 0)] : (List S_api_Step))).bind fun x2 =>
 some x2
theorem Z3a (a0 r : (List S_api_Step)) (h : zqj a0 = some r) : z0o Try.prog 17 [(PV.sl none 76 3 (List.map z01 a0))] (PV.sl none 76 3 (List.map z01 r)) := by
 unfold zqj at h
 refine z0j Try.func17 rfl Try.ntmps17 Try.results17 rfl (z0q ?_)
 change BW _ _ _ ⟨[(0, (PV.sl none 76 3 (List.map z01 a0)))], [], _⟩ _
 refine bR ?_
 refine eX ?_
 refine bR ?_
 refine sS rfl rfl rfl ((z16 (xs := []) Try.underlying37 z1w rfl rfl rfl rfl rfl rfl ⟨lbE rfl, lbE rfl⟩ rfl).cast (y := (PV.sl (some 0) 76 3 (List.map z01 ([] : (List S_api_Step))))) rfl rfl) ?_
 refine sX ?_
 obtain ⟨x1, hx1, h⟩ := obind h
 refine sS rfl rfl rfl (z21 Try.underlying37 z1w rfl Try.underlying37 rfl rfl rfl rfl z8a z6v hx1 rfl) ?_
 refine sS rfl rfl rfl (z1a (cs := [(z0k ([98, 101, 104, 105, 110, 100] : Str)), (BO false), (I64 0)]) zww z1w rfl rfl rfl rfl) ?_
 refine sS rfl rfl rfl ((z16 (xs := [(PV.agg [(z0k ([98, 101, 104, 105, 110, 100] : Str)), (BO false), (I64 0)])]) Try.underlying37 z1w rfl rfl rfl rfl rfl rfl ⟨lbE rfl, lbE rfl⟩ rfl).cast (y := (PV.sl (some 1) 76 3 (List.map z01 ([(S_api_Step.mk ([98, 101, 104, 105, 110, 100] : Str) false 0)] : (List S_api_Step))))) rfl rfl) ?_
 obtain ⟨x2, hx2, h⟩ := obind h
 refine sS rfl rfl rfl (z21 Try.underlying37 z1w rfl Try.underlying37 rfl rfl rfl rfl z8a z6v hx2 rfl) ?_
 refine eX ?_
 obtain rfl := eI h; exact z04 ⟨_, rfl, z0p (y := (PV.sl none 76 3 (List.map z01 x2))) Wk.tok (z0f z07 x2) ⟨rfl, rfl⟩⟩
noncomputable def zqf (a0 : V) : Option Int :=
 bif (a0).isNil then (
 some 1
 ) else (
 bif (a0).isBool then (
 some 2
 ) else (
 bif (a0).isInt then (
 some 3
 ) else (
 bif (a0).isFloat then (
 some 4
 ) else (
 bif (a0).isText then (
 some 5
 ) else (
 bif (a0).isBytes then (
 some 6
 ) else (
 bif (a0).isRef then (
 some 7
 ) else (
 bif (a0).isList then (
 some 8
 ) else (
 bif (a0).isDict then (
 some 9
 ) else (
 bif (a0).isRec then (
 bif ((a0).asRec).isNone then (
 some 11
 ) else (
 some 10
 )
 ) else (
 some 0
 )
 )
 )
 )
 )
 )
 )
 )
 )
 )
theorem Z01 (a0 : V) (r : Int) (h : zqf a0 = some r) : z0o Try.prog 100 [(ofV a0)] (I64 r) := by
 unfold zqf at h
 refine z0j Try.func100 rfl Try.ntmps100 Try.results100 rfl (z0q ?_)
 change BW _ _ _ ⟨[(0, (ofV a0))], [], _⟩ _
 refine bR ?_
 refine eX ?_
 refine z0d ?_
 refine bR ?_
 refine eX ?_
 refine z0r ?_
 refine cBx ?_
 refine bR ?_
 refine sS rfl rfl rfl (zet Try.underlying20 rfl rfl) (z08 ?_)
 refine cBx ?_
 refine cX h rfl ?_ ?_
 intro hc1 h
 refine bR ?_
 refine eX ?_
 refine bR ?_
 refine eX ?_
 obtain rfl := eI h; exact z04 eK
 intro hc1 h
 refine bR ?_
 refine sS rfl rfl rfl (zeu rfl rfl) ?_
 refine sX ?_
 refine eX ?_
 refine cX h rfl ?_ ?_
 intro hc2 h
 refine bR ?_
 refine eX ?_
 refine bR ?_
 refine eX ?_
 obtain rfl := eI h; exact z04 eK
 intro hc2 h
 refine bR ?_
 refine sS rfl rfl rfl (zii rfl rfl) ?_
 refine sX ?_
 refine eX ?_
 refine cX h rfl ?_ ?_
 intro hc3 h
 refine bR ?_
 refine eX ?_
 refine bR ?_
 refine eX ?_
 obtain rfl := eI h; exact z04 eK
 intro hc3 h
 refine bR ?_
 refine sS rfl rfl rfl (zcz rfl rfl) ?_
 refine sX ?_
 refine eX ?_
 refine cX h rfl ?_ ?_
 intro hc4 h
 refine bR ?_
 refine eX ?_
 refine bR ?_
 refine eX ?_
 obtain rfl := eI h; exact z04 eK
 intro hc4 h
 refine bR ?_
 refine sS rfl rfl rfl (zan rfl rfl) ?_
 refine sX ?_
 refine eX ?_
 refine cX h rfl ?_ ?_
 intro hc5 h
 refine bR ?_
 refine eX ?_
 refine bR ?_
 refine eX ?_
 obtain rfl := eI h; exact z04 eK
 intro hc5 h
 refine bR ?_
 refine sS rfl rfl rfl (z6g rfl rfl) ?_
 refine sX ?_
 refine eX ?_
 refine cX h rfl ?_ ?_
 intro hc6 h
 refine bR ?_
 refine eX ?_
 refine bR ?_
 refine eX ?_
 obtain rfl := eI h; exact z04 eK
 intro hc6 h
 refine bR ?_
 refine sS rfl rfl rfl (zih rfl rfl) ?_
 refine sX ?_
 refine eX ?_
 refine cX h rfl ?_ ?_
 intro hc7 h
 refine bR ?_
 refine eX ?_
 refine bR ?_
 refine eX ?_
 obtain rfl := eI h; exact z04 eK
 intro hc7 h
 refine bR ?_
 refine sS rfl rfl rfl (z2t rfl rfl) ?_
 refine sX ?_
 refine eX ?_
 refine cX h rfl ?_ ?_
 intro hc8 h
 refine bR ?_
 refine eX ?_
 refine bR ?_
 refine eX ?_
 obtain rfl := eI h; exact z04 eK
 intro hc8 h
 refine bR ?_
 refine sS rfl rfl rfl (z3o rfl rfl) ?_
 refine sX ?_
 refine eX ?_
 refine cX h rfl ?_ ?_
 intro hc9 h
 refine bR ?_
 refine eX ?_
 refine bR ?_
 refine eX ?_
 obtain rfl := eI h; exact z04 eK
 intro hc9 h
 refine bR ?_
 refine sS rfl rfl rfl (z48 rfl rfl) ?_
 refine sX ?_
 refine eX ?_
 refine cX h rfl ?_ ?_
 intro hc10 h
 refine bR ?_
 refine eX ?_
 refine z0d ?_
 refine bR ?_
 refine sX ?_
 refine sS rfl rfl rfl (zaq Try.underlying66 rfl rfl) (z08 ?_)
 refine cBx ?_
 refine cX h rfl ?_ ?_
 intro hc11 h
 refine bR ?_
 refine eX ?_
 obtain rfl := eI h; exact z04 eK
 intro hc11 h
 refine z0c ?_
 refine cBx ?_
 refine bR ?_
 refine eX ?_
 obtain rfl := eI h; exact z04 eK
 intro hc10 h
 refine z0c ?_
 refine cBx ?_
 refine bR ?_
 refine eX ?_
 obtain rfl := eI h; exact z04 eK
noncomputable def z5q (g1 : Nat → Option Bool) (s4 : Nat) (s8 : Bool) : Option Bool :=
 bif s8 then (
 some false
 ) else (
 g1 (s4 + 1)
 )
theorem zpf (g1 : OF ρ → Nat → Option Bool) (h_g1 : ∀ y0, CM (fun G => g1 G y0)) (s4 : Nat) (s8 : Bool) : CM (fun G : OF ρ => z5q (g1 G) s4 s8) := by
 simp only [z5q]
 repeat (first | exact z0h | exact h_g1 _ | refine z10 ?_ ?_ | refine z11 ?_ (fun _ => ?_))
noncomputable def z54 (a0 : Str) (g1 : Nat → Option Bool) (s4 : Nat) : Option Bool :=
 bif (decide (((s4 : Nat) : Int) < (((a0).length : Nat) : Int))) then (
 ((a0)[s4]?).bind fun x7 =>
 bif (decide (((x7).toNat : Int) < (((97 : UInt8)).toNat : Int))) then (
 bif (decide (((x7).toNat : Int) < (((48 : UInt8)).toNat : Int))) then (
 z5q g1 s4 (((x7).toNat : Int) != (((95 : UInt8)).toNat : Int))
 ) else (
 bif (decide (((x7).toNat : Int) > (((57 : UInt8)).toNat : Int))) then (
 z5q g1 s4 (((x7).toNat : Int) != (((95 : UInt8)).toNat : Int))
 ) else (
 z5q g1 s4 false
 )
 )
 ) else (
 bif (decide (((x7).toNat : Int) > (((122 : UInt8)).toNat : Int))) then (
 bif (decide (((x7).toNat : Int) < (((48 : UInt8)).toNat : Int))) then (
 z5q g1 s4 (((x7).toNat : Int) != (((95 : UInt8)).toNat : Int))
 ) else (
 bif (decide (((x7).toNat : Int) > (((57 : UInt8)).toNat : Int))) then (
 z5q g1 s4 (((x7).toNat : Int) != (((95 : UInt8)).toNat : Int))
 ) else (
 z5q g1 s4 false
 )
 )
 ) else (
 z5q g1 s4 false
 )
 )
 ) else (
 some true
 )
theorem zn5 (g1 : OF ρ → Nat → Option Bool) (h_g1 : ∀ y0, CM (fun G => g1 G y0)) (a0 : Str) (s4 : Nat) : CM (fun G : OF ρ => z54 a0 (g1 G) s4) := by
 simp only [z54]
 repeat (first | exact z0h | exact h_g1 _ | apply zpf | refine z10 ?_ ?_ | refine z11 ?_ (fun _ => ?_) | intro _ | assumption)
noncomputable def zhm (a0 : Str) (s4 : Nat) : Option Bool :=
 z3b (ι := Nat) (ρ := fun _ => Bool) (fun g i => z54 a0 (fun s4 => g s4) i) s4
theorem zhl (a0 : Str) (s4 : Nat) : zhm a0 s4 = z54 a0 (zhm a0) s4 :=
 z1f (ι := Nat) (ρ := fun _ => Bool) (Φ := fun g i => z54 a0 (fun s4 => g s4) i) (fun i => zn5 (ι := Nat) (ρ := fun _ => Bool) (fun g => (fun s4 => g s4)) (fun _ => z1i) a0 i) s4
noncomputable def zb8 (a0 : Str) (s1 : Bool) : Option Bool :=
 bif s1 then (
 some false
 ) else (
 (ze8 (a0).length).bind fun x3 =>
 zhm a0 0
 )
noncomputable def zjv (a0 : Str) : Option Bool :=
 bif (a0 == ([] : Str)) then (
 zb8 a0 true
 ) else (
 bif (decide ((((a0).length : Nat) : Int) > 32)) then (
 zb8 a0 true
 ) else (
 ((a0)[0]?).bind fun x18 =>
 bif (decide (((x18).toNat : Int) < (((97 : UInt8)).toNat : Int))) then (
 zb8 a0 true
 ) else (
 ((a0)[0]?).bind fun x20 =>
 zb8 a0 (decide (((x20).toNat : Int) > (((122 : UInt8)).toNat : Int)))
 )
 )
 )
theorem Z02 (a0 : Str) (r : Bool) (h : zjv a0 = some r) : z0o Try.prog 102 [(z0k a0)] (BO r) := by
 unfold zjv at h
 refine z0j Try.func102 rfl Try.ntmps102 Try.results102 rfl (z0q ?_)
 change BW _ _ _ ⟨[(0, (z0k a0))], [], _⟩ _
 refine bR ?_
 refine eX ?_
 refine z0d ?_
 refine jX (ι := Bool) (fun i => zb8 a0 i = some r) (fun i => [(0, (z0k a0)), (21, (BO i))]) (fun i => []) ?_ ?_
 rintro s1 h; replace h : zb8 a0 s1 = some r := h; unfold zb8 at h
 change BW _ _ _ ⟨[(0, (z0k a0)), (21, (BO s1))], [], _⟩ _
 refine cX h rfl ?_ ?_
 intro hc2 h
 refine bR ?_
 refine eX ?_
 obtain rfl := eI h; exact z04 eK
 intro hc2 h
 refine z0c ?_
 refine cBx ?_
 refine z0d ?_
 refine bR ?_
 refine sX ?_
 obtain ⟨x3, hx3, h⟩ := obind h
 refine sS rfl rfl rfl (zr1 Try.underlying9 Try.underlying23 Try.underlying5 rfl rfl hx3) ?_
 refine sX ?_
 refine eX ?_
 refine z0r ?_
 refine cBx ?_
 unfold zhm at h
 refine lX (σ := Nat) (fun i => [(23, (PV.sl none 5 1 (List.map ofB a0))), (24, (I64 ((((a0).length : Nat) : Int)))), (25, (I64 (((i : Nat) : Int))))]) (fun i => []) 0 h ?_ ?_
 exact jN
 rintro g1_f s4 h; replace h : z54 a0 (fun y0 => g1_f y0) s4 = some r := h; unfold z54 at h
 change BW _ _ _ ⟨[(23, (PV.sl none 5 1 (List.map ofB a0))), (24, (I64 ((((a0).length : Nat) : Int)))), (25, (I64 (((s4 : Nat) : Int))))], [], _⟩ _
 refine bR ?_
 refine eX ?_
 refine z0d ?_
 refine z3p (t := 23) rfl fun hb6 => ?_
 try rw [List.length_map] at hb6
 refine cX h rfl ?_ ?_
 intro hc5 h
 have hc5_ := of_decide_eq_true hc5
 refine z0c ?_
 refine cBx ?_
 refine z0d ?_
 refine z0r ?_
 refine cBx ?_
 refine bR ?_
 obtain ⟨x7, hx7, h⟩ := obind h
 refine sS rfl rfl rfl (z1d (i := s4) Try.underlying23 inf_5 rfl rfl rfl hx7 rfl) ?_
 refine sX ?_
 refine eX ?_
 refine jX (ι := Bool) (fun i => z5q (fun y0 => g1_f y0) s4 i = some r) (fun i => [(23, (PV.sl none 5 1 (List.map ofB a0))), (24, (I64 ((((a0).length : Nat) : Int)))), (25, (I64 (((s4 : Nat) : Int)))), (46, (BO i))]) (fun i => []) ?_ ?_
 rintro s8 h; replace h : z5q (fun y0 => g1_f y0) s4 s8 = some r := h; unfold z5q at h
 change BW _ _ _ ⟨[(23, (PV.sl none 5 1 (List.map ofB a0))), (24, (I64 ((((a0).length : Nat) : Int)))), (25, (I64 (((s4 : Nat) : Int)))), (46, (BO s8))], [], _⟩ _
 refine cX h rfl ?_ ?_
 intro hc9 h
 refine bR ?_
 refine eX ?_
 obtain rfl := eI h; exact z04 eK
 intro hc9 h
 refine z0c ?_
 refine cBx ?_
 refine z0e ?_
 refine sS rfl rfl rfl (z20 (k := s4) (c := 1) rfl rfl rfl (by omega)) ?_
 refine sX (z08 ?_)
 exact ⟨rfl, (s4 + 1), h, jN⟩
 refine z0e ?_
 iterate 3 refine sX ?_
 refine z0n (t := 31) rfl ?_ ?_
 intro hb10; replace h := z0t hb10 h
 iterate 2 refine nX ?_
 iterate 2 refine sX ?_
 iterate 3 refine yX ?_
 refine z0n (t := 38) rfl ?_ ?_
 intro hb11; replace h := z0t hb11 h
 iterate 2 refine nX ?_
 refine yX ?_
 iterate 2 refine sX ?_
 iterate 2 refine yX ?_
 refine sX (z08 ?_)
 exact ⟨rfl, (((x7).toNat : Int) != (((95 : UInt8)).toNat : Int)), h, jN⟩
 intro hb11; replace h := z0u hb11 h
 iterate 3 refine yX ?_
 iterate 2 refine sX ?_
 refine z0n (t := 43) rfl ?_ ?_
 intro hb12; replace h := z0t hb12 h
 iterate 2 refine yX ?_
 refine sX (z08 ?_)
 exact ⟨rfl, (((x7).toNat : Int) != (((95 : UInt8)).toNat : Int)), h, jN⟩
 intro hb12; replace h := z0u hb12 h
 iterate 2 refine nX ?_
 refine sX (z08 ?_)
 exact ⟨rfl, false, h, jN⟩
 intro hb10; replace h := z0u hb10 h
 iterate 2 refine yX ?_
 iterate 2 refine sX ?_
 refine z0n (t := 35) rfl ?_ ?_
 intro hb13; replace h := z0t hb13 h
 iterate 3 refine yX ?_
 refine z0n (t := 38) rfl ?_ ?_
 intro hb14; replace h := z0t hb14 h
 iterate 2 refine nX ?_
 refine yX ?_
 iterate 2 refine sX ?_
 iterate 2 refine yX ?_
 refine sX (z08 ?_)
 exact ⟨rfl, (((x7).toNat : Int) != (((95 : UInt8)).toNat : Int)), h, jN⟩
 intro hb14; replace h := z0u hb14 h
 iterate 3 refine yX ?_
 iterate 2 refine sX ?_
 refine z0n (t := 43) rfl ?_ ?_
 intro hb15; replace h := z0t hb15 h
 iterate 2 refine yX ?_
 refine sX (z08 ?_)
 exact ⟨rfl, (((x7).toNat : Int) != (((95 : UInt8)).toNat : Int)), h, jN⟩
 intro hb15; replace h := z0u hb15 h
 iterate 2 refine nX ?_
 refine sX (z08 ?_)
 exact ⟨rfl, false, h, jN⟩
 intro hb13; replace h := z0u hb13 h
 iterate 6 refine nX ?_
 iterate 2 refine sX ?_
 iterate 2 refine nX ?_
 refine sX (z08 ?_)
 exact ⟨rfl, false, h, jN⟩
 intro hc5 h
 refine z1z ?_
 refine cBx ?_
 refine bR ?_
 refine eX ?_
 obtain rfl := eI h; exact z04 eK
 refine z0e ?_
 refine sX ?_
 refine sS rfl rfl rfl ((z2p (a := a0) (b := ([] : Str)) rfl rfl rfl rfl).cast (y := (BO ((a0 == ([] : Str))))) rfl rfl) ?_
 refine sX ?_
 refine z0n (t := 7) rfl ?_ ?_
 intro hb16; replace h := z0t hb16 h
 iterate 3 refine nX ?_
 iterate 2 refine sX ?_
 iterate 3 refine nX ?_
 iterate 2 refine sX ?_
 iterate 3 refine nX ?_
 refine sX (z08 ?_)
 exact ⟨rfl, true, h, jN⟩
 intro hb16; replace h := z0u hb16 h
 refine yX ?_
 refine z1t rfl rfl rfl rfl rfl rfl (z4w (s := a0) Try.underlying9 rfl rfl) ?_
 refine yX ?_
 iterate 2 refine sX ?_
 refine z0n (t := 12) rfl ?_ ?_
 intro hb17; replace h := z0t hb17 h
 iterate 3 refine nX ?_
 iterate 2 refine sX ?_
 iterate 3 refine nX ?_
 refine sX (z08 ?_)
 exact ⟨rfl, true, h, jN⟩
 intro hb17; replace h := z0u hb17 h
 refine yX ?_
 obtain ⟨x18, hx18, h⟩ := obind h
 refine z1t rfl rfl rfl rfl rfl rfl (zd3 (s := a0) (i := 0) Try.underlying9 rfl rfl rfl hx18) ?_
 refine yX ?_
 iterate 2 refine sX ?_
 refine z0n (t := 17) rfl ?_ ?_
 intro hb19; replace h := z0t hb19 h
 iterate 3 refine nX ?_
 refine sX (z08 ?_)
 exact ⟨rfl, true, h, jN⟩
 intro hb19; replace h := z0u hb19 h
 refine yX ?_
 obtain ⟨x20, hx20, h⟩ := obind h
 refine z1t rfl rfl rfl rfl rfl rfl (zd3 (s := a0) (i := 0) Try.underlying9 rfl rfl rfl hx20) ?_
 refine yX ?_
 refine sX (z08 ?_)
 exact ⟨rfl, (decide (((x20).toNat : Int) > (((122 : UInt8)).toNat : Int))), h, jN⟩
noncomputable def z9c (g1 : Nat → Option Int) (s2 : Nat) (s6 : Bool) : Option Int :=
 bif s6 then (
 some 8
 ) else (
 g1 (s2 + 1)
 )
theorem zpm (g1 : OF ρ → Nat → Option Int) (h_g1 : ∀ y0, CM (fun G => g1 G y0)) (s2 : Nat) (s6 : Bool) : CM (fun G : OF ρ => z9c (g1 G) s2 s6) := by
 simp only [z9c]
 repeat (first | exact z0h | exact h_g1 _ | refine z10 ?_ ?_ | refine z11 ?_ (fun _ => ?_))
noncomputable def z6a (a0 : (List (Str × V))) (g1 : Nat → Option Int) (s2 : Nat) : Option Int :=
 bif (decide (((s2 : Nat) : Int) < (((a0).length : Nat) : Int))) then (
 ((a0)[s2]?).bind fun x5 =>
 (zjv x5.1).bind fun x8 =>
 bif (!x8) then (
 z9c g1 s2 true
 ) else (
 bif (decide (((s2 : Nat) : Int) > 0)) then (
 (z8x a0 (IntKind.i64.wrap (((s2 : Nat) : Int) - 1))).bind fun x11 =>
 z9c g1 s2 (Op.bytesLess x5.1 x11.1 || x5.1 == x11.1)
 ) else (
 z9c g1 s2 false
 )
 )
 ) else (
 some 0
 )
theorem zn9 (g1 : OF ρ → Nat → Option Int) (h_g1 : ∀ y0, CM (fun G => g1 G y0)) (a0 : (List (Str × V))) (s2 : Nat) : CM (fun G : OF ρ => z6a a0 (g1 G) s2) := by
 simp only [z6a]
 repeat (first | exact z0h | exact h_g1 _ | apply zpm | refine z10 ?_ ?_ | refine z11 ?_ (fun _ => ?_) | intro _ | assumption)
noncomputable def zhy (a0 : (List (Str × V))) (s2 : Nat) : Option Int :=
 z3b (ι := Nat) (ρ := fun _ => Int) (fun g i => z6a a0 (fun s2 => g s2) i) s2
theorem zhx (a0 : (List (Str × V))) (s2 : Nat) : zhy a0 s2 = z6a a0 (zhy a0) s2 :=
 z1f (ι := Nat) (ρ := fun _ => Int) (Φ := fun g i => z6a a0 (fun s2 => g s2) i) (fun i => zn9 (ι := Nat) (ρ := fun _ => Int) (fun g => (fun s2 => g s2)) (fun _ => z1i) a0 i) s2
noncomputable def zjz (a0 : (List (Str × V))) : Option Int :=
 bif (decide ((((a0).length : Nat) : Int) > 4096)) then (
 some 2
 ) else (
 zhy a0 0
 )
theorem Z0a (a0 : (List (Str × V))) (r : Int) (h : zjz a0 = some r) : z0o Try.prog 101 [(PV.sl none 96 2 (List.map ofFld a0))] (I64 r) := by
 unfold zjz at h
 refine z0j Try.func101 rfl Try.ntmps101 Try.results101 rfl (z0q ?_)
 change BW _ _ _ ⟨[(0, (PV.sl none 96 2 (List.map ofFld a0)))], [], _⟩ _
 refine bR ?_
 refine eX ?_
 refine z0d ?_
 refine bR ?_
 iterate 2 refine sX ?_
 refine eX ?_
 refine cX h rfl ?_ ?_
 intro hc1 h
 refine bR ?_
 refine eX ?_
 obtain rfl := eI h; exact z04 eK
 intro hc1 h
 refine z0c ?_
 refine cBx ?_
 refine z0d ?_
 refine bR ?_
 iterate 2 refine sX ?_
 refine eX ?_
 refine z0r ?_
 refine cBx ?_
 unfold zhy at h
 refine lX (σ := Nat) (fun i => [(0, (PV.sl none 96 2 (List.map ofFld a0))), (8, (PV.sl none 96 2 (List.map ofFld a0))), (9, (I64 ((((a0).length : Nat) : Int)))), (10, (I64 (((i : Nat) : Int))))]) (fun i => []) 0 h ?_ ?_
 exact jN
 rintro g1_f s2 h; replace h : z6a a0 (fun y0 => g1_f y0) s2 = some r := h; unfold z6a at h
 change BW _ _ _ ⟨[(0, (PV.sl none 96 2 (List.map ofFld a0))), (8, (PV.sl none 96 2 (List.map ofFld a0))), (9, (I64 ((((a0).length : Nat) : Int)))), (10, (I64 (((s2 : Nat) : Int))))], [], _⟩ _
 refine bR ?_
 refine eX ?_
 refine z0d ?_
 refine z3p (t := 8) rfl fun hb4 => ?_
 try rw [List.length_map] at hb4
 refine cX h rfl ?_ ?_
 intro hc3 h
 have hc3_ := of_decide_eq_true hc3
 refine z0c ?_
 refine cBx ?_
 refine z0d ?_
 refine z0r ?_
 refine cBx ?_
 refine bR ?_
 refine sX ?_
 obtain ⟨x5, hx5, h⟩ := obind h
 refine sS rfl rfl rfl (z1d (i := s2) Try.underlying64 z1c rfl rfl rfl hx5 rfl) ?_
 refine sX ?_
 refine sS rfl rfl rfl ((z1b z1c rfl).cast (H'' := [.box 96 [(z0k []), (ofV V.nil)]]) rfl (by simp only [mk_nil]; rfl)) ?_
 refine sX ?_
 refine z0l rfl rfl (z0g z1c rfl rfl rfl rfl rfl rfl (lbE rfl) (by show List.all [(z0k x5.1), (ofV x5.2)] z6w = true; simp only [List.all_cons, List.all_nil, zk1, zbq, Bool.and_true, Bool.true_and]; try rfl)) ?_
 refine z08 ?_
 refine cBx ?_
 refine jX (ι := Bool) (fun i => z9c (fun y0 => g1_f y0) s2 i = some r) (fun i => [(0, (PV.sl none 96 2 (List.map ofFld a0))), (8, (PV.sl none 96 2 (List.map ofFld a0))), (9, (I64 ((((a0).length : Nat) : Int)))), (10, (I64 (((s2 : Nat) : Int)))), (33, (BO i))]) (fun i => []) ?_ ?_
 rintro s6 h; replace h : z9c (fun y0 => g1_f y0) s2 s6 = some r := h; unfold z9c at h
 change BW _ _ _ ⟨[(0, (PV.sl none 96 2 (List.map ofFld a0))), (8, (PV.sl none 96 2 (List.map ofFld a0))), (9, (I64 ((((a0).length : Nat) : Int)))), (10, (I64 (((s2 : Nat) : Int)))), (33, (BO s6))], [], _⟩ _
 refine cX h rfl ?_ ?_
 intro hc7 h
 refine bR ?_
 refine eX ?_
 obtain rfl := eI h; exact z04 eK
 intro hc7 h
 refine z0c ?_
 refine cBx ?_
 refine z0e ?_
 refine sS rfl rfl rfl (z20 (k := s2) (c := 1) rfl rfl rfl (by omega)) ?_
 refine sX (z08 ?_)
 exact ⟨rfl, (s2 + 1), h, jN⟩
 refine z1y 16 [] [0] mo (by kernel_rfl) ?_
 iterate 2 refine gX ?_
 obtain ⟨x8, hx8, h⟩ := obind h
 refine z1v rfl rfl rfl rfl (fun H hp => z03 rfl zwd rfl (wkr .nil) ⟨rfl, trivial⟩ (Z02 x5.1 x8 hx8) rfl) ?_
 iterate 2 refine gX ?_
 refine z7z 19 rfl ?_ ?_
 intro hb9; replace h := z0t hb9 h
 iterate 11 refine mX ?_
 refine z23 ?_
 change AO _ _ _ _ _
 iterate 2 refine nX ?_
 refine sX (z08 ?_)
 exact ⟨rfl, true, h, jN⟩
 intro hb9; replace h := z0u hb9 h
 iterate 3 refine wX ?_
 refine z7z 22 rfl ?_ ?_
 intro hb10; replace h := z0t hb10 h
 iterate 4 refine wX ?_
 refine z8b rfl rfl rfl rfl rfl rfl rfl (fun H hp => zlb rfl rfl rfl) ?_
 obtain ⟨x11, hx11, h⟩ := obind h
 refine z8b rfl rfl rfl rfl rfl rfl rfl (fun H hp => z41 Try.underlying64 z1c rfl rfl rfl hx11 rfl) ?_
 iterate 2 refine wX ?_
 refine z23 ?_
 change AO _ _ _ _ _
 refine z1t rfl rfl rfl rfl rfl rfl ((z2p (a := x5.1) (b := x11.1) rfl rfl rfl rfl).cast (y := (BO ((Op.bytesLess x5.1 x11.1 || x5.1 == x11.1)))) rfl rfl) ?_
 refine yX ?_
 refine sX (z08 ?_)
 exact ⟨rfl, (Op.bytesLess x5.1 x11.1 || x5.1 == x11.1), h, jN⟩
 intro hb10; replace h := z0u hb10 h
 iterate 8 refine mX ?_
 refine z23 ?_
 change AO _ _ _ _ _
 refine nX ?_
 refine yX ?_
 refine sX (z08 ?_)
 exact ⟨rfl, false, h, jN⟩
 intro hc3 h
 refine z1z ?_
 refine cBx ?_
 refine bR ?_
 refine eX ?_
 obtain rfl := eI h; exact z04 eK
end Go.Proofs.Ythidgpcbnieleaa
