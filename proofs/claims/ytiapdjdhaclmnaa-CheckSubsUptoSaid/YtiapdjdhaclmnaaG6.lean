/- Pure functions, and that calls answer as they say. -/
import Derived.Test.YtiapdjdhaclmnaaG5
namespace Go.Proofs.Ytiapdjdhaclmnaa
open Go Aw
set_option linter.unusedVariables false
set_option maxRecDepth 20000
set_option maxHeartbeats 2000000
variable {ι : Type} {ρ : ι → Type}
noncomputable def zvz (a0 : V) : Option (Int × Int) :=
 (zjb a0).bind fun x1 =>
 some (x1.1, x1.2)
theorem Zaz (a0 : V) (r : (Int × Int)) (h : zvz a0 = some r) : z08 Try.prog 48 [(ofV a0)] (PV.tup [(I64 r.1), (I64 r.2)]) := by
 unfold zvz at h
 refine z0g Try.func48 rfl Try.ntmps48 Try.results48 rfl (z0q ?_)
 change BW _ _ _ ⟨[(0, (ofV a0))], [], _⟩ _
 refine bR ?_
 refine sX ?_
 refine eX ?_
 refine bR ?_
 refine sX ?_
 obtain ⟨x1, hx1, h⟩ := obind h
 refine sS rfl rfl rfl (z04 rfl zxp rfl (wkr .nil) ⟨(ids_V a0), trivial⟩ (zt5 a0 x1 hx1) (z03 rfl (z03 rfl z0o))) ?_
 iterate 3 refine sX ?_
 refine eX ?_
 obtain rfl := eI h; exact z05 eK
noncomputable def zrm (a0 : Str) : Option Bool :=
 (zvz (V.dict ([(a0, V.nil)] : (List (Str × V))))).bind fun x1 =>
 some (x1.2 == 0)
theorem Z77 (a0 : Str) (r : Bool) (h : zrm a0 = some r) : z08 Try.prog 91 [(ofStr a0)] (BO r) := by
 unfold zrm at h
 refine z0g Try.func91 rfl Try.ntmps91 Try.results91 rfl (z0q ?_)
 change BW _ _ _ ⟨[(0, (ofStr a0))], [], _⟩ _
 refine bR ?_
 refine eX ?_
 refine bR ?_
 refine sX ?_
 refine sS rfl rfl rfl (z1x (cs := [(ofStr a0), (PV.v .nilIface)]) Z4d z2z rfl rfl rfl rfl) ?_
 refine sS rfl rfl rfl (((z1q (xs := [(PV.agg [(ofStr a0), (PV.v .nilIface)])]) Try.underlying45 z2z rfl rfl rfl (by simp only [List.all_cons, List.all_nil, Z0x, ze5, Bool.and_true, Bool.true_and]; try rfl) (by simp only [List.all_cons, List.all_nil, Z0w, zjn, z47, z3y]; try rfl) rfl ⟨lbE rfl, lbE rfl⟩ (by simp only [zp6, zgb, List.flatMap_cons, List.flatMap_nil, z47, z3y]; try rfl)).wk (Wk.sl (.cons (y := (ofFld (a0, V.nil))) (wkr (.cons (Wk.eq mk_nil.symm) .nil)) .nil))).cast (y := (PV.sl (some 0) 43 2 (List.map ofFld ([(a0, V.nil)] : (List (Str × V)))))) rfl rfl) ?_
 refine sS rfl rfl rfl ((z4g Try.underlying45 rfl rfl rfl).wk ((Wk.iface Wk.tok).trans (Wk.eq (zwx _).symm))) ?_
 obtain ⟨x1, hx1, h⟩ := obind h
 refine sS rfl rfl rfl (z04 rfl Zcn rfl (wkr .nil) ⟨(ids_V (V.dict ([(a0, V.nil)] : (List (Str × V))))), trivial⟩ (Zaz (V.dict ([(a0, V.nil)] : (List (Str × V)))) x1 hx1) (z03 rfl (z03 rfl z0o))) ?_
 iterate 4 refine sX ?_
 refine eX ?_
 refine bR ?_
 iterate 2 refine sX ?_
 refine eX ?_
 obtain rfl := eI h; exact z05 eK
noncomputable def z6f (r_q0o : S_check_room → Typ → Int → Option (Bool × S_check_room)) (a1 : (List Typ)) (a2 : Int) (g1 : Nat → Int → Option (Bool × S_check_room)) (s1 : Nat) (s2 : Int) : Option (Bool × S_check_room) :=
 bif (decide (((s1 : Nat) : Int) < (((a1).length : Nat) : Int))) then (
 ((a1)[s1]?).bind fun x5 =>
 (r_q0o (S_check_room.mk s2) x5 (IntKind.i64.wrap (a2 + 1))).bind fun x6 =>
 bif (!x6.1) then (
 some (false, (x6.2))
 ) else (
 g1 (s1 + 1) ((x6.2).f_left)
 )
 ) else (
 some (true, (S_check_room.mk s2))
 )
theorem zcl (r_q0o : OF ρ → S_check_room → Typ → Int → Option (Bool × S_check_room)) (h_r_q0o : ∀ y0 y1 y2, CM (fun G => r_q0o G y0 y1 y2)) (g1 : OF ρ → Nat → Int → Option (Bool × S_check_room)) (h_g1 : ∀ y0 y1, CM (fun G => g1 G y0 y1)) (a1 : (List Typ)) (a2 : Int) (s1 : Nat) (s2 : Int) : CM (fun G : OF ρ => z6f (r_q0o G) a1 a2 (g1 G) s1 s2) := by
 simp only [z6f]
 repeat (first | exact z01 | exact h_r_q0o _ _ _ | exact h_g1 _ _ | refine z0h ?_ ?_ | refine z0i ?_ (fun _ => ?_))
noncomputable def zho (r_q0o : S_check_room → Typ → Int → Option (Bool × S_check_room)) (a1 : (List Typ)) (a2 : Int) (s1 : Nat) (s2 : Int) : Option (Bool × S_check_room) :=
 z22 (ι := (Nat × Int)) (ρ := fun _ => (Bool × S_check_room)) (fun g i => z6f r_q0o a1 a2 (fun s1 s2 => g (s1, s2)) i.1 i.2) (s1, s2)
theorem zl8 (r_q0o : S_check_room → Typ → Int → Option (Bool × S_check_room)) (a1 : (List Typ)) (a2 : Int) (s1 : Nat) (s2 : Int) : zho r_q0o a1 a2 s1 s2 = z6f r_q0o a1 a2 (zho r_q0o a1 a2) s1 s2 :=
 z0t (ι := (Nat × Int)) (ρ := fun _ => (Bool × S_check_room)) (Φ := fun g i => z6f r_q0o a1 a2 (fun s1 s2 => g (s1, s2)) i.1 i.2) (fun i => zcl (ι := (Nat × Int)) (ρ := fun _ => (Bool × S_check_room)) (fun _ => r_q0o) (fun _ _ _ => z01) (fun g => (fun s1 s2 => g (s1, s2))) (fun _ _ => z0s) a1 a2 i.1 i.2) (s1, s2)
theorem zux (r_q0o : OF ρ → S_check_room → Typ → Int → Option (Bool × S_check_room)) (h_r_q0o : ∀ y0 y1 y2, CM (fun G => r_q0o G y0 y1 y2)) (a1 : (List Typ)) (a2 : Int) (s1 : Nat) (s2 : Int) : CM (fun G : OF ρ => zho (r_q0o G) a1 a2 s1 s2) :=
 z28 (κ := (Nat × Int)) (τ := fun _ => (Bool × S_check_room)) (Φ := fun G g i => z6f (r_q0o G) a1 a2 (fun s1 s2 => g (s1, s2)) i.1 i.2) (fun g i => zcl r_q0o h_r_q0o (fun _ => (fun s1 s2 => g (s1, s2))) (fun _ _ => z01) a1 a2 i.1 i.2) (fun G i => zcl (ι := (Nat × Int)) (ρ := fun _ => (Bool × S_check_room)) (fun _ => r_q0o G) (fun _ _ _ => z01) (fun g => (fun s1 s2 => g (s1, s2))) (fun _ _ => z0s) a1 a2 i.1 i.2) (s1, s2)
noncomputable def zos (r_q0p : S_check_room → (List Typ) → Int → Option (Bool × S_check_room)) (r_q0o : S_check_room → Typ → Int → Option (Bool × S_check_room)) (a0 : S_check_room) (a1 : (List Typ)) (a2 : Int) : Option (Bool × S_check_room) :=
 zho r_q0o a1 a2 0 a0.f_left
theorem Z1v (r_q0p : OF ρ → S_check_room → (List Typ) → Int → Option (Bool × S_check_room)) (h_r_q0p : ∀ y0 y1 y2, CM (fun G => r_q0p G y0 y1 y2)) (r_q0o : OF ρ → S_check_room → Typ → Int → Option (Bool × S_check_room)) (h_r_q0o : ∀ y0 y1 y2, CM (fun G => r_q0o G y0 y1 y2)) (a0 : S_check_room) (a1 : (List Typ)) (a2 : Int) : CM (fun G : OF ρ => zos (r_q0p G) (r_q0o G) a0 a1 a2) := by
 simp only [zos]
 repeat (first | exact z01 | exact h_r_q0p _ _ _ | exact h_r_q0o _ _ _ | apply zux | refine z0h ?_ ?_ | refine z0i ?_ (fun _ => ?_) | intro _ | assumption)
noncomputable def zar (g1 : Nat → Option (Bool × S_check_room)) (a0 : S_check_room) (s20 : Nat) (s24 : Bool) : Option (Bool × S_check_room) :=
 bif s24 then (
 some (false, (S_check_room.mk (IntKind.i64.wrap (a0.f_left - 1))))
 ) else (
 g1 (s20 + 1)
 )
theorem zuz (g1 : OF ρ → Nat → Option (Bool × S_check_room)) (h_g1 : ∀ y0, CM (fun G => g1 G y0)) (a0 : S_check_room) (s20 : Nat) (s24 : Bool) : CM (fun G : OF ρ => zar (g1 G) a0 s20 s24) := by
 simp only [zar]
 repeat (first | exact z01 | exact h_g1 _ | refine z0h ?_ ?_ | refine z0i ?_ (fun _ => ?_))
noncomputable def z6g (r_q0p : S_check_room → (List Typ) → Int → Option (Bool × S_check_room)) (a0 : S_check_room) (a1 : Typ) (a2 : Int) (g1 : Nat → Option (Bool × S_check_room)) (s20 : Nat) : Option (Bool × S_check_room) :=
 bif (decide (((s20 : Nat) : Int) < (((a1.names).length : Nat) : Int))) then (
 ((a1.names)[s20]?).bind fun x23 =>
 (zrm x23).bind fun x26 =>
 bif (!x26) then (
 zar g1 a0 s20 true
 ) else (
 bif (decide (((s20 : Nat) : Int) > 0)) then (
 (z5g a1.names (IntKind.i64.wrap (((s20 : Nat) : Int) - 1))).bind fun x29 =>
 zar g1 a0 s20 (Op.bytesLess x23 x29 || x23 == x29)
 ) else (
 zar g1 a0 s20 false
 )
 )
 ) else (
 (r_q0p (S_check_room.mk (IntKind.i64.wrap (a0.f_left - 1))) a1.parts a2).bind fun x30 =>
 some (x30.1, (x30.2))
 )
theorem zcm (r_q0p : OF ρ → S_check_room → (List Typ) → Int → Option (Bool × S_check_room)) (h_r_q0p : ∀ y0 y1 y2, CM (fun G => r_q0p G y0 y1 y2)) (g1 : OF ρ → Nat → Option (Bool × S_check_room)) (h_g1 : ∀ y0, CM (fun G => g1 G y0)) (a0 : S_check_room) (a1 : Typ) (a2 : Int) (s20 : Nat) : CM (fun G : OF ρ => z6g (r_q0p G) a0 a1 a2 (g1 G) s20) := by
 simp only [z6g]
 repeat (first | exact z01 | exact h_r_q0p _ _ _ | exact h_g1 _ | apply zuz | refine z0h ?_ ?_ | refine z0i ?_ (fun _ => ?_) | intro _ | assumption)
noncomputable def zhp (r_q0p : S_check_room → (List Typ) → Int → Option (Bool × S_check_room)) (a0 : S_check_room) (a1 : Typ) (a2 : Int) (s20 : Nat) : Option (Bool × S_check_room) :=
 z22 (ι := Nat) (ρ := fun _ => (Bool × S_check_room)) (fun g i => z6g r_q0p a0 a1 a2 (fun s20 => g s20) i) s20
theorem zl9 (r_q0p : S_check_room → (List Typ) → Int → Option (Bool × S_check_room)) (a0 : S_check_room) (a1 : Typ) (a2 : Int) (s20 : Nat) : zhp r_q0p a0 a1 a2 s20 = z6g r_q0p a0 a1 a2 (zhp r_q0p a0 a1 a2) s20 :=
 z0t (ι := Nat) (ρ := fun _ => (Bool × S_check_room)) (Φ := fun g i => z6g r_q0p a0 a1 a2 (fun s20 => g s20) i) (fun i => zcm (ι := Nat) (ρ := fun _ => (Bool × S_check_room)) (fun _ => r_q0p) (fun _ _ _ => z01) (fun g => (fun s20 => g s20)) (fun _ => z0s) a0 a1 a2 i) s20
theorem zuy (r_q0p : OF ρ → S_check_room → (List Typ) → Int → Option (Bool × S_check_room)) (h_r_q0p : ∀ y0 y1 y2, CM (fun G => r_q0p G y0 y1 y2)) (a0 : S_check_room) (a1 : Typ) (a2 : Int) (s20 : Nat) : CM (fun G : OF ρ => zhp (r_q0p G) a0 a1 a2 s20) :=
 z28 (κ := Nat) (τ := fun _ => (Bool × S_check_room)) (Φ := fun G g i => z6g (r_q0p G) a0 a1 a2 (fun s20 => g s20) i) (fun g i => zcm r_q0p h_r_q0p (fun _ => (fun s20 => g s20)) (fun _ => z01) a0 a1 a2 i) (fun G i => zcm (ι := Nat) (ρ := fun _ => (Bool × S_check_room)) (fun _ => r_q0p G) (fun _ _ _ => z01) (fun g => (fun s20 => g s20)) (fun _ => z0s) a0 a1 a2 i) s20
noncomputable def z71 (r_q0p : S_check_room → (List Typ) → Int → Option (Bool × S_check_room)) (a0 : S_check_room) (a1 : Typ) (a2 : Int) (s18 : Bool) : Option (Bool × S_check_room) :=
 bif s18 then (
 some (false, (S_check_room.mk (IntKind.i64.wrap (a0.f_left - 1))))
 ) else (
 zhp r_q0p a0 a1 a2 0
 )
theorem zv0 (r_q0p : OF ρ → S_check_room → (List Typ) → Int → Option (Bool × S_check_room)) (h_r_q0p : ∀ y0 y1 y2, CM (fun G => r_q0p G y0 y1 y2)) (a0 : S_check_room) (a1 : Typ) (a2 : Int) (s18 : Bool) : CM (fun G : OF ρ => z71 (r_q0p G) a0 a1 a2 s18) := by
 simp only [z71]
 repeat (first | exact z01 | exact h_r_q0p _ _ _ | apply zuy | refine z0h ?_ ?_ | refine z0i ?_ (fun _ => ?_) | intro _ | assumption)
noncomputable def zdj (r_q0p : S_check_room → (List Typ) → Int → Option (Bool × S_check_room)) (a0 : S_check_room) (a1 : Typ) (a2 : Int) (s3 : Bool) : Option (Bool × S_check_room) :=
 bif s3 then (
 some (true, (S_check_room.mk (IntKind.i64.wrap (a0.f_left - 1))))
 ) else (
 bif (a1.kind == 3) then (
 bif (decide (a1.of ≥ 1)) then (
 some ((decide (a1.of ≤ 10)), (S_check_room.mk (IntKind.i64.wrap (a0.f_left - 1))))
 ) else (
 some (false, (S_check_room.mk (IntKind.i64.wrap (a0.f_left - 1))))
 )
 ) else (
 bif (a1.kind == 4) then (
 (zgh (a1.only)).bind fun x8 =>
 some ((x8.2 == 0), (S_check_room.mk (IntKind.i64.wrap (a0.f_left - 1))))
 ) else (
 bif (a1.kind == 8) then (
 (zrm a1.cls).bind fun x10 =>
 some (x10, (S_check_room.mk (IntKind.i64.wrap (a0.f_left - 1))))
 ) else (
 bif (a1.kind == 5) then (
 bif ((((a1.parts).length : Nat) : Int) == 1) then (
 (r_q0p (S_check_room.mk (IntKind.i64.wrap (a0.f_left - 1))) a1.parts a2).bind fun x13 =>
 some (x13.1, (x13.2))
 ) else (
 some (false, (S_check_room.mk (IntKind.i64.wrap (a0.f_left - 1))))
 )
 ) else (
 bif (a1.kind == 7) then (
 bif (decide ((((a1.parts).length : Nat) : Int) > 1)) then (
 (r_q0p (S_check_room.mk (IntKind.i64.wrap (a0.f_left - 1))) a1.parts a2).bind fun x16 =>
 some (x16.1, (x16.2))
 ) else (
 some (false, (S_check_room.mk (IntKind.i64.wrap (a0.f_left - 1))))
 )
 ) else (
 bif (a1.kind == 6) then (
 bif (decide ((((a1.names).length : Nat) : Int) > 4096)) then (
 z71 r_q0p a0 a1 a2 true
 ) else (
 bif ((((a1.parts).length : Nat) : Int) != (((a1.names).length : Nat) : Int)) then (
 z71 r_q0p a0 a1 a2 true
 ) else (
 z71 r_q0p a0 a1 a2 ((((a1.lacks).length : Nat) : Int) != (((a1.names).length : Nat) : Int))
 )
 )
 ) else (
 some (false, (S_check_room.mk (IntKind.i64.wrap (a0.f_left - 1))))
 )
 )
 )
 )
 )
 )
 )
theorem zv1 (r_q0p : OF ρ → S_check_room → (List Typ) → Int → Option (Bool × S_check_room)) (h_r_q0p : ∀ y0 y1 y2, CM (fun G => r_q0p G y0 y1 y2)) (a0 : S_check_room) (a1 : Typ) (a2 : Int) (s3 : Bool) : CM (fun G : OF ρ => zdj (r_q0p G) a0 a1 a2 s3) := by
 simp only [zdj]
 repeat (first | exact z01 | exact h_r_q0p _ _ _ | apply zv0 | refine z0h ?_ ?_ | refine z0i ?_ (fun _ => ?_) | intro _ | assumption)
noncomputable def z9p (r_q0p : S_check_room → (List Typ) → Int → Option (Bool × S_check_room)) (a0 : S_check_room) (a1 : Typ) (a2 : Int) (s1 : Bool) : Option (Bool × S_check_room) :=
 bif s1 then (
 some (false, (S_check_room.mk (IntKind.i64.wrap (a0.f_left - 1))))
 ) else (
 bif (a1.kind == 1) then (
 zdj r_q0p a0 a1 a2 (a1.kind == 1)
 ) else (
 zdj r_q0p a0 a1 a2 (a1.kind == 2)
 )
 )
theorem zv2 (r_q0p : OF ρ → S_check_room → (List Typ) → Int → Option (Bool × S_check_room)) (h_r_q0p : ∀ y0 y1 y2, CM (fun G => r_q0p G y0 y1 y2)) (a0 : S_check_room) (a1 : Typ) (a2 : Int) (s1 : Bool) : CM (fun G : OF ρ => z9p (r_q0p G) a0 a1 a2 s1) := by
 simp only [z9p]
 repeat (first | exact z01 | exact h_r_q0p _ _ _ | apply zv1 | refine z0h ?_ ?_ | refine z0i ?_ (fun _ => ?_) | intro _ | assumption)
noncomputable def zot (r_q0p : S_check_room → (List Typ) → Int → Option (Bool × S_check_room)) (r_q0o : S_check_room → Typ → Int → Option (Bool × S_check_room)) (a0 : S_check_room) (a1 : Typ) (a2 : Int) : Option (Bool × S_check_room) :=
 bif (decide ((IntKind.i64.wrap (a0.f_left - 1)) < 0)) then (
 z9p r_q0p a0 a1 a2 true
 ) else (
 z9p r_q0p a0 a1 a2 (decide (a2 > 64))
 )
theorem Z1w (r_q0p : OF ρ → S_check_room → (List Typ) → Int → Option (Bool × S_check_room)) (h_r_q0p : ∀ y0 y1 y2, CM (fun G => r_q0p G y0 y1 y2)) (r_q0o : OF ρ → S_check_room → Typ → Int → Option (Bool × S_check_room)) (h_r_q0o : ∀ y0 y1 y2, CM (fun G => r_q0o G y0 y1 y2)) (a0 : S_check_room) (a1 : Typ) (a2 : Int) : CM (fun G : OF ρ => zot (r_q0p G) (r_q0o G) a0 a1 a2) := by
 simp only [zot]
 repeat (first | exact z01 | exact h_r_q0p _ _ _ | exact h_r_q0o _ _ _ | apply zv2 | refine z0h ?_ ?_ | refine z0i ?_ (fun _ => ?_) | intro _ | assumption)
inductive C_q0p where
 | k_q0p (a0 : S_check_room) (a1 : (List Typ)) (a2 : Int)
 | k_q0o (a0 : S_check_room) (a1 : Typ) (a2 : Int)
def C_q0p.R : C_q0p → Type
 | .k_q0p _ _ _ => (Bool × S_check_room)
 | .k_q0o _ _ _ => (Bool × S_check_room)
noncomputable def C_q0p.F (g : ∀ i : C_q0p, Option i.R) : ∀ i : C_q0p, Option i.R
 | .k_q0p a0 a1 a2 => zos (fun a0 a1 a2 => g (.k_q0p a0 a1 a2)) (fun a0 a1 a2 => g (.k_q0o a0 a1 a2)) a0 a1 a2
 | .k_q0o a0 a1 a2 => zot (fun a0 a1 a2 => g (.k_q0p a0 a1 a2)) (fun a0 a1 a2 => g (.k_q0o a0 a1 a2)) a0 a1 a2
noncomputable def zrz (a0 : S_check_room) (a1 : (List Typ)) (a2 : Int) : Option (Bool × S_check_room) := z22 C_q0p.F (.k_q0p a0 a1 a2)
noncomputable def znc (a0 : S_check_room) (a1 : Typ) (a2 : Int) : Option (Bool × S_check_room) := z22 C_q0p.F (.k_q0o a0 a1 a2)
abbrev Zf4 := fun (g : ∀ i : C_q0p, Option i.R) a0 a1 a2 => g (.k_q0p a0 a1 a2)
theorem Zeu (a0 a1 a2 : _) : CM (ρ := C_q0p.R) (fun g => g (C_q0p.k_q0p a0 a1 a2)) := z0s
abbrev Zf3 := fun (g : ∀ i : C_q0p, Option i.R) a0 a1 a2 => g (.k_q0o a0 a1 a2)
theorem Zet (a0 a1 a2 : _) : CM (ρ := C_q0p.R) (fun g => g (C_q0p.k_q0o a0 a1 a2)) := z0s
theorem C_q0p.cm (i : C_q0p) : CM (fun g : (∀ i : C_q0p, Option i.R) => C_q0p.F g i) := by
 cases i with
 | k_q0p a0 a1 a2 => exact Z1v Zf4 Zeu Zf3 Zet a0 a1 a2
 | k_q0o a0 a1 a2 => exact Z1w Zf4 Zeu Zf3 Zet a0 a1 a2
theorem Zdh (a0 : S_check_room) (a1 : (List Typ)) (a2 : Int) : zrz a0 a1 a2 = zos zrz znc a0 a1 a2 := z0t C_q0p.cm (.k_q0p a0 a1 a2)
theorem Zdi (a0 : S_check_room) (a1 : Typ) (a2 : Int) : znc a0 a1 a2 = zot zrz znc a0 a1 a2 := z0t C_q0p.cm (.k_q0o a0 a1 a2)
def C_q0p.Q : ∀ i : C_q0p, i.R → Prop
 | .k_q0p a0 a1 a2 => fun (r : (Bool × S_check_room)) => z49 Try.prog 92 [(PV.rf 0 0), (PV.sl none 34 18 (List.map ofTyp a1)), (I64 a2)] (.box 119 [(I64 a0.f_left)]) (BO r.1) (.box 119 [(I64 ((r.2).f_left))])
 | .k_q0o a0 a1 a2 => fun (r : (Bool × S_check_room)) => z49 Try.prog 59 [(PV.rf 0 0), (z02 a1), (I64 a2)] (.box 119 [(I64 a0.f_left)]) (BO r.1) (.box 119 [(I64 ((r.2).f_left))])
theorem zdr (r_q0p : S_check_room → (List Typ) → Int → Option (Bool × S_check_room)) (c_q0p : ∀ (a0 : S_check_room) (a1 : (List Typ)) (a2 : Int) r, r_q0p a0 a1 a2 = some r → z49 Try.prog 92 [(PV.rf 0 0), (PV.sl none 34 18 (List.map ofTyp a1)), (I64 a2)] (.box 119 [(I64 a0.f_left)]) (BO r.1) (.box 119 [(I64 ((r.2).f_left))])) (r_q0o : S_check_room → Typ → Int → Option (Bool × S_check_room)) (c_q0o : ∀ (a0 : S_check_room) (a1 : Typ) (a2 : Int) r, r_q0o a0 a1 a2 = some r → z49 Try.prog 59 [(PV.rf 0 0), (z02 a1), (I64 a2)] (.box 119 [(I64 a0.f_left)]) (BO r.1) (.box 119 [(I64 ((r.2).f_left))])) (a0 : S_check_room) (a1 : (List Typ)) (a2 : Int) (r : (Bool × S_check_room)) (h : zos r_q0p r_q0o a0 a1 a2 = some r) : z49 Try.prog 92 [(PV.rf 0 0), (PV.sl none 34 18 (List.map ofTyp a1)), (I64 a2)] (.box 119 [(I64 a0.f_left)]) (BO r.1) (.box 119 [(I64 ((r.2).f_left))]) := by
 unfold zos at h
 refine z0g Try.func92 rfl Try.ntmps92 Try.results92 rfl (z0q ?_)
 change BW _ _ _ ⟨[(0, (PV.rf 0 0)), (1, (PV.sl none 34 18 (List.map ofTyp a1))), (2, (I64 a2))], [.box 119 [(I64 a0.f_left)]], _⟩ _
 refine bR ?_
 refine eX ?_
 refine z09 ?_
 refine bR ?_
 iterate 2 refine sX ?_
 refine eX ?_
 refine z0e ?_
 refine cBx ?_
 unfold zho at h
 refine lX (σ := (Nat × Int)) (fun i => [(0, (PV.rf 0 0)), (2, (I64 a2)), (9, (PV.sl none 34 18 (List.map ofTyp a1))), (10, (I64 ((((a1).length : Nat) : Int)))), (11, (I64 (((i.1 : Nat) : Int))))]) (fun i => [.box 119 [(I64 i.2)]]) (0, a0.f_left) h ?_ ?_
 exact jN
 rintro g1_f ⟨s1, s2⟩ h; replace h : z6f r_q0o a1 a2 (fun y0 y1 => g1_f (y0, y1)) s1 s2 = some r := h; unfold z6f at h
 change BW _ _ _ ⟨[(0, (PV.rf 0 0)), (2, (I64 a2)), (9, (PV.sl none 34 18 (List.map ofTyp a1))), (10, (I64 ((((a1).length : Nat) : Int)))), (11, (I64 (((s1 : Nat) : Int))))], [.box 119 [(I64 s2)]], _⟩ _
 refine bR ?_
 refine eX ?_
 refine z09 ?_
 refine z2f (t := 9) rfl fun hb4 => ?_
 try rw [List.length_map] at hb4
 refine cX h rfl ?_ ?_
 intro hc3 h
 have hc3_ := of_decide_eq_true hc3
 refine z07 ?_
 refine cBx ?_
 refine z09 ?_
 refine z0e ?_
 refine cBx ?_
 refine bR ?_
 obtain ⟨x5, hx5, h⟩ := obind h
 refine sS rfl rfl rfl (z0w (i := s1) Try.underlying30 z0u rfl rfl rfl hx5 (z1c _)) ?_
 refine sX ?_
 refine sS rfl rfl rfl (z16 z0u rfl) ?_
 refine z0m rfl rfl (z0d z0u rfl rfl rfl rfl rfl rfl (lbE rfl) rfl) ?_
 refine z06 ?_
 refine cBx ?_
 refine bR ?_
 iterate 4 refine sX ?_
 obtain ⟨x6, hx6, h⟩ := obind h
 refine sS rfl rfl rfl (z3g 0 rfl Z9e rfl (wkr (wkr (wkr .nil))) (.box (.val (z0b x5) (.val rfl .nil))) rfl (z0l rfl rfl) (c_q0o (S_check_room.mk s2) x5 (IntKind.i64.wrap (a2 + 1)) x6 hx6) rfl (z0l rfl rfl)) ?_
 refine eX ?_
 refine cX h rfl ?_ ?_
 intro hc7 h
 refine bR ?_
 refine eX ?_
 obtain rfl := eI h; exact z05 ⟨_, rfl, z3j (y := (BO false)) (e := .box 119 [(I64 (((x6.2)).f_left))]) (Wk.refl _) rfl rfl (z0l rfl rfl) ⟨rfl, rfl⟩⟩
 intro hc7 h
 refine z07 ?_
 refine cBx ?_
 refine z0a ?_
 refine sS rfl rfl rfl (z1b (k := s1) (c := 1) rfl rfl rfl (by omega)) ?_
 refine sX (z06 ?_)
 exact ⟨rfl, ((s1 + 1), (x6.2).f_left), h, jN⟩
 intro hc3 h
 refine z1a ?_
 refine cBx ?_
 refine bR ?_
 refine eX ?_
 obtain rfl := eI h; exact z05 ⟨_, rfl, z3j (y := (BO true)) (e := .box 119 [(I64 (((S_check_room.mk s2)).f_left))]) (Wk.refl _) rfl rfl (z0l rfl rfl) ⟨rfl, rfl⟩⟩
theorem zdq (r_q0p : S_check_room → (List Typ) → Int → Option (Bool × S_check_room)) (c_q0p : ∀ (a0 : S_check_room) (a1 : (List Typ)) (a2 : Int) r, r_q0p a0 a1 a2 = some r → z49 Try.prog 92 [(PV.rf 0 0), (PV.sl none 34 18 (List.map ofTyp a1)), (I64 a2)] (.box 119 [(I64 a0.f_left)]) (BO r.1) (.box 119 [(I64 ((r.2).f_left))])) (r_q0o : S_check_room → Typ → Int → Option (Bool × S_check_room)) (c_q0o : ∀ (a0 : S_check_room) (a1 : Typ) (a2 : Int) r, r_q0o a0 a1 a2 = some r → z49 Try.prog 59 [(PV.rf 0 0), (z02 a1), (I64 a2)] (.box 119 [(I64 a0.f_left)]) (BO r.1) (.box 119 [(I64 ((r.2).f_left))])) (a0 : S_check_room) (a1 : Typ) (a2 : Int) (r : (Bool × S_check_room)) (h : zot r_q0p r_q0o a0 a1 a2 = some r) : z49 Try.prog 59 [(PV.rf 0 0), (z02 a1), (I64 a2)] (.box 119 [(I64 a0.f_left)]) (BO r.1) (.box 119 [(I64 ((r.2).f_left))]) := by
 unfold zot at h
 refine z0g Try.func59 rfl Try.ntmps59 Try.results59 rfl (z0q ?_)
 change BW _ _ _ ⟨[(0, (PV.rf 0 0)), (1, (z02 a1)), (2, (I64 a2))], [.box 119 [(I64 a0.f_left)]], _⟩ _
 refine bR ?_
 refine sX ?_
 refine eX ?_
 refine bR ?_
 refine sX ?_
 refine sS rfl rfl rfl (z4h rfl rfl) ?_
 iterate 2 refine sX ?_
 refine sS rfl rfl rfl (z95 rfl rfl rfl) ?_
 refine sS rfl rfl rfl (z4h rfl rfl) ?_
 refine sX ?_
 refine z0m rfl rfl (z0d zfw rfl rfl rfl rfl rfl rfl (lbE rfl) rfl) ?_
 refine z06 ?_
 refine cBx ?_
 refine z09 ?_
 refine jX (ι := Bool) (fun i => z9p r_q0p a0 a1 a2 i = some r) (fun i => [(0, (PV.rf 0 0)), (2, (I64 a2)), (4, (PV.rf 1 0)), (26, (BO i))]) (fun i => [.box 119 [(I64 ((IntKind.i64.wrap (a0.f_left - 1))))], .box 34 (z0x a1)]) ?_ ?_
 rintro s1 h; replace h : z9p r_q0p a0 a1 a2 s1 = some r := h; unfold z9p at h
 change BW _ _ _ ⟨[(0, (PV.rf 0 0)), (2, (I64 a2)), (4, (PV.rf 1 0)), (26, (BO s1))], [.box 119 [(I64 ((IntKind.i64.wrap (a0.f_left - 1))))], .box 34 (z0x a1)], _⟩ _
 refine cX h rfl ?_ ?_
 intro hc2 h
 refine bR ?_
 refine eX ?_
 obtain rfl := eI h; exact z05 ⟨_, rfl, z3j (y := (BO false)) (e := .box 119 [(I64 (((S_check_room.mk (IntKind.i64.wrap (a0.f_left - 1)))).f_left))]) (Wk.refl _) rfl rfl (z0l rfl rfl) ⟨rfl, rfl⟩⟩
 intro hc2 h
 refine z07 ?_
 refine cBx ?_
 refine z09 ?_
 refine bR ?_
 refine sX ?_
 refine eX ?_
 refine z0e ?_
 refine cBx ?_
 refine jX (ι := Bool) (fun i => zdj r_q0p a0 a1 a2 i = some r) (fun i => [(0, (PV.rf 0 0)), (2, (I64 a2)), (4, (PV.rf 1 0)), (28, (I64 a1.kind)), (29, (BO i))]) (fun i => [.box 119 [(I64 ((IntKind.i64.wrap (a0.f_left - 1))))], .box 34 (z0x a1)]) ?_ ?_
 rintro s3 h; replace h : zdj r_q0p a0 a1 a2 s3 = some r := h; unfold zdj at h
 change BW _ _ _ ⟨[(0, (PV.rf 0 0)), (2, (I64 a2)), (4, (PV.rf 1 0)), (28, (I64 a1.kind)), (29, (BO s3))], [.box 119 [(I64 ((IntKind.i64.wrap (a0.f_left - 1))))], .box 34 (z0x a1)], _⟩ _
 refine cX h rfl ?_ ?_
 intro hc4 h
 refine bR ?_
 refine eX ?_
 obtain rfl := eI h; exact z05 ⟨_, rfl, z3j (y := (BO true)) (e := .box 119 [(I64 (((S_check_room.mk (IntKind.i64.wrap (a0.f_left - 1)))).f_left))]) (Wk.refl _) rfl rfl (z0l rfl rfl) ⟨rfl, rfl⟩⟩
 intro hc4 h
 refine bR ?_
 refine sX ?_
 refine eX ?_
 refine cX h rfl ?_ ?_
 intro hc5 h
 refine bR ?_
 iterate 4 refine sX ?_
 refine z0n (t := 37) rfl ?_ ?_
 intro hb6; replace h := z0j hb6 h
 iterate 3 refine yX ?_
 refine sX ?_
 refine eX ?_
 obtain rfl := eI h; exact z05 ⟨_, rfl, z3j (y := (BO ((decide (a1.of ≤ 10))))) (e := .box 119 [(I64 (((S_check_room.mk (IntKind.i64.wrap (a0.f_left - 1)))).f_left))]) (Wk.refl _) rfl rfl (z0l rfl rfl) ⟨rfl, rfl⟩⟩
 intro hb6; replace h := z0k hb6 h
 iterate 3 refine nX ?_
 refine sX ?_
 refine eX ?_
 obtain rfl := eI h; exact z05 ⟨_, rfl, z3j (y := (BO false)) (e := .box 119 [(I64 (((S_check_room.mk (IntKind.i64.wrap (a0.f_left - 1)))).f_left))]) (Wk.refl _) rfl rfl (z0l rfl rfl) ⟨rfl, rfl⟩⟩
 intro hc5 h
 refine bR ?_
 refine sX ?_
 refine eX ?_
 refine cX h rfl ?_ ?_
 intro hc7 h
 refine bR ?_
 iterate 2 refine sX ?_
 obtain ⟨x8, hx8, h⟩ := obind h
 refine sS rfl rfl rfl (z04 rfl Z0r rfl (.cons (Wk.toOld (zj5 (a1.only))) .nil) ⟨(z1e (z10 (a1.only))), trivial⟩ (zys (a1.only) x8 hx8) (z03 (ids_V x8.1) (z03 rfl z0o))) ?_
 iterate 4 refine sX ?_
 refine eX ?_
 refine bR ?_
 iterate 2 refine sX ?_
 refine eX ?_
 obtain rfl := eI h; exact z05 ⟨_, rfl, z3j (y := (BO ((x8.2 == 0)))) (e := .box 119 [(I64 (((S_check_room.mk (IntKind.i64.wrap (a0.f_left - 1)))).f_left))]) (Wk.refl _) rfl rfl (z0l rfl rfl) ⟨rfl, rfl⟩⟩
 intro hc7 h
 refine bR ?_
 refine sX ?_
 refine eX ?_
 refine cX h rfl ?_ ?_
 intro hc9 h
 refine bR ?_
 iterate 2 refine sX ?_
 obtain ⟨x10, hx10, h⟩ := obind h
 refine sS rfl rfl rfl (z04 rfl Z91 rfl (wkr .nil) ⟨rfl, trivial⟩ (Z77 a1.cls x10 hx10) rfl) ?_
 refine eX ?_
 obtain rfl := eI h; exact z05 ⟨_, rfl, z3j (y := (BO x10)) (e := .box 119 [(I64 (((S_check_room.mk (IntKind.i64.wrap (a0.f_left - 1)))).f_left))]) (Wk.refl _) rfl rfl (z0l rfl rfl) ⟨rfl, rfl⟩⟩
 intro hc9 h
 refine bR ?_
 refine sX ?_
 refine eX ?_
 refine cX h rfl ?_ ?_
 intro hc11 h
 refine bR ?_
 iterate 5 refine sX ?_
 refine z0n (t := 63) rfl ?_ ?_
 intro hb12; replace h := z0j hb12 h
 iterate 4 refine yX ?_
 obtain ⟨x13, hx13, h⟩ := obind h
 refine z1g rfl rfl rfl rfl rfl rfl (z3g 0 rfl Z5o rfl (wkr (wkr (wkr .nil))) (.box (.val (z0c z1m a1.parts) (.val rfl .nil))) rfl (z0l rfl rfl) (c_q0p (S_check_room.mk (IntKind.i64.wrap (a0.f_left - 1))) a1.parts a2 x13 hx13) rfl (z0l rfl rfl)) ?_
 refine sX ?_
 refine eX ?_
 obtain rfl := eI h; exact z05 ⟨_, rfl, z3j (y := (BO x13.1)) (e := .box 119 [(I64 (((x13.2)).f_left))]) (Wk.refl _) rfl rfl (z0l rfl rfl) ⟨rfl, rfl⟩⟩
 intro hb12; replace h := z0k hb12 h
 iterate 5 refine nX ?_
 refine sX ?_
 refine eX ?_
 obtain rfl := eI h; exact z05 ⟨_, rfl, z3j (y := (BO false)) (e := .box 119 [(I64 (((S_check_room.mk (IntKind.i64.wrap (a0.f_left - 1)))).f_left))]) (Wk.refl _) rfl rfl (z0l rfl rfl) ⟨rfl, rfl⟩⟩
 intro hc11 h
 refine bR ?_
 refine sX ?_
 refine eX ?_
 refine cX h rfl ?_ ?_
 intro hc14 h
 refine bR ?_
 iterate 5 refine sX ?_
 refine z0n (t := 76) rfl ?_ ?_
 intro hb15; replace h := z0j hb15 h
 iterate 4 refine yX ?_
 obtain ⟨x16, hx16, h⟩ := obind h
 refine z1g rfl rfl rfl rfl rfl rfl (z3g 0 rfl Z5o rfl (wkr (wkr (wkr .nil))) (.box (.val (z0c z1m a1.parts) (.val rfl .nil))) rfl (z0l rfl rfl) (c_q0p (S_check_room.mk (IntKind.i64.wrap (a0.f_left - 1))) a1.parts a2 x16 hx16) rfl (z0l rfl rfl)) ?_
 refine sX ?_
 refine eX ?_
 obtain rfl := eI h; exact z05 ⟨_, rfl, z3j (y := (BO x16.1)) (e := .box 119 [(I64 (((x16.2)).f_left))]) (Wk.refl _) rfl rfl (z0l rfl rfl) ⟨rfl, rfl⟩⟩
 intro hb15; replace h := z0k hb15 h
 iterate 5 refine nX ?_
 refine sX ?_
 refine eX ?_
 obtain rfl := eI h; exact z05 ⟨_, rfl, z3j (y := (BO false)) (e := .box 119 [(I64 (((S_check_room.mk (IntKind.i64.wrap (a0.f_left - 1)))).f_left))]) (Wk.refl _) rfl rfl (z0l rfl rfl) ⟨rfl, rfl⟩⟩
 intro hc14 h
 refine bR ?_
 refine sX ?_
 refine eX ?_
 refine cX h rfl ?_ ?_
 intro hc17 h
 refine z09 ?_
 refine jX (ι := Bool) (fun i => z71 r_q0p a0 a1 a2 i = some r) (fun i => [(0, (PV.rf 0 0)), (2, (I64 a2)), (4, (PV.rf 1 0)), (106, (BO i))]) (fun i => [.box 119 [(I64 ((IntKind.i64.wrap (a0.f_left - 1))))], .box 34 (z0x a1)]) ?_ ?_
 rintro s18 h; replace h : z71 r_q0p a0 a1 a2 s18 = some r := h; unfold z71 at h
 change BW _ _ _ ⟨[(0, (PV.rf 0 0)), (2, (I64 a2)), (4, (PV.rf 1 0)), (106, (BO s18))], [.box 119 [(I64 ((IntKind.i64.wrap (a0.f_left - 1))))], .box 34 (z0x a1)], _⟩ _
 refine cX h rfl ?_ ?_
 intro hc19 h
 refine bR ?_
 refine eX ?_
 obtain rfl := eI h; exact z05 ⟨_, rfl, z3j (y := (BO false)) (e := .box 119 [(I64 (((S_check_room.mk (IntKind.i64.wrap (a0.f_left - 1)))).f_left))]) (Wk.refl _) rfl rfl (z0l rfl rfl) ⟨rfl, rfl⟩⟩
 intro hc19 h
 refine z07 ?_
 refine cBx ?_
 refine z09 ?_
 refine bR ?_
 iterate 3 refine sX ?_
 refine eX ?_
 refine z0e ?_
 refine cBx ?_
 unfold zhp at h
 refine lX (σ := Nat) (fun i => [(0, (PV.rf 0 0)), (2, (I64 a2)), (4, (PV.rf 1 0)), (108, (PV.sl none 9 1 (List.map ofStr a1.names))), (109, (I64 ((((a1.names).length : Nat) : Int)))), (110, (I64 (((i : Nat) : Int))))]) (fun i => [.box 119 [(I64 ((IntKind.i64.wrap (a0.f_left - 1))))], .box 34 (z0x a1)]) 0 h ?_ ?_
 exact jN
 rintro g1_f s20 h; replace h : z6g r_q0p a0 a1 a2 (fun y0 => g1_f y0) s20 = some r := h; unfold z6g at h
 change BW _ _ _ ⟨[(0, (PV.rf 0 0)), (2, (I64 a2)), (4, (PV.rf 1 0)), (108, (PV.sl none 9 1 (List.map ofStr a1.names))), (109, (I64 ((((a1.names).length : Nat) : Int)))), (110, (I64 (((s20 : Nat) : Int))))], [.box 119 [(I64 ((IntKind.i64.wrap (a0.f_left - 1))))], .box 34 (z0x a1)], _⟩ _
 refine bR ?_
 refine eX ?_
 refine z09 ?_
 refine z2f (t := 108) rfl fun hb22 => ?_
 try rw [List.length_map] at hb22
 refine cX h rfl ?_ ?_
 intro hc21 h
 have hc21_ := of_decide_eq_true hc21
 refine z07 ?_
 refine cBx ?_
 refine z09 ?_
 refine z0e ?_
 refine cBx ?_
 refine bR ?_
 refine sX ?_
 obtain ⟨x23, hx23, h⟩ := obind h
 refine sS rfl rfl rfl (z0w (i := s20) Try.underlying31 inf_9 rfl rfl rfl hx23 rfl) ?_
 iterate 2 refine sX ?_
 refine eX ?_
 refine jX (ι := Bool) (fun i => zar (fun y0 => g1_f y0) a0 s20 i = some r) (fun i => [(0, (PV.rf 0 0)), (2, (I64 a2)), (4, (PV.rf 1 0)), (108, (PV.sl none 9 1 (List.map ofStr a1.names))), (109, (I64 ((((a1.names).length : Nat) : Int)))), (110, (I64 (((s20 : Nat) : Int)))), (131, (BO i))]) (fun i => [.box 119 [(I64 ((IntKind.i64.wrap (a0.f_left - 1))))], .box 34 (z0x a1)]) ?_ ?_
 rintro s24 h; replace h : zar (fun y0 => g1_f y0) a0 s20 s24 = some r := h; unfold zar at h
 change BW _ _ _ ⟨[(0, (PV.rf 0 0)), (2, (I64 a2)), (4, (PV.rf 1 0)), (108, (PV.sl none 9 1 (List.map ofStr a1.names))), (109, (I64 ((((a1.names).length : Nat) : Int)))), (110, (I64 (((s20 : Nat) : Int)))), (131, (BO s24))], [.box 119 [(I64 ((IntKind.i64.wrap (a0.f_left - 1))))], .box 34 (z0x a1)], _⟩ _
 refine cX h rfl ?_ ?_
 intro hc25 h
 refine bR ?_
 refine eX ?_
 obtain rfl := eI h; exact z05 ⟨_, rfl, z3j (y := (BO false)) (e := .box 119 [(I64 (((S_check_room.mk (IntKind.i64.wrap (a0.f_left - 1)))).f_left))]) (Wk.refl _) rfl rfl (z0l rfl rfl) ⟨rfl, rfl⟩⟩
 intro hc25 h
 refine z07 ?_
 refine cBx ?_
 refine z0a ?_
 refine sS rfl rfl rfl (z1b (k := s20) (c := 1) rfl rfl rfl (by omega)) ?_
 refine sX (z06 ?_)
 exact ⟨rfl, (s20 + 1), h, jN⟩
 refine z0a ?_
 refine sX ?_
 obtain ⟨x26, hx26, h⟩ := obind h
 refine sS rfl rfl rfl (z04 rfl Z91 rfl (wkr .nil) ⟨rfl, trivial⟩ (Z77 x23 x26 hx26) rfl) ?_
 iterate 2 refine sX ?_
 refine z0n (t := 118) rfl ?_ ?_
 intro hb27; replace h := z0j hb27 h
 iterate 12 refine nX ?_
 refine sX (z06 ?_)
 exact ⟨rfl, true, h, jN⟩
 intro hb27; replace h := z0k hb27 h
 iterate 3 refine yX ?_
 refine z0n (t := 121) rfl ?_ ?_
 intro hb28; replace h := z0j hb28 h
 iterate 4 refine yX ?_
 refine z1g rfl rfl rfl rfl rfl rfl (z95 rfl rfl rfl) ?_
 obtain ⟨x29, hx29, h⟩ := obind h
 refine z1g rfl rfl rfl rfl rfl rfl (z1o Try.underlying31 inf_9 rfl rfl rfl hx29 rfl) ?_
 refine yX ?_
 refine z1g rfl rfl rfl rfl rfl rfl ((z21 (a := x23) (b := x29) rfl rfl rfl rfl).cast (y := (BO ((Op.bytesLess x23 x29 || x23 == x29)))) rfl rfl) ?_
 refine yX ?_
 refine sX (z06 ?_)
 exact ⟨rfl, (Op.bytesLess x23 x29 || x23 == x29), h, jN⟩
 intro hb28; replace h := z0k hb28 h
 iterate 8 refine nX ?_
 refine yX ?_
 refine sX (z06 ?_)
 exact ⟨rfl, false, h, jN⟩
 intro hc21 h
 refine z1a ?_
 refine cBx ?_
 refine bR ?_
 iterate 4 refine sX ?_
 obtain ⟨x30, hx30, h⟩ := obind h
 refine sS rfl rfl rfl (z3g 0 rfl Z5o rfl (wkr (wkr (wkr .nil))) (.box (.val (z0c z1m a1.parts) (.val rfl .nil))) rfl (z0l rfl rfl) (c_q0p (S_check_room.mk (IntKind.i64.wrap (a0.f_left - 1))) a1.parts a2 x30 hx30) rfl (z0l rfl rfl)) ?_
 refine eX ?_
 obtain rfl := eI h; exact z05 ⟨_, rfl, z3j (y := (BO x30.1)) (e := .box 119 [(I64 (((x30.2)).f_left))]) (Wk.refl _) rfl rfl (z0l rfl rfl) ⟨rfl, rfl⟩⟩
 refine z0a ?_
 iterate 5 refine sX ?_
 refine z0n (t := 89) rfl ?_ ?_
 intro hb31; replace h := z0j hb31 h
 iterate 7 refine nX ?_
 iterate 2 refine sX ?_
 iterate 7 refine nX ?_
 refine sX (z06 ?_)
 exact ⟨rfl, true, h, jN⟩
 intro hb31; replace h := z0k hb31 h
 iterate 7 refine yX ?_
 iterate 2 refine sX ?_
 refine z0n (t := 98) rfl ?_ ?_
 intro hb32; replace h := z0j hb32 h
 iterate 7 refine nX ?_
 refine sX (z06 ?_)
 exact ⟨rfl, true, h, jN⟩
 intro hb32; replace h := z0k hb32 h
 iterate 7 refine yX ?_
 refine sX (z06 ?_)
 exact ⟨rfl, ((((a1.lacks).length : Nat) : Int) != (((a1.names).length : Nat) : Int)), h, jN⟩
 intro hc17 h
 refine z07 ?_
 refine cBx ?_
 refine bR ?_
 refine eX ?_
 obtain rfl := eI h; exact z05 ⟨_, rfl, z3j (y := (BO false)) (e := .box 119 [(I64 (((S_check_room.mk (IntKind.i64.wrap (a0.f_left - 1)))).f_left))]) (Wk.refl _) rfl rfl (z0l rfl rfl) ⟨rfl, rfl⟩⟩
 refine bR ?_
 refine sX ?_
 refine eX ?_
 refine cX h rfl ?_ ?_
 intro hc33 h
 refine z07 ?_
 exact ⟨rfl, (a1.kind == 1), h, jN⟩
 intro hc33 h
 refine z0a ?_
 refine sX ?_
 refine sX (z06 ?_)
 exact ⟨rfl, (a1.kind == 2), h, jN⟩
 refine z0a ?_
 refine sX ?_
 refine sS rfl rfl rfl (z4h rfl rfl) ?_
 iterate 4 refine sX ?_
 refine z0n (t := 23) rfl ?_ ?_
 intro hb34; replace h := z0j hb34 h
 iterate 2 refine nX ?_
 refine sX (z06 ?_)
 exact ⟨rfl, true, h, jN⟩
 intro hb34; replace h := z0k hb34 h
 iterate 2 refine yX ?_
 refine sX (z06 ?_)
 exact ⟨rfl, (decide (a2 > 64)), h, jN⟩
theorem C_q0p.sound : ∀ (i : C_q0p) (r : i.R), z22 C_q0p.F i = some r → C_q0p.Q i r := by
 refine z2r (Φ := C_q0p.F) (Q := C_q0p.Q) ?_
 intro g hg i r h
 cases i with
 | k_q0p a0 a1 a2 => exact zdr (fun a0 a1 a2 => g (.k_q0p a0 a1 a2)) (fun a0 a1 a2 r hr => hg (.k_q0p a0 a1 a2) r hr) (fun a0 a1 a2 => g (.k_q0o a0 a1 a2)) (fun a0 a1 a2 r hr => hg (.k_q0o a0 a1 a2) r hr) a0 a1 a2 r h
 | k_q0o a0 a1 a2 => exact zdq (fun a0 a1 a2 => g (.k_q0p a0 a1 a2)) (fun a0 a1 a2 r hr => hg (.k_q0p a0 a1 a2) r hr) (fun a0 a1 a2 => g (.k_q0o a0 a1 a2)) (fun a0 a1 a2 r hr => hg (.k_q0o a0 a1 a2) r hr) a0 a1 a2 r h
theorem Zb4 (a0 : S_check_room) (a1 : Typ) (a2 : Int) (r : (Bool × S_check_room)) (h : znc a0 a1 a2 = some r) : z49 Try.prog 59 [(PV.rf 0 0), (z02 a1), (I64 a2)] (.box 119 [(I64 a0.f_left)]) (BO r.1) (.box 119 [(I64 ((r.2).f_left))]) := C_q0p.sound (.k_q0o a0 a1 a2) r h
noncomputable def zj9 (a0 : Typ) : Option Bool :=
 (znc (S_check_room.mk 16384) a0 1).bind fun x1 =>
 some x1.1
theorem zt2 (a0 : Typ) (r : Bool) (h : zj9 a0 = some r) : z08 Try.prog 33 [(z02 a0)] (BO r) := by
 unfold zj9 at h
 refine z0g Try.func33 rfl Try.ntmps33 Try.results33 rfl (z0q ?_)
 change BW _ _ _ ⟨[(0, (z02 a0))], [], _⟩ _
 refine bR ?_
 refine sX ?_
 refine eX ?_
 refine bR ?_
 refine sS rfl rfl rfl (z1x (cs := [(I64 16384)]) Z2k zno rfl rfl rfl rfl) ?_
 refine sS rfl rfl rfl (z16 zno rfl) ?_
 refine z0m rfl rfl (z0d zno rfl rfl rfl rfl rfl rfl (lbE rfl) rfl) ?_
 refine z06 ?_
 refine cBx ?_
 refine bR ?_
 refine sX ?_
 obtain ⟨x1, hx1, h⟩ := obind h
 refine sS rfl rfl rfl (z3g 1 rfl Z9e rfl (wkr (wkr (wkr .nil))) (.box (.val (z0b a0) (.val rfl .nil))) rfl (z0l rfl rfl) (Zb4 (S_check_room.mk 16384) a0 1 x1 hx1) rfl (z0l rfl rfl)) ?_
 refine eX ?_
 obtain rfl := eI h; exact z05 eK
noncomputable def zer (a0 a1 : Typ) (s1 : Bool) : Option (Bool × Int) :=
 bif s1 then (
 some (false, 70)
 ) else (
 (z4f a0 a1).bind fun x3 =>
 some (x3, 0)
 )
noncomputable def zls (a0 a1 : Typ) : Option (Bool × Int) :=
 (zj9 a0).bind fun x4 =>
 bif (!x4) then (
 zer a0 a1 true
 ) else (
 (zj9 a1).bind fun x6 =>
 zer a0 a1 (!x6)
 )
theorem Z74 (a0 a1 : Typ) (r : (Bool × Int)) (h : zls a0 a1 = some r) : z08 Try.prog 14 [(z02 a0), (z02 a1)] (PV.tup [(BO r.1), (I64 r.2)]) := by
 unfold zls at h
 refine z0g Try.func14 rfl Try.ntmps14 Try.results14 rfl (z0q ?_)
 change BW _ _ _ ⟨[(0, (z02 a0)), (1, (z02 a1))], [], _⟩ _
 refine bR ?_
 iterate 3 refine sX ?_
 refine eX ?_
 refine z09 ?_
 refine jX (ι := Bool) (fun i => zer a0 a1 i = some r) (fun i => [(2, (PV.rf 0 0)), (3, (PV.rf 1 0)), (13, (BO i))]) (fun i => [.box 34 (z0x a0), .box 34 (z0x a1)]) ?_ ?_
 rintro s1 h; replace h : zer a0 a1 s1 = some r := h; unfold zer at h
 change BW _ _ _ ⟨[(2, (PV.rf 0 0)), (3, (PV.rf 1 0)), (13, (BO s1))], [.box 34 (z0x a0), .box 34 (z0x a1)], _⟩ _
 refine cX h rfl ?_ ?_
 intro hc2 h
 refine bR ?_
 refine sX ?_
 refine eX ?_
 obtain rfl := eI h; exact z05 eK
 intro hc2 h
 refine z07 ?_
 refine cBx ?_
 refine bR ?_
 iterate 2 refine sX ?_
 obtain ⟨x3, hx3, h⟩ := obind h
 refine sS rfl rfl rfl (z04 rfl zns rfl (wkr (wkr .nil)) ⟨(z0b a0), ⟨(z0b a1), trivial⟩⟩ (Z4h a0 a1 x3 hx3) rfl) ?_
 refine sX ?_
 refine eX ?_
 obtain rfl := eI h; exact z05 eK
 refine z0a ?_
 refine sX ?_
 obtain ⟨x4, hx4, h⟩ := obind h
 refine sS rfl rfl rfl (z04 rfl zxq rfl (wkr .nil) ⟨(z0b a0), trivial⟩ (zt2 a0 x4 hx4) rfl) ?_
 iterate 2 refine sX ?_
 refine z0n (t := 9) rfl ?_ ?_
 intro hb5; replace h := z0j hb5 h
 iterate 3 refine nX ?_
 refine sX (z06 ?_)
 exact ⟨rfl, true, h, jN⟩
 intro hb5; replace h := z0k hb5 h
 refine yX ?_
 obtain ⟨x6, hx6, h⟩ := obind h
 refine z1g rfl rfl rfl rfl rfl rfl (z04 rfl zxq rfl (wkr .nil) ⟨(z0b a1), trivial⟩ (zt2 a1 x6 hx6) rfl) ?_
 refine yX ?_
 refine sX (z06 ?_)
 exact ⟨rfl, (!x6), h, jN⟩
noncomputable def zfg (a0 a1 : Int) : Option Int :=
 bif (decide (a0 < a1)) then (
 some (-1)
 ) else (
 bif (decide (a0 > a1)) then (
 some 1
 ) else (
 some 0
 )
 )
theorem zk2 (a0 a1 r : Int) (h : zfg a0 a1 = some r) : z08 Try.prog 77 [(PV.v (.int .u64 a0)), (PV.v (.int .u64 a1))] (I64 r) := by
 unfold zfg at h
 refine z0g Try.func77 rfl Try.ntmps77 Try.results77 rfl (z0q ?_)
 change BW _ _ _ ⟨[(0, (PV.v (.int .u64 a0))), (1, (PV.v (.int .u64 a1)))], [], _⟩ _
 refine bR ?_
 refine eX ?_
 refine z09 ?_
 refine bR ?_
 iterate 2 refine sX ?_
 refine eX ?_
 refine cX h rfl ?_ ?_
 intro hc1 h
 refine bR ?_
 refine eX ?_
 obtain rfl := eI h; exact z05 eK
 intro hc1 h
 refine z07 ?_
 refine cBx ?_
 refine z09 ?_
 refine bR ?_
 iterate 2 refine sX ?_
 refine eX ?_
 refine cX h rfl ?_ ?_
 intro hc2 h
 refine bR ?_
 refine eX ?_
 obtain rfl := eI h; exact z05 eK
 intro hc2 h
 refine z07 ?_
 refine cBx ?_
 refine bR ?_
 refine eX ?_
 obtain rfl := eI h; exact z05 eK
noncomputable def zvw (a0 : Bool) : Option Int :=
 bif a0 then (
 some 1
 ) else (
 some 0
 )
theorem Z76 (a0 : Bool) (r : Int) (h : zvw a0 = some r) : z08 Try.prog 78 [(BO a0)] (PV.v (.int .u64 r)) := by
 unfold zvw at h
 refine z0g Try.func78 rfl Try.ntmps78 Try.results78 rfl (z0q ?_)
 change BW _ _ _ ⟨[(0, (BO a0))], [], _⟩ _
 refine bR ?_
 refine eX ?_
 refine z09 ?_
 refine bR ?_
 refine eX ?_
 refine cX h rfl ?_ ?_
 intro hc1 h
 refine bR ?_
 refine eX ?_
 obtain rfl := eI h; exact z05 eK
 intro hc1 h
 refine z07 ?_
 refine cBx ?_
 refine bR ?_
 refine eX ?_
 obtain rfl := eI h; exact z05 eK
noncomputable def zrr (a0 : Nat) : Option Int :=
 bif (decide (((a0 : Nat) : Int) ≥ 9223372036854775808)) then (
 some (Zbr .u64 ((a0 : Nat) : Int))
 ) else (
 some (IntKind.u64.wrap (((a0 : Nat) : Int) + 9223372036854775808))
 )
theorem Z7e (a0 : Nat) (r : Int) (h : zrr a0 = some r) : z08 Try.prog 79 [(PV.v (.float .f64 a0))] (PV.v (.int .u64 r)) := by
 unfold zrr at h
 refine z0g Try.func79 rfl Try.ntmps79 Try.results79 rfl (z0q ?_)
 change BW _ _ _ ⟨[(0, (PV.v (.float .f64 a0)))], [], _⟩ _
 refine bR ?_
 refine eX ?_
 refine bR ?_
 refine sX ?_
 refine sS rfl rfl rfl (zfm rfl rfl) ?_
 refine eX ?_
 refine z09 ?_
 refine bR ?_
 refine sX ?_
 refine eX ?_
 refine cX h rfl ?_ ?_
 intro hc1 h
 refine bR ?_
 refine sX ?_
 refine sS rfl rfl rfl (zpo rfl rfl) ?_
 refine eX ?_
 obtain rfl := eI h; exact z05 eK
 intro hc1 h
 refine z07 ?_
 refine cBx ?_
 refine bR ?_
 iterate 2 refine sX ?_
 refine eX ?_
 obtain rfl := eI h; exact z05 eK
noncomputable def zna (a0 a1 : Str) : Option Int :=
 bif (Op.bytesLess a0 a1) then (
 some (-1)
 ) else (
 bif (!(Op.bytesLess a0 a1 || a0 == a1)) then (
 some 1
 ) else (
 some 0
 )
 )
theorem zyu (a0 a1 : Str) (r : Int) (h : zna a0 a1 = some r) : z08 Try.prog 80 [(ofStr a0), (ofStr a1)] (I64 r) := by
 unfold zna at h
 refine z0g Try.func80 rfl Try.ntmps80 Try.results80 rfl (z0q ?_)
 change BW _ _ _ ⟨[(0, (ofStr a0)), (1, (ofStr a1))], [], _⟩ _
 refine bR ?_
 refine eX ?_
 refine z09 ?_
 refine bR ?_
 iterate 2 refine sX ?_
 refine sS rfl rfl rfl ((z21 (a := a0) (b := a1) rfl rfl rfl rfl).cast (y := (BO ((Op.bytesLess a0 a1)))) rfl rfl) (z06 ?_)
 refine cBx ?_
 refine cX h rfl ?_ ?_
 intro hc1 h
 refine bR ?_
 refine eX ?_
 obtain rfl := eI h; exact z05 eK
 intro hc1 h
 refine z07 ?_
 refine cBx ?_
 refine z09 ?_
 refine bR ?_
 iterate 2 refine sX ?_
 refine sS rfl rfl rfl ((z21 (a := a0) (b := a1) rfl rfl rfl rfl).cast (y := (BO ((!(Op.bytesLess a0 a1 || a0 == a1))))) rfl rfl) (z06 ?_)
 refine cBx ?_
 refine cX h rfl ?_ ?_
 intro hc2 h
 refine bR ?_
 refine eX ?_
 obtain rfl := eI h; exact z05 eK
 intro hc2 h
 refine z07 ?_
 refine cBx ?_
 refine bR ?_
 refine eX ?_
 obtain rfl := eI h; exact z05 eK
end Go.Proofs.Ytiapdjdhaclmnaa
