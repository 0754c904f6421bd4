/- Pure functions, and that calls answer as they say. Written by gen.py. -/
import Derived.Test.YtiapdjdhaclmnaaG5
namespace Go.Proofs.Ytiapdjdhaclmnaa
open Go Aw
set_option linter.unusedVariables false
set_option linter.unusedSimpArgs false
set_option maxRecDepth 20000
set_option maxHeartbeats 2000000
noncomputable def p_ref01_Check (a0 : Term) : Option (Int × Int) :=
 Option.bind (p_ref01_seen_part (S_ref01_seen.mk 0 0 0 0) a0 1) fun x1 =>
 some (x1.f_at, x1.f_why)
theorem s_ref01_Check (a0 : Term) (r : (Int × Int)) (h : p_ref01_Check a0 = some r) : PCalls Try.prog 27 [(ofTermX a0)] (PV.tup [(I64 r.1), (I64 r.2)]) := by
 unfold p_ref01_Check at h
 refine acalls_of Try.func27 rfl Try.ntmps27 Try.results27 rfl (aw_of_bw ?_)
 change BW _ _ _ ⟨[(0, (ofTermX a0))], [], _⟩ _
 refine bR ?_
 refine sS rfl rfl rfl (op1_box rfl rfl rfl) ?_
 refine sA rfl rfl rfl rfl rfl ?_
 refine sA rfl rfl rfl rfl rfl (ao_nil ?_)
 change BW _ _ _ _ _
 refine bR ?_
 refine sS rfl rfl rfl (op1_build (cs := [(I64 0), (I64 0), (I64 0), (I64 0)]) st_98 inf_98 rfl rfl rfl rfl) ?_
 refine sS rfl rfl rfl ((op1_ldRA inf_29 Try.underlying29 rfl rfl rfl rfl rfl rfl)) ?_
 obtain ⟨x1, hx1, h⟩ := obind h
 refine sS rfl rfl rfl (op1_pcall rfl en_50 rfl (.cons (Wk.refl _) (.cons (Wk.refl _) (.cons (Wk.refl _) .nil))) ⟨(ids_S_ref01_seen (S_ref01_seen.mk 0 0 0 0)), ⟨(ids_TermX a0), ⟨rfl, trivial⟩⟩⟩ (s_ref01_seen_part (S_ref01_seen.mk 0 0 0 0) a0 1 x1 hx1) (ids_S_ref01_seen x1)) ?_
 refine sS rfl rfl rfl (op1_alloc inf_98 rfl) ?_
 refine ao_step0 rfl rfl (op1_store inf_98 rfl rfl rfl rfl rfl rfl (Nat.le_of_ble_eq_true rfl) rfl) ?_
 refine ao_nil ?_
 change BW _ _ _ _ _
 refine bw_seq (bw_tail 5 [] [1] mo (by kernel_rfl) ?_)
 refine ac_go rfl rfl rfl rfl (fun H hp => op1_faR st_98 (i := 2) rfl rfl rfl) ?_
 refine ac_go rfl rfl rfl rfl (fun H hp => (op1_ldR Try.underlying3 rfl rfl rfl (hp.at rfl rfl) rfl)) ?_
 refine ac_go rfl rfl rfl rfl (fun H hp => op1_faR st_98 (i := 3) rfl rfl rfl) ?_
 refine ac_go rfl rfl rfl rfl (fun H hp => (op1_ldR Try.underlying39 rfl rfl rfl (hp.at rfl rfl) rfl)) ?_
 refine ac_go rfl rfl rfl rfl (fun H hp => op1_assign rfl rfl) ?_
 refine ac_nil ?_
 change AO _ _ _ _ _
 refine sA rfl rfl rfl rfl rfl (ao_nil ?_)
 change BW _ _ _ _ _
 refine bw_ret ?_
 change ∃ xs, _ = some xs ∧ EndOk _ _ _ _
 obtain rfl := Option.some.inj h
 exact ⟨_, rfl, endOk0 (y := (PV.tup [(I64 x1.f_at), (I64 x1.f_why)])) (Wk.refl _) (ids_tup_cons rfl (ids_tup_cons rfl ids_tup_nil)) ⟨rfl, rfl⟩⟩
noncomputable def ref07_room_fits_l1b (r_ref07_room_fits : S_ref07_room → Typ → Int → Option (S_ref07_room × Bool)) (a1 : Typ) (a2 : Int) (s3 : Nat) (g1 : Int → Int → Option (S_ref07_room × Bool)) (s4 : Int) (s5 : Int) : Option (S_ref07_room × Bool) :=
 bif (decide (s4 < ((s3 : Nat) : Int))) then (
  Option.bind (idxI a1.parts s4) fun x7 =>
  Option.bind (r_ref07_room_fits (S_ref07_room.mk s5) x7 (IntKind.i64.wrap (a2 + 1))) fun x8 =>
  bif (!x8.2) then (
   some ((x8.1), false)
  ) else (
   g1 (IntKind.i64.wrap (s4 + 1)) ((x8.1).f_left)
  )
 ) else (
  some ((S_ref07_room.mk s5), true)
 )
theorem ref07_room_fits_l1b_cm {ι : Type} {ρ : ι → Type} (r_ref07_room_fits : (∀ i, Option (ρ i)) → S_ref07_room → Typ → Int → Option (S_ref07_room × Bool)) (h_r_ref07_room_fits : ∀ y0 y1 y2, CM (fun G => r_ref07_room_fits G y0 y1 y2)) (g1 : (∀ i, Option (ρ i)) → Int → Int → Option (S_ref07_room × Bool)) (h_g1 : ∀ y0 y1, CM (fun G => g1 G y0 y1)) (a1 : Typ) (a2 : Int) (s3 : Nat) (s4 : Int) (s5 : Int) : CM (fun G : (∀ i, Option (ρ i)) => ref07_room_fits_l1b (r_ref07_room_fits G) a1 a2 s3 (g1 G) s4 s5) := by
 simp only [ref07_room_fits_l1b]
 repeat (first | exact cm_const | exact h_r_ref07_room_fits _ _ _ | exact h_g1 _ _ | refine cm_cond ?_ ?_ | refine cm_bind ?_ (fun _ => ?_))
noncomputable def ref07_room_fits_l1 (r_ref07_room_fits : S_ref07_room → Typ → Int → Option (S_ref07_room × Bool)) (a1 : Typ) (a2 : Int) (s3 : Nat) (s4 : Int) (s5 : Int) : Option (S_ref07_room × Bool) :=
 fixO (ι := (Int × Int)) (ρ := fun _ => (S_ref07_room × Bool)) (fun g i => ref07_room_fits_l1b r_ref07_room_fits a1 a2 s3 (fun s4 s5 => g (s4, s5)) i.1 i.2) (s4, s5)
theorem ref07_room_fits_l1_eq (r_ref07_room_fits : S_ref07_room → Typ → Int → Option (S_ref07_room × Bool)) (a1 : Typ) (a2 : Int) (s3 : Nat) (s4 : Int) (s5 : Int) : ref07_room_fits_l1 r_ref07_room_fits a1 a2 s3 s4 s5 = ref07_room_fits_l1b r_ref07_room_fits a1 a2 s3 (ref07_room_fits_l1 r_ref07_room_fits a1 a2 s3) s4 s5 :=
 fixO_eq (ι := (Int × Int)) (ρ := fun _ => (S_ref07_room × Bool)) (Φ := fun g i => ref07_room_fits_l1b r_ref07_room_fits a1 a2 s3 (fun s4 s5 => g (s4, s5)) i.1 i.2) (fun i => ref07_room_fits_l1b_cm (ι := (Int × Int)) (ρ := fun _ => (S_ref07_room × Bool)) (fun _ => r_ref07_room_fits) (fun _ _ _ => cm_const) (fun g => (fun s4 s5 => g (s4, s5))) (fun _ _ => cm_app) a1 a2 s3 i.1 i.2) (s4, s5)
theorem ref07_room_fits_l1_cm {ι : Type} {ρ : ι → Type} (r_ref07_room_fits : (∀ i, Option (ρ i)) → S_ref07_room → Typ → Int → Option (S_ref07_room × Bool)) (h_r_ref07_room_fits : ∀ y0 y1 y2, CM (fun G => r_ref07_room_fits G y0 y1 y2)) (a1 : Typ) (a2 : Int) (s3 : Nat) (s4 : Int) (s5 : Int) : CM (fun G : (∀ i, Option (ρ i)) => ref07_room_fits_l1 (r_ref07_room_fits G) a1 a2 s3 s4 s5) :=
 cm_fix (κ := (Int × Int)) (τ := fun _ => (S_ref07_room × Bool)) (Φ := fun G g i => ref07_room_fits_l1b (r_ref07_room_fits G) a1 a2 s3 (fun s4 s5 => g (s4, s5)) i.1 i.2) (fun g i => ref07_room_fits_l1b_cm r_ref07_room_fits h_r_ref07_room_fits (fun _ => (fun s4 s5 => g (s4, s5))) (fun _ _ => cm_const) a1 a2 s3 i.1 i.2) (fun G i => ref07_room_fits_l1b_cm (ι := (Int × Int)) (ρ := fun _ => (S_ref07_room × Bool)) (fun _ => r_ref07_room_fits G) (fun _ _ _ => cm_const) (fun g => (fun s4 s5 => g (s4, s5))) (fun _ _ => cm_app) a1 a2 s3 i.1 i.2) (s4, s5)
noncomputable def ref07_room_fits_j2 (r_ref07_room_fits : S_ref07_room → Typ → Int → Option (S_ref07_room × Bool)) (a0 : S_ref07_room) (a1 : Typ) (a2 : Int) (s3 : Nat) : Option (S_ref07_room × Bool) :=
 ref07_room_fits_l1 r_ref07_room_fits a1 a2 s3 0 (IntKind.i64.wrap (a0.f_left - 1))
theorem ref07_room_fits_j2_cm {ι : Type} {ρ : ι → Type} (r_ref07_room_fits : (∀ i, Option (ρ i)) → S_ref07_room → Typ → Int → Option (S_ref07_room × Bool)) (h_r_ref07_room_fits : ∀ y0 y1 y2, CM (fun G => r_ref07_room_fits G y0 y1 y2)) (a0 : S_ref07_room) (a1 : Typ) (a2 : Int) (s3 : Nat) : CM (fun G : (∀ i, Option (ρ i)) => ref07_room_fits_j2 (r_ref07_room_fits G) a0 a1 a2 s3) := by
 simp only [ref07_room_fits_j2]
 repeat (first | exact cm_const | exact h_r_ref07_room_fits _ _ _ | apply ref07_room_fits_l1_cm | refine cm_cond ?_ ?_ | refine cm_bind ?_ (fun _ => ?_) | intro _ | assumption)
noncomputable def ref07_room_fits_j5 (g1 : Int → Option (S_ref07_room × Bool)) (a0 : S_ref07_room) (s25 : Int) (s27 : Bool) : Option (S_ref07_room × Bool) :=
 bif s27 then (
  some ((S_ref07_room.mk (IntKind.i64.wrap (a0.f_left - 1))), false)
 ) else (
  g1 (IntKind.i64.wrap (s25 + 1))
 )
theorem ref07_room_fits_j5_cm {ι : Type} {ρ : ι → Type} (g1 : (∀ i, Option (ρ i)) → Int → Option (S_ref07_room × Bool)) (h_g1 : ∀ y0, CM (fun G => g1 G y0)) (a0 : S_ref07_room) (s25 : Int) (s27 : Bool) : CM (fun G : (∀ i, Option (ρ i)) => ref07_room_fits_j5 (g1 G) a0 s25 s27) := by
 simp only [ref07_room_fits_j5]
 repeat (first | exact cm_const | exact h_g1 _ | refine cm_cond ?_ ?_ | refine cm_bind ?_ (fun _ => ?_))
noncomputable def ref07_room_fits_l2b (r_ref07_room_fits : S_ref07_room → Typ → Int → Option (S_ref07_room × Bool)) (a0 : S_ref07_room) (a1 : Typ) (a2 : Int) (g1 : Int → Option (S_ref07_room × Bool)) (s25 : Int) : Option (S_ref07_room × Bool) :=
 bif (decide (s25 < (((a1.parts).length : Nat) : Int))) then (
  Option.bind (idxI a1.names s25) fun x29 =>
  Option.bind (p_ref01_Name x29) fun x30 =>
  bif (!x30) then (
   ref07_room_fits_j5 g1 a0 s25 true
  ) else (
   bif (decide (s25 > 0)) then (
    Option.bind (idxI a1.names s25) fun x33 =>
    Option.bind (idxI a1.names (IntKind.i64.wrap (s25 - 1))) fun x34 =>
    ref07_room_fits_j5 g1 a0 s25 (Op.bytesLess x33 x34 || x33 == x34)
   ) else (
    ref07_room_fits_j5 g1 a0 s25 false
   )
  )
 ) else (
  ref07_room_fits_j2 r_ref07_room_fits a0 a1 a2 ((a1.parts).length)
 )
theorem ref07_room_fits_l2b_cm {ι : Type} {ρ : ι → Type} (r_ref07_room_fits : (∀ i, Option (ρ i)) → S_ref07_room → Typ → Int → Option (S_ref07_room × Bool)) (h_r_ref07_room_fits : ∀ y0 y1 y2, CM (fun G => r_ref07_room_fits G y0 y1 y2)) (g1 : (∀ i, Option (ρ i)) → Int → Option (S_ref07_room × Bool)) (h_g1 : ∀ y0, CM (fun G => g1 G y0)) (a0 : S_ref07_room) (a1 : Typ) (a2 : Int) (s25 : Int) : CM (fun G : (∀ i, Option (ρ i)) => ref07_room_fits_l2b (r_ref07_room_fits G) a0 a1 a2 (g1 G) s25) := by
 simp only [ref07_room_fits_l2b]
 repeat (first | exact cm_const | exact h_r_ref07_room_fits _ _ _ | exact h_g1 _ | apply ref07_room_fits_j2_cm | apply ref07_room_fits_j5_cm | refine cm_cond ?_ ?_ | refine cm_bind ?_ (fun _ => ?_) | intro _ | assumption)
noncomputable def ref07_room_fits_l2 (r_ref07_room_fits : S_ref07_room → Typ → Int → Option (S_ref07_room × Bool)) (a0 : S_ref07_room) (a1 : Typ) (a2 : Int) (s25 : Int) : Option (S_ref07_room × Bool) :=
 fixO (ι := Int) (ρ := fun _ => (S_ref07_room × Bool)) (fun g i => ref07_room_fits_l2b r_ref07_room_fits a0 a1 a2 (fun s25 => g s25) i) s25
theorem ref07_room_fits_l2_eq (r_ref07_room_fits : S_ref07_room → Typ → Int → Option (S_ref07_room × Bool)) (a0 : S_ref07_room) (a1 : Typ) (a2 : Int) (s25 : Int) : ref07_room_fits_l2 r_ref07_room_fits a0 a1 a2 s25 = ref07_room_fits_l2b r_ref07_room_fits a0 a1 a2 (ref07_room_fits_l2 r_ref07_room_fits a0 a1 a2) s25 :=
 fixO_eq (ι := Int) (ρ := fun _ => (S_ref07_room × Bool)) (Φ := fun g i => ref07_room_fits_l2b r_ref07_room_fits a0 a1 a2 (fun s25 => g s25) i) (fun i => ref07_room_fits_l2b_cm (ι := Int) (ρ := fun _ => (S_ref07_room × Bool)) (fun _ => r_ref07_room_fits) (fun _ _ _ => cm_const) (fun g => (fun s25 => g s25)) (fun _ => cm_app) a0 a1 a2 i) s25
theorem ref07_room_fits_l2_cm {ι : Type} {ρ : ι → Type} (r_ref07_room_fits : (∀ i, Option (ρ i)) → S_ref07_room → Typ → Int → Option (S_ref07_room × Bool)) (h_r_ref07_room_fits : ∀ y0 y1 y2, CM (fun G => r_ref07_room_fits G y0 y1 y2)) (a0 : S_ref07_room) (a1 : Typ) (a2 : Int) (s25 : Int) : CM (fun G : (∀ i, Option (ρ i)) => ref07_room_fits_l2 (r_ref07_room_fits G) a0 a1 a2 s25) :=
 cm_fix (κ := Int) (τ := fun _ => (S_ref07_room × Bool)) (Φ := fun G g i => ref07_room_fits_l2b (r_ref07_room_fits G) a0 a1 a2 (fun s25 => g s25) i) (fun g i => ref07_room_fits_l2b_cm r_ref07_room_fits h_r_ref07_room_fits (fun _ => (fun s25 => g s25)) (fun _ => cm_const) a0 a1 a2 i) (fun G i => ref07_room_fits_l2b_cm (ι := Int) (ρ := fun _ => (S_ref07_room × Bool)) (fun _ => r_ref07_room_fits G) (fun _ _ _ => cm_const) (fun g => (fun s25 => g s25)) (fun _ => cm_app) a0 a1 a2 i) s25
noncomputable def ref07_room_fits_j4 (r_ref07_room_fits : S_ref07_room → Typ → Int → Option (S_ref07_room × Bool)) (a0 : S_ref07_room) (a1 : Typ) (a2 : Int) (s23 : Bool) : Option (S_ref07_room × Bool) :=
 bif s23 then (
  some ((S_ref07_room.mk (IntKind.i64.wrap (a0.f_left - 1))), false)
 ) else (
  ref07_room_fits_l2 r_ref07_room_fits a0 a1 a2 0
 )
theorem ref07_room_fits_j4_cm {ι : Type} {ρ : ι → Type} (r_ref07_room_fits : (∀ i, Option (ρ i)) → S_ref07_room → Typ → Int → Option (S_ref07_room × Bool)) (h_r_ref07_room_fits : ∀ y0 y1 y2, CM (fun G => r_ref07_room_fits G y0 y1 y2)) (a0 : S_ref07_room) (a1 : Typ) (a2 : Int) (s23 : Bool) : CM (fun G : (∀ i, Option (ρ i)) => ref07_room_fits_j4 (r_ref07_room_fits G) a0 a1 a2 s23) := by
 simp only [ref07_room_fits_j4]
 repeat (first | exact cm_const | exact h_r_ref07_room_fits _ _ _ | apply ref07_room_fits_l2_cm | refine cm_cond ?_ ?_ | refine cm_bind ?_ (fun _ => ?_) | intro _ | assumption)
noncomputable def ref07_room_fits_j3 (r_ref07_room_fits : S_ref07_room → Typ → Int → Option (S_ref07_room × Bool)) (a0 : S_ref07_room) (a1 : Typ) (a2 : Int) (s10 : Bool) : Option (S_ref07_room × Bool) :=
 bif s10 then (
  ref07_room_fits_j2 r_ref07_room_fits a0 a1 a2 0
 ) else (
  bif (a1.kind == 3) then (
   bif (decide (a1.of ≥ 1)) then (
    some ((S_ref07_room.mk (IntKind.i64.wrap (a0.f_left - 1))), (decide (a1.of ≤ 10)))
   ) else (
    some ((S_ref07_room.mk (IntKind.i64.wrap (a0.f_left - 1))), false)
   )
  ) else (
   bif (a1.kind == 4) then (
    Option.bind (p_ref01_Check (a1.only)) fun x15 =>
    some ((S_ref07_room.mk (IntKind.i64.wrap (a0.f_left - 1))), (x15.2 == 0))
   ) else (
    bif (a1.kind == 8) then (
     Option.bind (p_ref01_Name a1.cls) fun x17 =>
     some ((S_ref07_room.mk (IntKind.i64.wrap (a0.f_left - 1))), x17)
    ) else (
     bif (a1.kind == 5) then (
      bif ((((a1.parts).length : Nat) : Int) != 1) then (
       some ((S_ref07_room.mk (IntKind.i64.wrap (a0.f_left - 1))), false)
      ) else (
       ref07_room_fits_j2 r_ref07_room_fits a0 a1 a2 1
      )
     ) else (
      bif (a1.kind == 7) then (
       bif (decide ((((a1.parts).length : Nat) : Int) < 2)) then (
        some ((S_ref07_room.mk (IntKind.i64.wrap (a0.f_left - 1))), false)
       ) else (
        ref07_room_fits_j2 r_ref07_room_fits a0 a1 a2 ((a1.parts).length)
       )
      ) else (
       bif (a1.kind == 6) then (
        bif ((((a1.names).length : Nat) : Int) != (((a1.parts).length : Nat) : Int)) then (
         ref07_room_fits_j4 r_ref07_room_fits a0 a1 a2 true
        ) else (
         bif ((((a1.lacks).length : Nat) : Int) != (((a1.parts).length : Nat) : Int)) then (
          ref07_room_fits_j4 r_ref07_room_fits a0 a1 a2 true
         ) else (
          ref07_room_fits_j4 r_ref07_room_fits a0 a1 a2 (decide ((((a1.parts).length : Nat) : Int) > 4096))
         )
        )
       ) else (
        some ((S_ref07_room.mk (IntKind.i64.wrap (a0.f_left - 1))), false)
       )
      )
     )
    )
   )
  )
 )
theorem ref07_room_fits_j3_cm {ι : Type} {ρ : ι → Type} (r_ref07_room_fits : (∀ i, Option (ρ i)) → S_ref07_room → Typ → Int → Option (S_ref07_room × Bool)) (h_r_ref07_room_fits : ∀ y0 y1 y2, CM (fun G => r_ref07_room_fits G y0 y1 y2)) (a0 : S_ref07_room) (a1 : Typ) (a2 : Int) (s10 : Bool) : CM (fun G : (∀ i, Option (ρ i)) => ref07_room_fits_j3 (r_ref07_room_fits G) a0 a1 a2 s10) := by
 simp only [ref07_room_fits_j3]
 repeat (first | exact cm_const | exact h_r_ref07_room_fits _ _ _ | apply ref07_room_fits_j2_cm | apply ref07_room_fits_j4_cm | refine cm_cond ?_ ?_ | refine cm_bind ?_ (fun _ => ?_) | intro _ | assumption)
noncomputable def ref07_room_fits_j1 (r_ref07_room_fits : S_ref07_room → Typ → Int → Option (S_ref07_room × Bool)) (a0 : S_ref07_room) (a1 : Typ) (a2 : Int) (s1 : Bool) : Option (S_ref07_room × Bool) :=
 bif s1 then (
  some ((S_ref07_room.mk (IntKind.i64.wrap (a0.f_left - 1))), false)
 ) else (
  bif (a1.kind == 1) then (
   ref07_room_fits_j3 r_ref07_room_fits a0 a1 a2 (a1.kind == 1)
  ) else (
   ref07_room_fits_j3 r_ref07_room_fits a0 a1 a2 (a1.kind == 2)
  )
 )
theorem ref07_room_fits_j1_cm {ι : Type} {ρ : ι → Type} (r_ref07_room_fits : (∀ i, Option (ρ i)) → S_ref07_room → Typ → Int → Option (S_ref07_room × Bool)) (h_r_ref07_room_fits : ∀ y0 y1 y2, CM (fun G => r_ref07_room_fits G y0 y1 y2)) (a0 : S_ref07_room) (a1 : Typ) (a2 : Int) (s1 : Bool) : CM (fun G : (∀ i, Option (ρ i)) => ref07_room_fits_j1 (r_ref07_room_fits G) a0 a1 a2 s1) := by
 simp only [ref07_room_fits_j1]
 repeat (first | exact cm_const | exact h_r_ref07_room_fits _ _ _ | apply ref07_room_fits_j3_cm | refine cm_cond ?_ ?_ | refine cm_bind ?_ (fun _ => ?_) | intro _ | assumption)
noncomputable def b_ref07_room_fits (r_ref07_room_fits : S_ref07_room → Typ → Int → Option (S_ref07_room × Bool)) (a0 : S_ref07_room) (a1 : Typ) (a2 : Int) : Option (S_ref07_room × Bool) :=
 bif (decide ((IntKind.i64.wrap (a0.f_left - 1)) < 0)) then (
  ref07_room_fits_j1 r_ref07_room_fits a0 a1 a2 true
 ) else (
  ref07_room_fits_j1 r_ref07_room_fits a0 a1 a2 (decide (a2 > 64))
 )
theorem b_ref07_room_fits_cm {ι : Type} {ρ : ι → Type} (r_ref07_room_fits : (∀ i, Option (ρ i)) → S_ref07_room → Typ → Int → Option (S_ref07_room × Bool)) (h_r_ref07_room_fits : ∀ y0 y1 y2, CM (fun G => r_ref07_room_fits G y0 y1 y2)) (a0 : S_ref07_room) (a1 : Typ) (a2 : Int) : CM (fun G : (∀ i, Option (ρ i)) => b_ref07_room_fits (r_ref07_room_fits G) a0 a1 a2) := by
 simp only [b_ref07_room_fits]
 repeat (first | exact cm_const | exact h_r_ref07_room_fits _ _ _ | apply ref07_room_fits_j1_cm | refine cm_cond ?_ ?_ | refine cm_bind ?_ (fun _ => ?_) | intro _ | assumption)
inductive C_ref07_room_fits where
 | k_ref07_room_fits (a0 : S_ref07_room) (a1 : Typ) (a2 : Int)
def C_ref07_room_fits.R : C_ref07_room_fits → Type
 | .k_ref07_room_fits _ _ _ => (S_ref07_room × Bool)
noncomputable def C_ref07_room_fits.F (g : ∀ i : C_ref07_room_fits, Option i.R) : ∀ i : C_ref07_room_fits, Option i.R
 | .k_ref07_room_fits a0 a1 a2 => b_ref07_room_fits (fun a0 a1 a2 => g (.k_ref07_room_fits a0 a1 a2)) a0 a1 a2
noncomputable def p_ref07_room_fits (a0 : S_ref07_room) (a1 : Typ) (a2 : Int) : Option (S_ref07_room × Bool) := fixO C_ref07_room_fits.F (.k_ref07_room_fits a0 a1 a2)
theorem C_ref07_room_fits.cm (i : C_ref07_room_fits) : CM (fun g : (∀ i : C_ref07_room_fits, Option i.R) => C_ref07_room_fits.F g i) := by
 cases i with
 | k_ref07_room_fits a0 a1 a2 => exact b_ref07_room_fits_cm (fun (g : ∀ i : C_ref07_room_fits, Option i.R) a0 a1 a2 => g (.k_ref07_room_fits a0 a1 a2)) (fun a0 a1 a2 => cm_app (i := C_ref07_room_fits.k_ref07_room_fits a0 a1 a2)) a0 a1 a2
theorem e_ref07_room_fits (a0 : S_ref07_room) (a1 : Typ) (a2 : Int) : p_ref07_room_fits a0 a1 a2 = b_ref07_room_fits p_ref07_room_fits a0 a1 a2 := fixO_eq C_ref07_room_fits.cm (.k_ref07_room_fits a0 a1 a2)
def C_ref07_room_fits.Q : ∀ i : C_ref07_room_fits, i.R → Prop
 | .k_ref07_room_fits a0 a1 a2 => fun (r : (S_ref07_room × Bool)) => PCalls Try.prog 34 [(of_ref07_room a0), (ofTypX a1), (I64 a2)] (PV.tup [(of_ref07_room r.1), (BO r.2)])
theorem t_ref07_room_fits (r_ref07_room_fits : S_ref07_room → Typ → Int → Option (S_ref07_room × Bool)) (c_ref07_room_fits : ∀ (a0 : S_ref07_room) (a1 : Typ) (a2 : Int) r, r_ref07_room_fits a0 a1 a2 = some r → PCalls Try.prog 34 [(of_ref07_room a0), (ofTypX a1), (I64 a2)] (PV.tup [(of_ref07_room r.1), (BO r.2)])) (a0 : S_ref07_room) (a1 : Typ) (a2 : Int) (r : (S_ref07_room × Bool)) (h : b_ref07_room_fits r_ref07_room_fits a0 a1 a2 = some r) : PCalls Try.prog 34 [(of_ref07_room a0), (ofTypX a1), (I64 a2)] (PV.tup [(of_ref07_room r.1), (BO r.2)]) := by
 unfold b_ref07_room_fits at h
 refine acalls_of Try.func34 rfl Try.ntmps34 Try.results34 rfl (aw_of_bw ?_)
 change BW _ _ _ ⟨[(0, (of_ref07_room a0)), (1, (ofTypX a1)), (2, (I64 a2))], [], _⟩ _
 refine bR ?_
 refine sS rfl rfl rfl (op1_box rfl rfl rfl) ?_
 refine sS rfl rfl rfl (op1_box rfl rfl rfl) ?_
 refine sS rfl rfl rfl (op1_alloc inf_79 rfl) ?_
 refine sA rfl rfl rfl rfl rfl (ao_nil ?_)
 change BW _ _ _ _ _
 refine bR ?_
 refine sS rfl rfl rfl (op1_faR st_79 (i := 0) rfl rfl rfl) ?_
 refine sS rfl rfl rfl ((op1_ldR Try.underlying3 rfl rfl rfl rfl rfl)) ?_
 refine sS rfl rfl rfl (op1_subW rfl rfl rfl) ?_
 refine sS rfl rfl rfl (op1_faR st_79 (i := 0) rfl rfl rfl) ?_
 refine ao_step0 rfl rfl (op1_store inf_3 rfl rfl rfl rfl rfl rfl (Nat.le_of_ble_eq_true rfl) rfl) ?_
 refine ao_nil ?_
 change BW _ _ _ _ _
 refine bw_seq ?_
 refine bw_seqJ (ι := Bool) (fun i => ref07_room_fits_j1 r_ref07_room_fits a0 a1 a2 i = some r) (fun i => [(2, (I64 a2)), (3, (PV.rf 0 0)), (4, (PV.rf 1 0)), (6, (PV.rf 2 0)), (24, (BO i))]) (fun i => [.box 79 [(I64 ((IntKind.i64.wrap (a0.f_left - 1))))], .box 34 [(I64 a1.kind), (I64 a1.of), (I64 ((a1.only).kind)), (BO ((a1.only).bool)), (I64 ((a1.only).int)), (PV.v (.float .f64 (a1.only).float)), (ofStr (a1.only).text), (PV.sl none 1 (List.map ofB (a1.only).bytes)), (PV.v (.int .u64 (a1.only).ref)), (PV.sl none 11 (List.map ofTerm (a1.only).list)), (PV.sl none 12 (List.map ofEntry (a1.only).fields)), (ofStr (a1.only).cls), (I64 ((a1.only).ver)), (PV.sl none 18 (List.map ofTyp a1.parts)), (PV.sl none 1 (List.map ofStr a1.names)), (PV.sl none 1 (List.map ofBool a1.lacks)), (BO a1.opn), (ofStr a1.cls)], .box 79 [(I64 0)]]) ?_ ?_ ?_
 ·intro i; exact ⟨Nat.le_of_ble_eq_true rfl, ⟨(il_nil rfl), ⟨(il_rf rfl), ⟨(il_rf rfl), ⟨(il_rf rfl), ⟨(il_nil rfl), trivial⟩⟩⟩⟩⟩, ⟨⟨(il_nil rfl), trivial⟩, ⟨⟨(il_nil rfl), ⟨(il_nil rfl), ⟨(il_nil rfl), ⟨(il_nil rfl), ⟨(il_nil rfl), ⟨(il_nil rfl), ⟨(il_nil rfl), ⟨(il_nil (ids_slM (fun _ => rfl) _)), ⟨(il_nil rfl), ⟨(il_nil (ids_slM ids_Term _)), ⟨(il_nil (ids_slM ids_Entry _)), ⟨(il_nil rfl), ⟨(il_nil rfl), ⟨(il_nil (ids_slM ids_Typ _)), ⟨(il_nil (ids_slM (fun _ => rfl) _)), ⟨(il_nil (ids_slM (fun _ => rfl) _)), ⟨(il_nil rfl), ⟨(il_nil rfl), trivial⟩⟩⟩⟩⟩⟩⟩⟩⟩⟩⟩⟩⟩⟩⟩⟩⟩⟩, ⟨⟨(il_nil rfl), trivial⟩, trivial⟩⟩⟩⟩
 ·rintro s1 h; replace h : ref07_room_fits_j1 r_ref07_room_fits a0 a1 a2 s1 = some r := h; unfold ref07_room_fits_j1 at h
  change BW _ _ _ ⟨[(2, (I64 a2)), (3, (PV.rf 0 0)), (4, (PV.rf 1 0)), (6, (PV.rf 2 0)), (24, (BO s1))], [.box 79 [(I64 ((IntKind.i64.wrap (a0.f_left - 1))))], .box 34 [(I64 a1.kind), (I64 a1.of), (I64 ((a1.only).kind)), (BO ((a1.only).bool)), (I64 ((a1.only).int)), (PV.v (.float .f64 (a1.only).float)), (ofStr (a1.only).text), (PV.sl none 1 (List.map ofB (a1.only).bytes)), (PV.v (.int .u64 (a1.only).ref)), (PV.sl none 11 (List.map ofTerm (a1.only).list)), (PV.sl none 12 (List.map ofEntry (a1.only).fields)), (ofStr (a1.only).cls), (I64 ((a1.only).ver)), (PV.sl none 18 (List.map ofTyp a1.parts)), (PV.sl none 1 (List.map ofStr a1.names)), (PV.sl none 1 (List.map ofBool a1.lacks)), (BO a1.opn), (ofStr a1.cls)], .box 79 [(I64 0)]], _⟩ _
  refine bw_cond rfl ?_ ?_
  ·intro hc2; replace h := ocond_t hc2 h
   refine bR ?_
   refine sS rfl rfl rfl ((op1_ldRA inf_79 Try.underlying79 rfl rfl rfl rfl rfl rfl)) ?_
   refine ao_step0 rfl rfl (op1_store inf_79 rfl rfl rfl rfl rfl rfl (Nat.le_of_ble_eq_true rfl) rfl) ?_
   refine sA rfl rfl rfl rfl rfl (ao_nil ?_)
   change BW _ _ _ _ _
   refine bw_ret ?_
   change ∃ xs, _ = some xs ∧ EndOk _ _ _ _
   obtain rfl := Option.some.inj h
   exact ⟨_, rfl, endOk0 (y := (PV.tup [(of_ref07_room (S_ref07_room.mk (IntKind.i64.wrap (a0.f_left - 1)))), (BO false)])) (Wk.refl _) (ids_tup_cons (ids_S_ref07_room (S_ref07_room.mk (IntKind.i64.wrap (a0.f_left - 1)))) (ids_tup_cons rfl ids_tup_nil)) ⟨rfl, rfl⟩⟩
  ·intro hc2; replace h := ocond_f hc2 h
   refine bw_skip ?_
   change BW _ _ _ _ _
   refine bR ?_
   refine sA rfl rfl rfl rfl rfl (ao_nil ?_)
   change BW _ _ _ _ _
   refine bw_seqJ (ι := Nat) (fun i => ref07_room_fits_j2 r_ref07_room_fits a0 a1 a2 i = some r) (fun i => [(2, (I64 a2)), (3, (PV.rf 0 0)), (4, (PV.rf 1 0)), (6, (PV.rf 2 0)), (8, (I64 (((i : Nat) : Int))))]) (fun i => [.box 79 [(I64 ((IntKind.i64.wrap (a0.f_left - 1))))], .box 34 [(I64 a1.kind), (I64 a1.of), (I64 ((a1.only).kind)), (BO ((a1.only).bool)), (I64 ((a1.only).int)), (PV.v (.float .f64 (a1.only).float)), (ofStr (a1.only).text), (PV.sl none 1 (List.map ofB (a1.only).bytes)), (PV.v (.int .u64 (a1.only).ref)), (PV.sl none 11 (List.map ofTerm (a1.only).list)), (PV.sl none 12 (List.map ofEntry (a1.only).fields)), (ofStr (a1.only).cls), (I64 ((a1.only).ver)), (PV.sl none 18 (List.map ofTyp a1.parts)), (PV.sl none 1 (List.map ofStr a1.names)), (PV.sl none 1 (List.map ofBool a1.lacks)), (BO a1.opn), (ofStr a1.cls)], .box 79 [(I64 0)]]) ?_ ?_ ?_
   ·intro i; exact ⟨Nat.le_of_ble_eq_true rfl, ⟨(il_nil rfl), ⟨(il_rf rfl), ⟨(il_rf rfl), ⟨(il_rf rfl), ⟨(il_nil rfl), trivial⟩⟩⟩⟩⟩, ⟨⟨(il_nil rfl), trivial⟩, ⟨⟨(il_nil rfl), ⟨(il_nil rfl), ⟨(il_nil rfl), ⟨(il_nil rfl), ⟨(il_nil rfl), ⟨(il_nil rfl), ⟨(il_nil rfl), ⟨(il_nil (ids_slM (fun _ => rfl) _)), ⟨(il_nil rfl), ⟨(il_nil (ids_slM ids_Term _)), ⟨(il_nil (ids_slM ids_Entry _)), ⟨(il_nil rfl), ⟨(il_nil rfl), ⟨(il_nil (ids_slM ids_Typ _)), ⟨(il_nil (ids_slM (fun _ => rfl) _)), ⟨(il_nil (ids_slM (fun _ => rfl) _)), ⟨(il_nil rfl), ⟨(il_nil rfl), trivial⟩⟩⟩⟩⟩⟩⟩⟩⟩⟩⟩⟩⟩⟩⟩⟩⟩⟩, ⟨⟨(il_nil rfl), trivial⟩, trivial⟩⟩⟩⟩
   ·rintro s3 h; replace h : ref07_room_fits_j2 r_ref07_room_fits a0 a1 a2 s3 = some r := h; unfold ref07_room_fits_j2 at h
    change BW _ _ _ ⟨[(2, (I64 a2)), (3, (PV.rf 0 0)), (4, (PV.rf 1 0)), (6, (PV.rf 2 0)), (8, (I64 (((s3 : Nat) : Int))))], [.box 79 [(I64 ((IntKind.i64.wrap (a0.f_left - 1))))], .box 34 [(I64 a1.kind), (I64 a1.of), (I64 ((a1.only).kind)), (BO ((a1.only).bool)), (I64 ((a1.only).int)), (PV.v (.float .f64 (a1.only).float)), (ofStr (a1.only).text), (PV.sl none 1 (List.map ofB (a1.only).bytes)), (PV.v (.int .u64 (a1.only).ref)), (PV.sl none 11 (List.map ofTerm (a1.only).list)), (PV.sl none 12 (List.map ofEntry (a1.only).fields)), (ofStr (a1.only).cls), (I64 ((a1.only).ver)), (PV.sl none 18 (List.map ofTyp a1.parts)), (PV.sl none 1 (List.map ofStr a1.names)), (PV.sl none 1 (List.map ofBool a1.lacks)), (BO a1.opn), (ofStr a1.cls)], .box 79 [(I64 0)]], _⟩ _
    refine bw_seq ?_
    refine bR ?_
    refine sA rfl rfl rfl rfl rfl (ao_nil ?_)
    change BW _ _ _ _ _
    refine bw_block ?_
    change BW _ _ _ _ _
    unfold ref07_room_fits_l1 at h
    refine bw_loop (σ := (Int × Int)) (fun i => [(2, (I64 a2)), (3, (PV.rf 0 0)), (4, (PV.rf 1 0)), (6, (PV.rf 2 0)), (8, (I64 (((s3 : Nat) : Int)))), (12, (I64 i.1))]) (fun i => [.box 79 [(I64 i.2)], .box 34 [(I64 a1.kind), (I64 a1.of), (I64 ((a1.only).kind)), (BO ((a1.only).bool)), (I64 ((a1.only).int)), (PV.v (.float .f64 (a1.only).float)), (ofStr (a1.only).text), (PV.sl none 1 (List.map ofB (a1.only).bytes)), (PV.v (.int .u64 (a1.only).ref)), (PV.sl none 11 (List.map ofTerm (a1.only).list)), (PV.sl none 12 (List.map ofEntry (a1.only).fields)), (ofStr (a1.only).cls), (I64 ((a1.only).ver)), (PV.sl none 18 (List.map ofTyp a1.parts)), (PV.sl none 1 (List.map ofStr a1.names)), (PV.sl none 1 (List.map ofBool a1.lacks)), (BO a1.opn), (ofStr a1.cls)], .box 79 [(I64 0)]]) (0, (IntKind.i64.wrap (a0.f_left - 1))) h ?_ ?_ ?_
    ·intro i; exact ⟨Nat.le_of_ble_eq_true rfl, ⟨(il_nil rfl), ⟨(il_rf rfl), ⟨(il_rf rfl), ⟨(il_rf rfl), ⟨(il_nil rfl), ⟨(il_nil rfl), trivial⟩⟩⟩⟩⟩⟩, ⟨⟨(il_nil rfl), trivial⟩, ⟨⟨(il_nil rfl), ⟨(il_nil rfl), ⟨(il_nil rfl), ⟨(il_nil rfl), ⟨(il_nil rfl), ⟨(il_nil rfl), ⟨(il_nil rfl), ⟨(il_nil (ids_slM (fun _ => rfl) _)), ⟨(il_nil rfl), ⟨(il_nil (ids_slM ids_Term _)), ⟨(il_nil (ids_slM ids_Entry _)), ⟨(il_nil rfl), ⟨(il_nil rfl), ⟨(il_nil (ids_slM ids_Typ _)), ⟨(il_nil (ids_slM (fun _ => rfl) _)), ⟨(il_nil (ids_slM (fun _ => rfl) _)), ⟨(il_nil rfl), ⟨(il_nil rfl), trivial⟩⟩⟩⟩⟩⟩⟩⟩⟩⟩⟩⟩⟩⟩⟩⟩⟩⟩, ⟨⟨(il_nil rfl), trivial⟩, trivial⟩⟩⟩⟩
    ·exact ⟨(.cons .same (.cons .same (.cons .same .nil))), (sC rfl (sC rfl (sC rfl (sC rfl (sC rfl (sC rfl sub_nil))))))⟩
    ·rintro g1_f ⟨s4, s5⟩ h; replace h : ref07_room_fits_l1b r_ref07_room_fits a1 a2 s3 (fun y0 y1 => g1_f (y0, y1)) s4 s5 = some r := h; unfold ref07_room_fits_l1b at h
     change BW _ _ _ ⟨[(2, (I64 a2)), (3, (PV.rf 0 0)), (4, (PV.rf 1 0)), (6, (PV.rf 2 0)), (8, (I64 (((s3 : Nat) : Int)))), (12, (I64 s4))], [.box 79 [(I64 s5)], .box 34 [(I64 a1.kind), (I64 a1.of), (I64 ((a1.only).kind)), (BO ((a1.only).bool)), (I64 ((a1.only).int)), (PV.v (.float .f64 (a1.only).float)), (ofStr (a1.only).text), (PV.sl none 1 (List.map ofB (a1.only).bytes)), (PV.v (.int .u64 (a1.only).ref)), (PV.sl none 11 (List.map ofTerm (a1.only).list)), (PV.sl none 12 (List.map ofEntry (a1.only).fields)), (ofStr (a1.only).cls), (I64 ((a1.only).ver)), (PV.sl none 18 (List.map ofTyp a1.parts)), (PV.sl none 1 (List.map ofStr a1.names)), (PV.sl none 1 (List.map ofBool a1.lacks)), (BO a1.opn), (ofStr a1.cls)], .box 79 [(I64 0)]], _⟩ _
     refine bw_seq ?_
     refine bR ?_
     refine sM rfl rfl rfl rfl rfl ?_
     refine sM rfl rfl rfl rfl rfl ?_
     refine sS rfl rfl rfl ((op1_cmp rfl rfl rfl rfl).cast (y := (BO ((decide (s4 < ((s3 : Nat) : Int)))))) rfl rfl) (ao_nil ?_)
     change BW _ _ _ _ _
     refine bw_cond rfl ?_ ?_
     ·intro hc6; replace h := ocond_t hc6 h
      refine bw_skip ?_
      change BW _ _ _ _ _
      refine bw_seq ?_
      refine bw_block ?_
      change BW _ _ _ _ _
      refine bR ?_
      refine sA rfl rfl rfl rfl rfl (ao_nil ?_)
      change BW _ _ _ _ _
      refine bw_seq (bw_tail 13 [0, 12] [1] mo (by kernel_rfl) ?_)
      refine ac_lgo rfl rfl rfl rfl ((op1_ldRA inf_79 Try.underlying79 rfl rfl rfl rfl rfl rfl)) ⟨rfl, trivial⟩ ?_
      refine ac_go rfl rfl rfl rfl (fun H hp => op1_faR st_34 (i := 3) rfl rfl rfl) ?_
      refine ac_go rfl rfl rfl rfl (fun H hp => (op1_ldR Try.underlying30 rfl rfl rfl (hp.at rfl rfl) rfl)) ?_
      refine ac_go rfl rfl rfl rfl (fun H hp => op1_move rfl rfl) ?_
      obtain ⟨x7, hx7, h⟩ := obind h
      refine ac_go rfl rfl rfl rfl (fun H hp => op1_idxM Try.underlying30 inf_34 rfl rfl rfl hx7 (ofTyp_eq _)) ?_
      refine ac_go rfl rfl rfl rfl (fun H hp => op1_ldPW inf_34 Try.underlying34 rfl rfl rfl rfl rfl) ?_
      refine ac_go rfl rfl rfl rfl (fun H hp => op1_move rfl rfl) ?_
      refine ac_go rfl rfl rfl rfl (fun H hp => op1_addW rfl rfl rfl) ?_
      obtain ⟨x8, hx8, h⟩ := obind h
      refine ac_go rfl rfl rfl rfl (fun H hp => op1_pcall rfl en_34 rfl (.cons (Wk.refl _) (.cons (Wk.refl _) (.cons (Wk.refl _) .nil))) ⟨(ids_S_ref07_room (S_ref07_room.mk s5)), ⟨(ids_TypX x7), ⟨rfl, trivial⟩⟩⟩ (c_ref07_room_fits (S_ref07_room.mk s5) x7 (IntKind.i64.wrap (a2 + 1)) x8 hx8) (ids_tup_cons (ids_S_ref07_room x8.1) (ids_tup_cons rfl ids_tup_nil))) ?_
      refine ac_go rfl rfl rfl rfl (fun H hp => op1_move rfl rfl) ?_
      refine ac_go rfl rfl rfl rfl (fun H hp => op1_ext rfl rfl rfl) ?_
      refine ac_go rfl rfl rfl rfl (fun H hp => op1_ext rfl rfl rfl) ?_
      refine ac_lgo0 rfl rfl rfl (op1_store inf_79 rfl rfl rfl rfl rfl rfl (Nat.le_of_ble_eq_true rfl) rfl) ⟨rfl, trivial⟩ ?_
      refine ac_nil ?_
      change AO _ _ _ _ _
      refine sA rfl rfl rfl rfl rfl (ao_nil ?_)
      change BW _ _ _ _ _
      refine bR ?_
      refine sM rfl rfl rfl rfl rfl ?_
      refine sS rfl rfl rfl (op1_not rfl rfl) (ao_nil ?_)
      change BW _ _ _ _ _
      refine bw_cond rfl ?_ ?_
      ·intro hc9; replace h := ocond_t hc9 h
       refine bR ?_
       refine sS rfl rfl rfl ((op1_ldRA inf_79 Try.underlying79 rfl rfl rfl rfl rfl rfl)) ?_
       refine ao_step0 rfl rfl (op1_store inf_79 rfl rfl rfl rfl rfl rfl (Nat.le_of_ble_eq_true rfl) rfl) ?_
       refine sA rfl rfl rfl rfl rfl (ao_nil ?_)
       change BW _ _ _ _ _
       refine bw_ret ?_
       change ∃ xs, _ = some xs ∧ EndOk _ _ _ _
       obtain rfl := Option.some.inj h
       exact ⟨_, rfl, endOk0 (y := (PV.tup [(of_ref07_room (x8.1)), (BO false)])) (Wk.refl _) (ids_tup_cons (ids_S_ref07_room (x8.1)) (ids_tup_cons rfl ids_tup_nil)) ⟨rfl, rfl⟩⟩
      ·intro hc9; replace h := ocond_f hc9 h
       refine bw_skip ?_
       change BW _ _ _ _ _
       refine bw_region ?_
       refine sM rfl rfl rfl rfl rfl ?_
       refine sS rfl rfl rfl (op1_addW rfl rfl rfl) ?_
       refine sA rfl rfl rfl rfl rfl (ao_nil ?_)
       exact ⟨rfl, ((IntKind.i64.wrap (s4 + 1)), (x8.1).f_left), h, ⟨(.cons .same (.cons .same (.cons .same .nil))), (sC rfl (sC rfl (sC rfl (sC rfl (sC rfl (sC rfl sub_nil))))))⟩⟩
     ·intro hc6; replace h := ocond_f hc6 h
      refine bw_exit ?_
      change BW _ _ _ _ _
      refine bR ?_
      refine sS rfl rfl rfl ((op1_ldRA inf_79 Try.underlying79 rfl rfl rfl rfl rfl rfl)) ?_
      refine ao_step0 rfl rfl (op1_store inf_79 rfl rfl rfl rfl rfl rfl (Nat.le_of_ble_eq_true rfl) rfl) ?_
      refine sA rfl rfl rfl rfl rfl (ao_nil ?_)
      change BW _ _ _ _ _
      refine bw_ret ?_
      change ∃ xs, _ = some xs ∧ EndOk _ _ _ _
      obtain rfl := Option.some.inj h
      exact ⟨_, rfl, endOk0 (y := (PV.tup [(of_ref07_room (S_ref07_room.mk s5)), (BO true)])) (Wk.refl _) (ids_tup_cons (ids_S_ref07_room (S_ref07_room.mk s5)) (ids_tup_cons rfl ids_tup_nil)) ⟨rfl, rfl⟩⟩
   ·refine bR ?_
    refine sS rfl rfl rfl (op1_faR st_34 (i := 0) rfl rfl rfl) ?_
    refine sS rfl rfl rfl ((op1_ldR Try.underlying3 rfl rfl rfl rfl rfl)) (ao_nil ?_)
    change BW _ _ _ _ _
    refine bw_block ?_
    change BW _ _ _ _ _
    refine bw_seqJ (ι := Bool) (fun i => ref07_room_fits_j3 r_ref07_room_fits a0 a1 a2 i = some r) (fun i => [(2, (I64 a2)), (3, (PV.rf 0 0)), (4, (PV.rf 1 0)), (6, (PV.rf 2 0)), (8, (I64 0)), (27, (I64 a1.kind)), (29, (BO i))]) (fun i => [.box 79 [(I64 ((IntKind.i64.wrap (a0.f_left - 1))))], .box 34 [(I64 a1.kind), (I64 a1.of), (I64 ((a1.only).kind)), (BO ((a1.only).bool)), (I64 ((a1.only).int)), (PV.v (.float .f64 (a1.only).float)), (ofStr (a1.only).text), (PV.sl none 1 (List.map ofB (a1.only).bytes)), (PV.v (.int .u64 (a1.only).ref)), (PV.sl none 11 (List.map ofTerm (a1.only).list)), (PV.sl none 12 (List.map ofEntry (a1.only).fields)), (ofStr (a1.only).cls), (I64 ((a1.only).ver)), (PV.sl none 18 (List.map ofTyp a1.parts)), (PV.sl none 1 (List.map ofStr a1.names)), (PV.sl none 1 (List.map ofBool a1.lacks)), (BO a1.opn), (ofStr a1.cls)], .box 79 [(I64 0)]]) ?_ ?_ ?_
    ·intro i; exact ⟨Nat.le_of_ble_eq_true rfl, ⟨(il_nil rfl), ⟨(il_rf rfl), ⟨(il_rf rfl), ⟨(il_rf rfl), ⟨(il_nil rfl), ⟨(il_nil rfl), ⟨(il_nil rfl), trivial⟩⟩⟩⟩⟩⟩⟩, ⟨⟨(il_nil rfl), trivial⟩, ⟨⟨(il_nil rfl), ⟨(il_nil rfl), ⟨(il_nil rfl), ⟨(il_nil rfl), ⟨(il_nil rfl), ⟨(il_nil rfl), ⟨(il_nil rfl), ⟨(il_nil (ids_slM (fun _ => rfl) _)), ⟨(il_nil rfl), ⟨(il_nil (ids_slM ids_Term _)), ⟨(il_nil (ids_slM ids_Entry _)), ⟨(il_nil rfl), ⟨(il_nil rfl), ⟨(il_nil (ids_slM ids_Typ _)), ⟨(il_nil (ids_slM (fun _ => rfl) _)), ⟨(il_nil (ids_slM (fun _ => rfl) _)), ⟨(il_nil rfl), ⟨(il_nil rfl), trivial⟩⟩⟩⟩⟩⟩⟩⟩⟩⟩⟩⟩⟩⟩⟩⟩⟩⟩, ⟨⟨(il_nil rfl), trivial⟩, trivial⟩⟩⟩⟩
    ·rintro s10 h; replace h : ref07_room_fits_j3 r_ref07_room_fits a0 a1 a2 s10 = some r := h; unfold ref07_room_fits_j3 at h
     change BW _ _ _ ⟨[(2, (I64 a2)), (3, (PV.rf 0 0)), (4, (PV.rf 1 0)), (6, (PV.rf 2 0)), (8, (I64 0)), (27, (I64 a1.kind)), (29, (BO s10))], [.box 79 [(I64 ((IntKind.i64.wrap (a0.f_left - 1))))], .box 34 [(I64 a1.kind), (I64 a1.of), (I64 ((a1.only).kind)), (BO ((a1.only).bool)), (I64 ((a1.only).int)), (PV.v (.float .f64 (a1.only).float)), (ofStr (a1.only).text), (PV.sl none 1 (List.map ofB (a1.only).bytes)), (PV.v (.int .u64 (a1.only).ref)), (PV.sl none 11 (List.map ofTerm (a1.only).list)), (PV.sl none 12 (List.map ofEntry (a1.only).fields)), (ofStr (a1.only).cls), (I64 ((a1.only).ver)), (PV.sl none 18 (List.map ofTyp a1.parts)), (PV.sl none 1 (List.map ofStr a1.names)), (PV.sl none 1 (List.map ofBool a1.lacks)), (BO a1.opn), (ofStr a1.cls)], .box 79 [(I64 0)]], _⟩ _
     refine bw_cond rfl ?_ ?_
     ·intro hc11; replace h := ocond_t hc11 h
      refine bw_skip ?_
      exact ⟨rfl, 0, h, ⟨(.cons .same (.cons .same (.cons .same .nil))), (sC rfl (sC rfl (sC rfl (sC rfl (sC rfl sub_nil)))))⟩⟩
     ·intro hc11; replace h := ocond_f hc11 h
      refine bR ?_
      refine sS rfl rfl rfl ((op1_cmp rfl rfl rfl rfl).cast (y := (BO ((a1.kind == 3)))) rfl rfl) ?_
      refine sA rfl rfl rfl rfl rfl (ao_nil ?_)
      change BW _ _ _ _ _
      refine bw_cond rfl ?_ ?_
      ·intro hc12; replace h := ocond_t hc12 h
       refine bw_seq (bw_tail 10 [9] [0, 1] mo (by kernel_rfl) ?_)
       refine ac_go rfl rfl rfl rfl (fun H hp => (op1_ldRA inf_79 Try.underlying79 rfl rfl rfl (hp.at rfl rfl) rfl rfl)) ?_
       refine ac_go rfl rfl rfl rfl (fun H hp => op1_faR st_34 (i := 1) rfl rfl rfl) ?_
       refine ac_go rfl rfl rfl rfl (fun H hp => (op1_ldR Try.underlying3 rfl rfl rfl (hp.at rfl rfl) rfl)) ?_
       refine ac_go rfl rfl rfl rfl (fun H hp => (op1_cmp rfl rfl rfl rfl).cast (y := (BO ((decide (a1.of ≥ 1))))) rfl rfl) ?_
       refine ac_go rfl rfl rfl rfl (fun H hp => op1_move rfl rfl) ?_
       refine ac_cases 38 rfl ?_ ?_
       ·intro hb13; replace h := ocond_t hb13 h
        refine ac_yes rfl rfl rfl rfl rfl rfl rfl (fun H hp => op1_faR st_34 (i := 1) rfl rfl rfl) ?_
        refine ac_yes rfl rfl rfl rfl rfl rfl rfl (fun H hp => (op1_ldR Try.underlying3 rfl rfl rfl (hp.at rfl rfl) rfl)) ?_
        refine ac_yes rfl rfl rfl rfl rfl rfl rfl (fun H hp => (op1_cmp rfl rfl rfl rfl).cast (y := (BO ((decide (a1.of ≤ 10))))) rfl rfl) ?_
        refine ac_go rfl rfl rfl rfl (fun H hp => op1_pickT rfl rfl rfl) ?_
        refine ac_lgo0 rfl rfl rfl (op1_store inf_79 rfl rfl rfl rfl rfl rfl (Nat.le_of_ble_eq_true rfl) rfl) ⟨rfl, ⟨rfl, trivial⟩⟩ ?_
        refine ac_nil ?_
        change AO _ _ _ _ _
        refine sA rfl rfl rfl rfl rfl (ao_nil ?_)
        change BW _ _ _ _ _
        refine bw_ret ?_
        change ∃ xs, _ = some xs ∧ EndOk _ _ _ _
        obtain rfl := Option.some.inj h
        exact ⟨_, rfl, endOk0 (y := (PV.tup [(of_ref07_room (S_ref07_room.mk (IntKind.i64.wrap (a0.f_left - 1)))), (BO ((decide (a1.of ≤ 10))))])) (Wk.refl _) (ids_tup_cons (ids_S_ref07_room (S_ref07_room.mk (IntKind.i64.wrap (a0.f_left - 1)))) (ids_tup_cons rfl ids_tup_nil)) ⟨rfl, rfl⟩⟩
       ·intro hb13; replace h := ocond_f hb13 h
        refine ac_no rfl rfl rfl rfl rfl rfl rfl ?_
        refine ac_no rfl rfl rfl rfl rfl rfl rfl ?_
        refine ac_no rfl rfl rfl rfl rfl rfl rfl ?_
        refine ac_go rfl rfl rfl rfl (fun H hp => op1_pickF rfl rfl rfl) ?_
        refine ac_lgo0 rfl rfl rfl (op1_store inf_79 rfl rfl rfl rfl rfl rfl (Nat.le_of_ble_eq_true rfl) rfl) ⟨rfl, ⟨rfl, trivial⟩⟩ ?_
        refine ac_nil ?_
        change AO _ _ _ _ _
        refine sA rfl rfl rfl rfl rfl (ao_nil ?_)
        change BW _ _ _ _ _
        refine bw_ret ?_
        change ∃ xs, _ = some xs ∧ EndOk _ _ _ _
        obtain rfl := Option.some.inj h
        exact ⟨_, rfl, endOk0 (y := (PV.tup [(of_ref07_room (S_ref07_room.mk (IntKind.i64.wrap (a0.f_left - 1)))), (BO false)])) (Wk.refl _) (ids_tup_cons (ids_S_ref07_room (S_ref07_room.mk (IntKind.i64.wrap (a0.f_left - 1)))) (ids_tup_cons rfl ids_tup_nil)) ⟨rfl, rfl⟩⟩
      ·intro hc12; replace h := ocond_f hc12 h
       refine bR ?_
       refine sS rfl rfl rfl ((op1_cmp rfl rfl rfl rfl).cast (y := (BO ((a1.kind == 4)))) rfl rfl) ?_
       refine sA rfl rfl rfl rfl rfl (ao_nil ?_)
       change BW _ _ _ _ _
       refine bw_cond rfl ?_ ?_
       ·intro hc14; replace h := ocond_t hc14 h
        refine bR ?_
        refine sS rfl rfl rfl (op1_faR st_34 (i := 2) rfl rfl rfl) ?_
        refine sS rfl rfl rfl ((op1_ldRA inf_29 Try.underlying29 rfl rfl rfl rfl rfl rfl)) ?_
        obtain ⟨x15, hx15, h⟩ := obind h
        refine sS rfl rfl rfl (op1_pcall rfl en_27 rfl (.cons (Wk.refl _) .nil) ⟨(ids_TermX (a1.only)), trivial⟩ (s_ref01_Check (a1.only) x15 hx15) (ids_tup_cons rfl (ids_tup_cons rfl ids_tup_nil))) ?_
        refine sM rfl rfl rfl rfl rfl ?_
        refine sS rfl rfl rfl (op1_ext rfl rfl rfl) ?_
        refine sS rfl rfl rfl (op1_ext rfl rfl rfl) ?_
        refine sA rfl rfl rfl rfl rfl ?_
        refine sA rfl rfl rfl rfl rfl (ao_nil ?_)
        change BW _ _ _ _ _
        refine bR ?_
        refine sS rfl rfl rfl ((op1_ldRA inf_79 Try.underlying79 rfl rfl rfl rfl rfl rfl)) ?_
        refine sM rfl rfl rfl rfl rfl ?_
        refine sS rfl rfl rfl ((op1_cmp rfl rfl rfl rfl).cast (y := (BO ((x15.2 == 0)))) rfl rfl) ?_
        refine ao_step0 rfl rfl (op1_store inf_79 rfl rfl rfl rfl rfl rfl (Nat.le_of_ble_eq_true rfl) rfl) ?_
        refine sA rfl rfl rfl rfl rfl (ao_nil ?_)
        change BW _ _ _ _ _
        refine bw_ret ?_
        change ∃ xs, _ = some xs ∧ EndOk _ _ _ _
        obtain rfl := Option.some.inj h
        exact ⟨_, rfl, endOk0 (y := (PV.tup [(of_ref07_room (S_ref07_room.mk (IntKind.i64.wrap (a0.f_left - 1)))), (BO ((x15.2 == 0)))])) (Wk.refl _) (ids_tup_cons (ids_S_ref07_room (S_ref07_room.mk (IntKind.i64.wrap (a0.f_left - 1)))) (ids_tup_cons rfl ids_tup_nil)) ⟨rfl, rfl⟩⟩
       ·intro hc14; replace h := ocond_f hc14 h
        refine bR ?_
        refine sS rfl rfl rfl ((op1_cmp rfl rfl rfl rfl).cast (y := (BO ((a1.kind == 8)))) rfl rfl) ?_
        refine sA rfl rfl rfl rfl rfl (ao_nil ?_)
        change BW _ _ _ _ _
        refine bw_cond rfl ?_ ?_
        ·intro hc16; replace h := ocond_t hc16 h
         refine bw_seq (bw_tail 4 [] [0, 1] mo (by kernel_rfl) ?_)
         refine ac_go rfl rfl rfl rfl (fun H hp => (op1_ldRA inf_79 Try.underlying79 rfl rfl rfl (hp.at rfl rfl) rfl rfl)) ?_
         refine ac_go rfl rfl rfl rfl (fun H hp => op1_faR st_34 (i := 7) rfl rfl rfl) ?_
         refine ac_go rfl rfl rfl rfl (fun H hp => (op1_ldR Try.underlying9 rfl rfl rfl (hp.at rfl rfl) rfl)) ?_
         obtain ⟨x17, hx17, h⟩ := obind h
         refine ac_go rfl rfl rfl rfl (fun H hp => op1_pcall rfl en_60 rfl (.cons (Wk.refl _) .nil) ⟨rfl, trivial⟩ (s_ref01_Name a1.cls x17 hx17) rfl) ?_
         refine ac_nil ?_
         change AO _ _ _ _ _
         refine ao_step0 rfl rfl (op1_store inf_79 rfl rfl rfl rfl rfl rfl (Nat.le_of_ble_eq_true rfl) rfl) ?_
         refine sA rfl rfl rfl rfl rfl (ao_nil ?_)
         change BW _ _ _ _ _
         refine bw_ret ?_
         change ∃ xs, _ = some xs ∧ EndOk _ _ _ _
         obtain rfl := Option.some.inj h
         exact ⟨_, rfl, endOk0 (y := (PV.tup [(of_ref07_room (S_ref07_room.mk (IntKind.i64.wrap (a0.f_left - 1)))), (BO x17)])) (Wk.refl _) (ids_tup_cons (ids_S_ref07_room (S_ref07_room.mk (IntKind.i64.wrap (a0.f_left - 1)))) (ids_tup_cons rfl ids_tup_nil)) ⟨rfl, rfl⟩⟩
        ·intro hc16; replace h := ocond_f hc16 h
         refine bR ?_
         refine sS rfl rfl rfl ((op1_cmp rfl rfl rfl rfl).cast (y := (BO ((a1.kind == 5)))) rfl rfl) ?_
         refine sA rfl rfl rfl rfl rfl (ao_nil ?_)
         change BW _ _ _ _ _
         refine bw_cond rfl ?_ ?_
         ·intro hc18; replace h := ocond_t hc18 h
          refine bR ?_
          refine sA rfl rfl rfl rfl rfl (ao_nil ?_)
          change BW _ _ _ _ _
          refine bR ?_
          refine sS rfl rfl rfl (op1_faR st_34 (i := 3) rfl rfl rfl) ?_
          refine sS rfl rfl rfl ((op1_ldR Try.underlying30 rfl rfl rfl rfl rfl)) ?_
          refine sS rfl rfl rfl (op1_lenM Try.underlying30 rfl rfl) ?_
          refine sS rfl rfl rfl ((op1_cmp rfl rfl rfl rfl).cast (y := (BO (((((a1.parts).length : Nat) : Int) != 1)))) rfl rfl) (ao_nil ?_)
          change BW _ _ _ _ _
          refine bw_cond rfl ?_ ?_
          ·intro hc19; replace h := ocond_t hc19 h
           refine bR ?_
           refine sS rfl rfl rfl ((op1_ldRA inf_79 Try.underlying79 rfl rfl rfl rfl rfl rfl)) ?_
           refine ao_step0 rfl rfl (op1_store inf_79 rfl rfl rfl rfl rfl rfl (Nat.le_of_ble_eq_true rfl) rfl) ?_
           refine sA rfl rfl rfl rfl rfl (ao_nil ?_)
           change BW _ _ _ _ _
           refine bw_ret ?_
           change ∃ xs, _ = some xs ∧ EndOk _ _ _ _
           obtain rfl := Option.some.inj h
           exact ⟨_, rfl, endOk0 (y := (PV.tup [(of_ref07_room (S_ref07_room.mk (IntKind.i64.wrap (a0.f_left - 1)))), (BO false)])) (Wk.refl _) (ids_tup_cons (ids_S_ref07_room (S_ref07_room.mk (IntKind.i64.wrap (a0.f_left - 1)))) (ids_tup_cons rfl ids_tup_nil)) ⟨rfl, rfl⟩⟩
          ·intro hc19; replace h := ocond_f hc19 h
           refine bw_skip ?_
           exact ⟨rfl, 1, h, ⟨(.cons .same (.cons .same (.cons .same .nil))), (sC rfl (sC rfl (sC rfl (sC rfl (sC rfl sub_nil)))))⟩⟩
         ·intro hc18; replace h := ocond_f hc18 h
          refine bR ?_
          refine sS rfl rfl rfl ((op1_cmp rfl rfl rfl rfl).cast (y := (BO ((a1.kind == 7)))) rfl rfl) ?_
          refine sA rfl rfl rfl rfl rfl (ao_nil ?_)
          change BW _ _ _ _ _
          refine bw_cond rfl ?_ ?_
          ·intro hc20; replace h := ocond_t hc20 h
           refine bR ?_
           refine sS rfl rfl rfl (op1_faR st_34 (i := 3) rfl rfl rfl) ?_
           refine sS rfl rfl rfl ((op1_ldR Try.underlying30 rfl rfl rfl rfl rfl)) ?_
           refine sS rfl rfl rfl (op1_lenM Try.underlying30 rfl rfl) ?_
           refine sA rfl rfl rfl rfl rfl (ao_nil ?_)
           change BW _ _ _ _ _
           refine bR ?_
           refine sM rfl rfl rfl rfl rfl ?_
           refine sS rfl rfl rfl ((op1_cmp rfl rfl rfl rfl).cast (y := (BO ((decide ((((a1.parts).length : Nat) : Int) < 2))))) rfl rfl) (ao_nil ?_)
           change BW _ _ _ _ _
           refine bw_cond rfl ?_ ?_
           ·intro hc21; replace h := ocond_t hc21 h
            refine bR ?_
            refine sS rfl rfl rfl ((op1_ldRA inf_79 Try.underlying79 rfl rfl rfl rfl rfl rfl)) ?_
            refine ao_step0 rfl rfl (op1_store inf_79 rfl rfl rfl rfl rfl rfl (Nat.le_of_ble_eq_true rfl) rfl) ?_
            refine sA rfl rfl rfl rfl rfl (ao_nil ?_)
            change BW _ _ _ _ _
            refine bw_ret ?_
            change ∃ xs, _ = some xs ∧ EndOk _ _ _ _
            obtain rfl := Option.some.inj h
            exact ⟨_, rfl, endOk0 (y := (PV.tup [(of_ref07_room (S_ref07_room.mk (IntKind.i64.wrap (a0.f_left - 1)))), (BO false)])) (Wk.refl _) (ids_tup_cons (ids_S_ref07_room (S_ref07_room.mk (IntKind.i64.wrap (a0.f_left - 1)))) (ids_tup_cons rfl ids_tup_nil)) ⟨rfl, rfl⟩⟩
           ·intro hc21; replace h := ocond_f hc21 h
            refine bw_skip ?_
            exact ⟨rfl, (a1.parts).length, h, ⟨(.cons .same (.cons .same (.cons .same .nil))), (sC rfl (sC rfl (sC rfl (sC rfl (sC rfl sub_nil)))))⟩⟩
          ·intro hc20; replace h := ocond_f hc20 h
           refine bR ?_
           refine sS rfl rfl rfl ((op1_cmp rfl rfl rfl rfl).cast (y := (BO ((a1.kind == 6)))) rfl rfl) ?_
           refine sA rfl rfl rfl rfl rfl (ao_nil ?_)
           change BW _ _ _ _ _
           refine bw_cond rfl ?_ ?_
           ·intro hc22; replace h := ocond_t hc22 h
            refine bR ?_
            refine sS rfl rfl rfl (op1_faR st_34 (i := 3) rfl rfl rfl) ?_
            refine sS rfl rfl rfl ((op1_ldR Try.underlying30 rfl rfl rfl rfl rfl)) ?_
            refine sS rfl rfl rfl (op1_lenM Try.underlying30 rfl rfl) ?_
            refine sA rfl rfl rfl rfl rfl (ao_nil ?_)
            change BW _ _ _ _ _
            refine bw_seq ?_
            refine bw_seqJ (ι := Bool) (fun i => ref07_room_fits_j4 r_ref07_room_fits a0 a1 a2 i = some r) (fun i => [(2, (I64 a2)), (3, (PV.rf 0 0)), (4, (PV.rf 1 0)), (6, (PV.rf 2 0)), (8, (I64 ((((a1.parts).length : Nat) : Int)))), (95, (BO i))]) (fun i => [.box 79 [(I64 ((IntKind.i64.wrap (a0.f_left - 1))))], .box 34 [(I64 a1.kind), (I64 a1.of), (I64 ((a1.only).kind)), (BO ((a1.only).bool)), (I64 ((a1.only).int)), (PV.v (.float .f64 (a1.only).float)), (ofStr (a1.only).text), (PV.sl none 1 (List.map ofB (a1.only).bytes)), (PV.v (.int .u64 (a1.only).ref)), (PV.sl none 11 (List.map ofTerm (a1.only).list)), (PV.sl none 12 (List.map ofEntry (a1.only).fields)), (ofStr (a1.only).cls), (I64 ((a1.only).ver)), (PV.sl none 18 (List.map ofTyp a1.parts)), (PV.sl none 1 (List.map ofStr a1.names)), (PV.sl none 1 (List.map ofBool a1.lacks)), (BO a1.opn), (ofStr a1.cls)], .box 79 [(I64 0)]]) ?_ ?_ ?_
            ·intro i; exact ⟨Nat.le_of_ble_eq_true rfl, ⟨(il_nil rfl), ⟨(il_rf rfl), ⟨(il_rf rfl), ⟨(il_rf rfl), ⟨(il_nil rfl), ⟨(il_nil rfl), trivial⟩⟩⟩⟩⟩⟩, ⟨⟨(il_nil rfl), trivial⟩, ⟨⟨(il_nil rfl), ⟨(il_nil rfl), ⟨(il_nil rfl), ⟨(il_nil rfl), ⟨(il_nil rfl), ⟨(il_nil rfl), ⟨(il_nil rfl), ⟨(il_nil (ids_slM (fun _ => rfl) _)), ⟨(il_nil rfl), ⟨(il_nil (ids_slM ids_Term _)), ⟨(il_nil (ids_slM ids_Entry _)), ⟨(il_nil rfl), ⟨(il_nil rfl), ⟨(il_nil (ids_slM ids_Typ _)), ⟨(il_nil (ids_slM (fun _ => rfl) _)), ⟨(il_nil (ids_slM (fun _ => rfl) _)), ⟨(il_nil rfl), ⟨(il_nil rfl), trivial⟩⟩⟩⟩⟩⟩⟩⟩⟩⟩⟩⟩⟩⟩⟩⟩⟩⟩, ⟨⟨(il_nil rfl), trivial⟩, trivial⟩⟩⟩⟩
            ·rintro s23 h; replace h : ref07_room_fits_j4 r_ref07_room_fits a0 a1 a2 s23 = some r := h; unfold ref07_room_fits_j4 at h
             change BW _ _ _ ⟨[(2, (I64 a2)), (3, (PV.rf 0 0)), (4, (PV.rf 1 0)), (6, (PV.rf 2 0)), (8, (I64 ((((a1.parts).length : Nat) : Int)))), (95, (BO s23))], [.box 79 [(I64 ((IntKind.i64.wrap (a0.f_left - 1))))], .box 34 [(I64 a1.kind), (I64 a1.of), (I64 ((a1.only).kind)), (BO ((a1.only).bool)), (I64 ((a1.only).int)), (PV.v (.float .f64 (a1.only).float)), (ofStr (a1.only).text), (PV.sl none 1 (List.map ofB (a1.only).bytes)), (PV.v (.int .u64 (a1.only).ref)), (PV.sl none 11 (List.map ofTerm (a1.only).list)), (PV.sl none 12 (List.map ofEntry (a1.only).fields)), (ofStr (a1.only).cls), (I64 ((a1.only).ver)), (PV.sl none 18 (List.map ofTyp a1.parts)), (PV.sl none 1 (List.map ofStr a1.names)), (PV.sl none 1 (List.map ofBool a1.lacks)), (BO a1.opn), (ofStr a1.cls)], .box 79 [(I64 0)]], _⟩ _
             refine bw_cond rfl ?_ ?_
             ·intro hc24; replace h := ocond_t hc24 h
              refine bR ?_
              refine sS rfl rfl rfl ((op1_ldRA inf_79 Try.underlying79 rfl rfl rfl rfl rfl rfl)) ?_
              refine ao_step0 rfl rfl (op1_store inf_79 rfl rfl rfl rfl rfl rfl (Nat.le_of_ble_eq_true rfl) rfl) ?_
              refine sA rfl rfl rfl rfl rfl (ao_nil ?_)
              change BW _ _ _ _ _
              refine bw_ret ?_
              change ∃ xs, _ = some xs ∧ EndOk _ _ _ _
              obtain rfl := Option.some.inj h
              exact ⟨_, rfl, endOk0 (y := (PV.tup [(of_ref07_room (S_ref07_room.mk (IntKind.i64.wrap (a0.f_left - 1)))), (BO false)])) (Wk.refl _) (ids_tup_cons (ids_S_ref07_room (S_ref07_room.mk (IntKind.i64.wrap (a0.f_left - 1)))) (ids_tup_cons rfl ids_tup_nil)) ⟨rfl, rfl⟩⟩
             ·intro hc24; replace h := ocond_f hc24 h
              refine bw_skip ?_
              change BW _ _ _ _ _
              refine bR ?_
              refine sA rfl rfl rfl rfl rfl (ao_nil ?_)
              change BW _ _ _ _ _
              refine bw_block ?_
              change BW _ _ _ _ _
              unfold ref07_room_fits_l2 at h
              refine bw_loop (σ := Int) (fun i => [(2, (I64 a2)), (3, (PV.rf 0 0)), (4, (PV.rf 1 0)), (6, (PV.rf 2 0)), (8, (I64 ((((a1.parts).length : Nat) : Int)))), (11, (I64 i))]) (fun i => [.box 79 [(I64 ((IntKind.i64.wrap (a0.f_left - 1))))], .box 34 [(I64 a1.kind), (I64 a1.of), (I64 ((a1.only).kind)), (BO ((a1.only).bool)), (I64 ((a1.only).int)), (PV.v (.float .f64 (a1.only).float)), (ofStr (a1.only).text), (PV.sl none 1 (List.map ofB (a1.only).bytes)), (PV.v (.int .u64 (a1.only).ref)), (PV.sl none 11 (List.map ofTerm (a1.only).list)), (PV.sl none 12 (List.map ofEntry (a1.only).fields)), (ofStr (a1.only).cls), (I64 ((a1.only).ver)), (PV.sl none 18 (List.map ofTyp a1.parts)), (PV.sl none 1 (List.map ofStr a1.names)), (PV.sl none 1 (List.map ofBool a1.lacks)), (BO a1.opn), (ofStr a1.cls)], .box 79 [(I64 0)]]) 0 h ?_ ?_ ?_
              ·intro i; exact ⟨Nat.le_of_ble_eq_true rfl, ⟨(il_nil rfl), ⟨(il_rf rfl), ⟨(il_rf rfl), ⟨(il_rf rfl), ⟨(il_nil rfl), ⟨(il_nil rfl), trivial⟩⟩⟩⟩⟩⟩, ⟨⟨(il_nil rfl), trivial⟩, ⟨⟨(il_nil rfl), ⟨(il_nil rfl), ⟨(il_nil rfl), ⟨(il_nil rfl), ⟨(il_nil rfl), ⟨(il_nil rfl), ⟨(il_nil rfl), ⟨(il_nil (ids_slM (fun _ => rfl) _)), ⟨(il_nil rfl), ⟨(il_nil (ids_slM ids_Term _)), ⟨(il_nil (ids_slM ids_Entry _)), ⟨(il_nil rfl), ⟨(il_nil rfl), ⟨(il_nil (ids_slM ids_Typ _)), ⟨(il_nil (ids_slM (fun _ => rfl) _)), ⟨(il_nil (ids_slM (fun _ => rfl) _)), ⟨(il_nil rfl), ⟨(il_nil rfl), trivial⟩⟩⟩⟩⟩⟩⟩⟩⟩⟩⟩⟩⟩⟩⟩⟩⟩⟩, ⟨⟨(il_nil rfl), trivial⟩, trivial⟩⟩⟩⟩
              ·exact ⟨(.cons .same (.cons .same (.cons .same .nil))), (sC rfl (sC rfl (sC rfl (sC rfl (sC rfl (sC rfl sub_nil))))))⟩
              ·rintro g1_f s25 h; replace h : ref07_room_fits_l2b r_ref07_room_fits a0 a1 a2 (fun y0 => g1_f y0) s25 = some r := h; unfold ref07_room_fits_l2b at h
               change BW _ _ _ ⟨[(2, (I64 a2)), (3, (PV.rf 0 0)), (4, (PV.rf 1 0)), (6, (PV.rf 2 0)), (8, (I64 ((((a1.parts).length : Nat) : Int)))), (11, (I64 s25))], [.box 79 [(I64 ((IntKind.i64.wrap (a0.f_left - 1))))], .box 34 [(I64 a1.kind), (I64 a1.of), (I64 ((a1.only).kind)), (BO ((a1.only).bool)), (I64 ((a1.only).int)), (PV.v (.float .f64 (a1.only).float)), (ofStr (a1.only).text), (PV.sl none 1 (List.map ofB (a1.only).bytes)), (PV.v (.int .u64 (a1.only).ref)), (PV.sl none 11 (List.map ofTerm (a1.only).list)), (PV.sl none 12 (List.map ofEntry (a1.only).fields)), (ofStr (a1.only).cls), (I64 ((a1.only).ver)), (PV.sl none 18 (List.map ofTyp a1.parts)), (PV.sl none 1 (List.map ofStr a1.names)), (PV.sl none 1 (List.map ofBool a1.lacks)), (BO a1.opn), (ofStr a1.cls)], .box 79 [(I64 0)]], _⟩ _
               refine bw_seq ?_
               refine bR ?_
               refine sM rfl rfl rfl rfl rfl ?_
               refine sM rfl rfl rfl rfl rfl ?_
               refine sS rfl rfl rfl ((op1_cmp rfl rfl rfl rfl).cast (y := (BO ((decide (s25 < (((a1.parts).length : Nat) : Int)))))) rfl rfl) (ao_nil ?_)
               change BW _ _ _ _ _
               refine bw_cond rfl ?_ ?_
               ·intro hc26; replace h := ocond_t hc26 h
                refine bw_skip ?_
                change BW _ _ _ _ _
                refine bw_seq ?_
                refine bw_block ?_
                change BW _ _ _ _ _
                refine bw_seqJ (ι := Bool) (fun i => ref07_room_fits_j5 (fun y0 => g1_f y0) a0 s25 i = some r) (fun i => [(2, (I64 a2)), (3, (PV.rf 0 0)), (4, (PV.rf 1 0)), (6, (PV.rf 2 0)), (8, (I64 ((((a1.parts).length : Nat) : Int)))), (11, (I64 s25)), (126, (BO i))]) (fun i => [.box 79 [(I64 ((IntKind.i64.wrap (a0.f_left - 1))))], .box 34 [(I64 a1.kind), (I64 a1.of), (I64 ((a1.only).kind)), (BO ((a1.only).bool)), (I64 ((a1.only).int)), (PV.v (.float .f64 (a1.only).float)), (ofStr (a1.only).text), (PV.sl none 1 (List.map ofB (a1.only).bytes)), (PV.v (.int .u64 (a1.only).ref)), (PV.sl none 11 (List.map ofTerm (a1.only).list)), (PV.sl none 12 (List.map ofEntry (a1.only).fields)), (ofStr (a1.only).cls), (I64 ((a1.only).ver)), (PV.sl none 18 (List.map ofTyp a1.parts)), (PV.sl none 1 (List.map ofStr a1.names)), (PV.sl none 1 (List.map ofBool a1.lacks)), (BO a1.opn), (ofStr a1.cls)], .box 79 [(I64 0)]]) ?_ ?_ ?_
                ·intro i; exact ⟨Nat.le_of_ble_eq_true rfl, ⟨(il_nil rfl), ⟨(il_rf rfl), ⟨(il_rf rfl), ⟨(il_rf rfl), ⟨(il_nil rfl), ⟨(il_nil rfl), ⟨(il_nil rfl), trivial⟩⟩⟩⟩⟩⟩⟩, ⟨⟨(il_nil rfl), trivial⟩, ⟨⟨(il_nil rfl), ⟨(il_nil rfl), ⟨(il_nil rfl), ⟨(il_nil rfl), ⟨(il_nil rfl), ⟨(il_nil rfl), ⟨(il_nil rfl), ⟨(il_nil (ids_slM (fun _ => rfl) _)), ⟨(il_nil rfl), ⟨(il_nil (ids_slM ids_Term _)), ⟨(il_nil (ids_slM ids_Entry _)), ⟨(il_nil rfl), ⟨(il_nil rfl), ⟨(il_nil (ids_slM ids_Typ _)), ⟨(il_nil (ids_slM (fun _ => rfl) _)), ⟨(il_nil (ids_slM (fun _ => rfl) _)), ⟨(il_nil rfl), ⟨(il_nil rfl), trivial⟩⟩⟩⟩⟩⟩⟩⟩⟩⟩⟩⟩⟩⟩⟩⟩⟩⟩, ⟨⟨(il_nil rfl), trivial⟩, trivial⟩⟩⟩⟩
                ·rintro s27 h; replace h : ref07_room_fits_j5 (fun y0 => g1_f y0) a0 s25 s27 = some r := h; unfold ref07_room_fits_j5 at h
                 change BW _ _ _ ⟨[(2, (I64 a2)), (3, (PV.rf 0 0)), (4, (PV.rf 1 0)), (6, (PV.rf 2 0)), (8, (I64 ((((a1.parts).length : Nat) : Int)))), (11, (I64 s25)), (126, (BO s27))], [.box 79 [(I64 ((IntKind.i64.wrap (a0.f_left - 1))))], .box 34 [(I64 a1.kind), (I64 a1.of), (I64 ((a1.only).kind)), (BO ((a1.only).bool)), (I64 ((a1.only).int)), (PV.v (.float .f64 (a1.only).float)), (ofStr (a1.only).text), (PV.sl none 1 (List.map ofB (a1.only).bytes)), (PV.v (.int .u64 (a1.only).ref)), (PV.sl none 11 (List.map ofTerm (a1.only).list)), (PV.sl none 12 (List.map ofEntry (a1.only).fields)), (ofStr (a1.only).cls), (I64 ((a1.only).ver)), (PV.sl none 18 (List.map ofTyp a1.parts)), (PV.sl none 1 (List.map ofStr a1.names)), (PV.sl none 1 (List.map ofBool a1.lacks)), (BO a1.opn), (ofStr a1.cls)], .box 79 [(I64 0)]], _⟩ _
                 refine bw_cond rfl ?_ ?_
                 ·intro hc28; replace h := ocond_t hc28 h
                  refine bR ?_
                  refine sS rfl rfl rfl ((op1_ldRA inf_79 Try.underlying79 rfl rfl rfl rfl rfl rfl)) ?_
                  refine ao_step0 rfl rfl (op1_store inf_79 rfl rfl rfl rfl rfl rfl (Nat.le_of_ble_eq_true rfl) rfl) ?_
                  refine sA rfl rfl rfl rfl rfl (ao_nil ?_)
                  change BW _ _ _ _ _
                  refine bw_ret ?_
                  change ∃ xs, _ = some xs ∧ EndOk _ _ _ _
                  obtain rfl := Option.some.inj h
                  exact ⟨_, rfl, endOk0 (y := (PV.tup [(of_ref07_room (S_ref07_room.mk (IntKind.i64.wrap (a0.f_left - 1)))), (BO false)])) (Wk.refl _) (ids_tup_cons (ids_S_ref07_room (S_ref07_room.mk (IntKind.i64.wrap (a0.f_left - 1)))) (ids_tup_cons rfl ids_tup_nil)) ⟨rfl, rfl⟩⟩
                 ·intro hc28; replace h := ocond_f hc28 h
                  refine bw_skip ?_
                  change BW _ _ _ _ _
                  refine bw_region ?_
                  refine sM rfl rfl rfl rfl rfl ?_
                  refine sS rfl rfl rfl (op1_addW rfl rfl rfl) ?_
                  refine sA rfl rfl rfl rfl rfl (ao_nil ?_)
                  exact ⟨rfl, (IntKind.i64.wrap (s25 + 1)), h, ⟨(.cons .same (.cons .same (.cons .same .nil))), (sC rfl (sC rfl (sC rfl (sC rfl (sC rfl (sC rfl sub_nil))))))⟩⟩
                ·refine bw_tail 22 [] [1] mo (by kernel_rfl) ?_
                 refine ac_go rfl rfl rfl rfl (fun H hp => op1_faR st_34 (i := 4) rfl rfl rfl) ?_
                 refine ac_go rfl rfl rfl rfl (fun H hp => (op1_ldR Try.underlying31 rfl rfl rfl (hp.at rfl rfl) rfl)) ?_
                 refine ac_go rfl rfl rfl rfl (fun H hp => op1_move rfl rfl) ?_
                 obtain ⟨x29, hx29, h⟩ := obind h
                 refine ac_go rfl rfl rfl rfl (fun H hp => op1_idxM Try.underlying31 inf_9 rfl rfl rfl hx29 rfl) ?_
                 refine ac_go rfl rfl rfl rfl (fun H hp => op1_ldP (y := (ofStr x29)) Try.underlying9 rfl rfl rfl rfl) ?_
                 obtain ⟨x30, hx30, h⟩ := obind h
                 refine ac_go rfl rfl rfl rfl (fun H hp => op1_pcall rfl en_60 rfl (.cons (Wk.refl _) .nil) ⟨rfl, trivial⟩ (s_ref01_Name x29 x30 hx30) rfl) ?_
                 refine ac_go rfl rfl rfl rfl (fun H hp => op1_not rfl rfl) ?_
                 refine ac_go rfl rfl rfl rfl (fun H hp => op1_move rfl rfl) ?_
                 refine ac_cases 109 rfl ?_ ?_
                 ·intro hb31; replace h := ocond_t hb31 h
                  refine ac_no rfl rfl rfl rfl rfl rfl rfl ?_
                  refine ac_no rfl rfl rfl rfl rfl rfl rfl ?_
                  refine ac_no rfl rfl rfl rfl rfl rfl rfl ?_
                  refine ac_no rfl rfl rfl rfl rfl rfl rfl ?_
                  refine ac_no rfl rfl rfl rfl rfl rfl rfl ?_
                  refine ac_no rfl rfl rfl rfl rfl rfl rfl ?_
                  refine ac_no rfl rfl rfl rfl rfl rfl rfl ?_
                  refine ac_no rfl rfl rfl rfl rfl rfl rfl ?_
                  refine ac_no rfl rfl rfl rfl rfl rfl rfl ?_
                  refine ac_no rfl rfl rfl rfl rfl rfl rfl ?_
                  refine ac_no rfl rfl rfl rfl rfl rfl rfl ?_
                  refine ac_no rfl rfl rfl rfl rfl rfl rfl ?_
                  refine ac_no rfl rfl rfl rfl rfl rfl rfl ?_
                  refine ac_no rfl rfl rfl rfl rfl rfl rfl ?_
                  refine ac_nil ?_
                  change AO _ _ _ _ _
                  refine ao_no rfl rfl rfl rfl rfl rfl ?_
                  refine ao_no rfl rfl rfl rfl rfl rfl ?_
                  refine sS rfl rfl rfl (op1_pickT rfl rfl rfl) (ao_nil ?_)
                  exact ⟨rfl, true, h, ⟨(.cons .same (.cons .same (.cons .same .nil))), (sC rfl (sC rfl (sC rfl (sC rfl (sC rfl (sC rfl (sC rfl sub_nil)))))))⟩⟩
                 ·intro hb31; replace h := ocond_f hb31 h
                  refine ac_yes rfl rfl rfl rfl rfl rfl rfl (fun H hp => op1_move rfl rfl) ?_
                  refine ac_yes rfl rfl rfl rfl rfl rfl rfl (fun H hp => (op1_cmp rfl rfl rfl rfl).cast (y := (BO ((decide (s25 > 0))))) rfl rfl) ?_
                  refine ac_yes rfl rfl rfl rfl rfl rfl rfl (fun H hp => op1_move rfl rfl) ?_
                  refine ac_cases 112 rfl ?_ ?_
                  ·intro hb32; replace h := ocond_t hb32 h
                   refine ac_yes rfl rfl rfl rfl rfl rfl rfl (fun H hp => op1_faR st_34 (i := 4) rfl rfl rfl) ?_
                   refine ac_yes rfl rfl rfl rfl rfl rfl rfl (fun H hp => (op1_ldR Try.underlying31 rfl rfl rfl (hp.at rfl rfl) rfl)) ?_
                   refine ac_yes rfl rfl rfl rfl rfl rfl rfl (fun H hp => op1_move rfl rfl) ?_
                   obtain ⟨x33, hx33, h⟩ := obind h
                   refine ac_yes rfl rfl rfl rfl rfl rfl rfl (fun H hp => op1_idxM Try.underlying31 inf_9 rfl rfl rfl hx33 rfl) ?_
                   refine ac_yes rfl rfl rfl rfl rfl rfl rfl (fun H hp => op1_ldP (y := (ofStr x33)) Try.underlying9 rfl rfl rfl rfl) ?_
                   refine ac_yes rfl rfl rfl rfl rfl rfl rfl (fun H hp => op1_faR st_34 (i := 4) rfl rfl rfl) ?_
                   refine ac_yes rfl rfl rfl rfl rfl rfl rfl (fun H hp => (op1_ldR Try.underlying31 rfl rfl rfl (hp.at rfl rfl) rfl)) ?_
                   refine ac_yes rfl rfl rfl rfl rfl rfl rfl (fun H hp => op1_move rfl rfl) ?_
                   refine ac_yes rfl rfl rfl rfl rfl rfl rfl (fun H hp => op1_subW rfl rfl rfl) ?_
                   obtain ⟨x34, hx34, h⟩ := obind h
                   refine ac_yes rfl rfl rfl rfl rfl rfl rfl (fun H hp => op1_idxM Try.underlying31 inf_9 rfl rfl rfl hx34 rfl) ?_
                   refine ac_yes rfl rfl rfl rfl rfl rfl rfl (fun H hp => op1_ldP (y := (ofStr x34)) Try.underlying9 rfl rfl rfl rfl) ?_
                   refine ac_nil ?_
                   change AO _ _ _ _ _
                   refine ao_yes rfl rfl rfl rfl rfl rfl ((op1_cmpT (a := x33) (b := x34) rfl rfl rfl rfl).cast (y := (BO ((Op.bytesLess x33 x34 || x33 == x34)))) rfl rfl) ?_
                   refine ao_yes rfl rfl rfl rfl rfl rfl (op1_pickT rfl rfl rfl) ?_
                   refine sS rfl rfl rfl (op1_pickF rfl rfl rfl) (ao_nil ?_)
                   exact ⟨rfl, (Op.bytesLess x33 x34 || x33 == x34), h, ⟨(.cons .same (.cons .same (.cons .same .nil))), (sC rfl (sC rfl (sC rfl (sC rfl (sC rfl (sC rfl (sC rfl sub_nil)))))))⟩⟩
                  ·intro hb32; replace h := ocond_f hb32 h
                   refine ac_no rfl rfl rfl rfl rfl rfl rfl ?_
                   refine ac_no rfl rfl rfl rfl rfl rfl rfl ?_
                   refine ac_no rfl rfl rfl rfl rfl rfl rfl ?_
                   refine ac_no rfl rfl rfl rfl rfl rfl rfl ?_
                   refine ac_no rfl rfl rfl rfl rfl rfl rfl ?_
                   refine ac_no rfl rfl rfl rfl rfl rfl rfl ?_
                   refine ac_no rfl rfl rfl rfl rfl rfl rfl ?_
                   refine ac_no rfl rfl rfl rfl rfl rfl rfl ?_
                   refine ac_no rfl rfl rfl rfl rfl rfl rfl ?_
                   refine ac_no rfl rfl rfl rfl rfl rfl rfl ?_
                   refine ac_no rfl rfl rfl rfl rfl rfl rfl ?_
                   refine ac_nil ?_
                   change AO _ _ _ _ _
                   refine ao_no rfl rfl rfl rfl rfl rfl ?_
                   refine ao_yes rfl rfl rfl rfl rfl rfl (op1_pickF rfl rfl rfl) ?_
                   refine sS rfl rfl rfl (op1_pickF rfl rfl rfl) (ao_nil ?_)
                   exact ⟨rfl, false, h, ⟨(.cons .same (.cons .same (.cons .same .nil))), (sC rfl (sC rfl (sC rfl (sC rfl (sC rfl (sC rfl (sC rfl sub_nil)))))))⟩⟩
               ·intro hc26; replace h := ocond_f hc26 h
                refine bw_exit ?_
                exact ⟨rfl, (a1.parts).length, h, ⟨(.cons .same (.cons .same (.cons .same .nil))), (sC rfl (sC rfl (sC rfl (sC rfl (sC rfl sub_nil)))))⟩⟩
            ·refine bw_region ?_
             refine sS rfl rfl rfl (op1_faR st_34 (i := 4) rfl rfl rfl) ?_
             refine sS rfl rfl rfl ((op1_ldR Try.underlying31 rfl rfl rfl rfl rfl)) ?_
             refine sS rfl rfl rfl (op1_lenM Try.underlying31 rfl rfl) ?_
             refine sM rfl rfl rfl rfl rfl ?_
             refine sS rfl rfl rfl ((op1_cmp rfl rfl rfl rfl).cast (y := (BO (((((a1.names).length : Nat) : Int) != (((a1.parts).length : Nat) : Int))))) rfl rfl) ?_
             refine sM rfl rfl rfl rfl rfl ?_
             refine ao_cases (t := 85) rfl ?_ ?_
             ·intro hb35; replace h := ocond_t hb35 h
              refine ao_no rfl rfl rfl rfl rfl rfl ?_
              refine ao_no rfl rfl rfl rfl rfl rfl ?_
              refine ao_no rfl rfl rfl rfl rfl rfl ?_
              refine ao_no rfl rfl rfl rfl rfl rfl ?_
              refine ao_no rfl rfl rfl rfl rfl rfl ?_
              refine sS rfl rfl rfl (op1_pickT rfl rfl rfl) ?_
              refine sM rfl rfl rfl rfl rfl ?_
              refine ao_no rfl rfl rfl rfl rfl rfl ?_
              refine ao_no rfl rfl rfl rfl rfl rfl ?_
              refine sS rfl rfl rfl (op1_pickT rfl rfl rfl) (ao_nil ?_)
              exact ⟨rfl, true, h, ⟨(.cons .same (.cons .same (.cons .same .nil))), (sC rfl (sC rfl (sC rfl (sC rfl (sC rfl (sC rfl sub_nil))))))⟩⟩
             ·intro hb35; replace h := ocond_f hb35 h
              refine ao_yes rfl rfl rfl rfl rfl rfl (op1_faR st_34 (i := 5) rfl rfl rfl) ?_
              refine ao_yes rfl rfl rfl rfl rfl rfl ((op1_ldR Try.underlying32 rfl rfl rfl rfl rfl)) ?_
              refine ao_yes rfl rfl rfl rfl rfl rfl (op1_lenM Try.underlying32 rfl rfl) ?_
              refine ao_yes rfl rfl rfl rfl rfl rfl (op1_move rfl rfl) ?_
              refine ao_yes rfl rfl rfl rfl rfl rfl ((op1_cmp rfl rfl rfl rfl).cast (y := (BO (((((a1.lacks).length : Nat) : Int) != (((a1.parts).length : Nat) : Int))))) rfl rfl) ?_
              refine sS rfl rfl rfl (op1_pickF rfl rfl rfl) ?_
              refine sM rfl rfl rfl rfl rfl ?_
              refine ao_cases (t := 92) rfl ?_ ?_
              ·intro hb36; replace h := ocond_t hb36 h
               refine ao_no rfl rfl rfl rfl rfl rfl ?_
               refine ao_no rfl rfl rfl rfl rfl rfl ?_
               refine sS rfl rfl rfl (op1_pickT rfl rfl rfl) (ao_nil ?_)
               exact ⟨rfl, true, h, ⟨(.cons .same (.cons .same (.cons .same .nil))), (sC rfl (sC rfl (sC rfl (sC rfl (sC rfl (sC rfl sub_nil))))))⟩⟩
              ·intro hb36; replace h := ocond_f hb36 h
               refine ao_yes rfl rfl rfl rfl rfl rfl (op1_move rfl rfl) ?_
               refine ao_yes rfl rfl rfl rfl rfl rfl ((op1_cmp rfl rfl rfl rfl).cast (y := (BO ((decide ((((a1.parts).length : Nat) : Int) > 4096))))) rfl rfl) ?_
               refine sS rfl rfl rfl (op1_pickF rfl rfl rfl) (ao_nil ?_)
               exact ⟨rfl, (decide ((((a1.parts).length : Nat) : Int) > 4096)), h, ⟨(.cons .same (.cons .same (.cons .same .nil))), (sC rfl (sC rfl (sC rfl (sC rfl (sC rfl (sC rfl sub_nil))))))⟩⟩
           ·intro hc22; replace h := ocond_f hc22 h
            refine bR ?_
            refine sS rfl rfl rfl ((op1_ldRA inf_79 Try.underlying79 rfl rfl rfl rfl rfl rfl)) ?_
            refine ao_step0 rfl rfl (op1_store inf_79 rfl rfl rfl rfl rfl rfl (Nat.le_of_ble_eq_true rfl) rfl) ?_
            refine sA rfl rfl rfl rfl rfl (ao_nil ?_)
            change BW _ _ _ _ _
            refine bw_ret ?_
            change ∃ xs, _ = some xs ∧ EndOk _ _ _ _
            obtain rfl := Option.some.inj h
            exact ⟨_, rfl, endOk0 (y := (PV.tup [(of_ref07_room (S_ref07_room.mk (IntKind.i64.wrap (a0.f_left - 1)))), (BO false)])) (Wk.refl _) (ids_tup_cons (ids_S_ref07_room (S_ref07_room.mk (IntKind.i64.wrap (a0.f_left - 1)))) (ids_tup_cons rfl ids_tup_nil)) ⟨rfl, rfl⟩⟩
    ·refine bR ?_
     refine sS rfl rfl rfl ((op1_cmp rfl rfl rfl rfl).cast (y := (BO ((a1.kind == 1)))) rfl rfl) ?_
     refine sA rfl rfl rfl rfl rfl (ao_nil ?_)
     change BW _ _ _ _ _
     refine bw_cond rfl ?_ ?_
     ·intro hc37; replace h := ocond_t hc37 h
      refine bw_skip ?_
      exact ⟨rfl, (a1.kind == 1), h, ⟨(.cons .same (.cons .same (.cons .same .nil))), (sC rfl (sC rfl (sC rfl (sC rfl (sC rfl (sC rfl (sC rfl sub_nil)))))))⟩⟩
     ·intro hc37; replace h := ocond_f hc37 h
      refine bw_region ?_
      refine sS rfl rfl rfl ((op1_cmp rfl rfl rfl rfl).cast (y := (BO ((a1.kind == 2)))) rfl rfl) ?_
      refine sA rfl rfl rfl rfl rfl (ao_nil ?_)
      exact ⟨rfl, (a1.kind == 2), h, ⟨(.cons .same (.cons .same (.cons .same .nil))), (sC rfl (sC rfl (sC rfl (sC rfl (sC rfl (sC rfl (sC rfl sub_nil)))))))⟩⟩
 ·refine bw_region ?_
  refine sS rfl rfl rfl (op1_faR st_79 (i := 0) rfl rfl rfl) ?_
  refine sS rfl rfl rfl ((op1_ldR Try.underlying3 rfl rfl rfl rfl rfl)) ?_
  refine sS rfl rfl rfl ((op1_cmp rfl rfl rfl rfl).cast (y := (BO ((decide ((IntKind.i64.wrap (a0.f_left - 1)) < 0))))) rfl rfl) ?_
  refine sM rfl rfl rfl rfl rfl ?_
  refine ao_cases (t := 21) rfl ?_ ?_
  ·intro hb38; replace h := ocond_t hb38 h
   refine ao_no rfl rfl rfl rfl rfl rfl ?_
   refine ao_no rfl rfl rfl rfl rfl rfl ?_
   refine sS rfl rfl rfl (op1_pickT rfl rfl rfl) (ao_nil ?_)
   exact ⟨rfl, true, h, ⟨(.cons .same (.cons .same (.cons .same .nil))), (sC rfl (sC rfl (sC rfl (sC rfl (sC rfl sub_nil)))))⟩⟩
  ·intro hb38; replace h := ocond_f hb38 h
   refine ao_yes rfl rfl rfl rfl rfl rfl (op1_move rfl rfl) ?_
   refine ao_yes rfl rfl rfl rfl rfl rfl ((op1_cmp rfl rfl rfl rfl).cast (y := (BO ((decide (a2 > 64))))) rfl rfl) ?_
   refine sS rfl rfl rfl (op1_pickF rfl rfl rfl) (ao_nil ?_)
   exact ⟨rfl, (decide (a2 > 64)), h, ⟨(.cons .same (.cons .same (.cons .same .nil))), (sC rfl (sC rfl (sC rfl (sC rfl (sC rfl sub_nil)))))⟩⟩
theorem C_ref07_room_fits.sound : ∀ (i : C_ref07_room_fits) (r : i.R), fixO C_ref07_room_fits.F i = some r → C_ref07_room_fits.Q i r := by
 refine fixO_ind (Φ := C_ref07_room_fits.F) (Q := C_ref07_room_fits.Q) ?_
 intro g hg i r h
 cases i with
 | k_ref07_room_fits a0 a1 a2 => exact t_ref07_room_fits (fun a0 a1 a2 => g (.k_ref07_room_fits a0 a1 a2)) (fun a0 a1 a2 r hr => hg (.k_ref07_room_fits a0 a1 a2) r hr) a0 a1 a2 r h
theorem s_ref07_room_fits (a0 : S_ref07_room) (a1 : Typ) (a2 : Int) (r : (S_ref07_room × Bool)) (h : p_ref07_room_fits a0 a1 a2 = some r) : PCalls Try.prog 34 [(of_ref07_room a0), (ofTypX a1), (I64 a2)] (PV.tup [(of_ref07_room r.1), (BO r.2)]) := C_ref07_room_fits.sound (.k_ref07_room_fits a0 a1 a2) r h
noncomputable def p_ref07_Valid (a0 : Typ) : Option Bool :=
 Option.bind (p_ref07_room_fits (S_ref07_room.mk 16384) (Typ.mk a0.kind a0.of (a0.only) a0.parts a0.names a0.lacks a0.opn a0.cls) 1) fun x1 =>
 some x1.2
theorem s_ref07_Valid (a0 : Typ) (r : Bool) (h : p_ref07_Valid a0 = some r) : PCalls Try.prog 13 [(ofTypX a0)] (BO r) := by
 unfold p_ref07_Valid at h
 refine acalls_of Try.func13 rfl Try.ntmps13 Try.results13 rfl (aw_of_bw ?_)
 change BW _ _ _ ⟨[(0, (ofTypX a0))], [], _⟩ _
 refine bR ?_
 refine sS rfl rfl rfl (op1_box rfl rfl rfl) ?_
 refine sA rfl rfl rfl rfl rfl (ao_nil ?_)
 change BW _ _ _ _ _
 refine bR ?_
 refine sS rfl rfl rfl (op1_build (cs := [(I64 16384)]) st_79 inf_79 rfl rfl rfl rfl) ?_
 refine sS rfl rfl rfl ((op1_ldRA inf_34 Try.underlying34 rfl rfl rfl rfl rfl rfl)) ?_
 obtain ⟨x1, hx1, h⟩ := obind h
 refine sS rfl rfl rfl (op1_pcall rfl en_34 rfl (.cons (Wk.refl _) (.cons (Wk.refl _) (.cons (Wk.refl _) .nil))) ⟨(ids_S_ref07_room (S_ref07_room.mk 16384)), ⟨(ids_TypX (Typ.mk a0.kind a0.of (a0.only) a0.parts a0.names a0.lacks a0.opn a0.cls)), ⟨rfl, trivial⟩⟩⟩ (s_ref07_room_fits (S_ref07_room.mk 16384) (Typ.mk a0.kind a0.of (a0.only) a0.parts a0.names a0.lacks a0.opn a0.cls) 1 x1 hx1) (ids_tup_cons (ids_S_ref07_room x1.1) (ids_tup_cons rfl ids_tup_nil))) ?_
 refine sM rfl rfl rfl rfl rfl ?_
 refine sS rfl rfl rfl (op1_ext rfl rfl rfl) ?_
 refine sS rfl rfl rfl (op1_ext rfl rfl rfl) ?_
 refine sS rfl rfl rfl (op1_alloc inf_79 rfl) ?_
 refine ao_step0 rfl rfl (op1_store inf_79 rfl rfl rfl rfl rfl rfl (Nat.le_of_ble_eq_true rfl) rfl) ?_
 refine sA rfl rfl rfl rfl rfl (ao_nil ?_)
 change BW _ _ _ _ _
 refine bR ?_
 refine sM rfl rfl rfl rfl rfl ?_
 refine sA rfl rfl rfl rfl rfl (ao_nil ?_)
 change BW _ _ _ _ _
 refine bw_ret ?_
 change ∃ xs, _ = some xs ∧ EndOk _ _ _ _
 obtain rfl := Option.some.inj h
 exact ⟨_, rfl, endOk0 (y := (BO x1.2)) (Wk.refl _) rfl ⟨rfl, rfl⟩⟩
noncomputable def p_ref01_numbers (a0 : Int) (a1 : Int) : Option Int :=
 bif (decide (a0 < a1)) then (
  some (-1)
 ) else (
  bif (decide (a0 > a1)) then (
   some 1
  ) else (
   some 0
  )
 )
theorem s_ref01_numbers (a0 : Int) (a1 : Int) (r : Int) (h : p_ref01_numbers a0 a1 = some r) : PCalls Try.prog 77 [(PV.v (.int .u64 a0)), (PV.v (.int .u64 a1))] (I64 r) := by
 unfold p_ref01_numbers at h
 refine acalls_of Try.func77 rfl Try.ntmps77 Try.results77 rfl (aw_of_bw ?_)
 change BW _ _ _ ⟨[(0, (PV.v (.int .u64 a0))), (1, (PV.v (.int .u64 a1)))], [], _⟩ _
 refine bR ?_
 refine sA rfl rfl rfl rfl rfl (ao_nil ?_)
 change BW _ _ _ _ _
 refine bw_seq ?_
 refine bR ?_
 refine sM rfl rfl rfl rfl rfl ?_
 refine sM rfl rfl rfl rfl rfl ?_
 refine sS rfl rfl rfl ((op1_cmp rfl rfl rfl rfl).cast (y := (BO ((decide (a0 < a1))))) rfl rfl) (ao_nil ?_)
 change BW _ _ _ _ _
 refine bw_cond rfl ?_ ?_
 ·intro hc1; replace h := ocond_t hc1 h
  refine bR ?_
  refine sA rfl rfl rfl rfl rfl (ao_nil ?_)
  change BW _ _ _ _ _
  refine bw_ret ?_
  change ∃ xs, _ = some xs ∧ EndOk _ _ _ _
  obtain rfl := Option.some.inj h
  exact ⟨_, rfl, endOk0 (y := (I64 ((-1)))) (Wk.refl _) rfl ⟨rfl, rfl⟩⟩
 ·intro hc1; replace h := ocond_f hc1 h
  refine bw_skip ?_
  change BW _ _ _ _ _
  refine bw_seq ?_
  refine bR ?_
  refine sM rfl rfl rfl rfl rfl ?_
  refine sM rfl rfl rfl rfl rfl ?_
  refine sS rfl rfl rfl ((op1_cmp rfl rfl rfl rfl).cast (y := (BO ((decide (a0 > a1))))) rfl rfl) (ao_nil ?_)
  change BW _ _ _ _ _
  refine bw_cond rfl ?_ ?_
  ·intro hc2; replace h := ocond_t hc2 h
   refine bR ?_
   refine sA rfl rfl rfl rfl rfl (ao_nil ?_)
   change BW _ _ _ _ _
   refine bw_ret ?_
   change ∃ xs, _ = some xs ∧ EndOk _ _ _ _
   obtain rfl := Option.some.inj h
   exact ⟨_, rfl, endOk0 (y := (I64 1)) (Wk.refl _) rfl ⟨rfl, rfl⟩⟩
  ·intro hc2; replace h := ocond_f hc2 h
   refine bw_skip ?_
   change BW _ _ _ _ _
   refine bR ?_
   refine sA rfl rfl rfl rfl rfl (ao_nil ?_)
   change BW _ _ _ _ _
   refine bw_ret ?_
   change ∃ xs, _ = some xs ∧ EndOk _ _ _ _
   obtain rfl := Option.some.inj h
   exact ⟨_, rfl, endOk0 (y := (I64 0)) (Wk.refl _) rfl ⟨rfl, rfl⟩⟩
noncomputable def p_ref01_flag (a0 : Bool) : Option Int :=
 bif a0 then (
  some 1
 ) else (
  some 0
 )
theorem s_ref01_flag (a0 : Bool) (r : Int) (h : p_ref01_flag a0 = some r) : PCalls Try.prog 78 [(BO a0)] (PV.v (.int .u64 r)) := by
 unfold p_ref01_flag at h
 refine acalls_of Try.func78 rfl Try.ntmps78 Try.results78 rfl (aw_of_bw ?_)
 change BW _ _ _ ⟨[(0, (BO a0))], [], _⟩ _
 refine bR ?_
 refine sA rfl rfl rfl rfl rfl (ao_nil ?_)
 change BW _ _ _ _ _
 refine bw_seq ?_
 refine bR ?_
 refine sM rfl rfl rfl rfl rfl (ao_nil ?_)
 change BW _ _ _ _ _
 refine bw_cond rfl ?_ ?_
 ·intro hc1; replace h := ocond_t hc1 h
  refine bR ?_
  refine sA rfl rfl rfl rfl rfl (ao_nil ?_)
  change BW _ _ _ _ _
  refine bw_ret ?_
  change ∃ xs, _ = some xs ∧ EndOk _ _ _ _
  obtain rfl := Option.some.inj h
  exact ⟨_, rfl, endOk0 (y := (PV.v (.int .u64 1))) (Wk.refl _) rfl ⟨rfl, rfl⟩⟩
 ·intro hc1; replace h := ocond_f hc1 h
  refine bw_skip ?_
  change BW _ _ _ _ _
  refine bR ?_
  refine sA rfl rfl rfl rfl rfl (ao_nil ?_)
  change BW _ _ _ _ _
  refine bw_ret ?_
  change ∃ xs, _ = some xs ∧ EndOk _ _ _ _
  obtain rfl := Option.some.inj h
  exact ⟨_, rfl, endOk0 (y := (PV.v (.int .u64 0))) (Wk.refl _) rfl ⟨rfl, rfl⟩⟩
noncomputable def p_ref01_place (a0 : Nat) : Option Int :=
 bif (decide (((a0 : Nat) : Int) ≥ 9223372036854775808)) then (
  some (notK .u64 ((a0 : Nat) : Int))
 ) else (
  some (IntKind.u64.wrap (((a0 : Nat) : Int) + 9223372036854775808))
 )
theorem s_ref01_place (a0 : Nat) (r : Int) (h : p_ref01_place a0 = some r) : PCalls Try.prog 79 [(PV.v (.float .f64 a0))] (PV.v (.int .u64 r)) := by
 unfold p_ref01_place at h
 refine acalls_of Try.func79 rfl Try.ntmps79 Try.results79 rfl (aw_of_bw ?_)
 change BW _ _ _ ⟨[(0, (PV.v (.float .f64 a0)))], [], _⟩ _
 refine bR ?_
 refine sA rfl rfl rfl rfl rfl (ao_nil ?_)
 change BW _ _ _ _ _
 refine bR ?_
 refine sM rfl rfl rfl rfl rfl ?_
 refine sS rfl rfl rfl (op1_f64bits rfl rfl) ?_
 refine sA rfl rfl rfl rfl rfl (ao_nil ?_)
 change BW _ _ _ _ _
 refine bw_seq ?_
 refine bR ?_
 refine sM rfl rfl rfl rfl rfl ?_
 refine sS rfl rfl rfl ((op1_cmp rfl rfl rfl rfl).cast (y := (BO ((decide (((a0 : Nat) : Int) ≥ 9223372036854775808))))) rfl rfl) (ao_nil ?_)
 change BW _ _ _ _ _
 refine bw_cond rfl ?_ ?_
 ·intro hc1; replace h := ocond_t hc1 h
  refine bR ?_
  refine sM rfl rfl rfl rfl rfl ?_
  refine sS rfl rfl rfl (op1_xorU rfl rfl) ?_
  refine sA rfl rfl rfl rfl rfl (ao_nil ?_)
  change BW _ _ _ _ _
  refine bw_ret ?_
  change ∃ xs, _ = some xs ∧ EndOk _ _ _ _
  obtain rfl := Option.some.inj h
  exact ⟨_, rfl, endOk0 (y := (PV.v (.int .u64 (notK .u64 ((a0 : Nat) : Int))))) (Wk.refl _) rfl ⟨rfl, rfl⟩⟩
 ·intro hc1; replace h := ocond_f hc1 h
  refine bw_skip ?_
  change BW _ _ _ _ _
  refine bR ?_
  refine sM rfl rfl rfl rfl rfl ?_
  refine sS rfl rfl rfl (op1_addW rfl rfl rfl) ?_
  refine sA rfl rfl rfl rfl rfl (ao_nil ?_)
  change BW _ _ _ _ _
  refine bw_ret ?_
  change ∃ xs, _ = some xs ∧ EndOk _ _ _ _
  obtain rfl := Option.some.inj h
  exact ⟨_, rfl, endOk0 (y := (PV.v (.int .u64 (IntKind.u64.wrap (((a0 : Nat) : Int) + 9223372036854775808))))) (Wk.refl _) rfl ⟨rfl, rfl⟩⟩
noncomputable def p_ref01_texts (a0 : Str) (a1 : Str) : Option Int :=
 bif (Op.bytesLess a0 a1) then (
  some (-1)
 ) else (
  bif (!(Op.bytesLess a0 a1 || a0 == a1)) then (
   some 1
  ) else (
   some 0
  )
 )
theorem s_ref01_texts (a0 : Str) (a1 : Str) (r : Int) (h : p_ref01_texts a0 a1 = some r) : PCalls Try.prog 80 [(ofStr a0), (ofStr a1)] (I64 r) := by
 unfold p_ref01_texts at h
 refine acalls_of Try.func80 rfl Try.ntmps80 Try.results80 rfl (aw_of_bw ?_)
 change BW _ _ _ ⟨[(0, (ofStr a0)), (1, (ofStr a1))], [], _⟩ _
 refine bR ?_
 refine sA rfl rfl rfl rfl rfl (ao_nil ?_)
 change BW _ _ _ _ _
 refine bw_seq ?_
 refine bR ?_
 refine sM rfl rfl rfl rfl rfl ?_
 refine sM rfl rfl rfl rfl rfl ?_
 refine sS rfl rfl rfl ((op1_cmpT (a := a0) (b := a1) rfl rfl rfl rfl).cast (y := (BO ((Op.bytesLess a0 a1)))) rfl rfl) (ao_nil ?_)
 change BW _ _ _ _ _
 refine bw_cond rfl ?_ ?_
 ·intro hc1; replace h := ocond_t hc1 h
  refine bR ?_
  refine sA rfl rfl rfl rfl rfl (ao_nil ?_)
  change BW _ _ _ _ _
  refine bw_ret ?_
  change ∃ xs, _ = some xs ∧ EndOk _ _ _ _
  obtain rfl := Option.some.inj h
  exact ⟨_, rfl, endOk0 (y := (I64 ((-1)))) (Wk.refl _) rfl ⟨rfl, rfl⟩⟩
 ·intro hc1; replace h := ocond_f hc1 h
  refine bw_skip ?_
  change BW _ _ _ _ _
  refine bw_seq ?_
  refine bR ?_
  refine sM rfl rfl rfl rfl rfl ?_
  refine sM rfl rfl rfl rfl rfl ?_
  refine sS rfl rfl rfl ((op1_cmpT (a := a0) (b := a1) rfl rfl rfl rfl).cast (y := (BO ((!(Op.bytesLess a0 a1 || a0 == a1))))) rfl rfl) (ao_nil ?_)
  change BW _ _ _ _ _
  refine bw_cond rfl ?_ ?_
  ·intro hc2; replace h := ocond_t hc2 h
   refine bR ?_
   refine sA rfl rfl rfl rfl rfl (ao_nil ?_)
   change BW _ _ _ _ _
   refine bw_ret ?_
   change ∃ xs, _ = some xs ∧ EndOk _ _ _ _
   obtain rfl := Option.some.inj h
   exact ⟨_, rfl, endOk0 (y := (I64 1)) (Wk.refl _) rfl ⟨rfl, rfl⟩⟩
  ·intro hc2; replace h := ocond_f hc2 h
   refine bw_skip ?_
   change BW _ _ _ _ _
   refine bR ?_
   refine sA rfl rfl rfl rfl rfl (ao_nil ?_)
   change BW _ _ _ _ _
   refine bw_ret ?_
   change ∃ xs, _ = some xs ∧ EndOk _ _ _ _
   obtain rfl := Option.some.inj h
   exact ⟨_, rfl, endOk0 (y := (I64 0)) (Wk.refl _) rfl ⟨rfl, rfl⟩⟩
end Go.Proofs.Ytiapdjdhaclmnaa
