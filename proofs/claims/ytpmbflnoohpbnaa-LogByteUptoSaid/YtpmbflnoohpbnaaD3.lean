/- Chapter 19: one byte of frames' bytes that is another one is found: the plain law. -/
import Derived.Test.YtpmbflnoohpbnaaD2
namespace Go.Proofs.Ytpmbflnoohpbnaa
open Go Aw
set_option linter.unusedVariables false
set_option linter.unusedSimpArgs false
theorem sizeF_bulk (l : List S_api_Frame) : sizeF l ≤ 13 * (l.map (fun p => 1 + (p.f_Body.length + 1))).sum := by
  induction l with
  | nil => simp [sizeF]
  | cons x r ih =>
    simp only [sizeF, List.foldr_cons, List.map_cons, List.sum_cons] at ih ⊢
    omega
theorem xor_ne {x a : UInt8} (h : ¬ a = 0) : x ≠ UInt8.ofInt (xorR .u8 (x.toNat : Int) (a.toNat : Int)) := by
  intro e
  apply h
  have hx := x.toNat_lt
  have ha := a.toNat_lt
  have e1 : (x.toNat : Int) = ((UInt8.ofInt (xorR .u8 (x.toNat : Int) (a.toNat : Int))).toNat : Int) := congrArg (fun b : UInt8 => (b.toNat : Int)) e
  rw [u8_toNat'] at e1
  have hv := (BitVec.ofInt 8 (x.toNat : Int) ^^^ BitVec.ofInt 8 (a.toNat : Int)).isLt
  have e2 : xorR .u8 (x.toNat : Int) (a.toNat : Int) = ((BitVec.ofInt 8 (x.toNat : Int) ^^^ BitVec.ofInt 8 (a.toNat : Int)).toNat : Int) := rfl
  rw [e2] at e1
  have e3 : (BitVec.ofInt 8 (x.toNat : Int)) = BitVec.ofInt 8 (x.toNat : Int) ^^^ BitVec.ofInt 8 (a.toNat : Int) := by
    apply BitVec.eq_of_toNat_eq
    rw [BitVec.toNat_ofInt]
    omega
  have e4 := congrArg (BitVec.ofInt 8 (x.toNat : Int) ^^^ ·) e3
  simp only [← BitVec.xor_assoc, BitVec.xor_self, BitVec.zero_xor] at e4
  have e5 := congrArg BitVec.toNat e4
  rw [BitVec.toNat_ofInt] at e5
  apply UInt8.toNat_inj.1
  simp only [BitVec.toNat_zero] at e5
  show a.toNat = 0
  omega
theorem map_ofF (l : List S_api_Frame) : (l.map toF).map ofF = l := by
  rw [List.map_map]
  conv => rhs; rw [← List.map_id l]
  rfl
theorem flat_take {w : List S_api_Frame} {k : Nat} {f : S_api_Frame} (h : w[k]? = some f) : (w.map toF).flatMap packB = ((w.take k).map toF).flatMap packB ++ (packB (toF f) ++ ((w.drop (k + 1)).map toF).flatMap packB) := by
  obtain ⟨hk, rfl⟩ := List.getElem?_eq_some_iff.1 h
  have e : w = w.take k ++ w[k] :: w.drop (k + 1) := by rw [← List.drop_eq_getElem_cons hk, List.take_append_drop]
  have e2 := congrArg (fun q : List S_api_Frame => (q.map toF).flatMap packB) e
  simp only [List.map_append, List.map_cons, List.flatMap_append, List.flatMap_cons] at e2
  exact e2
/-- The whole of frames' bytes. -/
theorem byte_whole (l : List S_api_Frame) (hb : sizeF l ≤ 1073741824) (a1 : Int) (a2 : UInt8) : law19_LogByte_j1 a1 a2 (wholeF l, packL l) true = some true := by
  have hp := packL_len l
  unfold law19_LogByte_j1
  rw [cond_true]
  simp only
  rw [appO_ok (by simp only [List.length_nil]; omega), Option.bind_some, List.nil_append, Read_eq _ (by omega), Option.bind_some]
  have hr : readF (packL l) = ((wholeF l).map toF, (packL l).length, 0) := read_all _ (whole_ok l) _ (Nat.le_refl _)
  rw [hr]
  simp only [map_ofF, frames_eq, Option.bind_some, decide_true, cond_true, beq_self_eq_true]
/-- One byte that is another one. -/
theorem byte_j2 (l : List S_api_Frame) (hb : sizeF l ≤ 1073741824) (at_ : Nat) (a2 : UInt8) (h2 : ¬ a2 = 0) (k : Nat) (f : S_api_Frame) (hf : (wholeF l)[k]? = some f) (p : Nat) (hp : p = ((((wholeF l).take k).map toF).flatMap packB).length)
    (h1 : p ≤ at_) (h3 : at_ < p + (packB (toF f)).length) (h4 : at_ = p ∨ p + 5 ≤ at_) : law19_LogByte_j2 (at_ : Int) a2 (wholeF l, packL l) (p : Int) (k : Int) false = some true := by
  have hpl := packL_len l
  have hb0 : packL l = (((wholeF l).take k).map toF).flatMap packB ++ (packB (toF f) ++ (((wholeF l).drop (k + 1)).map toF).flatMap packB) := flat_take hf
  obtain ⟨i, rfl⟩ : ∃ i, at_ = p + i := ⟨at_ - p, by omega⟩
  have hi : i < (packB (toF f)).length := by omega
  obtain ⟨x, hx, _⟩ := dropc hi
  have hbx : (packL l)[p + i]? = some x := by
    rw [hb0, List.getElem?_append_right (by omega), ← hp, Nat.add_sub_cancel_left, List.getElem?_append_left hi]
    exact hx
  have hk := (List.getElem?_eq_some_iff.1 hf).1
  unfold law19_LogByte_j2
  rw [cond_false]
  simp only
  rw [idxI_nat, hbx, Option.bind_some, Option.bind_some, Int.toNat_natCast, Read_eq _ (by rw [List.length_set]; omega), Option.bind_some]
  have hset : (packL l).set (p + i) (UInt8.ofInt (xorR .u8 (x.toNat : Int) (a2.toNat : Int))) = (((wholeF l).take k).map toF).flatMap packB ++ ((packB (toF f)).set i (UInt8.ofInt (xorR .u8 (x.toNat : Int) (a2.toNat : Int))) ++ (((wholeF l).drop (k + 1)).map toF).flatMap packB) := by
    rw [hb0, List.set_append_right _ _ (by omega), ← hp, Nat.add_sub_cancel_left, List.set_append_left _ _ hi]
  rw [hset]
  have hE : packE (toF f) = 0 := whole_ok l _ (List.mem_map.2 ⟨f, List.mem_of_getElem? hf, rfl⟩)
  have hne := byte_bad hE ((((wholeF l).drop (k + 1)).map toF).flatMap packB) hx (xor_ne h2) (by omega)
  have hne0 : (packB (toF f)).set i (UInt8.ofInt (xorR .u8 (x.toNat : Int) (a2.toNat : Int))) ++ (((wholeF l).drop (k + 1)).map toF).flatMap packB ≠ [] := by
    intro e
    have := congrArg List.length e
    rw [List.length_append, List.length_set] at this
    simp only [List.length_nil] at this
    omega
  have hr := read_upto (((wholeF l).take k).map toF) (fun g hg => by
    obtain ⟨y, hy, rfl⟩ := List.mem_map.1 hg
    exact whole_ok l _ (List.mem_map.2 ⟨y, List.mem_of_mem_take hy, rfl⟩)) _ _ (Nat.le_refl _) hne0 hne
  have hr' : readF ((((wholeF l).take k).map toF).flatMap packB ++ ((packB (toF f)).set i (UInt8.ofInt (xorR .u8 (x.toNat : Int) (a2.toNat : Int))) ++ (((wholeF l).drop (k + 1)).map toF).flatMap packB)) = _ := hr
  rw [hr']
  have c1 : cutO (wholeF l) 0 (k : Int) = some ((wholeF l).take k) := by
    have := cutO_ok (l := wholeF l) (a := 0) (b := k) (by omega) (by omega)
    rw [List.drop_zero] at this; exact this
  simp only
  rw [c1, Option.bind_some, map_ofF, frames_eq, Option.bind_some]
  rw [show decide ((wholeF l).take k = (wholeF l).take k) = true from decide_eq_true rfl, cond_true, ← hp]
  rw [show (((p : Nat) : Int) == ((p : Nat) : Int)) = true from beq_self_eq_true _, cond_true, bne_iff_ne.2 hne]
theorem byte_l (l : List S_api_Frame) (hb : sizeF l ≤ 1073741824) (at_ : Nat) (a2 : UInt8) (h2 : ¬ a2 = 0) (hat : at_ < (packL l).length) : ∀ n k, n + k = (wholeF l).length → ((((wholeF l).take k).map toF).flatMap packB).length ≤ at_ →
    law19_LogByte_l1 (at_ : Int) a2 (wholeF l, packL l) (((((wholeF l).take k).map toF).flatMap packB).length : Int) (k : Int) = some true
  | 0, k, hk, h => by
    rw [List.take_of_length_le (by omega)] at h
    exact absurd hat (by unfold packL; omega)
  | n + 1, k, hk, h => by
    have hpl := packL_len l
    obtain ⟨f, hf, hd⟩ : ∃ x, (wholeF l)[k]? = some x ∧ (wholeF l).drop k = x :: (wholeF l).drop (k + 1) := dropc (by omega)
    have hE : packE (toF f) = 0 := whole_ok l _ (List.mem_map.2 ⟨f, List.mem_of_getElem? hf, rfl⟩)
    have hfl := (packE_ok hE).2.2
    have hB := packB_len (toF f)
    have hwl : (wholeF l).length ≤ l.length := List.length_filter_le ..
    have hsl := sizeF_len l
    have hb0 := congrArg List.length (flat_take hf)
    rw [List.length_append, List.length_append] at hb0
    have hb1 : (packL l).length = _ := hb0
    rw [law19_LogByte_l1_eq]
    unfold law19_LogByte_l1b
    simp only
    rw [idxI_nat, hf, Option.bind_some, Pack_eq f (by have : (toF f).2.length = f.f_Body.length := rfl; omega), Option.bind_some, packR, if_pos hE]
    simp only
    rw [w64_in (by omega) (by omega)]
    by_cases c1 : at_ < ((((wholeF l).take k).map toF).flatMap packB).length + (packB (toF f)).length
    · rw [decide_eq_true (by omega : (at_ : Int) < ((((((wholeF l).take k).map toF).flatMap packB).length : Nat) : Int) + (((packB (toF f)).length : Nat) : Int)), cond_true]
      by_cases c2 : at_ > ((((wholeF l).take k).map toF).flatMap packB).length
      · rw [decide_eq_true (by omega : (at_ : Int) > ((((((wholeF l).take k).map toF).flatMap packB).length : Nat) : Int)), cond_true, w64_in (by omega) (by omega)]
        by_cases c3 : at_ < ((((wholeF l).take k).map toF).flatMap packB).length + 5
        · rw [decide_eq_true (by omega : (at_ : Int) < ((((((wholeF l).take k).map toF).flatMap packB).length : Nat) : Int) + 5)]
          rfl
        · rw [decide_eq_false (by omega : ¬ (at_ : Int) < ((((((wholeF l).take k).map toF).flatMap packB).length : Nat) : Int) + 5)]
          exact byte_j2 l hb at_ a2 h2 k f hf _ rfl (by omega) c1 (by omega)
      · rw [decide_eq_false (by omega : ¬ (at_ : Int) > ((((((wholeF l).take k).map toF).flatMap packB).length : Nat) : Int)), cond_false]
        exact byte_j2 l hb at_ a2 h2 k f hf _ rfl (by omega) c1 (by omega)
    · rw [decide_eq_false (by omega : ¬ (at_ : Int) < ((((((wholeF l).take k).map toF).flatMap packB).length : Nat) : Int) + (((packB (toF f)).length : Nat) : Int)), cond_false, w64_in (by omega) (by omega)]
      have hnext : ((((wholeF l).take (k + 1)).map toF).flatMap packB).length = ((((wholeF l).take k).map toF).flatMap packB).length + (packB (toF f)).length := by
        rw [take_snocF hf]; simp
      have ih := byte_l l hb at_ a2 h2 hat n (k + 1) (by omega) (by omega)
      rw [hnext, Int.natCast_add] at ih
      exact ih
theorem plain_LogByte (a0 : List S_api_Frame) (a1 : Int) (a2 : UInt8) (h : (a0.map (fun p => 1 + (p.f_Body.length + 1))).sum ≤ 1048576) : p_law19_LogByte a0 a1 a2 = some true := by
  have hs := sizeF_bulk a0
  have hb : sizeF a0 ≤ 1073741824 := by omega
  unfold p_law19_LogByte
  rw [packed_eq a0 hb, Option.bind_some]
  by_cases h1 : a1 < 0
  · rw [decide_eq_true h1, cond_true]; exact byte_whole a0 hb a1 a2
  · rw [decide_eq_false h1, cond_false]
    simp only
    by_cases h3 : a1 ≥ (((packL a0).length : Nat) : Int)
    · rw [decide_eq_true h3, cond_true]; exact byte_whole a0 hb a1 a2
    · rw [decide_eq_false h3, cond_false]
      by_cases h2 : a2 = 0
      · subst h2; exact byte_whole a0 hb a1 0
      · rw [beq_eq_false_iff_ne.2 (fun e => h2 (UInt8.toNat_inj.1 (by omega)))]
        obtain ⟨at_, rfl⟩ : ∃ n : Nat, a1 = n := ⟨a1.toNat, by omega⟩
        have := byte_l a0 hb at_ a2 h2 (by omega) (wholeF a0).length 0 (by omega) (by simp)
        unfold law19_LogByte_j1
        rw [cond_false]
        simpa using this
end Go.Proofs.Ytpmbflnoohpbnaa
