/- CheckTypes: the document's word on types and values. -/
import Derived.Test.YtiapdjdhaclmnaaC2
import Derived.Test.YtiapdjdhaclmnaaN9
namespace Go.Proofs.Ytiapdjdhaclmnaa
open Go Aw
set_option linter.unusedVariables false
set_option linter.unusedSimpArgs false
set_option maxRecDepth 8000
/-! ### types that can be -/
def FitsOk (t : Typ) : Prop := ∀ left d, 0 ≤ left → left ≤ 16384 → 0 ≤ d → d ≤ 65 → p_ref07_room_fits ⟨left⟩ t d = some (⟨(fitF t left d).2⟩, (fitF t left d).1)
theorem rf_ll (t : Typ) (d : Int) (n : Nat) (hn : n = t.parts.length) (hn' : n ≤ 268435456) (hl : ∀ u, u ∈ t.parts → FitsOk u) (hd : 0 ≤ d) (hd' : d ≤ 64) : ∀ k i left, k + i = n → 0 ≤ left → left ≤ 16384 →
    ref07_room_fits_l1 p_ref07_room_fits t d n (i : Nat) left = some (⟨(fitsF (t.parts.drop i) left (d + 1)).2⟩, (fitsF (t.parts.drop i) left (d + 1)).1)
  | 0, i, left, h, h0, h1 => by
    rw [ref07_room_fits_l1_eq]
    simp only [ref07_room_fits_l1b, lt_f (by omega : ¬ i < n), cond_false]
    rw [List.drop_of_length_le (by omega), fitsF_nil]
  | k + 1, i, left, h, h0, h1 => by
    obtain ⟨x, hx, hdr⟩ := dropc (by omega : i < t.parts.length)
    have hp := hl x (List.mem_of_getElem? hx) left (d + 1) h0 h1 (by omega) (by omega)
    have hw : IntKind.i64.wrap (d + 1) = d + 1 := w64_in (by omega) (by omega)
    have hw2 : IntKind.i64.wrap ((i : Int) + 1) = ((i + 1 : Nat) : Int) := by rw [w64_in (by omega) (by omega)]; omega
    have hf := fit_left x left (d + 1)
    rw [ref07_room_fits_l1_eq]
    simp only [ref07_room_fits_l1b, lt_t (by omega : i < n), cond_true, idxI_nat, hx, Option.bind_some, hw, hw2, hp]
    rw [hdr, fitsF_cons]
    cases hk : (fitF x left (d + 1)).1 with
    | false => simp
    | true =>
      have h2 := hf.2 hk
      simp only [Bool.not_true, cond_false, if_true]
      exact rf_ll t d n hn hn' hl hd hd' k (i + 1) _ (by omega) h2 (by omega)
theorem rny_l (t : Typ) (left d : Int) (r : S_ref07_room × Bool) (hr : ref07_room_fits_j2 p_ref07_room_fits ⟨left⟩ t d t.parts.length = some r) (he : t.parts.length = t.names.length) (hb : t.names.length ≤ 268435456) : ∀ k i, k + i = t.names.length →
    ref07_room_fits_l2 p_ref07_room_fits ⟨left⟩ t d (i : Nat) = if risen (prevOf t.names i) (t.names.drop i) then some r else some (⟨IntKind.i64.wrap (left - 1)⟩, false)
  | 0, i, h => by
    rw [ref07_room_fits_l2_eq]
    simp only [ref07_room_fits_l2b, lt_f (by omega : ¬ i < t.parts.length), cond_false, hr]
    rw [List.drop_of_length_le (by omega), risen_nil]; rfl
  | k + 1, i, h => by
    obtain ⟨s, hs, _⟩ := dropc (by omega : i < t.names.length)
    have hw2 : IntKind.i64.wrap ((i : Int) + 1) = ((i + 1 : Nat) : Int) := by rw [w64_in (by omega) (by omega)]; omega
    have := names_round t.names i (by omega) hb (no := ((⟨IntKind.i64.wrap (left - 1)⟩ : S_ref07_room), false)) _ s hs (fun b => if b then some r else some (⟨IntKind.i64.wrap (left - 1)⟩, false)) (rny_l t left d r hr he hb k (i + 1) (by omega)) rfl
    rw [ref07_room_fits_l2_eq]
    simp only [ref07_room_fits_l2b, lt_t (by omega : i < t.parts.length), cond_true, idxI_nat, hs, Option.bind_some, ref01_Name_eq, ref07_room_fits_j5, cond_false, hw2]
    exact this
theorem ref07_fits_eq (t : Typ) : bkTy t ≤ 268435456 → FitsOk t := by
  induction t using Typ.byParts with
  | _ t ih =>
  intro hb left d h0 h1 hd hd'
  have B := tb hb
  have hw : IntKind.i64.wrap (left - 1) = left - 1 := w64_in (by omega) (by omega)
  rw [e_ref07_room_fits, b_ref07_room_fits, fitF_eq]
  simp only [hw]
  by_cases hl : left - 1 < 0
  · rw [decide_eq_true hl, if_pos (Or.inl hl)]; simp only [cond_true, ref07_room_fits_j1, hw]
  · rw [decide_eq_false hl, cond_false]
    by_cases hdd : 64 < d
    · rw [decide_eq_true (show d > 64 from hdd), if_pos (Or.inr hdd)]; simp only [cond_true, ref07_room_fits_j1, hw]
    · rw [decide_eq_false (show ¬ d > 64 from hdd), if_neg (by omega)]
      have hall : ref07_room_fits_j2 p_ref07_room_fits ⟨left⟩ t d t.parts.length = some (⟨(fitsF t.parts (left - 1) (d + 1)).2⟩, (fitsF t.parts (left - 1) (d + 1)).1) := by
        simp only [ref07_room_fits_j2, hw]
        exact rf_ll t d _ rfl B.np (fun u hu => ih u hu (B.parts u hu)) hd (by omega) t.parts.length 0 (left - 1) (by omega) (by omega) (by omega)
      have h0j : ref07_room_fits_j2 p_ref07_room_fits ⟨left⟩ t d 0 = some (⟨left - 1⟩, true) := by
        simp only [ref07_room_fits_j2, hw]
        rw [ref07_room_fits_l1_eq]; rfl
      have hnm := fun he => rny_l t left d _ hall he B.nn t.names.length 0 (by omega)
      rw [hw] at hnm
      simp only [cond_false, ref07_room_fits_j1, ref07_room_fits_j3, hw]
      generalize hF : fitsF t.parts (left - 1) (d + 1) = F at hall hnm
      rcases kinds t.kind with h | h | h | h | h | h | h | h | h
      · simp [leafT, h, h0j]
      · simp [leafT, h, h0j]
      · simp only [leafT, visT, h]
        by_cases a : 1 ≤ t.of
        · by_cases b : t.of ≤ 10
          · simp [a, b]
          · simp [a, b]
        · simp [a]
      · simp only [leafT, visT, h, ref01_Check_eq t.only B.only, Option.bind_some]
        cases hc : (checkF (bu t.only)).2 == 0 <;> simp_all
      · simp only [leafT, visT, h]
        by_cases a : t.parts.length = 1
        · rw [a] at hall
          simp [a, hall]
        · have a' : (((t.parts.length : Nat) : Int) != 1) = true := by simp; omega
          simp [a, a']
      · simp only [leafT, visT, h]
        have e0 : risen (prevOf t.names 0) (List.drop 0 t.names) = risen none t.names := rfl
        rw [e0] at hnm
        by_cases b : t.parts.length = t.names.length
        · have b' : (((t.names.length : Nat) : Int) != ((t.parts.length : Nat) : Int)) = false := by simp [b]
          by_cases c : t.lacks.length = t.names.length
          · have c' : (((t.lacks.length : Nat) : Int) != ((t.parts.length : Nat) : Int)) = false := by simp [b, c]
            by_cases a : t.names.length ≤ 4096
            · have a' : decide (((t.parts.length : Nat) : Int) > 4096) = false := decide_eq_false (by omega)
              have hnm := hnm b
              cases hc : risen none t.names with
              | true =>
                rw [hc] at hnm
                simp only [Int.ofNat_zero, if_true] at hnm
                simp [b', c', ref07_room_fits_j4, hnm, a, b, c, show ¬ (4096 < (t.names.length : Int)) by omega]
              | false =>
                rw [hc] at hnm
                simp only [Int.ofNat_zero, Bool.false_eq_true, if_false] at hnm
                simp [b', c', ref07_room_fits_j4, hnm, b, c, show ¬ (4096 < (t.names.length : Int)) by omega]
            · have a' : decide (((t.parts.length : Nat) : Int) > 4096) = true := decide_eq_true (by omega)
              simp [a', b', c', ref07_room_fits_j4, hw, a]
          · have c' : (((t.lacks.length : Nat) : Int) != ((t.parts.length : Nat) : Int)) = true := by simp; omega
            simp [b', c', ref07_room_fits_j4, hw, c]
        · have b' : (((t.names.length : Nat) : Int) != ((t.parts.length : Nat) : Int)) = true := by simp; omega
          simp [b', ref07_room_fits_j4, hw, b]
      · simp only [leafT, visT, h]
        by_cases a : 1 < t.parts.length
        · have a' : decide (((t.parts.length : Nat) : Int) < 2) = false := decide_eq_false (by omega)
          simp [a, a', hall]
        · have a' : decide (((t.parts.length : Nat) : Int) < 2) = true := decide_eq_true (by omega)
          simp [a, a']
      · simp only [leafT, visT, h, ref01_Name_eq, Option.bind_some]
        cases hc : nameOk t.cls <;> simp [hc]
      · obtain ⟨g1, g2, g3, g4, g5, g6, g7, g8⟩ := h
        simp only [leafT, visT, beq_f g1, beq_f g2, beq_f g3, beq_f g4, beq_f g5, beq_f g6, beq_f g7, beq_f g8, cond_false, Bool.false_and, Bool.or_self, Bool.false_eq_true, if_false]
theorem ref07_Valid_eq (t : Typ) (h : bkTy t ≤ 268435456) : p_ref07_Valid t = some (validT t) := by
  simp only [p_ref07_Valid, Typ.eta, ref07_fits_eq t h 16384 1 (by omega) (by omega) (by omega) (by omega), Option.bind_some]; rfl
end Go.Proofs.Ytiapdjdhaclmnaa
