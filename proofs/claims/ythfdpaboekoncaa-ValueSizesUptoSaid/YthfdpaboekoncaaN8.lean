/- ValueSizes: parts and depth add up. -/
import Derived.Test.YthfdpaboekoncaaN6
namespace Go.Proofs.Ythfdpaboekoncaa
open Go Aw
set_option linter.unusedVariables false
set_option linter.unusedSimpArgs false
set_option maxRecDepth 8000
mutual
def cnt : V → Int
  | .list l => 1 + cntL l
  | .dict l => 1 + cntD l
  | .record _ _ l => 1 + cntD l
  | _ => 1
def cntL : List V → Int
  | [] => 0
  | x :: r => cnt x + cntL r
def cntD : List (Str × V) → Int
  | [] => 0
  | (_, x) :: r => cnt x + cntD r
end
mutual
def dpt : V → Int
  | .list l => 1 + dptL l
  | .dict l => 1 + dptD l
  | .record _ _ l => 1 + dptD l
  | _ => 1
def dptL : List V → Int
  | [] => 0
  | x :: r => max (dpt x) (dptL r)
def dptD : List (Str × V) → Int
  | [] => 0
  | (_, x) :: r => max (dpt x) (dptD r)
end
theorem cntD_map : ∀ l, cntD l = cntL (l.map (·.2))
  | [] => by simp only [cntD, cntL, List.map_nil]
  | (s, x) :: r => by simp only [cntD, cntL, List.map_cons, cntD_map r]
theorem dptD_map : ∀ l, dptD l = dptL (l.map (·.2))
  | [] => by simp only [dptD, dptL, List.map_nil]
  | (s, x) :: r => by simp only [dptD, dptL, List.map_cons, dptD_map r]
theorem cnt_eq (x : V) : cnt x = 1 + cntL x.parts := by cases x <;> simp only [cnt, V.parts, cntD_map, cntL] <;> rfl
theorem dpt_eq (x : V) : dpt x = 1 + dptL x.parts := by cases x <;> simp only [dpt, V.parts, dptD_map, dptL] <;> rfl
/-- Nothing is wrong with it, but for how many and how deep. -/
inductive Near : V → Prop
  | mk {x : V} : nearE x = 0 → (∀ y, y ∈ x.parts → Near y) → Near x
theorem Near.own {x : V} (h : Near x) : nearE x = 0 := by cases h; assumption
theorem Near.part {x : V} (h : Near x) : ∀ y, y ∈ x.parts → Near y := by cases h; assumption
theorem cnt_pos (x : V) : 1 ≤ cnt x ∧ 1 ≤ dpt x := by
  induction x using V.byParts with
  | _ x ih =>
    rw [cnt_eq, dpt_eq]
    have : ∀ l : List V, (∀ y, y ∈ l → 1 ≤ cnt y ∧ 1 ≤ dpt y) → 0 ≤ cntL l ∧ 0 ≤ dptL l := by
      intro l
      induction l with
      | nil => intro _; simp [cntL, dptL]
      | cons y r ihr =>
        intro h
        have h1 := h y (by simp)
        have h2 := ihr (fun z hz => h z (by simp [hz]))
        simp only [cntL, dptL]; omega
    have := this x.parts ih
    omega
theorem own_iff {x : V} {n d : Int} : ownE x n d = 0 ↔ n < 16384 ∧ d ≤ 64 ∧ nearE x = 0 := by
  constructor
  · exact own_zero
  · rintro ⟨h1, h2, h3⟩
    unfold ownE; rw [if_neg (by omega)]; exact h3
theorem near_far {x : V} (h : nearE x = 0) : farE x = 2 := by cases x <;> first | rfl | (simp [nearE] at h)
/-- How a count goes, whatever was counted ahead. -/
structure Goes (x : V) : Prop where
  yes : ∀ n dp d, Near x → d - 1 ≤ dp → n + cnt x ≤ 16384 → d + dpt x - 1 ≤ 64 → partF x n dp d = ⟨true, n + cnt x, max dp (d + dpt x - 1), 0⟩
  ok : ∀ n dp d, (partF x n dp d).ok = true → Near x ∧ n + cnt x ≤ 16384 ∧ d + dpt x - 1 ≤ 64 ∧ (partF x n dp d).n = n + cnt x
  long : ∀ n dp d, Near x → (partF x n dp d).ok = false → (partF x n dp d).why = 2
theorem goes_l {l : List V} (h : ∀ y, y ∈ l → Goes y) :
    (∀ n dp d, (∀ y, y ∈ l → Near y) → d - 1 ≤ dp → n + cntL l ≤ 16384 → d + dptL l - 1 ≤ 64 → partsF l n dp d = ⟨true, n + cntL l, max dp (d + dptL l - 1), 0⟩) ∧
    (∀ n dp d, n ≤ 16384 → d ≤ 65 → (partsF l n dp d).ok = true → (∀ y, y ∈ l → Near y) ∧ n + cntL l ≤ 16384 ∧ d + dptL l - 1 ≤ 64 ∧ (partsF l n dp d).n = n + cntL l) ∧
    (∀ n dp d, (∀ y, y ∈ l → Near y) → (partsF l n dp d).ok = false → (partsF l n dp d).why = 2) := by
  induction l with
  | nil =>
    refine ⟨fun n dp d _ hd _ _ => ?_, fun n dp d hn hd _ => ?_, fun n dp d _ hk => ?_⟩
    · rw [partsF_nil, cntL, dptL]; congr 1 <;> omega
    · rw [partsF_nil, cntL, dptL]; exact ⟨by simp, by omega, by omega, by simp⟩
    · rw [partsF_nil] at hk; cases hk
  | cons x r ih =>
    have hx := h x (by simp)
    obtain ⟨i1, i2, i3⟩ := ih (fun y hy => h y (by simp [hy]))
    have hp := cnt_pos x
    have hr : 0 ≤ cntL r ∧ 0 ≤ dptL r := by
      clear i1 i2 i3 ih h hx
      induction r with
      | nil => simp [cntL, dptL]
      | cons y q ihq => have := cnt_pos y; simp only [cntL, dptL]; omega
    refine ⟨fun n dp d hnr hd hn hdd => ?_, fun n dp d hn hd hk => ?_, fun n dp d hnr hk => ?_⟩
    · rw [cntL] at hn ⊢
      rw [dptL] at hdd ⊢
      have e := hx.yes n dp d (hnr x (by simp)) hd (by omega) (by omega)
      rw [partsF_cons, e, if_pos rfl]
      rw [i1 _ _ d (fun y hy => hnr y (by simp [hy])) (by simp only; omega) (by simp only; omega) (by omega)]
      congr 1
      · simp only; omega
      · simp only; omega
    · rw [partsF_cons] at hk ⊢
      cases hk1 : (partF x n dp d).ok with
      | false => rw [if_neg (by simp [hk1])] at hk; rw [hk1] at hk; cases hk
      | true =>
        rw [if_pos hk1] at hk
        rw [if_pos rfl]
        obtain ⟨a1, a2, a3, a4⟩ := hx.ok n dp d hk1
        rw [a4] at hk ⊢
        obtain ⟨b1, b2, b3, b4⟩ := i2 _ _ d (by omega) hd hk
        rw [cntL, dptL]
        refine ⟨fun y hy => ?_, by omega, by omega, by omega⟩
        rcases List.mem_cons.1 hy with rfl | hy
        · exact a1
        · exact b1 y hy
    · rw [partsF_cons] at hk ⊢
      cases hk1 : (partF x n dp d).ok with
      | false => rw [if_neg (by simp [hk1])]; exact hx.long n dp d (hnr x (by simp)) hk1
      | true =>
        rw [if_pos hk1] at hk
        rw [if_pos rfl]
        exact i3 _ _ d (fun y hy => hnr y (by simp [hy])) hk
theorem goes (x : V) : Goes x := by
  induction x using V.byParts with
  | _ x ih =>
    obtain ⟨i1, i2, i3⟩ := goes_l ih
    have hp := cnt_pos x
    refine ⟨fun n dp d hnr hd hn hdd => ?_, fun n dp d hk => ?_, fun n dp d hnr hk => ?_⟩
    · rw [partF_eq, if_pos (own_iff.2 ⟨by omega, by omega, hnr.own⟩)]
      rw [cnt_eq] at hn ⊢
      rw [dpt_eq] at hdd ⊢
      have hd0 := hp.2
      rw [dpt_eq] at hd0
      rw [i1 _ _ (d + 1) hnr.part (by omega) (by omega) (by omega)]
      congr 1 <;> omega
    · rw [partF_eq] at hk ⊢
      by_cases ho : ownE x n d = 0
      · rw [if_pos ho] at hk ⊢
        have h0 := own_zero ho
        obtain ⟨b1, b2, b3, b4⟩ := i2 _ _ (d + 1) (by omega) (by omega) hk
        rw [cnt_eq, dpt_eq]
        exact ⟨.mk h0.2.2 b1, by omega, by omega, by omega⟩
      · rw [if_neg ho] at hk; cases hk
    · rw [partF_eq] at hk ⊢
      by_cases ho : ownE x n d = 0
      · rw [if_pos ho] at hk ⊢; exact i3 _ _ _ hnr.part hk
      · rw [if_neg ho]
        have : ownE x n d = farE x := by
          unfold ownE at ho ⊢
          split
          · rfl
          · rename_i hc; rw [if_neg hc] at ho; exact absurd hnr.own ho
        show ownE x n d = 2
        rw [this]; exact near_far hnr.own
/-- Near, and neither too many nor too deep. -/
def Can (x : V) : Prop := Near x ∧ cnt x ≤ 16384 ∧ dpt x ≤ 64
theorem can_ok {x : V} : (partF x 0 0 1).ok = true ↔ Can x := by
  constructor
  · intro h
    obtain ⟨a, b, c, _⟩ := (goes x).ok 0 0 1 h
    exact ⟨a, by omega, by omega⟩
  · rintro ⟨a, b, c⟩
    rw [(goes x).yes 0 0 1 a (by omega) (by omega) (by omega)]
theorem size_can {x : V} (h : Can x) : sizeF x = (cnt x, dpt x, 0) := by
  have hp := cnt_pos x
  unfold sizeF
  rw [if_pos (can_ok.2 h), (goes x).yes 0 0 1 h.1 (by omega) (by have := h.2.1; omega) (by have := h.2.2; omega)]
  simp only [Prod.mk.injEq, and_true]
  omega
theorem check_can {x : V} (h : Can x) : checkF x = (0, 0) := by unfold checkF; rw [if_pos (can_ok.2 h)]
theorem check_cannot {x : V} (h : ¬ Can x) : (checkF x).2 ≠ 0 := by
  unfold checkF
  have hk : (partF x 0 0 1).ok = false := by
    cases hk : (partF x 0 0 1).ok with
    | false => rfl
    | true => exact absurd (can_ok.1 hk) h
  rw [if_neg (by simp [hk])]
  exact (part_facts x 1 0 0).bad hk
theorem size_cannot {x : V} (h : ¬ Can x) : sizeF x = (0, 0, (checkF x).2) ∧ (checkF x).2 ≠ 0 := by
  refine ⟨?_, check_cannot h⟩
  have hk : (partF x 0 0 1).ok = false := by
    cases hk : (partF x 0 0 1).ok with
    | false => rfl
    | true => exact absurd (can_ok.1 hk) h
  unfold sizeF checkF
  rw [if_neg (by simp [hk]), if_neg (by simp [hk])]
theorem size_long {x : V} (hn : Near x) (h : ¬ Can x) : (checkF x).2 = 2 := by
  have hk : (partF x 0 0 1).ok = false := by
    cases hk : (partF x 0 0 1).ok with
    | false => rfl
    | true => exact absurd (can_ok.1 hk) h
  unfold checkF
  rw [if_neg (by simp [hk])]
  exact (goes x).long 0 0 1 hn hk
theorem can_fine {x : V} (h : Can x) : Fine x := ⟨0, 0, 1, can_ok.2 h⟩
theorem eq_t {a : Int} (h : a ≠ 0) : (a == 0) = false := by simpa using h
theorem plain_ValueSizes (a0 a1 : Term) (h : bkT a0 + bkT a1 ≤ 1048576) (ok0 : okT a0) (ok1 : okT a1) : p_law01_ValueSizes a0 a1 = some true := by
  simp only [p_law01_ValueSizes, mk_Built_eq a0 (by omega), mk_Built_eq a1 (by omega), value_Size_eq, Option.bind_some]
  generalize bu a0 = x
  generalize bu a1 = y
  have e2 : ((0 : Int) != 0) = false := rfl
  have e3 : ((0 : Int) == 0) = true := rfl
  have px := cnt_pos x
  have py := cnt_pos y
  -- the composite
  have hc : cnt (.list [x, .dict [([97], y)]]) = cnt x + cnt y + 2 := by simp only [cnt, cntL, cntD]; omega
  have hd : dpt (.list [x, .dict [([97], y)]]) = 1 + max (dpt x) (1 + dpt y) := by simp only [dpt, dptL, dptD]; omega
  have hnear : Near x → Near y → Near (.list [x, .dict [([97], y)]]) := by
    intro hx hy
    refine .mk rfl (fun z hz => ?_)
    rcases List.mem_cons.1 hz with rfl | hz
    · exact hx
    · rcases List.mem_cons.1 hz with rfl | hz
      · refine .mk rfl (fun z hz => ?_)
        rcases List.mem_cons.1 hz with rfl | hz
        · exact hy
        · cases hz
      · cases hz
  have hsub : Can (.list [x, .dict [([97], y)]]) → Can x ∧ Can y := by
    rintro ⟨h1, h2, h3⟩
    rw [hc] at h2
    rw [hd] at h3
    have h4 := h1.part (.dict [([97], y)]) (by simp [V.parts])
    exact ⟨⟨h1.part x (by simp [V.parts]), by omega, by omega⟩, ⟨h4.part y (by simp [V.parts]), by omega, by omega⟩⟩
  have hnil : sizeF (.list [.nil]) = (2, 2, 0) := by simp [sizeF, partF, partsF, ownE, nearE]; omega
  by_cases hx : Can x
  · by_cases hy : Can y
    · rw [size_can hx, size_can hy]
      simp only [e2, cond_false, law01_ValueSizes_j1]
      have w1 : IntKind.i64.wrap (dpt y + 1) = dpt y + 1 := w64_in (by have := hy.2.2; omega) (by have := hy.2.2; omega)
      have w2 : IntKind.i64.wrap (cnt x + cnt y) = cnt x + cnt y := w64_in (by have := hx.2.1; have := hy.2.1; omega) (by have := hx.2.1; have := hy.2.1; omega)
      have w3 : IntKind.i64.wrap (cnt x + cnt y + 2) = cnt x + cnt y + 2 := w64_in (by have := hx.2.1; have := hy.2.1; omega) (by have := hx.2.1; have := hy.2.1; omega)
      have hj : (bif decide (dpt x < IntKind.i64.wrap (dpt y + 1)) then law01_ValueSizes_j2 x y (cnt x, dpt x, 0) (cnt y, dpt y, 0) (sizeF (.list [x, .dict [([97], y)]])) (IntKind.i64.wrap (dpt y + 1)) else law01_ValueSizes_j2 x y (cnt x, dpt x, 0) (cnt y, dpt y, 0) (sizeF (.list [x, .dict [([97], y)]])) (dpt x))
          = law01_ValueSizes_j2 x y (cnt x, dpt x, 0) (cnt y, dpt y, 0) (sizeF (.list [x, .dict [([97], y)]])) (max (dpt x) (1 + dpt y)) := by
        rw [w1]
        by_cases hlt : dpt x < dpt y + 1
        · rw [decide_eq_true hlt, cond_true, show max (dpt x) (1 + dpt y) = dpt y + 1 by omega]
        · rw [decide_eq_false hlt, cond_false, show max (dpt x) (1 + dpt y) = dpt x by omega]
      rw [hj]
      have w4 : IntKind.i64.wrap (max (dpt x) (1 + dpt y) + 1) = max (dpt x) (1 + dpt y) + 1 := w64_in (by have := hx.2.2; have := hy.2.2; omega) (by have := hx.2.2; have := hy.2.2; omega)
      simp only [law01_ValueSizes_j2, w2, w3, w4]
      by_cases hall : Can (.list [x, .dict [([97], y)]])
      · have h2 := hall.2.1
        have h3 := hall.2.2
        rw [hc] at h2
        rw [hd] at h3
        rw [size_can hall, decide_eq_false (by omega : ¬ cnt x + cnt y + 2 > 16384), cond_false, decide_eq_false (by omega : ¬ max (dpt x) (1 + dpt y) + 1 > 64)]
        have hlist : ∀ z : V, Can z → cnt z + 2 ≤ 16384 → dpt z + 1 ≤ 64 → Can (.list [.bool true, z]) := by
          intro z hz h4 h5
          have pz := cnt_pos z
          refine ⟨.mk rfl (fun u hu => ?_), ?_, ?_⟩
          · rcases List.mem_cons.1 hu with rfl | hu
            · exact .mk rfl (by simp [V.parts])
            · rcases List.mem_cons.1 hu with rfl | hu
              · exact hz.1
              · cases hu
          · simp only [cnt, cntL]; omega
          · simp only [dpt, dptL]; omega
        have cx := hlist x hx (by omega) (by omega)
        have cy := hlist y hy (by omega) (by omega)
        have o1 : orderF x y = (ordF x y, 0) := by simp [orderF, check_can hx, check_can hy]
        have o2 : orderF (.list [.bool true, x]) (.list [.bool true, y]) = (ordF x y, 0) := by
          simp only [orderF, check_can cx, check_can cy, ne_eq, not_true_eq_false, if_false]
          rw [ordF]
          simp only [ordL, ordF, c3_self, th, if_true]
          congr 1
          split
          · rename_i hz; exact hz.symm
          · rfl
        simp only [law01_ValueSizes_j3, cond_false, value_Order_eq, Option.bind_some, o1, o2, e3, cond_true, hc, hd, w2, w3, w4, beq_self_eq_true]
        have e5 : (1 + max (dpt x) (1 + dpt y) == max (dpt x) (1 + dpt y) + 1) = true := by simp; omega
        rw [e5]; rfl
      · obtain ⟨hs, hz⟩ := size_cannot hall
        have hlong := size_long (hnear hx.1 hy.1) hall
        rw [hs, hlong]
        have hbig : cnt x + cnt y + 2 > 16384 ∨ max (dpt x) (1 + dpt y) + 1 > 64 := by
          by_cases hb : cnt x + cnt y + 2 > 16384 ∨ max (dpt x) (1 + dpt y) + 1 > 64
          · exact hb
          · exact absurd ⟨hnear hx.1 hy.1, by rw [hc]; omega, by rw [hd]; omega⟩ hall
        by_cases hb : cnt x + cnt y + 2 > 16384
        · rw [decide_eq_true hb]; rfl
        · rw [decide_eq_false hb, cond_false, decide_eq_true (by omega : max (dpt x) (1 + dpt y) + 1 > 64)]; rfl
    · have hn : ¬ Can (.list [x, .dict [([97], y)]]) := fun hh => hy (hsub hh).2
      obtain ⟨hs, hz⟩ := size_cannot hn
      obtain ⟨hsy, hzy⟩ := size_cannot hy
      rw [size_can hx, hsy, hs]
      simp only [e2, cond_false, ne_t hzy, law01_ValueSizes_j1, cond_true, value_Size_eq, Option.bind_some, hnil, ne_t hz]
      rfl
  · have hn : ¬ Can (.list [x, .dict [([97], y)]]) := fun hh => hx (hsub hh).1
    obtain ⟨hs, hz⟩ := size_cannot hn
    obtain ⟨hsx, hzx⟩ := size_cannot hx
    rw [hsx, hs]
    simp only [ne_t hzx, law01_ValueSizes_j1, cond_true, value_Size_eq, Option.bind_some, hnil, ne_t hz]
    rfl
end Go.Proofs.Ythfdpaboekoncaa
