/- Parts and depth, counted without bounds. -/
import Derived.Test.YthfdpaboekoncaaN6a
namespace Go.Proofs.Ythfdpaboekoncaa
open Go Aw
set_option linter.unusedVariables false
set_option linter.unusedSimpArgs false
set_option maxRecDepth 8000
mutual
def cnt : V → Int
  | .list l => 1 + cntL l
  | .dict l => 1 + cntD l
  | .record _ _ l => 1 + cntD l
  | _ => 1
def cntL : List V → Int
  | [] => 0
  | x :: r => cnt x + cntL r
def cntD : List (Str × V) → Int
  | [] => 0
  | (_, x) :: r => cnt x + cntD r
end
mutual
def dpt : V → Int
  | .list l => 1 + dptL l
  | .dict l => 1 + dptD l
  | .record _ _ l => 1 + dptD l
  | _ => 1
def dptL : List V → Int
  | [] => 0
  | x :: r => max (dpt x) (dptL r)
def dptD : List (Str × V) → Int
  | [] => 0
  | (_, x) :: r => max (dpt x) (dptD r)
end
theorem cntD_map : ∀ l, cntD l = cntL (l.map (·.2))
  | [] => by simp only [cntD, cntL, List.map_nil]
  | (s, x) :: r => by simp only [cntD, cntL, List.map_cons, cntD_map r]
theorem dptD_map : ∀ l, dptD l = dptL (l.map (·.2))
  | [] => by simp only [dptD, dptL, List.map_nil]
  | (s, x) :: r => by simp only [dptD, dptL, List.map_cons, dptD_map r]
theorem cnt_eq (x : V) : cnt x = 1 + cntL x.parts := by cases x <;> simp only [cnt, V.parts, cntD_map, cntL] <;> rfl
theorem dpt_eq (x : V) : dpt x = 1 + dptL x.parts := by cases x <;> simp only [dpt, V.parts, dptD_map, dptL] <;> rfl
/-- Nothing is wrong with it, but for how many and how deep. -/
inductive Near : V → Prop
  | mk {x : V} : nearE x = 0 → (∀ y, y ∈ x.parts → Near y) → Near x
theorem Near.own {x : V} (h : Near x) : nearE x = 0 := by cases h; assumption
theorem Near.part {x : V} (h : Near x) : ∀ y, y ∈ x.parts → Near y := by cases h; assumption
theorem cnt_pos (x : V) : 1 ≤ cnt x ∧ 1 ≤ dpt x := by
  induction x using V.byParts with
  | _ x ih =>
    rw [cnt_eq, dpt_eq]
    have : ∀ l : List V, (∀ y, y ∈ l → 1 ≤ cnt y ∧ 1 ≤ dpt y) → 0 ≤ cntL l ∧ 0 ≤ dptL l := by
      intro l
      induction l with
      | nil => intro _; simp [cntL, dptL]
      | cons y r ihr =>
        intro h
        have h1 := h y (by simp)
        have h2 := ihr (fun z hz => h z (by simp [hz]))
        simp only [cntL, dptL]; omega
    have := this x.parts ih
    omega
theorem own_iff {x : V} {n d : Int} : ownE x n d = 0 ↔ n < 16384 ∧ d ≤ 64 ∧ nearE x = 0 := by
  constructor
  · exact own_zero
  · rintro ⟨h1, h2, h3⟩
    unfold ownE; rw [if_neg (by omega)]; exact h3
theorem near_far {x : V} (h : nearE x = 0) : farE x = 2 := by cases x <;> first | rfl | (simp [nearE] at h)
/-- How a count goes, whatever was counted ahead. -/
structure Goes (x : V) : Prop where
  yes : ∀ n dp d, Near x → d - 1 ≤ dp → n + cnt x ≤ 16384 → d + dpt x - 1 ≤ 64 → partF x n dp d = ⟨true, n + cnt x, max dp (d + dpt x - 1), 0⟩
  ok : ∀ n dp d, (partF x n dp d).ok = true → Near x ∧ n + cnt x ≤ 16384 ∧ d + dpt x - 1 ≤ 64 ∧ (partF x n dp d).n = n + cnt x
  long : ∀ n dp d, Near x → (partF x n dp d).ok = false → (partF x n dp d).why = 2
theorem goes_l {l : List V} (h : ∀ y, y ∈ l → Goes y) :
    (∀ n dp d, (∀ y, y ∈ l → Near y) → d - 1 ≤ dp → n + cntL l ≤ 16384 → d + dptL l - 1 ≤ 64 → partsF l n dp d = ⟨true, n + cntL l, max dp (d + dptL l - 1), 0⟩) ∧
    (∀ n dp d, n ≤ 16384 → d ≤ 65 → (partsF l n dp d).ok = true → (∀ y, y ∈ l → Near y) ∧ n + cntL l ≤ 16384 ∧ d + dptL l - 1 ≤ 64 ∧ (partsF l n dp d).n = n + cntL l) ∧
    (∀ n dp d, (∀ y, y ∈ l → Near y) → (partsF l n dp d).ok = false → (partsF l n dp d).why = 2) := by
  induction l with
  | nil =>
    refine ⟨fun n dp d _ hd _ _ => ?_, fun n dp d hn hd _ => ?_, fun n dp d _ hk => ?_⟩
    · rw [partsF_nil, cntL, dptL]; congr 1 <;> omega
    · rw [partsF_nil, cntL, dptL]; exact ⟨by simp, by omega, by omega, by simp⟩
    · rw [partsF_nil] at hk; cases hk
  | cons x r ih =>
    have hx := h x (by simp)
    obtain ⟨i1, i2, i3⟩ := ih (fun y hy => h y (by simp [hy]))
    have hp := cnt_pos x
    have hr : 0 ≤ cntL r ∧ 0 ≤ dptL r := by
      clear i1 i2 i3 ih h hx
      induction r with
      | nil => simp [cntL, dptL]
      | cons y q ihq => have := cnt_pos y; simp only [cntL, dptL]; omega
    refine ⟨fun n dp d hnr hd hn hdd => ?_, fun n dp d hn hd hk => ?_, fun n dp d hnr hk => ?_⟩
    · rw [cntL] at hn ⊢
      rw [dptL] at hdd ⊢
      have e := hx.yes n dp d (hnr x (by simp)) hd (by omega) (by omega)
      rw [partsF_cons, e, if_pos rfl]
      rw [i1 _ _ d (fun y hy => hnr y (by simp [hy])) (by simp only; omega) (by simp only; omega) (by omega)]
      congr 1
      · simp only; omega
      · simp only; omega
    · rw [partsF_cons] at hk ⊢
      cases hk1 : (partF x n dp d).ok with
      | false => rw [if_neg (by simp [hk1])] at hk; rw [hk1] at hk; cases hk
      | true =>
        rw [if_pos hk1] at hk
        rw [if_pos rfl]
        obtain ⟨a1, a2, a3, a4⟩ := hx.ok n dp d hk1
        rw [a4] at hk ⊢
        obtain ⟨b1, b2, b3, b4⟩ := i2 _ _ d (by omega) hd hk
        rw [cntL, dptL]
        refine ⟨fun y hy => ?_, by omega, by omega, by omega⟩
        rcases List.mem_cons.1 hy with rfl | hy
        · exact a1
        · exact b1 y hy
    · rw [partsF_cons] at hk ⊢
      cases hk1 : (partF x n dp d).ok with
      | false => rw [if_neg (by simp [hk1])]; exact hx.long n dp d (hnr x (by simp)) hk1
      | true =>
        rw [if_pos hk1] at hk
        rw [if_pos rfl]
        exact i3 _ _ d (fun y hy => hnr y (by simp [hy])) hk
theorem goes (x : V) : Goes x := by
  induction x using V.byParts with
  | _ x ih =>
    obtain ⟨i1, i2, i3⟩ := goes_l ih
    have hp := cnt_pos x
    refine ⟨fun n dp d hnr hd hn hdd => ?_, fun n dp d hk => ?_, fun n dp d hnr hk => ?_⟩
    · rw [partF_eq, if_pos (own_iff.2 ⟨by omega, by omega, hnr.own⟩)]
      rw [cnt_eq] at hn ⊢
      rw [dpt_eq] at hdd ⊢
      have hd0 := hp.2
      rw [dpt_eq] at hd0
      rw [i1 _ _ (d + 1) hnr.part (by omega) (by omega) (by omega)]
      congr 1 <;> omega
    · rw [partF_eq] at hk ⊢
      by_cases ho : ownE x n d = 0
      · rw [if_pos ho] at hk ⊢
        have h0 := own_zero ho
        obtain ⟨b1, b2, b3, b4⟩ := i2 _ _ (d + 1) (by omega) (by omega) hk
        rw [cnt_eq, dpt_eq]
        exact ⟨.mk h0.2.2 b1, by omega, by omega, by omega⟩
      · rw [if_neg ho] at hk; cases hk
    · rw [partF_eq] at hk ⊢
      by_cases ho : ownE x n d = 0
      · rw [if_pos ho] at hk ⊢; exact i3 _ _ _ hnr.part hk
      · rw [if_neg ho]
        have : ownE x n d = farE x := by
          unfold ownE at ho ⊢
          split
          · rfl
          · rename_i hc; rw [if_neg hc] at ho; exact absurd hnr.own ho
        show ownE x n d = 2
        rw [this]; exact near_far hnr.own
/-- Near, and neither too many nor too deep. -/
def Can (x : V) : Prop := Near x ∧ cnt x ≤ 16384 ∧ dpt x ≤ 64
theorem can_ok {x : V} : (partF x 0 0 1).ok = true ↔ Can x := by
  constructor
  · intro h
    obtain ⟨a, b, c, _⟩ := (goes x).ok 0 0 1 h
    exact ⟨a, by omega, by omega⟩
  · rintro ⟨a, b, c⟩
    rw [(goes x).yes 0 0 1 a (by omega) (by omega) (by omega)]
theorem size_can {x : V} (h : Can x) : sizeF x = (cnt x, dpt x, 0) := by
  have hp := cnt_pos x
  unfold sizeF
  rw [if_pos (can_ok.2 h), (goes x).yes 0 0 1 h.1 (by omega) (by have := h.2.1; omega) (by have := h.2.2; omega)]
  simp only [Prod.mk.injEq, and_true]
  omega
theorem check_can {x : V} (h : Can x) : checkF x = (0, 0) := by unfold checkF; rw [if_pos (can_ok.2 h)]
theorem check_cannot {x : V} (h : ¬ Can x) : (checkF x).2 ≠ 0 := by
  unfold checkF
  have hk : (partF x 0 0 1).ok = false := by
    cases hk : (partF x 0 0 1).ok with
    | false => rfl
    | true => exact absurd (can_ok.1 hk) h
  rw [if_neg (by simp [hk])]
  exact (part_facts x 1 0 0).bad hk
theorem size_cannot {x : V} (h : ¬ Can x) : sizeF x = (0, 0, (checkF x).2) ∧ (checkF x).2 ≠ 0 := by
  refine ⟨?_, check_cannot h⟩
  have hk : (partF x 0 0 1).ok = false := by
    cases hk : (partF x 0 0 1).ok with
    | false => rfl
    | true => exact absurd (can_ok.1 hk) h
  unfold sizeF checkF
  rw [if_neg (by simp [hk]), if_neg (by simp [hk])]
theorem size_long {x : V} (hn : Near x) (h : ¬ Can x) : (checkF x).2 = 2 := by
  have hk : (partF x 0 0 1).ok = false := by
    cases hk : (partF x 0 0 1).ok with
    | false => rfl
    | true => exact absurd (can_ok.1 hk) h
  unfold checkF
  rw [if_neg (by simp [hk])]
  exact (goes x).long 0 0 1 hn hk
theorem can_fine {x : V} (h : Can x) : Fine x := ⟨0, 0, 1, can_ok.2 h⟩
theorem eq_t {a : Int} (h : a ≠ 0) : (a == 0) = false := by simpa using h
end Go.Proofs.Ythfdpaboekoncaa
