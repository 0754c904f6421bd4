/- The law on what is joined. -/
import Derived.Test.YtigadhiciinicaaW10
import Derived.Test.YtigadhiciinicaaNR
namespace Go.Proofs.Ytigadhiciinicaa
open Go Aw
set_option linter.unusedVariables false
set_option linter.unusedSimpArgs false
set_option maxRecDepth 8000
noncomputable def goodT (l : List Term) : List V := (l.filter fun t => (checkF (bu t)).2 == 0).map bu
theorem good_in {l : List Term} {x : V} (h : x ∈ goodT l) : ∃ t, t ∈ l ∧ x = bu t ∧ Can x := by
  unfold goodT at h
  obtain ⟨t, h1, rfl⟩ := List.mem_map.1 h
  obtain ⟨h2, h3⟩ := List.mem_filter.1 h1
  exact ⟨t, h2, rfl, can_check (by simpa using h3)⟩
theorem good_yes {l : List Term} {i : Nat} {t : Term} (h : l[i]? = some t) (hc : Can (bu t)) : goodT (l.drop i) = bu t :: goodT (l.drop (i + 1)) := by
  obtain ⟨hi, rfl⟩ := List.getElem?_eq_some_iff.1 h
  rw [List.drop_eq_getElem_cons hi]
  unfold goodT
  rw [List.filter_cons_of_pos (by simp [check_can hc]), List.map_cons]
theorem good_no {l : List Term} {i : Nat} {t : Term} (h : l[i]? = some t) (hc : ¬ Can (bu t)) : goodT (l.drop i) = goodT (l.drop (i + 1)) := by
  obtain ⟨hi, rfl⟩ := List.getElem?_eq_some_iff.1 h
  rw [List.drop_eq_getElem_cons hi]
  unfold goodT
  rw [List.filter_cons_of_neg (by have := check_cannot hc; simpa using this)]
theorem encL_app (a b : List V) : encL (a ++ b) = encL a ++ encL b := by
  induction a with
  | nil => rw [encL]; rfl
  | cons x r ih => rw [List.cons_append, encL, encL, ih, List.append_assoc]
theorem all_l {b : Str} (hb : b.length ≤ 1099511627776) : ∀ (L acc : List V) (k : Nat), (∀ x, x ∈ L → Can x ∧ okV x) → Sx b k (encL L) → acc.length + L.length ≤ 1073741824 → wire_All_l1 b acc (k : Int) = some (acc ++ L, ((b.length : Nat) : Int), 0)
  | [], acc, k, h, hs, hl => by
    have := hs.len
    simp only [encL, List.length_nil] at this
    rw [wire_All_l1_eq]
    simp only [wire_All_l1b]
    rw [decide_eq_false (by omega), cond_false, List.append_nil, show k = b.length by omega]
  | x :: r, acc, k, h, hs, hl => by
    obtain ⟨hc, hok⟩ := h x (by simp)
    have h1 := hs.len
    have hp := enc_pos x
    rw [encL] at hs h1
    rw [List.length_append] at h1
    rw [List.length_cons] at hl
    have hg := hs.go rfl
    obtain ⟨v', e1, _, e2⟩ := read_ok (mk := true) hs hb (val_enc hc hok _)
    rw [wire_All_l1_eq]
    simp only [wire_All_l1b]
    rw [decide_eq_true (by omega), cond_true, e2, Option.bind_some, e1 rfl]
    simp only [show ((0 : Int) != 0) = false from rfl, cond_false]
    rw [app1 (by omega) (by omega), Option.bind_some, show b.length - (encL r).length = k + (enc x).length by omega, all_l hb r (acc ++ [x]) _ (fun y hy => h y (by simp [hy])) hg (by simp only [List.length_append, List.length_cons, List.length_nil]; omega)]
    simp
theorem good_len : ∀ (l : List Term), (∀ t, t ∈ l → Bt t) → (encL (goodT l)).length ≤ 4 * bkTs l ∧ (goodT l).length ≤ l.length
  | [], _ => by simp [goodT, encL]
  | x :: r, h => by
    have hr := good_len r (fun t ht => h t (by simp [ht]))
    have hx := (h x (by simp)).len
    rw [bkTs, List.length_cons]
    unfold goodT at hr ⊢
    cases hk : ((checkF (bu x)).2 == 0) with
    | true => rw [List.filter_cons_of_pos (by simpa using hk), List.map_cons, encL, List.length_append, List.length_cons]; omega
    | false => rw [List.filter_cons_of_neg (by simp [hk])]; omega
theorem join_2 {a0 : List Term} {s : Str} {x : List V × Int × Int} (hx : x.1 = goodT a0) (hs : s = encL (goodT a0)) (hn : a0.length ≤ 1073741824) (hl : s.length ≤ 1073741824) (hb : ∀ t, t ∈ a0 → Bt t ∧ bkT t ≤ 268435456) : ∀ (k i j m : Nat), k + i = a0.length → (goodT a0).drop m = goodT (a0.drop i) → Sx s j (encL (goodT (a0.drop i))) → m ≤ i → law03_WireJoined_l2 a0 s x (j : Int) (m : Int) i = some true
  | 0, i, j, m, hk, hm, hj, hmi => by
    rw [law03_WireJoined_l2_eq]
    simp only [law03_WireJoined_l2b, lt_f (by omega : ¬ i < a0.length), cond_false]
    have hc : Can (.text [97] : V) := ⟨.mk rfl (fun y hy => by cases hy), by decide, by decide⟩
    rw [List.drop_of_length_le (by omega)] at hj
    have h1 := hj.len
    simp only [goodT, List.filter_nil, List.map_nil, encL, List.length_nil] at h1
    have he : enc (.text [97]) = [5, 1, 97] := by
      rw [enc, show ([97] : Str).length = 1 from rfl, num]; rfl
    rw [encode_can hc (by trivial) (by rw [he]; decide), Option.bind_some, show j = s.length by omega, he]
    simp only [beq_self_eq_true, cond_true]
    rfl
  | k + 1, i, j, m, hk, hm, hj, hmi => by
    have hi : i < a0.length := by omega
    obtain ⟨t, ht, _⟩ := dropc hi
    obtain ⟨hbt, hbk⟩ := hb t (List.mem_of_getElem? ht)
    rw [law03_WireJoined_l2_eq]
    simp only [law03_WireJoined_l2b, lt_t hi, cond_true, ht, Option.bind_some]
    rw [ref01_Check_eq t hbk, Option.bind_some]
    by_cases hc : Can (bu t)
    · rw [check_can hc]
      simp only [show ((0 : Int) != 0) = false from rfl, cond_false]
      rw [good_yes ht hc] at hm hj
      rw [encL] at hj
      have h1 := hj.len
      rw [List.length_append] at h1
      have hp := enc_pos (bu t)
      have hg := hj.go rfl
      have hcut : cutO s (j : Int) ((s.length : Nat) : Int) = some (s.drop j) := by
        unfold cutO
        rw [decide_eq_true (by omega), decide_eq_true (by omega), decide_eq_true (by omega)]
        simp only [Bool.and_self, cond_true, Int.toNat_natCast, Option.some.injEq]
        rw [List.take_of_length_le (Nat.le_refl _)]
      have hd := hj.2
      have hdl : (s.drop j).length ≤ 1099511627776 := by rw [List.length_drop]; omega
      have hv := val_enc hc hbt.ok (encL (goodT (a0.drop (i + 1))))
      rw [← hd] at hv
      have hidx : idxI x.1 (m : Int) = some (bu t) := by
        rw [idxI_nat, hx]
        have := congrArg List.head? hm
        rw [List.head?_drop] at this
        simpa using this
      rw [hcut, Option.bind_some, app0 (by omega) (by rw [List.length_drop]; omega), Option.bind_some, skip_ok hdl hv, Option.bind_some]
      simp only [show ((0 : Int) != 0) = false from rfl, cond_false]
      rw [show (s.drop j).length - (encL (goodT (a0.drop (i + 1)))).length = (enc (bu t)).length by rw [List.length_drop]; omega]
      rw [decide_eq_false (by omega), cond_false, hidx, Option.bind_some, is_built rfl hc, Option.bind_some]
      simp only [law03_WireJoined_j4, Bool.not_true, cond_false, law03_WireJoined_j3]
      rw [w64_in (by omega) (by omega), w64_in (by omega) (by omega), show ((j : Nat) : Int) + (((enc (bu t)).length : Nat) : Int) = ((j + (enc (bu t)).length : Nat) : Int) by omega, show ((m : Nat) : Int) + 1 = ((m + 1 : Nat) : Int) by omega]
      refine join_2 hx hs hn hl hb k (i + 1) _ _ (by omega) ?_ hg (by omega)
      rw [← List.drop_drop, hm]; rfl
    · rw [ne_t (check_cannot hc), cond_true]
      simp only [law03_WireJoined_j3]
      rw [good_no ht hc] at hm hj
      exact join_2 hx hs hn hl hb k (i + 1) _ _ (by omega) hm hj (by omega)
theorem join_1 {a0 : List Term} (hn : a0.length ≤ 1073741824) (hl : (encL (goodT a0)).length ≤ 1073741824) (hb : ∀ t, t ∈ a0 → Bt t ∧ bkT t ≤ 268435456) : ∀ (k i m : Nat) (s : Str), k + i = a0.length → s ++ encL (goodT (a0.drop i)) = encL (goodT a0) → m + (goodT (a0.drop i)).length = (goodT a0).length → m ≤ i → law03_WireJoined_l1 a0 s (m : Int) i = some true
  | 0, i, m, s, hk, hs, hm, hmi => by
    have hd : goodT (a0.drop i) = [] := by rw [List.drop_of_length_le (by omega)]; rfl
    rw [hd] at hs hm
    rw [encL, List.append_nil] at hs
    rw [List.length_nil] at hm
    rw [law03_WireJoined_l1_eq]
    simp only [law03_WireJoined_l1b, lt_f (by omega : ¬ i < a0.length), cond_false]
    have hgl := (good_len a0 (fun t ht => (hb t ht).1)).2
    rw [app0 (by omega) (by rw [hs]; omega), Option.bind_some]
    have hal := all_l (b := s) (by rw [hs]; omega) (goodT a0) [] 0 (fun x hx => by obtain ⟨t, h1, rfl, h3⟩ := good_in hx; exact ⟨h3, (hb t h1).1.ok⟩) (by rw [hs]; exact sx0 _) (by simp; omega)
    have hal : p_wire_All s = _ := hal
    rw [hal, Option.bind_some]
    simp only [show ((0 : Int) != 0) = false from rfl, cond_false, List.nil_append]
    rw [show (((s.length : Nat) : Int) != ((s.length : Nat) : Int)) = false by simp, cond_false, show ((((goodT a0).length : Nat) : Int) != (m : Int)) = false by simp; omega]
    simp only [law03_WireJoined_j2, cond_false]
    exact join_2 rfl hs hn (by rw [hs]; exact hl) hb a0.length 0 0 0 (by omega) rfl (by rw [List.drop_zero, hs]; exact sx0 _) (Nat.le_refl _)
  | k + 1, i, m, s, hk, hs, hm, hmi => by
    have hi : i < a0.length := by omega
    obtain ⟨t, ht, _⟩ := dropc hi
    obtain ⟨hbt, hbk⟩ := hb t (List.mem_of_getElem? ht)
    have hlen := hbt.len
    rw [law03_WireJoined_l1_eq]
    simp only [law03_WireJoined_l1b, lt_t hi, cond_true, ht, Option.bind_some]
    rw [mk_Built_eq t (by omega), Option.bind_some]
    by_cases hc : Can (bu t)
    · rw [good_yes ht hc] at hs hm
      rw [encL] at hs
      rw [List.length_cons] at hm
      have hsl := congrArg List.length hs
      simp only [List.length_append] at hsl
      rw [encode_can hc hbt.ok (by omega), Option.bind_some]
      simp only [beq_self_eq_true, cond_true]
      rw [appW (by omega), Option.bind_some]
      simp only [law03_WireJoined_j1]
      rw [w64_in (by omega) (by omega), show ((m : Nat) : Int) + 1 = ((m + 1 : Nat) : Int) by omega]
      exact join_1 hn hl hb k (i + 1) _ _ (by omega) (by rw [List.append_assoc]; exact hs) (by omega) (by omega)
    · rw [good_no ht hc] at hs hm
      rw [encode_not hc, Option.bind_some]
      simp only [eq_t (check_cannot hc), cond_false, law03_WireJoined_j1]
      exact join_1 hn hl hb k (i + 1) _ _ (by omega) hs hm (by omega)
theorem plain_WireJoined (a0 : List Term) (h : (a0.map bkT).sum + 1 ≤ 1048576) (ok0 : ∀ a, a ∈ a0 → okT a) : p_law03_WireJoined a0 = some true := by
  rw [← bkTs_eq] at h
  have hb : ∀ t, t ∈ a0 → Bt t ∧ bkT t ≤ 268435456 := fun t ht => by
    have := bkTs_mem ht
    exact ⟨bt t (ok0 t ht) (by omega), by omega⟩
  have h1 := good_len a0 (fun t ht => (hb t ht).1)
  have h2 := bkTs_len a0
  exact join_1 (by omega) (by omega) hb a0.length 0 0 [] (by omega) rfl (by simp) (Nat.le_refl _)
end Go.Proofs.Ytigadhiciinicaa
