/- ValueOrders: the document's order is the program's. -/
import Derived.Test.YtiapdjdhaclmnaaN6
namespace Go.Proofs.Ytiapdjdhaclmnaa
open Go Aw
set_option linter.unusedVariables false
set_option linter.unusedSimpArgs false
set_option maxRecDepth 8000
theorem ref01_texts_eq (a b : Str) : p_ref01_texts a b = some (cmpS a b) := value_cmp_string_eq a b
theorem ref01_numbers_eq (a b : Int) : p_ref01_numbers a b = some (c3 a b) := c3_cmp a b
theorem ref01_flag_eq (b : Bool) : p_ref01_flag b = some (trI b) := by cases b <;> rfl
theorem wu_eq (x : Int) : IntKind.u64.wrap x = x % 18446744073709551616 := rfl
theorem wu_in {x : Int} (h0 : 0 ≤ x) (h1 : x < 18446744073709551616) : IntKind.u64.wrap x = x := by rw [wu_eq]; omega
theorem or_top (f : Nat) (h : f < 9223372036854775808) : orK .u64 (f : Int) 9223372036854775808 = (f : Int) + 9223372036854775808 := by
  have e1 : (BitVec.ofInt 64 (f : Int) ||| BitVec.ofInt 64 9223372036854775808).toNat = f + 9223372036854775808 := by
    rw [BitVec.toNat_or]
    have h1 : (BitVec.ofInt 64 (f : Int)).toNat = f := by
      rw [BitVec.toNat_ofInt]; omega
    have h2 : (BitVec.ofInt 64 9223372036854775808).toNat = 9223372036854775808 := rfl
    rw [h1, h2, Nat.or_comm]
    have := Nat.two_pow_add_eq_or_of_lt (i := 63) (b := f) (by omega) 1
    rw [show 2 ^ 63 * 1 = 9223372036854775808 by decide] at this
    omega
  show IntKind.u64.wrap ((BitVec.ofInt 64 (f : Int) ||| BitVec.ofInt 64 9223372036854775808).toNat : Int) = _
  rw [e1, wu_in (by omega) (by omega)]; omega
theorem ref01_place_eq (f : Nat) (h : f < 18446744073709551616) : p_ref01_place f = some (plV f) := by
  have hs : shrK .u64 (f : Int) 63 = (f : Int) / 9223372036854775808 := by
    show (f : Int).fdiv (2 ^ 63) = _
    rw [Int.fdiv_eq_ediv_of_nonneg _ (by decide)]; rfl
  unfold p_ref01_place plV
  rw [hs]
  by_cases hb : (f : Int) ≥ 9223372036854775808
  · rw [decide_eq_true hb, if_pos (by omega)]; rfl
  · rw [decide_eq_false hb, if_neg (by omega), cond_false, or_top f (by omega), wu_in (by omega) (by omega)]
/-- A term whose value can be. -/
structure FT (t : Term) : Prop where
  ok : okT t
  fine : Fine (bu t)
theorem okT_mk (t : Term) : okT t ↔ (inI .i64 t.kind ∧ inI .i64 t.int ∧ t.float < 18446744073709551616 ∧ inI .u64 t.ref ∧ okTs t.list ∧ okEs t.fields ∧ inI .i64 t.ver) := by cases t; rw [okT]; rfl
theorem okTs_mem : ∀ {l : List Term}, okTs l → ∀ t, t ∈ l → okT t
  | x :: r, h, t, ht => by
    rw [okTs] at h
    rcases List.mem_cons.1 ht with rfl | ht
    · exact h.1
    · exact okTs_mem h.2 t ht
theorem okEs_mem : ∀ {l : List (Str × Term)}, okEs l → ∀ t, t ∈ l → okT t.2
  | (s, x) :: r, h, t, ht => by
    rw [okEs] at h
    rcases List.mem_cons.1 ht with rfl | ht
    · exact h.1
    · exact okEs_mem h.2 t ht
theorem bu_kind {t : Term} (h : Fine (bu t)) : kindOf (bu t) = t.kind ∧ 1 ≤ t.kind ∧ t.kind ≤ 10 := by
  have hb := bu_c t
  have hn := h.own.1
  generalize bu t = x at hb hn
  cases hb with
  | nothing hk => simp [nearE] at hn
  | alien hk => simp [nearE] at hn
  | _ hk => rw [hk]; exact ⟨rfl, by decide, by decide⟩
theorem rc_l (a b : Term) (hab : ∀ x, x ∈ a.list → ∀ y, y ∈ b.list → p_ref01_Compare x y = some (ordF (bu x) (bu y))) (ha : a.list.length ≤ 4096) (hb : b.list.length ≤ 4096) :
    ∀ k i, k + i = a.list.length → i ≤ b.list.length → ref01_Compare_l1 p_ref01_Compare a b (i : Int) = some (ordL ((a.list.map bu).drop i) ((b.list.map bu).drop i))
  | 0, i, h, hbi => by
    rw [ref01_Compare_l1_eq]
    simp only [ref01_Compare_l1b, lt_f (by omega : ¬ i < a.list.length), cond_false, ref01_Compare_j1, ref01_numbers_eq, Option.bind_some, wu_in (by omega : 0 ≤ (a.list.length : Int)) (by omega), wu_in (by omega : 0 ≤ (b.list.length : Int)) (by omega)]
    rw [List.drop_of_length_le (by simp; omega : (a.list.map bu).length ≤ i)]
    by_cases hl : a.list.length < b.list.length
    · obtain ⟨y, hy, hd⟩ := dropc (by rw [List.length_map]; omega : i < (b.list.map bu).length)
      rw [hd, ordL, c3_lt.2 (by omega)]
    · rw [List.drop_of_length_le (by simp; omega : (b.list.map bu).length ≤ i), ordL, c3_zero.2 (by omega)]
  | k + 1, i, h, hbi => by
    obtain ⟨x, hx, _⟩ := dropc (by omega : i < a.list.length)
    have hx2 : (a.list.map bu)[i]? = some (bu x) := by rw [List.getElem?_map, hx]; rfl
    obtain ⟨x', hx', hdx⟩ := dropc (by rw [List.length_map]; omega : i < (a.list.map bu).length)
    rw [hx2] at hx'; injection hx' with hx'; subst hx'
    have hw : IntKind.i64.wrap ((i : Int) + 1) = ((i + 1 : Nat) : Int) := by rw [w64_in (by omega) (by omega)]; omega
    rw [ref01_Compare_l1_eq]
    simp only [ref01_Compare_l1b, lt_t (by omega : i < a.list.length), cond_true, ref01_Compare_j1]
    by_cases hl : i < b.list.length
    · obtain ⟨y, hy, _⟩ := dropc hl
      have hy2 : (b.list.map bu)[i]? = some (bu y) := by rw [List.getElem?_map, hy]; rfl
      obtain ⟨y', hy', hdy⟩ := dropc (by rw [List.length_map]; omega : i < (b.list.map bu).length)
      rw [hy2] at hy'; injection hy' with hy'; subst hy'
      rw [lt_t hl, hdx, hdy, ordL]
      simp only [cond_true, idxI_nat, hx, hy, Option.bind_some, hab x (List.mem_of_getElem? hx) y (List.mem_of_getElem? hy), hw, rc_l a b hab ha hb k (i + 1) (by omega) (by omega), th_some]
    · rw [lt_f hl, hdx, List.drop_of_length_le (by simp; omega : (b.list.map bu).length ≤ i), ordL]
      simp only [cond_false, ref01_numbers_eq, Option.bind_some, wu_in (by omega : 0 ≤ (a.list.length : Int)) (by omega), wu_in (by omega : 0 ≤ (b.list.length : Int)) (by omega)]
      unfold c3; rw [if_neg (by omega), if_pos (by omega)]
theorem rd_l (a b : List (Str × Term)) (hab : ∀ x, x ∈ a → ∀ y, y ∈ b → p_ref01_Compare x.2 y.2 = some (ordF (bu x.2) (bu y.2))) (ha : a.length ≤ 4096) (hb : b.length ≤ 4096) :
    ∀ k i, k + i = a.length → i ≤ b.length → ref01_fields_l1 p_ref01_Compare a b (i : Int) = some (ordD ((a.map buE).drop i) ((b.map buE).drop i))
  | 0, i, h, hbi => by
    rw [ref01_fields_l1_eq]
    simp only [ref01_fields_l1b, lt_f (by omega : ¬ i < a.length), cond_false, ref01_fields_j1, ref01_numbers_eq, Option.bind_some, wu_in (by omega : 0 ≤ (a.length : Int)) (by omega), wu_in (by omega : 0 ≤ (b.length : Int)) (by omega)]
    rw [List.drop_of_length_le (by simp; omega : (a.map buE).length ≤ i)]
    by_cases hl : a.length < b.length
    · obtain ⟨y, hy, hd⟩ := dropc (by rw [List.length_map]; omega : i < (b.map buE).length)
      rw [hd, ordD, c3_lt.2 (by omega)]
    · rw [List.drop_of_length_le (by simp; omega : (b.map buE).length ≤ i), ordD, c3_zero.2 (by omega)]
  | k + 1, i, h, hbi => by
    obtain ⟨x, hx, _⟩ := dropc (by omega : i < a.length)
    have hx2 : (a.map buE)[i]? = some (buE x) := by rw [List.getElem?_map, hx]; rfl
    obtain ⟨x', hx', hdx⟩ := dropc (by rw [List.length_map]; omega : i < (a.map buE).length)
    rw [hx2] at hx'; injection hx' with hx'; subst hx'
    have hw : IntKind.i64.wrap ((i : Int) + 1) = ((i + 1 : Nat) : Int) := by rw [w64_in (by omega) (by omega)]; omega
    rw [ref01_fields_l1_eq]
    simp only [ref01_fields_l1b, lt_t (by omega : i < a.length), cond_true, ref01_fields_j1]
    obtain ⟨sx, tx⟩ := x
    by_cases hl : i < b.length
    · obtain ⟨y, hy, _⟩ := dropc hl
      have hy2 : (b.map buE)[i]? = some (buE y) := by rw [List.getElem?_map, hy]; rfl
      obtain ⟨y', hy', hdy⟩ := dropc (by rw [List.length_map]; omega : i < (b.map buE).length)
      rw [hy2] at hy'; injection hy' with hy'; subst hy'
      obtain ⟨sy, ty⟩ := y
      rw [lt_t hl, hdx, hdy]
      simp only [buE]
      rw [ordD]
      simp only [cond_true, idxI_nat, hx, hy, Option.bind_some, ref01_texts_eq, hab _ (List.mem_of_getElem? hx) _ (List.mem_of_getElem? hy), hw, rd_l a b hab ha hb k (i + 1) (by omega) (by omega), th_some, th_assoc]
    · rw [lt_f hl, hdx, List.drop_of_length_le (by simp; omega : (b.map buE).length ≤ i)]
      simp only [buE]
      rw [ordD]
      simp only [cond_false, ref01_numbers_eq, Option.bind_some, wu_in (by omega : 0 ≤ (a.length : Int)) (by omega), wu_in (by omega : 0 ≤ (b.length : Int)) (by omega)]
      unfold c3; rw [if_neg (by omega), if_pos (by omega)]
theorem fields_eq (a b : List (Str × Term)) (hab : ∀ x, x ∈ a → ∀ y, y ∈ b → p_ref01_Compare x.2 y.2 = some (ordF (bu x.2) (bu y.2))) (ha : a.length ≤ 4096) (hb : b.length ≤ 4096) : p_ref01_fields a b = some (ordD (a.map buE) (b.map buE)) := by
  rw [e_ref01_fields, b_ref01_fields]
  exact rd_l a b hab ha hb a.length 0 (by omega) (by omega)
theorem c3_int {i j : Int} (hi : inI .i64 i) (hj : inI .i64 j) : c3 (IntKind.u64.wrap (IntKind.u64.wrap i + 9223372036854775808)) (IntKind.u64.wrap (IntKind.u64.wrap j + 9223372036854775808)) = c3 i j := by
  have h : ∀ {i : Int}, inI .i64 i → IntKind.u64.wrap (IntKind.u64.wrap i + 9223372036854775808) = i + 9223372036854775808 := by
    intro i hi
    have h1 : -9223372036854775808 ≤ i ∧ i ≤ 9223372036854775807 := hi
    rw [wu_eq, wu_eq]; omega
  rw [h hi, h hj, c3_shift]
theorem ne_eqb {a b : Int} (h : a = b) : (a != b) = false := by simp [h]
theorem ref01_Compare_eq (a : Term) : ∀ b, FT a → FT b → p_ref01_Compare a b = some (ordF (bu a) (bu b)) := by
  induction a using Term.byParts with
  | _ a ih =>
  intro b ha hb
  have ka := bu_kind ha.fine
  have kb := bu_kind hb.fine
  have oa := (okT_mk a).1 ha.ok
  have ob := (okT_mk b).1 hb.ok
  have pa := ha.fine.own.2
  have pb := hb.fine.own.2
  rw [e_ref01_Compare, b_ref01_Compare]
  by_cases hk : a.kind = b.kind
  · rw [ne_eqb hk, cond_false]
    have hca := bu_c a
    have hcb := bu_c b
    have na := ha.fine.own.1
    have nb := hb.fine.own.1
    have hpt : ∀ t : Term, ∀ k : Int, t.kind = k → (k = 9 ∨ k = 10) → partsT t = t.fields.map (·.2) := by
      intro t k h1 h2; unfold partsT; rw [if_neg (by omega), if_pos (by omega)]
    have hpl : ∀ t : Term, t.kind = 8 → partsT t = t.list := by intro t h1; unfold partsT; rw [if_pos h1]
    have sub1 : ∀ (t u : Term), FT t → okT u → bu u ∈ (bu t).parts → FT u := fun t u ht hu hm => ⟨hu, ht.fine.own.2 _ hm⟩
    have fld : (a.kind = 9 ∨ a.kind = 10) → ∀ x, x ∈ a.fields → ∀ y, y ∈ b.fields → p_ref01_Compare x.2 y.2 = some (ordF (bu x.2) (bu y.2)) := by
      intro h x hx y hy
      have hxa : x.2 ∈ partsT a := by rw [hpt a _ rfl h]; exact List.mem_map_of_mem hx
      have hyb : y.2 ∈ partsT b := by rw [hpt b _ rfl (by omega)]; exact List.mem_map_of_mem hy
      exact ih x.2 hxa y.2 (sub1 a x.2 ha (okEs_mem oa.2.2.2.2.2.1 x hx) (by rw [← partsT_bu]; exact List.mem_map_of_mem hxa)) (sub1 b y.2 hb (okEs_mem ob.2.2.2.2.2.1 y hy) (by rw [← partsT_bu]; exact List.mem_map_of_mem hyb))
    have lst : a.kind = 8 → ∀ x, x ∈ a.list → ∀ y, y ∈ b.list → p_ref01_Compare x y = some (ordF (bu x) (bu y)) := by
      intro h x hx y hy
      have hxa : x ∈ partsT a := by rw [hpl a h]; exact hx
      have hyb : y ∈ partsT b := by rw [hpl b (by omega)]; exact hy
      exact ih x hxa y (sub1 a x ha (okTs_mem oa.2.2.2.2.1 x hx) (by rw [← partsT_bu]; exact List.mem_map_of_mem hxa)) (sub1 b y hb (okTs_mem ob.2.2.2.2.1 y hy) (by rw [← partsT_bu]; exact List.mem_map_of_mem hyb))
    generalize bu a = x at hca na ka
    generalize bu b = y at hcb nb kb
    clear pa pb sub1
    cases hca with
    | nothing h1 => simp [nearE] at na
    | alien h1 => simp [nearE] at na
    | nil h1 => cases hcb <;> first | (exfalso; omega) | (simp only [h1]; rw [ordF]; rfl)
    | bool h1 => cases hcb <;> first | (exfalso; omega) | (simp only [h1, ref01_flag_eq, ref01_numbers_eq, Option.bind_some]; rw [ordF]; rfl)
    | int h1 => cases hcb <;> first | (exfalso; omega) | (simp only [h1, ref01_numbers_eq, Option.bind_some, c3_int oa.2.1 ob.2.1]; rw [ordF]; rfl)
    | float h1 => cases hcb <;> first | (exfalso; omega) | (simp only [h1, ref01_place_eq _ oa.2.2.1, ref01_place_eq _ ob.2.2.1, ref01_numbers_eq, Option.bind_some]; rw [ordF]; rfl)
    | text h1 => cases hcb <;> first | (exfalso; omega) | (simp only [h1, ref01_texts_eq, Option.bind_some]; rw [ordF]; rfl)
    | bytes h1 => cases hcb <;> first | (exfalso; omega) | (simp only [h1, ref01_texts_eq, Option.bind_some]; rw [ordF]; rfl)
    | ref h1 => cases hcb <;> first | (exfalso; omega) | (simp only [h1, ref01_numbers_eq, Option.bind_some]; rw [ordF]; rfl)
    | list h1 =>
      cases hcb <;> first
        | (exfalso; omega)
        | (have la := near_list na; have lb := near_list nb
           rw [List.length_map] at la lb
           have hl := rc_l a b (lst h1) la lb a.list.length 0 (by omega) (by omega)
           have hl0 : ref01_Compare_l1 p_ref01_Compare a b 0 = some (ordL (a.list.map bu) (b.list.map bu)) := hl
           simp only [h1, hl0]; rw [ordF]; rfl)
    | dict h1 =>
      cases hcb <;> first
        | (exfalso; omega)
        | (have la := near_dict na; have lb := near_dict nb
           rw [List.length_map] at la lb
           simp only [h1, fields_eq a.fields b.fields (fld (Or.inl h1)) la lb, Option.bind_some]; rw [ordF]; rfl)
    | record h1 =>
      cases hcb <;> first
        | (exfalso; omega)
        | (have la := near_rec na; have lb := near_rec nb
           rw [List.length_map] at la lb
           simp only [h1, ref01_texts_eq, fields_eq a.fields b.fields (fld (Or.inr h1)) la.2 lb.2, Option.bind_some, ref01_numbers_eq, wu_in (by omega : 0 ≤ a.ver) (by omega), wu_in (by omega : 0 ≤ b.ver) (by omega)]
           rw [ordF]
           have hv : (bif (a.ver != b.ver) then some (c3 a.ver b.ver) else some (ordD (a.fields.map buE) (b.fields.map buE))) = some (th (c3 a.ver b.ver) (ordD (a.fields.map buE) (b.fields.map buE))) := by
             rw [← th_some]
             by_cases he : a.ver = b.ver
             · rw [ne_eqb he, c3_zero.2 he]; rfl
             · have h2 : (a.ver != b.ver) = true := by simpa using he
               have h3 : (c3 a.ver b.ver != 0) = true := ne_t (fun e => he (c3_zero.1 e))
               rw [h2, h3]
           rw [hv, th_some]; rfl)
  · have h1 : (a.kind != b.kind) = true := by simpa using hk
    rw [h1, cond_true, ref01_numbers_eq, wu_in (by omega) (by omega), wu_in (by omega) (by omega), ordF_ne (by omega), ka.1, kb.1]; rfl
end Go.Proofs.Ytiapdjdhaclmnaa
