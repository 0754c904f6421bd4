/- The law on values one behind the other. -/
import Derived.Test.YtigadhiciinicaaW17
namespace Go.Proofs.Ytigadhiciinicaa
open Go Aw
set_option linter.unusedVariables false
set_option linter.unusedSimpArgs false
set_option maxRecDepth 8000
/-! ### places are within -/
def Pl {α : Type} (N : Nat) (o : Rs α) : Prop := ∀ p w, o = .bad p w → p ≤ N
theorem pl_bind {α β : Type} {N : Nat} {o : Rs α} {f : α → Str → Rs β} (h : Pl N o) (hf : ∀ x r, o = .ok x r → Pl N (f x r)) : Pl N (o.bind f) := by
  cases o with
  | ok x r => exact hf x r rfl
  | bad p w => intro p' w' e; exact h p' w' (by rw [Rs.bind] at e; injection e with e1 e2; rw [e1, e2])
theorem pl_ok {α : Type} {N : Nat} {x : α} {r : Str} : Pl N (.ok x r) := fun p w h => by cases h
theorem pl_bad {α : Type} {N p : Nat} {w : Int} (hp : p ≤ N) : Pl N (.bad p w : Rs α) := fun p' w' h => by injection h with h _; omega
theorem pl_if {α : Type} {N : Nat} {c : Prop} [Decidable c] {a b : Rs α} (ha : Pl N a) (hb : Pl N b) : Pl N (if c then a else b) := by split <;> assumption
theorem pl_le {α : Type} {N M : Nat} {o : Rs α} (h : Pl N o) (hm : N ≤ M) : Pl M o := fun p w e => Nat.le_trans (h p w e) hm
theorem numS_pl {N : Nat} (fr : Nat) (hfr : fr ≤ N) : ∀ (j i acc : Nat) (r : Str), Pl N (numS fr j i acc r)
  | 0, i, acc, r => pl_bad (Nat.zero_le _)
  | j + 1, i, acc, [] => pl_bad (Nat.zero_le _)
  | j + 1, i, acc, c :: r => pl_if (pl_bad hfr) (pl_if pl_ok (numS_pl fr hfr j (i + 1) _ r))
theorem nmS_pl (r : Str) : Pl r.length (nmS r) := numS_pl _ (Nat.le_refl _) 10 0 0 r
theorem takeS_pl {N : Nat} (n : Nat) (r : Str) : Pl N (takeS n r) := pl_if (pl_bad (Nat.zero_le _)) pl_ok
theorem mostS_pl {N : Nat} {a l : Nat} {r : Str} (ha : a ≤ N) (hr : r.length ≤ N) : Pl N (mostS a l r) := pl_bind (pl_le (nmS_pl r) hr) fun _ _ _ => pl_if (pl_bad ha) pl_ok
theorem nameS_pl {N : Nat} {a : Nat} {r : Str} (ha : a ≤ N) (hr : r.length ≤ N) : Pl N (nameS a r) := pl_bind (pl_le (nmS_pl r) hr) fun _ _ _ => pl_if (pl_bad ha) (pl_bind (takeS_pl _ _) fun _ _ _ => pl_if pl_ok (pl_bad ha))
def PlF (f : Nat → Str → Rs (V × Nat)) : Prop := ∀ n r, Pl r.length (f n r)
theorem items_pl {N : Nat} {f : Nat → Str → Rs (V × Nat)} (hf : PlF f) (hl : ∀ n, Le (f n)) : ∀ k n r, r.length ≤ N → Pl N (itemsS f k n r)
  | 0, n, r, _ => pl_ok
  | k + 1, n, r, h => pl_bind (pl_le (hf n r) h) fun x r1 e => pl_bind (items_pl hf hl k x.2 r1 (Nat.le_trans (hl n _ _ _ e) h)) fun _ _ _ => pl_ok
theorem flds_pl {N : Nat} {f : Nat → Str → Rs (V × Nat)} (hf : PlF f) (hl : ∀ n, Le (f n)) {a : Nat} (ha : a ≤ N) : ∀ k last n r, r.length ≤ N → Pl N (fldsS f a k last n r)
  | 0, last, n, r, _ => pl_ok
  | k + 1, last, n, r, h => pl_bind (nameS_pl ha h) fun s r1 e => pl_if (pl_bad ha) (pl_bind (pl_le (hf n r1) (Nat.le_trans (nameS_le a _ _ _ e) h)) fun x r2 e2 => pl_bind (flds_pl hf hl ha k s x.2 r2 (Nat.le_trans (hl n _ _ _ e2) (Nat.le_trans (nameS_le a _ _ _ e) h))) fun _ _ _ => pl_ok)
theorem boolS_pl (n : Nat) : ∀ r, Pl r.length (boolS n r)
  | [] => pl_bad (Nat.zero_le _)
  | c :: r => pl_if (pl_bad (by simp)) pl_ok
theorem valS_pl : ∀ d, PlF (valS d)
  | 0, n, [] => pl_bad (Nat.zero_le _)
  | d + 1, n, [] => pl_bad (Nat.zero_le _)
  | 0, n, c :: r => pl_bad (by simp)
  | d + 1, n, c :: r => by
    have hf := valS_pl d
    have hl := valS_le d
    have hN : r.length ≤ (c :: r).length := by simp
    have hp : r.length + 1 ≤ (c :: r).length := by simp
    rw [valS]
    refine pl_if (pl_bad hp) (pl_if (pl_bad hp) ?_)
    unfold bodyS
    have hn := pl_le (nmS_pl r) hN
    refine pl_if (pl_le (boolS_pl _ _) hN) (pl_if (pl_bind hn fun _ _ _ => pl_ok) (pl_if (pl_bind (takeS_pl _ _) fun _ _ _ => pl_ok) (pl_if (pl_bind (mostS_pl hp hN) fun _ _ _ => pl_bind (takeS_pl _ _) fun _ _ _ => pl_ok) (pl_if (pl_bind (mostS_pl hp hN) fun _ _ _ => pl_bind (takeS_pl _ _) fun _ _ _ => pl_ok) (pl_if (pl_bind hn fun _ _ _ => pl_ok) ?_)))))
    refine pl_if (pl_bind (mostS_pl hp hN) fun _ _ e => pl_bind (items_pl hf hl _ _ _ (Nat.le_trans (mostS_le _ _ _ _ _ e) hN)) fun _ _ _ => pl_ok) (pl_if (pl_bind (mostS_pl hp hN) fun _ _ e => pl_bind (flds_pl hf hl hp _ _ _ _ (Nat.le_trans (mostS_le _ _ _ _ _ e) hN)) fun _ _ _ => pl_ok) (pl_if ?_ pl_ok))
    refine pl_bind (nameS_pl hp hN) fun _ r1 e1 => ?_
    have h1 := Nat.le_trans (nameS_le _ _ _ _ e1) hN
    refine pl_bind (pl_le (nmS_pl r1) h1) fun _ r2 e2 => pl_if (pl_bad hp) ?_
    have h2 := Nat.le_trans (nmS_le _ _ _ e2) h1
    refine pl_bind (mostS_pl hp h2) fun _ r3 e3 => ?_
    have h3 := Nat.le_trans (mostS_le _ _ _ _ _ e3) h2
    exact pl_bind (flds_pl hf hl hp _ _ _ _ h3) fun _ _ _ => pl_ok
/-! ### decoding, all -/
theorem decode3_ok {b r' : Str} {v : V} {n : Nat} (hb : b.length ≤ 1099511627776) (h : valS 64 0 b = .ok (v, n) r') : r'.length ≤ b.length ∧ p_ref03_Decode b = some (cl v, ((b.length - r'.length : Nat) : Int), 0) := by
  have h1 := term3 hb 64 (Nat.le_refl _) 0 0 b (sx0 b) (by omega)
  rw [h] at h1
  obtain ⟨a, h2, k', h3, h4, rfl⟩ := h1
  have hl := h3.len
  refine ⟨by omega, ?_⟩
  have h2 : p_ref03_reading_term ⟨b, 0, 0, 0, 0⟩ 1 = _ := h2
  simp only [p_ref03_Decode]
  rw [h2, Option.bind_some]
  have : k' = b.length - r'.length := by omega
  rw [← this]; rfl
theorem decode3_bad {b : Str} {p : Nat} {w : Int} (hb : b.length ≤ 1099511627776) (h : valS 64 0 b = .bad p w) : p_ref03_Decode b = some (t0 0, ((b.length - p : Nat) : Int), w) := by
  have h1 := term3 hb 64 (Nat.le_refl _) 0 0 b (sx0 b) (by omega)
  rw [h] at h1
  obtain ⟨hw, a, h2, h3, h4⟩ := h1
  have h2 : p_ref03_reading_term ⟨b, 0, 0, 0, 0⟩ 1 = _ := h2
  simp only [p_ref03_Decode]
  rw [h2, Option.bind_some, h4, ne_t hw, cond_true, h3]
theorem alls {b : Str} (hb : b.length ≤ 1073741824) : ∀ (N : Nat) (acc : List V) (k : Nat) (r : Str), r.length ≤ N → Sx b k r → acc.length ≤ k → (∀ x, x ∈ acc → Can x) →
    ∃ l p w, wire_All_l1 b acc (k : Int) = some (l, p, w) ∧ ref03_All_l1 b (acc.map cl) (k : Int) = some (l.map cl, p, w) ∧ ∀ x, x ∈ l → Can x
  | N, acc, k, [], hN, hs, hk, hc => by
    have hl := hs.len
    simp only [List.length_nil] at hl
    refine ⟨acc, ((k : Nat) : Int), 0, ?_, ?_, hc⟩
    · rw [wire_All_l1_eq]
      simp only [wire_All_l1b]
      rw [decide_eq_false (by omega), cond_false]
    · rw [ref03_All_l1_eq]
      simp only [ref03_All_l1b]
      rw [decide_eq_false (by omega), cond_false, show b.length = k by omega]
  | 0, acc, k, c :: q, hN, hs, hk, hc => by simp at hN
  | N + 1, acc, k, c :: q, hN, hs, hk, hc => by
    have hl := hs.len
    have hlt : k < b.length := by rw [List.length_cons] at hl; omega
    generalize hr : c :: q = r at hN hs hl
    have hrl : r.length ≤ 1099511627776 := by omega
    have hcut : cutO b (k : Int) ((b.length : Nat) : Int) = some r := by
      unfold cutO
      rw [decide_eq_true (by omega), decide_eq_true (by omega), decide_eq_true (by omega)]
      simp only [Bool.and_self, cond_true, Int.toNat_natCast, Option.some.injEq]
      rw [List.take_of_length_le (Nat.le_refl _), hs.2]
    rw [wire_All_l1_eq, ref03_All_l1_eq]
    simp only [wire_All_l1b, ref03_All_l1b]
    rw [decide_eq_true (by omega), cond_true, cond_true, hcut, Option.bind_some]
    cases hv : valS 64 0 r with
    | bad p w =>
      have hp := valS_pl 64 0 r p w hv
      have hw := valS_nm _ _ _ _ _ hv
      rw [read_bad (mk := true) hs (by omega) hv, decode3_bad hrl hv, Option.bind_some, Option.bind_some]
      simp only [ne_t hw, cond_true]
      refine ⟨[], _, w, rfl, ?_, fun x hx => by cases hx⟩
      rw [w64_in (by omega) (by omega), show (k : Int) + ((r.length - p : Nat) : Int) = ((b.length - p : Nat) : Int) by omega]; rfl
    | ok x r' =>
      obtain ⟨v, n⟩ := x
      obtain ⟨hcv, hok, he⟩ := val_can hv
      have hpos := enc_pos v
      have hel := congrArg List.length he
      rw [List.length_append] at hel
      obtain ⟨v', e1, _, e2⟩ := read_ok (mk := true) hs (by omega) hv
      have e1 := e1 rfl
      subst e1
      obtain ⟨_, e3⟩ := decode3_ok hrl hv
      rw [e2, e3, Option.bind_some, Option.bind_some]
      simp only [show ((0 : Int) != 0) = false from rfl, cond_false]
      rw [app1 (by omega) (by omega), app1 (by omega) (by rw [List.length_map]; omega), Option.bind_some, Option.bind_some, w64_in (by omega) (by omega),
        show b.length - r'.length = k + (enc v').length by omega, show (k : Int) + ((r.length - r'.length : Nat) : Int) = ((k + (enc v').length : Nat) : Int) by omega]
      have hg := hs.go he
      have := alls hb N (acc ++ [v']) (k + (enc v').length) r' (by omega) hg (by simp only [List.length_append, List.length_cons, List.length_nil]; omega) (fun x hx => by
        rcases List.mem_append.1 hx with hx | hx
        · exact hc x hx
        · rw [List.mem_singleton.1 hx]; exact hcv)
      rw [List.map_append] at this
      exact this
/-! ### lent and kept -/
def lentT : Nat → Nat → Str
  | 0, _ => []
  | k + 1, i => UInt8.ofNat (171 + i) :: lentT k (i + 1)
theorem lent_l (a : Str) (ha : a.length ≤ 1048576) : ∀ (k i : Nat) (s : Str), k + i = 32 → s.length = a.length + i → s.take a.length = a → (∀ j, a.length ≤ j → j < s.length → s[j]? = some (UInt8.ofNat (171 + (j - a.length)))) →
    ∃ t, law03_lent_l1 a s (i : Int) = some (a, t) ∧ t.take a.length = a ∧ (∀ j, a.length ≤ j → j < t.length → t[j]? = some (UInt8.ofNat (171 + (j - a.length)))) ∧ t.length = a.length + 32
  | 0, i, s, hk, hl, ht, hj => by
    rw [law03_lent_l1_eq]
    simp only [law03_lent_l1b]
    rw [decide_eq_false (by omega), cond_false]
    have hcut : cutO s 0 ((a.length : Nat) : Int) = some a := by
      unfold cutO
      rw [decide_eq_true (by omega), decide_eq_true (by omega), decide_eq_true (by omega)]
      simp only [Bool.and_self, cond_true, Int.toNat_natCast, Option.some.injEq]
      rw [ht]; rfl
    rw [hcut, Option.bind_some]
    exact ⟨s, rfl, ht, hj, by omega⟩
  | k + 1, i, s, hk, hl, ht, hj => by
    rw [law03_lent_l1_eq]
    simp only [law03_lent_l1b]
    have e1 : IntKind.i64.wrap (171 + (i : Int)) = ((171 + i : Nat) : Int) := by rw [w64_in (by omega) (by omega)]; omega
    have e2 : IntKind.i64.wrap ((i : Int) + 1) = ((i + 1 : Nat) : Int) := by rw [w64_in (by omega) (by omega)]; omega
    rw [decide_eq_true (by omega), cond_true, e1, e2, u8_of (by omega), app1W (by omega), Option.bind_some]
    refine lent_l a ha k (i + 1) _ (by omega) (by simp; omega) (by rw [List.take_append_of_le_length (by omega)]; exact ht) ?_
    intro j h1 h2
    by_cases h : j < s.length
    · rw [List.getElem?_append_left h]; exact hj j h1 h
    · rw [List.length_append, List.length_cons, List.length_nil] at h2
      rw [List.getElem?_append_right (by omega), show j - s.length = 0 by omega, show j - a.length = i by omega]; rfl
theorem kept_l (t a : Str) (ha : a.length ≤ 1048576) (hl : t.length = a.length + 32) (ht : t.take a.length = a) (hj : ∀ j, a.length ≤ j → j < t.length → t[j]? = some (UInt8.ofNat (171 + (j - a.length)))) : ∀ (k i : Nat), k + i = t.length → law03_kept_l1 t a i = some true
  | 0, i, hk => by
    rw [law03_kept_l1_eq]
    simp only [law03_kept_l1b, lt_f (by omega : ¬ i < t.length), cond_false]
  | k + 1, i, hk => by
    have hi : i < t.length := by omega
    rw [law03_kept_l1_eq]
    simp only [law03_kept_l1b, lt_t hi, cond_true]
    by_cases h : i < a.length
    · have e : t[i]? = a[i]? := by
        have := congrArg (fun l => l[i]?) ht
        simp only [List.getElem?_take, if_pos h] at this
        exact this
      rw [lt_t h, cond_true, e, List.getElem?_eq_getElem h, Option.bind_some, Option.bind_some, show (((a[i].toNat : Nat) : Int) != ((a[i].toNat : Nat) : Int)) = false by simp, cond_false, decide_eq_false (by omega), cond_false]
      simp only [law03_kept_j1, cond_false]
      exact kept_l t a ha hl ht hj k (i + 1) (by omega)
    · rw [lt_f h, cond_false, decide_eq_true (by omega), cond_true, hj i (by omega) hi, Option.bind_some]
      have e1 : IntKind.i64.wrap (IntKind.i64.wrap (171 + (i : Int)) - ((a.length : Nat) : Int)) = ((171 + (i - a.length) : Nat) : Int) := by
        rw [show IntKind.i64.wrap (171 + (i : Int)) = 171 + (i : Int) from w64_in (by omega) (by omega), w64_in (by omega) (by omega)]; omega
      rw [e1, u8_of (by omega), show ∀ x : Nat, (((x : Nat) : Int) != ((x : Nat) : Int)) = false from fun x => by simp]
      simp only [law03_kept_j1, cond_false]
      exact kept_l t a ha hl ht hj k (i + 1) (by omega)
theorem roomW {n : Nat} (hn : n ≤ 1073741824) : roomO n 1 = some () := by
  unfold roomO
  rw [Nat.ble_eq_true_of_le (by omega), Nat.ble_eq_true_of_le (by omega)]; rfl
theorem one_nil : wire_All_l1 [1, 1] [] ((0 : Nat) : Int) = some ([.nil, .nil], 2, 0) := by
  have e : ∀ r : Str, valS 64 0 (1 :: r) = .ok (.nil, 1) r := fun r => rfl
  obtain ⟨v1, a1, _, a2⟩ := read_ok (mk := true) (b := [1, 1]) (sx0 _) (by decide) (e [1])
  obtain ⟨v2, b1, _, b2⟩ := read_ok (mk := true) (b := [1, 1]) (k := 1) (r := [1]) ⟨by decide, rfl⟩ (by decide) (e [])
  have a1 := a1 rfl
  have b1 := b1 rfl
  subst a1; subst b1
  have c1 : wire_All_l1 [1, 1] [.nil, .nil] 2 = some ([.nil, .nil], 2, 0) := by rw [wire_All_l1_eq]; rfl
  have c2 : wire_All_l1 [1, 1] [.nil] ((1 : Nat) : Int) = some ([.nil, .nil], 2, 0) := by
    rw [wire_All_l1_eq]
    simp only [wire_All_l1b]
    rw [b2]; exact c1
  rw [wire_All_l1_eq]
  simp only [wire_All_l1b]
  rw [a2]; exact c2
theorem lent_kept (a : Str) (ha : a.length ≤ 1048576) : ∃ t, p_law03_lent a = some (a, t) ∧ p_law03_kept t a = some true := by
  obtain ⟨t, h1, h2, h3, h4⟩ := lent_l a ha 32 0 a (by omega) (by omega) (List.take_of_length_le (Nat.le_refl _)) (fun j h1 h2 => by omega)
  refine ⟨t, ?_, kept_l t a ha h4 h2 h3 t.length 0 (by omega)⟩
  have e1 : IntKind.i64.wrap (((a.length : Nat) : Int) + 32) = ((a.length + 32 : Nat) : Int) := by rw [w64_in (by omega) (by omega)]; omega
  have e2 : natO ((a.length + 32 : Nat) : Int) = some (a.length + 32) := by unfold natO; rw [decide_eq_true (by omega)]; rfl
  simp only [p_law03_lent]
  rw [e1, e2, Option.bind_some, roomW (by omega), Option.bind_some, app0 (by omega) (by omega), Option.bind_some]
  exact h1
theorem is_l {x2 : List V × Int × Int} {x3 : List Term × Int × Int} (h : x3.1 = x2.1.map cl) (hc : ∀ x, x ∈ x2.1 → Can x) : ∀ k i, k + i = x2.1.length → law03_WireAlls_l1 x2 x3 i = some true
  | 0, i, hk => by
    rw [law03_WireAlls_l1_eq]
    simp only [law03_WireAlls_l1b, lt_f (by omega : ¬ i < x2.1.length), cond_false]
    have hn : Can (.nil : V) := ⟨.mk rfl (fun y hy => by cases hy), by decide, by decide⟩
    have hal : p_wire_All [1, 1] = some ([.nil, .nil], 2, 0) := by
      have hs : wire_All_l1 [1, 1] [] 0 = _ := one_nil
      exact hs
    rw [hal, Option.bind_some]; rfl
  | k + 1, i, hk => by
    have hi : i < x2.1.length := by omega
    obtain ⟨x, hx, _⟩ := dropc hi
    have hcx := hc x (List.mem_of_getElem? hx)
    rw [law03_WireAlls_l1_eq]
    simp only [law03_WireAlls_l1b, lt_t hi, cond_true, hx, Option.bind_some]
    rw [h, List.getElem?_map, hx, Option.map_some, Option.bind_some, is_built (bu_cl x (can_fine hcx)) hcx, Option.bind_some]
    simp only [Bool.not_true, cond_false]
    exact is_l h hc k (i + 1) (by omega)
theorem plain_WireAlls (a0 : Str) (h : (a0.map (fun _ => 1)).sum + 1 ≤ 1048576) (ok0 : ∀ a, a ∈ a0 → True) : p_law03_WireAlls a0 = some true := by
  rw [ones_sum] at h
  obtain ⟨t, h1, h2⟩ := lent_kept a0 (by omega)
  obtain ⟨l, p, w, h3, h4, h5⟩ := alls (b := a0) (by omega) a0.length [] 0 a0 (Nat.le_refl _) (sx0 a0) (Nat.le_refl _) (fun x hx => by cases hx)
  have h3 : p_wire_All a0 = some (l, p, w) := h3
  have h4 : p_ref03_All a0 = some (l.map cl, p, w) := h4
  simp only [p_law03_WireAlls]
  rw [h1, Option.bind_some, h3, h4, Option.bind_some, Option.bind_some]
  simp only [List.length_map]
  have nn : ∀ a : Int, (a != a) = false := fun a => by simp
  rw [nn, nn, nn]
  simp only [cond_false, h2, Option.bind_some, Bool.not_true, law03_WireAlls_j1]
  exact is_l (x2 := (l, p, w)) rfl h5 l.length 0 (Nat.add_zero _)
end Go.Proofs.Ytigadhiciinicaa
