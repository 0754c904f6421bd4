/- Values as bytes: there and back, one form, and short beginnings. -/
import Derived.Test.YtigadhiciinicaaW2
namespace Go.Proofs.Ytigadhiciinicaa
open Go Aw
set_option linter.unusedVariables false
set_option linter.unusedSimpArgs false
set_option maxRecDepth 8000
theorem okL_mem : ∀ {l : List V}, okL l → ∀ x, x ∈ l → okV x
  | y :: r, h, x, hx => by
    rw [okL] at h
    rcases List.mem_cons.1 hx with rfl | hx
    · exact h.1
    · exact okL_mem h.2 x hx
theorem okD_mem : ∀ {l : List (Str × V)}, okD l → ∀ x, x ∈ l.map (·.2) → okV x
  | (s, y) :: r, h, x, hx => by
    rw [okD] at h
    rcases List.mem_cons.1 hx with rfl | hx
    · exact h.1
    · exact okD_mem h.2 x hx
theorem ok_part {v x : V} (h : okV v) (hx : x ∈ v.parts) : okV x := by
  cases v <;> simp only [V.parts, List.not_mem_nil] at hx
  · rw [okV] at h; exact okL_mem h x hx
  · rw [okV] at h; exact okD_mem h x hx
  · rw [okV] at h; exact okD_mem h x hx
theorem dptL_le {l : List V} {d : Int} (h : dptL l ≤ d) : ∀ x, x ∈ l → dpt x ≤ d := by
  induction l with
  | nil => intro x hx; cases hx
  | cons y r ih =>
    intro x hx
    rw [dptL] at h
    rcases List.mem_cons.1 hx with rfl | hx
    · omega
    · exact ih (by omega) x hx
theorem cntL_pos' (l : List V) : 0 ≤ cntL l := by
  induction l with
  | nil => simp [cntL]
  | cons z q ih => have := cnt_pos z; simp only [cntL]; omega
/-! ### there and back -/
def CV (f : Nat → Str → Rs (V × Nat)) (v : V) : Prop := ∀ (n : Nat) (post : Str), (n : Int) + cnt v ≤ 16384 → f n (enc v ++ post) = .ok (v, n + (cnt v).toNat) post
theorem items_enc {f : Nat → Str → Rs (V × Nat)} : ∀ (l : List V), (∀ x, x ∈ l → CV f x) → ∀ (n : Nat) (post : Str), (n : Int) + cntL l ≤ 16384 → itemsS f l.length n (encL l ++ post) = .ok (l, n + (cntL l).toNat) post
  | [], _, n, post, _ => by simp [itemsS, encL, cntL]
  | x :: r, h, n, post, hn => by
    have hx := cnt_pos x
    have hr := cntL_pos' r
    rw [cntL] at hn ⊢
    rw [List.length_cons, itemsS, encL, List.append_assoc, h x (by simp) n _ (by omega)]
    simp only [Rs.bind]
    rw [items_enc r (fun y hy => h y (by simp [hy])) _ post (by omega)]
    simp only []
    congr 2; omega
theorem flds_enc {f : Nat → Str → Rs (V × Nat)} (part : Nat) : ∀ (l : List (Str × V)), (∀ x, x ∈ l.map (·.2) → CV f x) → ∀ (last : Str) (n : Nat) (post : Str), risen (some last) (l.map (·.1)) = true → (n : Int) + cntL (l.map (·.2)) ≤ 16384 →
    fldsS f part l.length last n (encD l ++ post) = .ok (l, n + (cntL (l.map (·.2))).toNat) post
  | [], _, last, n, post, _, _ => by simp [fldsS, encD, cntL]
  | (s, x) :: r, h, last, n, post, hs, hn => by
    have hx := cnt_pos x
    have hr := cntL_pos' (r.map (·.2))
    simp only [List.map_cons, risen, Bool.and_eq_true, Bool.not_eq_true'] at hs
    simp only [List.map_cons, cntL] at hn ⊢
    rw [List.length_cons, fldsS, encD, List.append_assoc, List.append_assoc, List.append_assoc, nameS_num part s _ hs.1.1]
    simp only [Rs.bind]
    rw [if_neg (by rw [hs.1.2]; simp), h x (by simp) n _ (by omega)]
    simp only []
    rw [flds_enc part r (fun y hy => h y (by rw [List.map_cons]; exact List.mem_cons_of_mem _ hy)) s _ post hs.2 (by omega)]
    simp only []
    congr 2; omega
theorem risen_some {l : List Str} (h : risen none l = true) : risen (some []) l = true := by
  cases l with
  | nil => rfl
  | cons s r =>
    simp only [risen, Bool.and_eq_true, Bool.and_true] at h ⊢
    refine ⟨⟨h.1, ?_⟩, h.2⟩
    have := nameOk_len h.1
    cases s with
    | nil => simp at this
    | cons a t => rfl
theorem fieldsE_ok {l : List Str} (h : fieldsE l = 0) : l.length ≤ 4096 ∧ risen none l = true := by
  unfold fieldsE at h
  split at h
  · cases h
  · split at h
    · rename_i h1 h2; exact ⟨by omega, h2⟩
    · cases h
theorem toNat_tag (n : Nat) (h : n < 256) : (UInt8.ofNat n).toNat = n := u8_toNat h
theorem valS_enc (v : V) : ∀ (d : Nat), Near v → okV v → dpt v ≤ d → CV (valS d) v := by
  induction v using V.byParts with
  | _ v ih =>
  intro d hnr hok hd n post hn
  have hp := cnt_pos v
  obtain ⟨d, rfl⟩ : ∃ e, d = e + 1 := ⟨d - 1, by omega⟩
  have hown := hnr.own
  have hdp := dpt_eq v
  have hcn := cnt_eq v
  have hpart : ∀ x, x ∈ v.parts → CV (valS d) x := fun x hx => ih x hx d (hnr.part x hx) (ok_part hok hx) (dptL_le (d := d) (by omega) x hx)
  have start : ∀ (c : UInt8) (r : Str), 1 ≤ c.toNat → c.toNat ≤ 10 → valS (d + 1) n (c :: r) = bodyS (valS d) c.toNat (r.length + 1) (n + 1) r := fun c r h1 h2 => by
    rw [valS, if_neg (by omega), if_neg (by omega)]
  have lim : ∀ x : Nat, 1 = x → n + 1 = n + x := fun x h => by omega
  cases v with
  | nil => rw [enc, List.singleton_append, start 1 _ (by decide) (by decide)]; rfl
  | bool b =>
    rw [enc, List.cons_append, List.singleton_append, start 2 _ (by decide) (by decide)]
    cases b <;> rfl
  | int i =>
    rw [okV] at hok
    rw [enc, List.cons_append, start 3 _ (by decide) (by decide)]
    show (nmS (num (zig i) ++ post)).bind _ = _
    rw [nmS_num _ _ (zig_lt hok.1 hok.2)]
    simp only [Rs.bind, unzig_zig]; rfl
  | float f =>
    rw [okV] at hok
    rw [enc, List.cons_append, start 4 _ (by decide) (by decide)]
    have key : ∀ p r0, bodyS (valS d) (UInt8.toNat 4) p (n + 1) r0 = (takeS 8 r0).bind fun s r => .ok (.float (beS s), n + 1) r := fun _ _ => rfl
    rw [key]
    have := take_app (s := be8 f) (post := post)
    rw [be8_len] at this
    rw [this]
    simp only [Rs.bind, be_be8 hok]; rfl
  | text s =>
    have hl : s.length ≤ 65536 := by
      rw [nearE] at hown; split at hown
      · cases hown
      · omega
    rw [enc, List.cons_append, List.append_assoc, start 5 _ (by decide) (by decide)]
    show (mostS _ 65536 (num s.length ++ (s ++ post))).bind _ = _
    rw [mostS_num _ _ _ _ hl (by omega)]
    simp only [Rs.bind]
    rw [take_app]; rfl
  | bytes s =>
    have hl : s.length ≤ 65536 := by
      rw [nearE] at hown; split at hown
      · cases hown
      · omega
    rw [enc, List.cons_append, List.append_assoc, start 6 _ (by decide) (by decide)]
    show (mostS _ 65536 (num s.length ++ (s ++ post))).bind _ = _
    rw [mostS_num _ _ _ _ hl (by omega)]
    simp only [Rs.bind]
    rw [take_app]; rfl
  | ref r =>
    rw [okV] at hok
    rw [enc, List.cons_append, start 7 _ (by decide) (by decide)]
    show (nmS (num r.toNat ++ post)).bind _ = _
    rw [nmS_num _ _ (by omega)]
    simp only [Rs.bind]
    rw [show ((r.toNat : Nat) : Int) = r by omega]; rfl
  | list l =>
    have hl := near_list hown
    simp only [V.parts] at hpart hcn
    rw [enc, List.cons_append, List.append_assoc, start 8 _ (by decide) (by decide)]
    show (mostS _ 4096 (num l.length ++ (encL l ++ post))).bind _ = _
    rw [mostS_num _ _ _ _ hl (by omega)]
    simp only [Rs.bind]
    rw [items_enc l hpart (n + 1) post (by omega)]
    simp only []
    have := cntL_pos' l
    congr 2; omega
  | dict l =>
    rw [nearE] at hown
    obtain ⟨hl, hs⟩ := fieldsE_ok hown
    rw [List.length_map] at hl
    simp only [V.parts] at hpart hcn
    rw [enc, List.cons_append, List.append_assoc, start 9 _ (by decide) (by decide)]
    show (mostS _ 4096 (num l.length ++ (encD l ++ post))).bind _ = _
    rw [mostS_num _ _ _ _ hl (by omega)]
    simp only [Rs.bind]
    rw [flds_enc _ l hpart [] (n + 1) post (risen_some hs) (by omega)]
    simp only []
    have := cntL_pos' (l.map (·.2))
    congr 2; omega
  | record c w l =>
    rw [nearE] at hown
    split at hown
    · cases hown
    · rename_i hc
      split at hown
      · cases hown
      · rename_i hv
        obtain ⟨hl, hs⟩ := fieldsE_ok hown
        rw [List.length_map] at hl
        simp only [V.parts] at hpart hcn
        have hc' : nameOk c = true := by simpa using hc
        rw [enc, List.cons_append, List.append_assoc, List.append_assoc, List.append_assoc, List.append_assoc, start 10 _ (by decide) (by decide)]
        show (nameS _ (num c.length ++ (c ++ (num w.toNat ++ (num l.length ++ (encD l ++ post)))))).bind _ = _
        rw [nameS_num _ _ _ hc']
        simp only [Rs.bind]
        rw [nmS_num _ _ (by omega)]
        simp only []
        rw [if_neg (by omega), mostS_num _ _ _ _ hl (by omega)]
        simp only []
        rw [flds_enc _ l hpart [] (n + 1) post (risen_some hs) (by omega)]
        simp only []
        have := cntL_pos' (l.map (·.2))
        rw [show ((w.toNat : Nat) : Int) = w by omega]
        congr 2; omega
  | nothing => simp [nearE] at hown
  | alien a => simp [nearE] at hown
/-! ### what is read was written so -/
structure DVr (d n : Nat) (r : Str) (v : V) (n' : Nat) (r' : Str) : Prop where
  eq : r = enc v ++ r'
  near : Near v
  cn : (n' : Int) = n + cnt v
  dp : dpt v ≤ d
  ok : okV v
  le : n ≤ 16384 → n' ≤ 16384
def DV (f : Nat → Str → Rs (V × Nat)) (d : Nat) : Prop := ∀ n r v n' r', f n r = .ok (v, n') r' → DVr d n r v n' r'
theorem items_inv {f : Nat → Str → Rs (V × Nat)} {d : Nat} (hf : DV f d) : ∀ (k n : Nat) (r : Str) (l : List V) (n' : Nat) (r' : Str), itemsS f k n r = .ok (l, n') r' →
    r = encL l ++ r' ∧ l.length = k ∧ (n' : Int) = n + cntL l ∧ dptL l ≤ d ∧ okL l ∧ (∀ x, x ∈ l → Near x) ∧ (n ≤ 16384 → n' ≤ 16384)
  | 0, n, r, l, n', r', h => by
    rw [itemsS] at h
    injection h with h1 h2
    injection h1 with h1 h3
    subst h1; subst h2; subst h3
    simp [encL, cntL, dptL, okL]
  | k + 1, n, r, l, n', r', h => by
    rw [itemsS] at h
    obtain ⟨x, r1, h1, h⟩ := bind_ok h
    obtain ⟨y, r2, h2, h⟩ := bind_ok h
    injection h with h3 h4
    injection h3 with h3 h5
    subst h3; subst h4; subst h5
    have D := hf n r x.1 x.2 r1 h1
    obtain ⟨a1, a2, a3, a4, a5, a6, a7⟩ := items_inv hf k x.2 r1 y.1 y.2 r2 h2
    have := D.cn
    have := D.dp
    refine ⟨by rw [encL, D.eq, a1, List.append_assoc], by simp [a2], by rw [cntL]; omega, by rw [dptL]; omega, by rw [okL]; exact ⟨D.ok, a5⟩, ?_, fun h => a7 (D.le h)⟩
    intro z hz
    rcases List.mem_cons.1 hz with rfl | hz
    · exact D.near
    · exact a6 z hz
theorem flds_inv {f : Nat → Str → Rs (V × Nat)} {d : Nat} (hf : DV f d) (part : Nat) : ∀ (k : Nat) (last : Str) (n : Nat) (r : Str) (l : List (Str × V)) (n' : Nat) (r' : Str), fldsS f part k last n r = .ok (l, n') r' →
    r = encD l ++ r' ∧ l.length = k ∧ (n' : Int) = n + cntL (l.map (·.2)) ∧ dptL (l.map (·.2)) ≤ d ∧ okD l ∧ (∀ x, x ∈ l.map (·.2) → Near x) ∧ risen (some last) (l.map (·.1)) = true ∧ (n ≤ 16384 → n' ≤ 16384)
  | 0, last, n, r, l, n', r', h => by
    rw [fldsS] at h
    injection h with h1 h2
    injection h1 with h1 h3
    subst h1; subst h2; subst h3
    simp [encD, cntL, dptL, okD, risen]
  | k + 1, last, n, r, l, n', r', h => by
    rw [fldsS] at h
    obtain ⟨s, r0, h0, h⟩ := bind_ok h
    split at h
    · cases h
    · rename_i hle
      obtain ⟨x, r1, h1, h⟩ := bind_ok h
      obtain ⟨y, r2, h2, h⟩ := bind_ok h
      injection h with h3 h4
      injection h3 with h3 h5
      subst h3; subst h4; subst h5
      have D := hf n r0 x.1 x.2 r1 h1
      obtain ⟨a1, a2, a3, a4, a5, a6, a8, a7⟩ := flds_inv hf part k s x.2 r1 y.1 y.2 r2 h2
      obtain ⟨e0, hnm⟩ := nameS_inv h0
      have := D.cn
      have := D.dp
      refine ⟨by rw [encD, e0, D.eq, a1]; simp only [List.append_assoc], by simp [a2], by simp only [List.map_cons, cntL]; omega, by simp only [List.map_cons, dptL]; omega, by rw [okD]; exact ⟨D.ok, a5⟩, ?_, ?_, fun h => a7 (D.le h)⟩
      · intro z hz
        rw [List.map_cons] at hz
        rcases List.mem_cons.1 hz with rfl | hz
        · exact D.near
        · exact a6 z hz
      · simp only [List.map_cons, risen, hnm, a8, Bool.true_and, Bool.and_true]
        simpa using hle
theorem risen_none {l : List Str} {q : Str} (h : risen (some q) l = true) : risen none l = true := by
  cases l with
  | nil => rfl
  | cons s r =>
    simp only [risen, Bool.and_eq_true, Bool.and_true] at h ⊢
    exact ⟨h.1.1, h.2⟩
theorem fieldsE_of {l : List Str} (h1 : l.length ≤ 4096) (h2 : risen none l = true) : fieldsE l = 0 := by
  unfold fieldsE; rw [if_neg (by omega), if_pos h2]
theorem cons_enc {c : UInt8} {n : Nat} {r e : Str} (h : c.toNat = n) (hn : n < 256) (hr : r = e) : c :: r = UInt8.ofNat n :: e := by
  subst hr
  congr 1
  apply UInt8.toNat_inj.1
  rw [h, u8_toNat hn]
theorem boolS_inv {n n' : Nat} {r r' : Str} {v : V} (h : boolS n r = .ok (v, n') r') : ∃ b : Bool, v = .bool b ∧ n' = n ∧ r = (if b then 1 else 0) :: r' := by
  cases r with
  | nil => cases h
  | cons c r =>
    rw [boolS] at h
    split at h
    · cases h
    · rename_i hc
      injection h with h1 h2
      injection h1 with h1 h3
      refine ⟨_, h1.symm, h3.symm, ?_⟩
      subst h2
      congr 1
      apply UInt8.toNat_inj.1
      by_cases h1 : c.toNat = 1
      · rw [h1]; rfl
      · have : c.toNat = 0 := by omega
        rw [this]; rfl
theorem valS_inv : ∀ (d : Nat), DV (valS d) d
  | d, n, [], v, n', r', h => by cases d <;> cases h
  | 0, n, c :: r, v, n', r', h => by cases h
  | d + 1, n, c :: r, v, n', r', h => by
    have ih := valS_inv d
    rw [valS] at h
    split at h
    · cases h
    · rename_i hn
      split at h
      · cases h
      · rename_i hc
        unfold bodyS at h
        have leaf : ∀ {x : V} {e : Str}, v = x → n' = n + 1 → c :: r = enc x ++ r' → Near x → cnt x = 1 → dpt x = 1 → okV x → DVr (d + 1) n (c :: r) v n' r' := by
          intro x e hv hn' he h1 h2 h3 h4
          subst hv
          exact ⟨he, h1, by omega, by omega, h4, fun _ => by omega⟩
        by_cases ht : c.toNat = 2
        · rw [if_pos ht] at h
          obtain ⟨b, rfl, rfl, hr⟩ := boolS_inv h
          exact leaf (e := []) rfl rfl (by rw [enc, List.cons_append, List.singleton_append]; exact cons_enc ht (by decide) hr) (.mk rfl (fun y hy => by cases hy)) rfl rfl trivial
        · rw [if_neg ht] at h
          by_cases ht : c.toNat = 3
          · rw [if_pos ht] at h
            obtain ⟨m, r1, h1, h⟩ := bind_ok h
            injection h with h2 h3
            injection h2 with h2 h4
            obtain ⟨e1, e2⟩ := nmS_inv h1
            subst h3
            exact leaf (e := []) h2.symm h4.symm (by rw [enc, List.cons_append, zig_unzig]; exact cons_enc ht (by decide) e1) (.mk rfl (fun y hy => by cases hy)) rfl rfl (by rw [okV]; exact unzig_in e2)
          · rw [if_neg ht] at h
            by_cases ht : c.toNat = 4
            · rw [if_pos ht] at h
              obtain ⟨s, r1, h1, h⟩ := bind_ok h
              injection h with h2 h3
              injection h2 with h2 h4
              obtain ⟨e1, e2⟩ := takeS_inv h1
              subst h3
              obtain ⟨e3, e4⟩ := be8_be e2
              exact leaf (e := []) h2.symm h4.symm (by rw [enc, List.cons_append, e3]; exact cons_enc ht (by decide) e1) (.mk rfl (fun y hy => by cases hy)) rfl rfl (by rw [okV]; exact e4)
            · rw [if_neg ht] at h
              by_cases ht : c.toNat = 5
              · rw [if_pos ht] at h
                obtain ⟨m, r0, h0, h⟩ := bind_ok h
                obtain ⟨s, r1, h1, h⟩ := bind_ok h
                injection h with h2 h3
                injection h2 with h2 h4
                obtain ⟨e1, e2⟩ := takeS_inv h1
                obtain ⟨e3, e4⟩ := mostS_inv h0
                subst h3
                subst e2
                exact leaf (e := []) h2.symm h4.symm (by rw [enc, List.cons_append, List.append_assoc, ← e1]; exact cons_enc ht (by decide) e3) (.mk (by rw [nearE, if_neg (by omega)]) (fun y hy => by cases hy)) rfl rfl trivial
              · rw [if_neg ht] at h
                by_cases ht : c.toNat = 6
                · rw [if_pos ht] at h
                  obtain ⟨m, r0, h0, h⟩ := bind_ok h
                  obtain ⟨s, r1, h1, h⟩ := bind_ok h
                  injection h with h2 h3
                  injection h2 with h2 h4
                  obtain ⟨e1, e2⟩ := takeS_inv h1
                  obtain ⟨e3, e4⟩ := mostS_inv h0
                  subst h3
                  subst e2
                  exact leaf (e := []) h2.symm h4.symm (by rw [enc, List.cons_append, List.append_assoc, ← e1]; exact cons_enc ht (by decide) e3) (.mk (by rw [nearE, if_neg (by omega)]) (fun y hy => by cases hy)) rfl rfl trivial
                · rw [if_neg ht] at h
                  by_cases ht : c.toNat = 7
                  · rw [if_pos ht] at h
                    obtain ⟨m, r1, h1, h⟩ := bind_ok h
                    injection h with h2 h3
                    injection h2 with h2 h4
                    obtain ⟨e1, e2⟩ := nmS_inv h1
                    subst h3
                    exact leaf (e := []) h2.symm h4.symm (by rw [enc, List.cons_append]; exact cons_enc ht (by decide) (by simpa using e1)) (.mk rfl (fun y hy => by cases hy)) rfl rfl (by rw [okV]; omega)
                  · rw [if_neg ht] at h
                    by_cases ht : c.toNat = 8
                    · rw [if_pos ht] at h
                      obtain ⟨m, r0, h0, h⟩ := bind_ok h
                      obtain ⟨x, r1, h1, h⟩ := bind_ok h
                      injection h with h2 h3
                      injection h2 with h2 h4
                      obtain ⟨e3, e4⟩ := mostS_inv h0
                      obtain ⟨a1, a2, a3, a4, a5, a6, a7⟩ := items_inv ih m (n + 1) r0 x.1 x.2 r1 h1
                      subst h3; subst h2; subst h4; subst a2
                      refine ⟨by rw [enc, List.cons_append, List.append_assoc, ← a1]; exact cons_enc ht (by decide) e3, .mk (by rw [nearE, if_neg (by omega)]) a6, by rw [cnt]; omega, by rw [dpt]; omega, by rw [okV]; exact a5, fun _ => a7 (by omega)⟩
                    · rw [if_neg ht] at h
                      by_cases ht : c.toNat = 9
                      · rw [if_pos ht] at h
                        obtain ⟨m, r0, h0, h⟩ := bind_ok h
                        obtain ⟨x, r1, h1, h⟩ := bind_ok h
                        injection h with h2 h3
                        injection h2 with h2 h4
                        obtain ⟨e3, e4⟩ := mostS_inv h0
                        obtain ⟨a1, a2, a3, a4, a5, a6, a8, a7⟩ := flds_inv ih _ m [] (n + 1) r0 x.1 x.2 r1 h1
                        subst h3; subst h2; subst h4; subst a2
                        refine ⟨by rw [enc, List.cons_append, List.append_assoc, ← a1]; exact cons_enc ht (by decide) e3, .mk (by rw [nearE]; exact fieldsE_of (by rw [List.length_map]; omega) (risen_none a8)) a6, by rw [cnt_eq]; simp only [V.parts]; omega, by rw [dpt_eq]; simp only [V.parts]; omega, by rw [okV]; exact a5, fun _ => a7 (by omega)⟩
                      · rw [if_neg ht] at h
                        by_cases ht : c.toNat = 10
                        · rw [if_pos ht] at h
                          obtain ⟨s, r2, h5, h⟩ := bind_ok h
                          obtain ⟨w, r3, h6, h⟩ := bind_ok h
                          split at h
                          · cases h
                          · rename_i hw
                            obtain ⟨m, r0, h0, h⟩ := bind_ok h
                            obtain ⟨x, r1, h1, h⟩ := bind_ok h
                            injection h with h2 h3
                            injection h2 with h2 h4
                            obtain ⟨e3, e4⟩ := mostS_inv h0
                            obtain ⟨e5, e6⟩ := nameS_inv h5
                            obtain ⟨e7, e8⟩ := nmS_inv h6
                            obtain ⟨a1, a2, a3, a4, a5, a6, a8, a7⟩ := flds_inv ih _ m [] (n + 1) r0 x.1 x.2 r1 h1
                            subst h3; subst h2; subst h4; subst a2
                            refine ⟨?_, .mk ?_ a6, by rw [cnt_eq]; simp only [V.parts]; omega, by rw [dpt_eq]; simp only [V.parts]; omega, by rw [okV]; exact a5, fun _ => a7 (by omega)⟩
                            · rw [enc, List.cons_append]
                              simp only [List.append_assoc]
                              rw [← a1, ← e3]
                              refine cons_enc ht (by decide) ?_
                              rw [e5, e7]; simp
                            · rw [nearE, if_neg (by simp [e6]), if_neg (by omega)]
                              exact fieldsE_of (by rw [List.length_map]; omega) (risen_none a8)
                        · rw [if_neg ht] at h
                          injection h with h2 h3
                          injection h2 with h2 h4
                          subst h3
                          exact leaf (e := []) h2.symm h4.symm (by rw [enc]; exact cons_enc (n := 1) (by omega) (by decide) rfl) (.mk rfl (fun y hy => by cases hy)) rfl rfl trivial
end Go.Proofs.Ytigadhiciinicaa
