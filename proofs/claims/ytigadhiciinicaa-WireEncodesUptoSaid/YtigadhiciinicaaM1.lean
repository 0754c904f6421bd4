/- Plain laws, one behind the other. -/
import Derived.Test.YtigadhiciinicaaM0
namespace Go.Proofs.Ytigadhiciinicaa
open Go Aw
set_option linter.unusedVariables false
set_option linter.unusedSimpArgs false
set_option maxRecDepth 8000
theorem okL_mem : ∀ {l : List V}, okL l → ∀ x, x ∈ l → okV x
  | y :: r, h, x, hx => by
    rw [okL] at h
    rcases List.mem_cons.1 hx with rfl | hx
    · exact h.1
    · exact okL_mem h.2 x hx
theorem okD_mem : ∀ {l : List (Str × V)}, okD l → ∀ x, x ∈ l.map (·.2) → okV x
  | (s, y) :: r, h, x, hx => by
    rw [okD] at h
    rcases List.mem_cons.1 hx with rfl | hx
    · exact h.1
    · exact okD_mem h.2 x hx
theorem ok_part {v x : V} (h : okV v) (hx : x ∈ v.parts) : okV x := by
  cases v <;> simp only [V.parts, List.not_mem_nil] at hx
  · rw [okV] at h; exact okL_mem h x hx
  · rw [okV] at h; exact okD_mem h x hx
  · rw [okV] at h; exact okD_mem h x hx
theorem dptL_le {l : List V} {d : Int} (h : dptL l ≤ d) : ∀ x, x ∈ l → dpt x ≤ d := by
  induction l with
  | nil => intro x hx; cases hx
  | cons y r ih =>
    intro x hx
    rw [dptL] at h
    rcases List.mem_cons.1 hx with rfl | hx
    · omega
    · exact ih (by omega) x hx
theorem cntL_pos' (l : List V) : 0 ≤ cntL l := by
  induction l with
  | nil => simp [cntL]
  | cons z q ih => have := cnt_pos z; simp only [cntL]; omega
/-! ### there and back -/
def CV (f : Nat → Str → Rs (V × Nat)) (v : V) : Prop := ∀ (n : Nat) (post : Str), (n : Int) + cnt v ≤ 16384 → f n (enc v ++ post) = .ok (v, n + (cnt v).toNat) post
theorem items_enc {f : Nat → Str → Rs (V × Nat)} : ∀ (l : List V), (∀ x, x ∈ l → CV f x) → ∀ (n : Nat) (post : Str), (n : Int) + cntL l ≤ 16384 → itemsS f l.length n (encL l ++ post) = .ok (l, n + (cntL l).toNat) post
  | [], _, n, post, _ => by simp [itemsS, encL, cntL]
  | x :: r, h, n, post, hn => by
    have hx := cnt_pos x
    have hr := cntL_pos' r
    rw [cntL] at hn ⊢
    rw [List.length_cons, itemsS, encL, List.append_assoc, h x (by simp) n _ (by omega)]
    simp only [Rs.bind]
    rw [items_enc r (fun y hy => h y (by simp [hy])) _ post (by omega)]
    simp only []
    congr 2; omega
theorem flds_enc {f : Nat → Str → Rs (V × Nat)} (part : Nat) : ∀ (l : List (Str × V)), (∀ x, x ∈ l.map (·.2) → CV f x) → ∀ (last : Str) (n : Nat) (post : Str), risen (some last) (l.map (·.1)) = true → (n : Int) + cntL (l.map (·.2)) ≤ 16384 →
    fldsS f part l.length last n (encD l ++ post) = .ok (l, n + (cntL (l.map (·.2))).toNat) post
  | [], _, last, n, post, _, _ => by simp [fldsS, encD, cntL]
  | (s, x) :: r, h, last, n, post, hs, hn => by
    have hx := cnt_pos x
    have hr := cntL_pos' (r.map (·.2))
    simp only [List.map_cons, risen, Bool.and_eq_true, Bool.not_eq_true'] at hs
    simp only [List.map_cons, cntL] at hn ⊢
    rw [List.length_cons, fldsS, encD, List.append_assoc, List.append_assoc, List.append_assoc, nameS_num part s _ hs.1.1]
    simp only [Rs.bind]
    rw [if_neg (by rw [hs.1.2]; simp), h x (by simp) n _ (by omega)]
    simp only []
    rw [flds_enc part r (fun y hy => h y (by rw [List.map_cons]; exact List.mem_cons_of_mem _ hy)) s _ post hs.2 (by omega)]
    simp only []
    congr 2; omega
theorem risen_some {l : List Str} (h : risen none l = true) : risen (some []) l = true := by
  cases l with
  | nil => rfl
  | cons s r =>
    simp only [risen, Bool.and_eq_true, Bool.and_true] at h ⊢
    refine ⟨⟨h.1, ?_⟩, h.2⟩
    have := nameOk_len h.1
    cases s with
    | nil => simp at this
    | cons a t => rfl
theorem fieldsE_ok {l : List Str} (h : fieldsE l = 0) : l.length ≤ 4096 ∧ risen none l = true := by
  unfold fieldsE at h
  split at h
  · cases h
  · split at h
    · rename_i h1 h2; exact ⟨by omega, h2⟩
    · cases h
theorem toNat_tag (n : Nat) (h : n < 256) : (UInt8.ofNat n).toNat = n := u8_toNat h
theorem valS_enc (v : V) : ∀ (d : Nat), Near v → okV v → dpt v ≤ d → CV (valS d) v := by
  induction v using V.byParts with
  | _ v ih =>
  intro d hnr hok hd n post hn
  have hp := cnt_pos v
  obtain ⟨d, rfl⟩ : ∃ e, d = e + 1 := ⟨d - 1, by omega⟩
  have hown := hnr.own
  have hdp := dpt_eq v
  have hcn := cnt_eq v
  have hpart : ∀ x, x ∈ v.parts → CV (valS d) x := fun x hx => ih x hx d (hnr.part x hx) (ok_part hok hx) (dptL_le (d := d) (by omega) x hx)
  have start : ∀ (c : UInt8) (r : Str), 1 ≤ c.toNat → c.toNat ≤ 10 → valS (d + 1) n (c :: r) = bodyS (valS d) c.toNat (r.length + 1) (n + 1) r := fun c r h1 h2 => by
    rw [valS, if_neg (by omega), if_neg (by omega)]
  have lim : ∀ x : Nat, 1 = x → n + 1 = n + x := fun x h => by omega
  cases v with
  | nil => rw [enc, List.singleton_append, start 1 _ (by decide) (by decide)]; rfl
  | bool b =>
    rw [enc, List.cons_append, List.singleton_append, start 2 _ (by decide) (by decide)]
    cases b <;> rfl
  | int i =>
    rw [okV] at hok
    rw [enc, List.cons_append, start 3 _ (by decide) (by decide)]
    show (nmS (num (zig i) ++ post)).bind _ = _
    rw [nmS_num _ _ (zig_lt hok.1 hok.2)]
    simp only [Rs.bind, unzig_zig]; rfl
  | float f =>
    rw [okV] at hok
    rw [enc, List.cons_append, start 4 _ (by decide) (by decide)]
    have key : ∀ p r0, bodyS (valS d) (UInt8.toNat 4) p (n + 1) r0 = (takeS 8 r0).bind fun s r => .ok (.float (beS s), n + 1) r := fun _ _ => rfl
    rw [key]
    have := take_app (s := be8 f) (post := post)
    rw [be8_len] at this
    rw [this]
    simp only [Rs.bind, be_be8 hok]; rfl
  | text s =>
    have hl : s.length ≤ 65536 := by
      rw [nearE] at hown; split at hown
      · cases hown
      · omega
    rw [enc, List.cons_append, List.append_assoc, start 5 _ (by decide) (by decide)]
    show (mostS _ 65536 (num s.length ++ (s ++ post))).bind _ = _
    rw [mostS_num _ _ _ _ hl (by omega)]
    simp only [Rs.bind]
    rw [take_app]; rfl
  | bytes s =>
    have hl : s.length ≤ 65536 := by
      rw [nearE] at hown; split at hown
      · cases hown
      · omega
    rw [enc, List.cons_append, List.append_assoc, start 6 _ (by decide) (by decide)]
    show (mostS _ 65536 (num s.length ++ (s ++ post))).bind _ = _
    rw [mostS_num _ _ _ _ hl (by omega)]
    simp only [Rs.bind]
    rw [take_app]; rfl
  | ref r =>
    rw [okV] at hok
    rw [enc, List.cons_append, start 7 _ (by decide) (by decide)]
    show (nmS (num r.toNat ++ post)).bind _ = _
    rw [nmS_num _ _ (by omega)]
    simp only [Rs.bind]
    rw [show ((r.toNat : Nat) : Int) = r by omega]; rfl
  | list l =>
    have hl := near_list hown
    simp only [V.parts] at hpart hcn
    rw [enc, List.cons_append, List.append_assoc, start 8 _ (by decide) (by decide)]
    show (mostS _ 4096 (num l.length ++ (encL l ++ post))).bind _ = _
    rw [mostS_num _ _ _ _ hl (by omega)]
    simp only [Rs.bind]
    rw [items_enc l hpart (n + 1) post (by omega)]
    simp only []
    have := cntL_pos' l
    congr 2; omega
  | dict l =>
    rw [nearE] at hown
    obtain ⟨hl, hs⟩ := fieldsE_ok hown
    rw [List.length_map] at hl
    simp only [V.parts] at hpart hcn
    rw [enc, List.cons_append, List.append_assoc, start 9 _ (by decide) (by decide)]
    show (mostS _ 4096 (num l.length ++ (encD l ++ post))).bind _ = _
    rw [mostS_num _ _ _ _ hl (by omega)]
    simp only [Rs.bind]
    rw [flds_enc _ l hpart [] (n + 1) post (risen_some hs) (by omega)]
    simp only []
    have := cntL_pos' (l.map (·.2))
    congr 2; omega
  | record c w l =>
    rw [nearE] at hown
    split at hown
    · cases hown
    · rename_i hc
      split at hown
      · cases hown
      · rename_i hv
        obtain ⟨hl, hs⟩ := fieldsE_ok hown
        rw [List.length_map] at hl
        simp only [V.parts] at hpart hcn
        have hc' : nameOk c = true := by simpa using hc
        rw [enc, List.cons_append, List.append_assoc, List.append_assoc, List.append_assoc, List.append_assoc, start 10 _ (by decide) (by decide)]
        show (nameS _ (num c.length ++ (c ++ (num w.toNat ++ (num l.length ++ (encD l ++ post)))))).bind _ = _
        rw [nameS_num _ _ _ hc']
        simp only [Rs.bind]
        rw [nmS_num _ _ (by omega)]
        simp only []
        rw [if_neg (by omega), mostS_num _ _ _ _ hl (by omega)]
        simp only []
        rw [flds_enc _ l hpart [] (n + 1) post (risen_some hs) (by omega)]
        simp only []
        have := cntL_pos' (l.map (·.2))
        rw [show ((w.toNat : Nat) : Int) = w by omega]
        congr 2; omega
  | nothing => simp [nearE] at hown
  | alien a => simp [nearE] at hown
/-! ### what is read was written so -/
structure DVr (d n : Nat) (r : Str) (v : V) (n' : Nat) (r' : Str) : Prop where
  eq : r = enc v ++ r'
  near : Near v
  cn : (n' : Int) = n + cnt v
  dp : dpt v ≤ d
  ok : okV v
  le : n ≤ 16384 → n' ≤ 16384
def DV (f : Nat → Str → Rs (V × Nat)) (d : Nat) : Prop := ∀ n r v n' r', f n r = .ok (v, n') r' → DVr d n r v n' r'
theorem items_inv {f : Nat → Str → Rs (V × Nat)} {d : Nat} (hf : DV f d) : ∀ (k n : Nat) (r : Str) (l : List V) (n' : Nat) (r' : Str), itemsS f k n r = .ok (l, n') r' →
    r = encL l ++ r' ∧ l.length = k ∧ (n' : Int) = n + cntL l ∧ dptL l ≤ d ∧ okL l ∧ (∀ x, x ∈ l → Near x) ∧ (n ≤ 16384 → n' ≤ 16384)
  | 0, n, r, l, n', r', h => by
    rw [itemsS] at h
    injection h with h1 h2
    injection h1 with h1 h3
    subst h1; subst h2; subst h3
    simp [encL, cntL, dptL, okL]
  | k + 1, n, r, l, n', r', h => by
    rw [itemsS] at h
    obtain ⟨x, r1, h1, h⟩ := bind_ok h
    obtain ⟨y, r2, h2, h⟩ := bind_ok h
    injection h with h3 h4
    injection h3 with h3 h5
    subst h3; subst h4; subst h5
    have D := hf n r x.1 x.2 r1 h1
    obtain ⟨a1, a2, a3, a4, a5, a6, a7⟩ := items_inv hf k x.2 r1 y.1 y.2 r2 h2
    have := D.cn
    have := D.dp
    refine ⟨by rw [encL, D.eq, a1, List.append_assoc], by simp [a2], by rw [cntL]; omega, by rw [dptL]; omega, by rw [okL]; exact ⟨D.ok, a5⟩, ?_, fun h => a7 (D.le h)⟩
    intro z hz
    rcases List.mem_cons.1 hz with rfl | hz
    · exact D.near
    · exact a6 z hz
theorem flds_inv {f : Nat → Str → Rs (V × Nat)} {d : Nat} (hf : DV f d) (part : Nat) : ∀ (k : Nat) (last : Str) (n : Nat) (r : Str) (l : List (Str × V)) (n' : Nat) (r' : Str), fldsS f part k last n r = .ok (l, n') r' →
    r = encD l ++ r' ∧ l.length = k ∧ (n' : Int) = n + cntL (l.map (·.2)) ∧ dptL (l.map (·.2)) ≤ d ∧ okD l ∧ (∀ x, x ∈ l.map (·.2) → Near x) ∧ risen (some last) (l.map (·.1)) = true ∧ (n ≤ 16384 → n' ≤ 16384)
  | 0, last, n, r, l, n', r', h => by
    rw [fldsS] at h
    injection h with h1 h2
    injection h1 with h1 h3
    subst h1; subst h2; subst h3
    simp [encD, cntL, dptL, okD, risen]
  | k + 1, last, n, r, l, n', r', h => by
    rw [fldsS] at h
    obtain ⟨s, r0, h0, h⟩ := bind_ok h
    split at h
    · cases h
    · rename_i hle
      obtain ⟨x, r1, h1, h⟩ := bind_ok h
      obtain ⟨y, r2, h2, h⟩ := bind_ok h
      injection h with h3 h4
      injection h3 with h3 h5
      subst h3; subst h4; subst h5
      have D := hf n r0 x.1 x.2 r1 h1
      obtain ⟨a1, a2, a3, a4, a5, a6, a8, a7⟩ := flds_inv hf part k s x.2 r1 y.1 y.2 r2 h2
      obtain ⟨e0, hnm⟩ := nameS_inv h0
      have := D.cn
      have := D.dp
      refine ⟨by rw [encD, e0, D.eq, a1]; simp only [List.append_assoc], by simp [a2], by simp only [List.map_cons, cntL]; omega, by simp only [List.map_cons, dptL]; omega, by rw [okD]; exact ⟨D.ok, a5⟩, ?_, ?_, fun h => a7 (D.le h)⟩
      · intro z hz
        rw [List.map_cons] at hz
        rcases List.mem_cons.1 hz with rfl | hz
        · exact D.near
        · exact a6 z hz
      · simp only [List.map_cons, risen, hnm, a8, Bool.true_and, Bool.and_true]
        simpa using hle
theorem risen_none {l : List Str} {q : Str} (h : risen (some q) l = true) : risen none l = true := by
  cases l with
  | nil => rfl
  | cons s r =>
    simp only [risen, Bool.and_eq_true, Bool.and_true] at h ⊢
    exact ⟨h.1.1, h.2⟩
theorem fieldsE_of {l : List Str} (h1 : l.length ≤ 4096) (h2 : risen none l = true) : fieldsE l = 0 := by
  unfold fieldsE; rw [if_neg (by omega), if_pos h2]
theorem cons_enc {c : UInt8} {n : Nat} {r e : Str} (h : c.toNat = n) (hn : n < 256) (hr : r = e) : c :: r = UInt8.ofNat n :: e := by
  subst hr
  congr 1
  apply UInt8.toNat_inj.1
  rw [h, u8_toNat hn]
theorem boolS_inv {n n' : Nat} {r r' : Str} {v : V} (h : boolS n r = .ok (v, n') r') : ∃ b : Bool, v = .bool b ∧ n' = n ∧ r = (if b then 1 else 0) :: r' := by
  cases r with
  | nil => cases h
  | cons c r =>
    rw [boolS] at h
    split at h
    · cases h
    · rename_i hc
      injection h with h1 h2
      injection h1 with h1 h3
      refine ⟨_, h1.symm, h3.symm, ?_⟩
      subst h2
      congr 1
      apply UInt8.toNat_inj.1
      by_cases h1 : c.toNat = 1
      · rw [h1]; rfl
      · have : c.toNat = 0 := by omega
        rw [this]; rfl
theorem valS_inv : ∀ (d : Nat), DV (valS d) d
  | d, n, [], v, n', r', h => by cases d <;> cases h
  | 0, n, c :: r, v, n', r', h => by cases h
  | d + 1, n, c :: r, v, n', r', h => by
    have ih := valS_inv d
    rw [valS] at h
    split at h
    · cases h
    · rename_i hn
      split at h
      · cases h
      · rename_i hc
        unfold bodyS at h
        have leaf : ∀ {x : V} {e : Str}, v = x → n' = n + 1 → c :: r = enc x ++ r' → Near x → cnt x = 1 → dpt x = 1 → okV x → DVr (d + 1) n (c :: r) v n' r' := by
          intro x e hv hn' he h1 h2 h3 h4
          subst hv
          exact ⟨he, h1, by omega, by omega, h4, fun _ => by omega⟩
        by_cases ht : c.toNat = 2
        · rw [if_pos ht] at h
          obtain ⟨b, rfl, rfl, hr⟩ := boolS_inv h
          exact leaf (e := []) rfl rfl (by rw [enc, List.cons_append, List.singleton_append]; exact cons_enc ht (by decide) hr) (.mk rfl (fun y hy => by cases hy)) rfl rfl trivial
        · rw [if_neg ht] at h
          by_cases ht : c.toNat = 3
          · rw [if_pos ht] at h
            obtain ⟨m, r1, h1, h⟩ := bind_ok h
            injection h with h2 h3
            injection h2 with h2 h4
            obtain ⟨e1, e2⟩ := nmS_inv h1
            subst h3
            exact leaf (e := []) h2.symm h4.symm (by rw [enc, List.cons_append, zig_unzig]; exact cons_enc ht (by decide) e1) (.mk rfl (fun y hy => by cases hy)) rfl rfl (by rw [okV]; exact unzig_in e2)
          · rw [if_neg ht] at h
            by_cases ht : c.toNat = 4
            · rw [if_pos ht] at h
              obtain ⟨s, r1, h1, h⟩ := bind_ok h
              injection h with h2 h3
              injection h2 with h2 h4
              obtain ⟨e1, e2⟩ := takeS_inv h1
              subst h3
              obtain ⟨e3, e4⟩ := be8_be e2
              exact leaf (e := []) h2.symm h4.symm (by rw [enc, List.cons_append, e3]; exact cons_enc ht (by decide) e1) (.mk rfl (fun y hy => by cases hy)) rfl rfl (by rw [okV]; exact e4)
            · rw [if_neg ht] at h
              by_cases ht : c.toNat = 5
              · rw [if_pos ht] at h
                obtain ⟨m, r0, h0, h⟩ := bind_ok h
                obtain ⟨s, r1, h1, h⟩ := bind_ok h
                injection h with h2 h3
                injection h2 with h2 h4
                obtain ⟨e1, e2⟩ := takeS_inv h1
                obtain ⟨e3, e4⟩ := mostS_inv h0
                subst h3
                subst e2
                exact leaf (e := []) h2.symm h4.symm (by rw [enc, List.cons_append, List.append_assoc, ← e1]; exact cons_enc ht (by decide) e3) (.mk (by rw [nearE, if_neg (by omega)]) (fun y hy => by cases hy)) rfl rfl trivial
              · rw [if_neg ht] at h
                by_cases ht : c.toNat = 6
                · rw [if_pos ht] at h
                  obtain ⟨m, r0, h0, h⟩ := bind_ok h
                  obtain ⟨s, r1, h1, h⟩ := bind_ok h
                  injection h with h2 h3
                  injection h2 with h2 h4
                  obtain ⟨e1, e2⟩ := takeS_inv h1
                  obtain ⟨e3, e4⟩ := mostS_inv h0
                  subst h3
                  subst e2
                  exact leaf (e := []) h2.symm h4.symm (by rw [enc, List.cons_append, List.append_assoc, ← e1]; exact cons_enc ht (by decide) e3) (.mk (by rw [nearE, if_neg (by omega)]) (fun y hy => by cases hy)) rfl rfl trivial
                · rw [if_neg ht] at h
                  by_cases ht : c.toNat = 7
                  · rw [if_pos ht] at h
                    obtain ⟨m, r1, h1, h⟩ := bind_ok h
                    injection h with h2 h3
                    injection h2 with h2 h4
                    obtain ⟨e1, e2⟩ := nmS_inv h1
                    subst h3
                    exact leaf (e := []) h2.symm h4.symm (by rw [enc, List.cons_append]; exact cons_enc ht (by decide) (by simpa using e1)) (.mk rfl (fun y hy => by cases hy)) rfl rfl (by rw [okV]; omega)
                  · rw [if_neg ht] at h
                    by_cases ht : c.toNat = 8
                    · rw [if_pos ht] at h
                      obtain ⟨m, r0, h0, h⟩ := bind_ok h
                      obtain ⟨x, r1, h1, h⟩ := bind_ok h
                      injection h with h2 h3
                      injection h2 with h2 h4
                      obtain ⟨e3, e4⟩ := mostS_inv h0
                      obtain ⟨a1, a2, a3, a4, a5, a6, a7⟩ := items_inv ih m (n + 1) r0 x.1 x.2 r1 h1
                      subst h3; subst h2; subst h4; subst a2
                      refine ⟨by rw [enc, List.cons_append, List.append_assoc, ← a1]; exact cons_enc ht (by decide) e3, .mk (by rw [nearE, if_neg (by omega)]) a6, by rw [cnt]; omega, by rw [dpt]; omega, by rw [okV]; exact a5, fun _ => a7 (by omega)⟩
                    · rw [if_neg ht] at h
                      by_cases ht : c.toNat = 9
                      · rw [if_pos ht] at h
                        obtain ⟨m, r0, h0, h⟩ := bind_ok h
                        obtain ⟨x, r1, h1, h⟩ := bind_ok h
                        injection h with h2 h3
                        injection h2 with h2 h4
                        obtain ⟨e3, e4⟩ := mostS_inv h0
                        obtain ⟨a1, a2, a3, a4, a5, a6, a8, a7⟩ := flds_inv ih _ m [] (n + 1) r0 x.1 x.2 r1 h1
                        subst h3; subst h2; subst h4; subst a2
                        refine ⟨by rw [enc, List.cons_append, List.append_assoc, ← a1]; exact cons_enc ht (by decide) e3, .mk (by rw [nearE]; exact fieldsE_of (by rw [List.length_map]; omega) (risen_none a8)) a6, by rw [cnt_eq]; simp only [V.parts]; omega, by rw [dpt_eq]; simp only [V.parts]; omega, by rw [okV]; exact a5, fun _ => a7 (by omega)⟩
                      · rw [if_neg ht] at h
                        by_cases ht : c.toNat = 10
                        · rw [if_pos ht] at h
                          obtain ⟨s, r2, h5, h⟩ := bind_ok h
                          obtain ⟨w, r3, h6, h⟩ := bind_ok h
                          split at h
                          · cases h
                          · rename_i hw
                            obtain ⟨m, r0, h0, h⟩ := bind_ok h
                            obtain ⟨x, r1, h1, h⟩ := bind_ok h
                            injection h with h2 h3
                            injection h2 with h2 h4
                            obtain ⟨e3, e4⟩ := mostS_inv h0
                            obtain ⟨e5, e6⟩ := nameS_inv h5
                            obtain ⟨e7, e8⟩ := nmS_inv h6
                            obtain ⟨a1, a2, a3, a4, a5, a6, a8, a7⟩ := flds_inv ih _ m [] (n + 1) r0 x.1 x.2 r1 h1
                            subst h3; subst h2; subst h4; subst a2
                            refine ⟨?_, .mk ?_ a6, by rw [cnt_eq]; simp only [V.parts]; omega, by rw [dpt_eq]; simp only [V.parts]; omega, by rw [okV]; exact a5, fun _ => a7 (by omega)⟩
                            · rw [enc, List.cons_append]
                              simp only [List.append_assoc]
                              rw [← a1, ← e3]
                              refine cons_enc ht (by decide) ?_
                              rw [e5, e7]; simp
                            · rw [nearE, if_neg (by simp [e6]), if_neg (by omega)]
                              exact fieldsE_of (by rw [List.length_map]; omega) (risen_none a8)
                        · rw [if_neg ht] at h
                          injection h with h2 h3
                          injection h2 with h2 h4
                          subst h3
                          exact leaf (e := []) h2.symm h4.symm (by rw [enc]; exact cons_enc (n := 1) (by omega) (by decide) rfl) (.mk rfl (fun y hy => by cases hy)) rfl rfl trivial
end Go.Proofs.Ytigadhiciinicaa

namespace Go.Proofs.Ytigadhiciinicaa
open Go Aw
set_option linter.unusedVariables false
set_option linter.unusedSimpArgs false
set_option maxRecDepth 8000
theorem bu_cl (x : V) : Fine x → bu (cl x) = x := by
  induction x using V.byParts with
  | _ x ih =>
  intro hx
  have hp := hx.own.2
  have hn := hx.own.1
  have hm : ∀ l : List V, (∀ u, u ∈ l → bu (cl u) = u) → (l.map cl).map bu = l := fun l h => by
    rw [List.map_map]
    conv => rhs; rw [← List.map_id l]
    exact List.map_congr_left fun u hu => h u hu
  have hd : ∀ l : List (Str × V), (∀ u, u ∈ l → bu (cl u.2) = u.2) → (l.map clE).map buE = l := fun l h => by
    rw [List.map_map]
    conv => rhs; rw [← List.map_id l]
    exact List.map_congr_left fun u hu => by obtain ⟨s, x⟩ := u; exact congrArg (Prod.mk s) (h _ hu)
  cases x with
  | nothing => simp [nearE] at hn
  | alien t => simp [nearE] at hn
  | list l => rw [cl, clL_map, bu, buTs_map, hm l (fun u hu => ih u hu (hp u hu))]; rfl
  | dict l => rw [cl, clD_map, bu, buEs_map, hd l (fun u hu => ih u.2 (List.mem_map_of_mem hu) (hp _ (List.mem_map_of_mem hu)))]; rfl
  | record c v l => rw [cl, clD_map, bu, buEs_map, hd l (fun u hu => ih u.2 (List.mem_map_of_mem hu) (hp _ (List.mem_map_of_mem hu)))]; rfl
  | _ => rw [cl, bu]; rfl
theorem bu_kindW {t : Term} (h : nearE (bu t) = 0) : kindOf (bu t) = t.kind ∧ 1 ≤ t.kind ∧ t.kind ≤ 10 := by
  have hb := bu_c t
  generalize bu t = x at hb h
  cases hb with
  | nothing hk => simp [nearE] at h
  | alien hk => simp [nearE] at h
  | _ hk => rw [hk]; exact ⟨rfl, by decide, by decide⟩
def SameOk (s t : Term) : Prop := ∃ r, p_mk_Same s t = some r ∧ (r = true ↔ bu s = bu t)
theorem drop_cons {α β : Type} {l : List α} {f : α → β} {i : Nat} {x : α} (h : l[i]? = some x) : (l.map f).drop i = f x :: (l.map f).drop (i + 1) := by
  obtain ⟨hi, rfl⟩ := List.getElem?_eq_some_iff.1 h
  rw [List.drop_eq_getElem_cons (by rw [List.length_map]; exact hi), List.getElem_map]
theorem sl_l {a b : List Term} (h : ∀ x, x ∈ a → ∀ y, y ∈ b → SameOk x y) (hl : a.length = b.length) : ∀ k i, k + i = a.length → ∃ r, mk_Lists_l1 p_mk_Same a b i = some r ∧ (r = true ↔ (a.map bu).drop i = (b.map bu).drop i)
  | 0, i, hk => by
    rw [mk_Lists_l1_eq]
    simp only [mk_Lists_l1b, lt_f (by omega : ¬ i < a.length), cond_false]
    exact ⟨true, rfl, by rw [List.drop_of_length_le (by simp; omega), List.drop_of_length_le (by simp; omega)]; simp⟩
  | k + 1, i, hk => by
    obtain ⟨x, hx, _⟩ := dropc (by omega : i < a.length)
    obtain ⟨y, hy, _⟩ := dropc (by omega : i < b.length)
    obtain ⟨r, h1, h2⟩ := h x (List.mem_of_getElem? hx) y (List.mem_of_getElem? hy)
    rw [mk_Lists_l1_eq]
    simp only [mk_Lists_l1b, lt_t (by omega : i < a.length), cond_true, hx, hy, Option.bind_some, h1]
    rw [drop_cons hx, drop_cons hy]
    cases r with
    | false =>
      refine ⟨false, rfl, ?_⟩
      have : ¬ bu x = bu y := fun h => by simp [h] at h2
      simp [this]
    | true =>
      obtain ⟨r, h3, h4⟩ := sl_l h hl k (i + 1) (by omega)
      refine ⟨r, h3, ?_⟩
      rw [h4, List.cons.injEq]
      simp [h2.1 rfl]
theorem se_l {a b : List (Str × Term)} (h : ∀ x, x ∈ a → ∀ y, y ∈ b → SameOk x.2 y.2) (hl : a.length = b.length) : ∀ k i, k + i = a.length → ∃ r, mk_Entries_l1 p_mk_Same a b i = some r ∧ (r = true ↔ (a.map buE).drop i = (b.map buE).drop i)
  | 0, i, hk => by
    rw [mk_Entries_l1_eq]
    simp only [mk_Entries_l1b, lt_f (by omega : ¬ i < a.length), cond_false]
    exact ⟨true, rfl, by rw [List.drop_of_length_le (by simp; omega), List.drop_of_length_le (by simp; omega)]; simp⟩
  | k + 1, i, hk => by
    obtain ⟨x, hx, _⟩ := dropc (by omega : i < a.length)
    obtain ⟨y, hy, _⟩ := dropc (by omega : i < b.length)
    obtain ⟨r, h1, h2⟩ := h x (List.mem_of_getElem? hx) y (List.mem_of_getElem? hy)
    rw [mk_Entries_l1_eq]
    simp only [mk_Entries_l1b, lt_t (by omega : i < a.length), cond_true, hx, hy, Option.bind_some, h1]
    rw [drop_cons hx, drop_cons hy]
    obtain ⟨s, x⟩ := x
    obtain ⟨q, y⟩ := y
    dsimp only at h1 h2
    have hE : buE (s, x) = buE (q, y) ↔ s = q ∧ bu x = bu y := by simp [buE]
    by_cases hs : s = q
    · subst hs
      simp only [beq_self_eq_true, Bool.not_true, cond_false]
      cases r with
      | false =>
        refine ⟨false, rfl, ?_⟩
        have : ¬ bu x = bu y := fun h => by simp [h] at h2
        simp [hE, this]
      | true =>
        obtain ⟨r, h3, h4⟩ := se_l h hl k (i + 1) (by omega)
        refine ⟨r, h3, ?_⟩
        rw [h4, List.cons.injEq, hE]
        simp [h2.1 rfl]
    · rw [show (!(s == q)) = true by simp [hs], cond_true]
      refine ⟨false, rfl, ?_⟩
      simp [hE, hs]
theorem same_iff (s : Term) : ∀ t, Fine (bu s) → SameOk s t := by
  induction s using Term.byParts with
  | _ s ih =>
  intro t hx
  have hp := hx.own.2
  have hn := hx.own.1
  rw [← partsT_bu] at hp
  have hk := bu_kindW hn
  unfold SameOk
  by_cases he : s.kind = t.kind
  · have hs : ∀ u, u ∈ partsT s → ∀ t, SameOk u t := fun u hu t => ih u hu t (hp _ (List.mem_map_of_mem hu))
    rw [e_mk_Same, b_mk_Same, show (s.kind != t.kind) = false by simp [he], cond_false]
    have hL : s.kind = 8 → ∃ r, p_mk_Lists s.list t.list = some r ∧ (r = true ↔ s.list.map bu = t.list.map bu) := fun h8 => by
      rw [e_mk_Lists, b_mk_Lists]
      by_cases hl : s.list.length = t.list.length
      · rw [show (((s.list.length : Nat) : Int) != ((t.list.length : Nat) : Int)) = false by simp [hl], cond_false]
        exact sl_l (fun x hx y _ => hs x (by unfold partsT; rw [if_pos h8]; exact hx) y) hl s.list.length 0 (by omega)
      · rw [show (((s.list.length : Nat) : Int) != ((t.list.length : Nat) : Int)) = true by simp; omega, cond_true]
        refine ⟨false, rfl, ?_⟩
        have : ¬ s.list.map bu = t.list.map bu := fun h => hl (by have := congrArg List.length h; simpa using this)
        simp [this]
    have hE : s.kind = 9 ∨ s.kind = 10 → ∃ r, p_mk_Entries s.fields t.fields = some r ∧ (r = true ↔ s.fields.map buE = t.fields.map buE) := fun h9 => by
      rw [e_mk_Entries, b_mk_Entries]
      by_cases hl : s.fields.length = t.fields.length
      · rw [show (((s.fields.length : Nat) : Int) != ((t.fields.length : Nat) : Int)) = false by simp [hl], cond_false]
        exact se_l (fun x hx y _ => hs _ (by unfold partsT; rw [if_neg (by omega), if_pos h9]; exact List.mem_map_of_mem hx) _) hl s.fields.length 0 (by omega)
      · rw [show (((s.fields.length : Nat) : Int) != ((t.fields.length : Nat) : Int)) = true by simp; omega, cond_true]
        refine ⟨false, rfl, ?_⟩
        have : ¬ s.fields.map buE = t.fields.map buE := fun h => hl (by have := congrArg List.length h; simpa using this)
        simp [this]
    have hb := bu_c s
    have hc := bu_c t
    generalize bu s = x at hb hn
    generalize bu t = y at hc
    cases hb with
    | nothing h => simp [nearE] at hn
    | alien h => simp [nearE] at hn
    | nil h => cases hc <;> first | (exfalso; omega) | skip
               simp only [mk_Same_j1, h]; exact ⟨_, rfl, by simp⟩
    | bool h => cases hc <;> first | (exfalso; omega) | skip
                simp only [mk_Same_j1, h]; exact ⟨_, rfl, by simp⟩
    | int h => cases hc <;> first | (exfalso; omega) | skip
               simp only [mk_Same_j1, h]; exact ⟨_, rfl, by simp⟩
    | float h => cases hc <;> first | (exfalso; omega) | skip
                 simp only [mk_Same_j1, h]; exact ⟨_, rfl, by simp; omega⟩
    | text h => cases hc <;> first | (exfalso; omega) | skip
                simp only [mk_Same_j1, h]; exact ⟨_, rfl, by simp⟩
    | bytes h => cases hc <;> first | (exfalso; omega) | skip
                 simp only [mk_Same_j1, h]; exact ⟨_, rfl, by simp⟩
    | ref h => cases hc <;> first | (exfalso; omega) | skip
               simp only [mk_Same_j1, h]; exact ⟨_, rfl, by simp⟩
    | list h =>
      cases hc <;> first | (exfalso; omega) | skip
      obtain ⟨r, h1, h2⟩ := hL h
      simp only [mk_Same_j1, h, h1, Option.bind_some]; exact ⟨r, rfl, by rw [h2, V.list.injEq]⟩
    | dict h =>
      cases hc <;> first | (exfalso; omega) | skip
      obtain ⟨r, h1, h2⟩ := hE (.inl h)
      simp only [mk_Same_j1, h, h1, Option.bind_some]; exact ⟨r, rfl, by rw [h2, V.dict.injEq]⟩
    | record h =>
      cases hc <;> first | (exfalso; omega) | skip
      obtain ⟨r, h1, h2⟩ := hE (.inr h)
      simp only [mk_Same_j1, h, h1, Option.bind_some]
      by_cases h3 : s.cls = t.cls
      · by_cases h4 : s.ver = t.ver
        · exact ⟨r, by rw [show (s.cls == t.cls) = true by simp [h3], show (s.ver == t.ver) = true by simp [h4]]; rfl, by rw [h2, V.record.injEq]; simp [h3, h4]⟩
        · exact ⟨false, by rw [show (s.cls == t.cls) = true by simp [h3], show (s.ver == t.ver) = false by simp [h4]]; rfl, by rw [V.record.injEq]; simp [h4]⟩
      · exact ⟨false, by rw [show (s.cls == t.cls) = false by simp [h3]]; rfl, by rw [V.record.injEq]; simp [h3]⟩
  · refine ⟨false, by rw [e_mk_Same, b_mk_Same, show (s.kind != t.kind) = true by simp [he]]; rfl, ?_⟩
    have : ¬ bu s = bu t := fun h => by
      have h2 := bu_kindW (t := t) (by rw [← h]; exact hn)
      rw [← h] at h2; omega
    simp [this]
theorem is_built {t : Term} {x : V} (h : bu t = x) (hc : Can x) : p_mk_Is x t = some true := by
  have hf := can_fine hc
  have h0 := mk_plain_eq x 0 0 1 (can_ok.2 hc) (by omega)
  have e : (1 : Int) - 1 = 0 := rfl
  rw [e] at h0
  have hb := bu_cl x hf
  obtain ⟨r, h1, h2⟩ := same_iff (cl x) t (by rw [hb]; exact hf)
  simp only [p_mk_Is, p_mk_Plain, h0, Option.bind_some, h1, h2.2 (by rw [hb, h])]
theorem Fine.near {x : V} : Fine x → Near x := by
  induction x using V.byParts with
  | _ x ih => exact fun h => .mk h.own.1 fun y hy => ih y hy (h.own.2 y hy)
theorem can_check {x : V} (h : (checkF x).2 = 0) : Can x := by
  rcases Classical.em (Can x) with hc | hc
  · exact hc
  · exact absurd h (check_cannot hc)
end Go.Proofs.Ytigadhiciinicaa

namespace Go.Proofs.Ytigadhiciinicaa
open Go Aw
set_option linter.unusedVariables false
set_option linter.unusedSimpArgs false
set_option maxRecDepth 8000
theorem float_put {f : Nat} {acc : Str} (hf : f < 18446744073709551616) (ha : acc.length + 8 ≤ 1073741824) : wire_put_l1 (.float f) acc 56 = some (acc ++ be8 f) := by
  have step : ∀ (s : Nat) (t : Int) (acc : Str), s ≤ 56 → t = (s : Int) - 8 → acc.length ≤ 1073741824 → wire_put_l1 (.float f) acc (s : Int) = wire_put_l1 (.float f) (acc ++ [UInt8.ofNat (f / 2 ^ s)]) t := by
    intro s t acc hs ht ha
    rw [wire_put_l1_eq]
    simp only [wire_put_l1b, V.asFloat]
    have hn : negO (s : Int) = some () := by unfold negO; rw [decide_eq_true (by omega)]; rfl
    rw [decide_eq_true (by omega), cond_true, hn, Option.bind_some, shr_nat f s (by omega), w64_in (by omega) (by omega), ← ht]
    have e : UInt8.ofInt ((f / 2 ^ s : Nat) : Int) = UInt8.ofNat (f / 2 ^ s) := by
      apply UInt8.toNat_inj.1; rw [u8_ofInt, UInt8.toNat_ofNat']
    rw [e, app1W ha, Option.bind_some]
  have hl : ∀ (x : Str) (c : UInt8), (x ++ [c]).length = x.length + 1 := fun x c => by simp
  rw [show (56 : Int) = ((56 : Nat) : Int) from rfl, step 56 ((48 : Nat) : Int) _ (by omega) rfl (by omega), step 48 ((40 : Nat) : Int) _ (by omega) rfl (by simp only [hl]; omega), step 40 ((32 : Nat) : Int) _ (by omega) rfl (by simp only [hl]; omega),
    step 32 ((24 : Nat) : Int) _ (by omega) rfl (by simp only [hl]; omega), step 24 ((16 : Nat) : Int) _ (by omega) rfl (by simp only [hl]; omega), step 16 ((8 : Nat) : Int) _ (by omega) rfl (by simp only [hl]; omega),
    step 8 ((0 : Nat) : Int) _ (by omega) rfl (by simp only [hl]; omega), step 0 (-8) _ (by omega) rfl (by simp only [hl]; omega), wire_put_l1_eq]
  simp only [wire_put_l1b]
  rw [decide_eq_false (by omega), cond_false]
  simp only [wire_put_j1, be8, List.append_assoc, List.singleton_append, List.cons_append, List.nil_append]
  simp only [Nat.reducePow, Nat.div_one]
def PutOk (v : V) : Prop := ∀ s : Str, s.length + (enc v).length ≤ 1073741824 → p_wire_put s v = some (s ++ enc v)
theorem encL_drop {l : List V} {i : Nat} {x : V} (h : l[i]? = some x) : encL (l.drop i) = enc x ++ encL (l.drop (i + 1)) := by
  obtain ⟨hi, rfl⟩ := List.getElem?_eq_some_iff.1 h
  rw [List.drop_eq_getElem_cons hi, encL]
theorem encD_drop {l : List (Str × V)} {i : Nat} {x : Str × V} (h : l[i]? = some x) : encD (l.drop i) = num x.1.length ++ (x.1 ++ (enc x.2 ++ encD (l.drop (i + 1)))) := by
  obtain ⟨hi, rfl⟩ := List.getElem?_eq_some_iff.1 h
  rw [List.drop_eq_getElem_cons hi]
  obtain ⟨s, x⟩ := l[i]
  rw [encD]
theorem pl_l {l : List V} {cap : V} (hc : cap = .list l) (h : ∀ x, x ∈ l → PutOk x) : ∀ (k i : Nat) (s : Str), k + i = l.length → s.length + (encL (l.drop i)).length ≤ 1073741824 → wire_put_l2 p_wire_put cap s i = some (s ++ encL (l.drop i))
  | 0, i, s, hk, hs => by
    subst hc
    rw [wire_put_l2_eq]
    simp only [wire_put_l2b, V.asList, lt_f (by omega : ¬ i < l.length), cond_false, wire_put_j1]
    rw [List.drop_of_length_le (by omega), encL, List.append_nil]
  | k + 1, i, s, hk, hs => by
    have hc' := hc
    subst hc
    obtain ⟨x, hx, _⟩ := dropc (by omega : i < l.length)
    rw [encL_drop hx, List.length_append] at hs
    rw [wire_put_l2_eq]
    simp only [wire_put_l2b, V.asList, lt_t (by omega : i < l.length), cond_true, hx, Option.bind_some]
    rw [h x (List.mem_of_getElem? hx) s (by omega), Option.bind_some, pl_l rfl h k (i + 1) _ (by omega) (by rw [List.length_append]; omega), encL_drop hx, List.append_assoc]
theorem pd_l {l : List (Str × V)} (h : ∀ x, x ∈ l.map (·.2) → PutOk x) : ∀ (k i : Nat) (s : Str), k + i = l.length → s.length + (encD (l.drop i)).length ≤ 1073741824 → wire_fields_l1 p_wire_put l s i = some (s ++ encD (l.drop i))
  | 0, i, s, hk, hs => by
    rw [wire_fields_l1_eq]
    simp only [wire_fields_l1b, lt_f (by omega : ¬ i < l.length), cond_false]
    rw [List.drop_of_length_le (by omega), encD, List.append_nil]
  | k + 1, i, s, hk, hs => by
    obtain ⟨x, hx, _⟩ := dropc (by omega : i < l.length)
    rw [encD_drop hx, List.length_append, List.length_append, List.length_append] at hs
    rw [wire_fields_l1_eq]
    simp only [wire_fields_l1b, lt_t (by omega : i < l.length), cond_true, hx, Option.bind_some]
    rw [wire_text_eq _ _ (by omega), Option.bind_some, h x.2 (List.mem_map_of_mem (List.mem_of_getElem? hx)) _ (by simp only [List.length_append]; omega), Option.bind_some,
      pd_l h k (i + 1) _ (by omega) (by simp only [List.length_append]; omega), encD_drop hx]
    simp only [List.append_assoc]
theorem fields_put {l : List (Str × V)} (h : ∀ x, x ∈ l.map (·.2) → PutOk x) (hl : l.length ≤ 4096) (s : Str) (hs : s.length + (num l.length).length + (encD l).length ≤ 1073741824) : p_wire_fields s l = some (s ++ (num l.length ++ encD l)) := by
  rw [e_wire_fields]
  simp only [b_wire_fields]
  rw [wu_nat (by omega), wire_number_eq l.length s (by omega) (by omega), Option.bind_some, pd_l h l.length 0 _ (by omega) (by rw [List.length_append, List.drop_zero]; omega), List.drop_zero, List.append_assoc]
theorem put_eq (v : V) : Near v → okV v → PutOk v := by
  induction v using V.byParts with
  | _ v ih =>
  intro hnr hok s hs
  have hown := hnr.own
  have hpart : ∀ x, x ∈ v.parts → PutOk x := fun x hx => ih x hx (hnr.part x hx) (ok_part hok hx)
  have h1 : 1 ≤ (enc v).length := by cases v <;> simp [enc]
  have hk : p_value_Kind v = some (kindOf v) := value_Kind_eq v
  have hs1 : s.length ≤ 1073741824 := by omega
  rw [e_wire_put]
  simp only [b_wire_put]
  rw [hk, Option.bind_some, app1W hs1, Option.bind_some]
  have l1 : ∀ c : UInt8, (s ++ [c]).length = s.length + 1 := fun c => by simp
  cases v with
  | nil => simp only [V.isBool, V.isInt, V.isFloat, V.isText, V.isBytes, V.isRef, V.isList, V.isDict, V.isRec, cond_false]; rfl
  | bool b =>
    simp only [V.isBool, cond_true, V.asBool]
    rw [enc] at hs ⊢
    simp only [List.length_cons, List.length_nil] at hs
    cases b with
    | true => rw [cond_true, app1W (by rw [l1]; omega), Option.bind_some, List.append_assoc]; rfl
    | false => rw [cond_false, app1W (by rw [l1]; omega), Option.bind_some, List.append_assoc]; rfl
  | int i =>
    rw [okV] at hok
    simp only [V.isBool, V.isInt, cond_false, cond_true, V.asInt]
    rw [enc] at hs ⊢
    simp only [List.length_cons] at hs
    rw [wire_zigzag_eq i hok.1 hok.2, Option.bind_some, wire_number_eq (zig i) _ (zig_lt hok.1 hok.2) (by rw [l1]; omega), Option.bind_some, List.append_assoc]; rfl
  | float f =>
    rw [okV] at hok
    simp only [V.isBool, V.isInt, V.isFloat, cond_false, cond_true]
    rw [enc] at hs ⊢
    simp only [List.length_cons, be8_len] at hs
    rw [float_put hok (by rw [l1]; omega), List.append_assoc]; rfl
  | text t =>
    simp only [V.isBool, V.isInt, V.isFloat, V.isText, cond_false, cond_true, V.asText]
    rw [enc] at hs ⊢
    simp only [List.length_cons, List.length_append] at hs
    rw [wire_text_eq _ _ (by rw [l1]; omega), Option.bind_some, List.append_assoc]; rfl
  | bytes t =>
    simp only [V.isBool, V.isInt, V.isFloat, V.isText, V.isBytes, cond_false, cond_true, V.asBytes]
    rw [enc] at hs ⊢
    simp only [List.length_cons, List.length_append] at hs
    rw [wu_nat (by omega), wire_number_eq _ _ (by omega) (by rw [l1]; omega), Option.bind_some, appW (by simp only [List.length_append, List.length_cons, List.length_nil]; omega), Option.bind_some, List.append_assoc, List.append_assoc]; rfl
  | ref r =>
    rw [okV] at hok
    simp only [V.isBool, V.isInt, V.isFloat, V.isText, V.isBytes, V.isRef, cond_false, cond_true, V.asRef]
    rw [enc] at hs ⊢
    simp only [List.length_cons] at hs
    obtain ⟨m, rfl⟩ : ∃ m : Nat, r = (m : Int) := ⟨r.toNat, by omega⟩
    rw [Int.toNat_natCast] at hs ⊢
    rw [wire_number_eq m _ (by omega) (by rw [l1]; omega), Option.bind_some, List.append_assoc]; rfl
  | list l =>
    have hl := near_list hown
    simp only [V.isBool, V.isInt, V.isFloat, V.isText, V.isBytes, V.isRef, V.isList, cond_false, cond_true, V.asList]
    rw [enc] at hs ⊢
    simp only [List.length_cons, List.length_append] at hs
    rw [wu_nat (by omega), wire_number_eq _ _ (by omega) (by rw [l1]; omega), Option.bind_some, pl_l (l := l) rfl hpart l.length 0 _ (by omega) (by simp only [List.length_append, List.length_cons, List.length_nil, List.drop_zero]; omega), List.drop_zero, List.append_assoc, List.append_assoc]; rfl
  | dict l =>
    have hl := near_dict hown
    simp only [V.isBool, V.isInt, V.isFloat, V.isText, V.isBytes, V.isRef, V.isList, V.isDict, cond_false, cond_true, V.asDict]
    rw [enc] at hs ⊢
    simp only [List.length_cons, List.length_append] at hs
    rw [fields_put hpart hl _ (by rw [l1]; omega), Option.bind_some, List.append_assoc]; rfl
  | record c w l =>
    have hl := near_rec hown
    simp only [V.isBool, V.isInt, V.isFloat, V.isText, V.isBytes, V.isRef, V.isList, V.isDict, V.isRec, cond_false, cond_true, V.asRec, Option.bind_some]
    rw [enc] at hs ⊢
    simp only [List.length_cons, List.length_append] at hs
    obtain ⟨m, rfl⟩ : ∃ m : Nat, w = (m : Int) := ⟨w.toNat, by omega⟩
    rw [Int.toNat_natCast] at hs ⊢
    rw [wire_text_eq _ _ (by rw [l1]; omega), Option.bind_some, wu_nat (by omega), wire_number_eq m _ (by omega) (by simp only [List.length_append, l1]; omega), Option.bind_some,
      fields_put hpart hl.2 _ (by simp only [List.length_append, l1]; omega), Option.bind_some]
    simp only [List.append_assoc]; rfl
  | nothing => simp [nearE] at hown
  | alien t => simp [nearE] at hown
end Go.Proofs.Ytigadhiciinicaa

namespace Go.Proofs.Ytigadhiciinicaa
open Go Aw
set_option linter.unusedVariables false
set_option linter.unusedSimpArgs false
set_option maxRecDepth 8000
theorem okT_mkW (t : Term) : okT t ↔ (inI .i64 t.kind ∧ inI .i64 t.int ∧ t.float < 18446744073709551616 ∧ inI .u64 t.ref ∧ okTs t.list ∧ okEs t.fields ∧ inI .i64 t.ver) := by cases t; rw [okT]; rfl
theorem okTs_memW : ∀ {l : List Term}, okTs l → ∀ t, t ∈ l → okT t
  | x :: r, h, t, ht => by
    rw [okTs] at h
    rcases List.mem_cons.1 ht with rfl | ht
    · exact h.1
    · exact okTs_memW h.2 t ht
theorem okEs_memW : ∀ {l : List (Str × Term)}, okEs l → ∀ t, t ∈ l → okT t.2
  | (s, x) :: r, h, t, ht => by
    rw [okEs] at h
    rcases List.mem_cons.1 ht with rfl | ht
    · exact h.1
    · exact okEs_memW h.2 t ht
structure Bt (t : Term) : Prop where
  ok : okV (bu t)
  len : (enc (bu t)).length + 12 ≤ 4 * bkT t
theorem bt_l : ∀ (l : List Term), (∀ u, u ∈ l → Bt u) → okL (l.map bu) ∧ (encL (l.map bu)).length ≤ 4 * bkTs l
  | [], _ => by simp [okL, encL]
  | x :: r, h => by
    have hx := h x (by simp)
    have hr := bt_l r (fun u hu => h u (by simp [hu]))
    have := hx.len
    rw [List.map_cons, okL, encL, List.length_append, bkTs]
    exact ⟨⟨hx.ok, hr.1⟩, by omega⟩
theorem bt_d : ∀ (l : List (Str × Term)), (∀ u, u ∈ l → Bt u.2) → bkEs l ≤ 268435456 → okD (l.map buE) ∧ (encD (l.map buE)).length ≤ 4 * bkEs l
  | [], _, _ => by simp [okD, encD]
  | (s, x) :: r, h, hb => by
    rw [bkEs] at hb ⊢
    have hx := h (s, x) (by simp)
    have hr := bt_d r (fun u hu => h u (by simp [hu])) (by omega)
    have := hx.len
    have hn := num_le s.length (by omega)
    dsimp only at this
    rw [List.map_cons, show buE (s, x) = (s, bu x) from rfl, okD, encD]
    simp only [List.length_append]
    exact ⟨⟨hx.ok, hr.1⟩, by omega⟩
theorem inI_i64 {i : Int} (h : inI .i64 i) : -9223372036854775808 ≤ i ∧ i ≤ 9223372036854775807 := by unfold inI at h; simpa using h
theorem inI_u64 {i : Int} (h : inI .u64 i) : 0 ≤ i ∧ i < 18446744073709551616 := by unfold inI at h; simp at h; omega
theorem bt (t : Term) : okT t → bkT t ≤ 268435456 → Bt t := by
  induction t using Term.byParts with
  | _ t ih =>
  intro hok hb
  have hm := bkT_mk t
  obtain ⟨o1, o2, o3, o4, o5, o6, o7⟩ := (okT_mkW t).1 hok
  have hl : t.kind = 8 → okL (t.list.map bu) ∧ (encL (t.list.map bu)).length ≤ 4 * bkTs t.list := fun h8 => bt_l t.list fun u hu => ih u (by unfold partsT; rw [if_pos h8]; exact hu) (okTs_memW o5 u hu) (by have := bkTs_mem hu; omega)
  have hd : t.kind = 9 ∨ t.kind = 10 → okD (t.fields.map buE) ∧ (encD (t.fields.map buE)).length ≤ 4 * bkEs t.fields := fun h9 => bt_d t.fields (fun u hu => ih u.2 (by unfold partsT; rw [if_neg (by omega), if_pos h9]; exact List.mem_map_of_mem hu) (okEs_memW o6 u hu) (by have := bkEs_mem hu; omega)) (by omega)
  have hc := bu_c t
  constructor
  · generalize bu t = x at hc
    cases hc with
    | int h => rw [okV]; exact inI_i64 o2
    | float h => rw [okV]; exact o3
    | ref h => rw [okV]; exact inI_u64 o4
    | list h => rw [okV]; exact (hl h).1
    | dict h => rw [okV]; exact (hd (.inl h)).1
    | record h => rw [okV]; exact (hd (.inr h)).1
    | _ h => rw [okV] <;> (intros; first | trivial | simp_all)
  · generalize bu t = x at hc
    cases hc with
    | nil h => simp only [enc, List.length_cons, List.length_nil]; omega
    | bool h => simp only [enc, List.length_cons, List.length_nil]; omega
    | int h => have := num_le (zig t.int) (zig_lt (inI_i64 o2).1 (inI_i64 o2).2); simp only [enc, List.length_cons]; omega
    | float h => simp only [enc, List.length_cons, be8_len]; omega
    | text h => have := num_le t.text.length (by omega); simp only [enc, List.length_cons, List.length_append]; omega
    | bytes h => have := num_le t.bytes.length (by omega); simp only [enc, List.length_cons, List.length_append]; omega
    | ref h => have := num_le t.ref.toNat (by have := inI_u64 o4; omega); simp only [enc, List.length_cons]; omega
    | list h => have h1 := bkTs_len t.list; have := num_le (t.list.map bu).length (by rw [List.length_map]; omega); have := (hl h).2; simp only [enc, List.length_cons, List.length_append]; omega
    | dict h => have h1 := bkEs_len t.fields; have := num_le (t.fields.map buE).length (by rw [List.length_map]; omega); have := (hd (.inl h)).2; simp only [enc, List.length_cons, List.length_append]; omega
    | record h =>
      have h1 := bkEs_len t.fields
      have h2 := num_le (t.fields.map buE).length (by rw [List.length_map]; omega)
      have h3 := num_le t.cls.length (by omega)
      have h4 := num_le t.ver.toNat (by have := inI_i64 o7; omega)
      have := (hd (.inr h)).2; simp only [enc, List.length_cons, List.length_append]; omega
    | nothing h => simp only [enc, List.length_cons, List.length_nil]; omega
    | alien h => simp only [enc, List.length_cons, List.length_nil]; omega
theorem encode_can {v : V} (hc : Can v) (hok : okV v) (hl : (enc v).length ≤ 1073741824) : p_wire_Encode v = some (enc v, 0) := by
  simp only [p_wire_Encode, value_Check_eq, Option.bind_some, check_can hc]
  rw [show ((0 : Int) != 0) = false from rfl, cond_false, put_eq v hc.1 hok [] (by simpa using hl)]
  rfl
theorem encode_not {v : V} (hc : ¬ Can v) : p_wire_Encode v = some ([], (checkF v).2) := by
  simp only [p_wire_Encode, value_Check_eq, Option.bind_some]
  rw [ne_t (check_cannot hc), cond_true]
end Go.Proofs.Ytigadhiciinicaa

namespace Go.Proofs.Ytigadhiciinicaa
open Go Aw
set_option linter.unusedVariables false
set_option linter.unusedSimpArgs false
set_option maxRecDepth 8000
theorem rn3_l (n : Nat) : ∀ (s : Str), n < 18446744073709551616 → s.length + (num n).length ≤ 1073741824 → ref03_Number_l1 (n : Int) s = some (s ++ num n) := by
  induction n using Nat.strongRecOn with
  | _ n ih =>
  intro s hn hs
  rw [ref03_Number_l1_eq]
  simp only [ref03_Number_l1b]
  rw [num] at hs ⊢
  by_cases h : n < 128
  · rw [dif_pos h] at hs ⊢
    rw [decide_eq_false (by omega), cond_false, u8_of (by omega), app1W (by simp at hs; omega), Option.bind_some]
  · rw [dif_neg h] at hs ⊢
    simp only [List.length_cons] at hs
    have e1 : Int.tmod (n : Int) 128 = ((n % 128 : Nat) : Int) := rfl
    have e2 : Int.tdiv (n : Int) 128 = ((n / 128 : Nat) : Int) := rfl
    have c128 : (((128 : UInt8)).toNat : Int) = 128 := rfl
    rw [decide_eq_true (by omega), cond_true, e1, e2, u8_ofInt, c128, show (((n % 128 % 256 : Nat) : Int) + 128) = ((n % 128 + 128 : Nat) : Int) by omega, u8_of (by omega), app1W (by omega), Option.bind_some, wu_nat (by omega),
      ih (n / 128) (by omega) _ (by omega) (by simp only [List.length_append, List.length_cons, List.length_nil]; omega), List.append_assoc]
    rfl
theorem ref03_Number_eq (n : Nat) (h : n < 18446744073709551616) : p_ref03_Number (n : Int) = some (num n) := by
  have := num_le n h
  have h1 := rn3_l n [] h (by simp; omega)
  exact h1
theorem ref03_text_eq (t : Str) (h : t.length ≤ 1073741824) : p_ref03_text t = some (num t.length ++ t) := by
  have := num_le t.length (by omega)
  simp only [p_ref03_text]
  rw [wu_nat (by omega), ref03_Number_eq _ (by omega), Option.bind_some, appW (by omega), Option.bind_some]
theorem rf3_l {l : List (Str × Term)} (h : ∀ u, u ∈ l → p_ref03_Bytes u.2 = some (enc (bu u.2))) : ∀ (k i : Nat) (s : Str), k + i = l.length → s.length + (encD ((l.map buE).drop i)).length ≤ 1073741824 → ref03_fields_l1 p_ref03_Bytes l s i = some (s ++ encD ((l.map buE).drop i))
  | 0, i, s, hk, hs => by
    rw [ref03_fields_l1_eq]
    simp only [ref03_fields_l1b, lt_f (by omega : ¬ i < l.length), cond_false]
    rw [List.drop_of_length_le (by simp; omega), encD, List.append_nil]
  | k + 1, i, s, hk, hs => by
    obtain ⟨x, hx, _⟩ := dropc (by omega : i < l.length)
    obtain ⟨t, x⟩ := x
    have hx2 : (l.map buE)[i]? = some (t, bu x) := by rw [List.getElem?_map, hx]; rfl
    rw [encD_drop hx2, List.length_append, List.length_append, List.length_append] at hs
    dsimp only at hs
    rw [ref03_fields_l1_eq]
    simp only [ref03_fields_l1b, lt_t (by omega : i < l.length), cond_true, hx, Option.bind_some]
    have hb := h _ (List.mem_of_getElem? hx)
    dsimp only at hb
    rw [ref03_text_eq _ (by omega), Option.bind_some, appW (by simp only [List.length_append]; omega), Option.bind_some, hb, Option.bind_some, appW (by simp only [List.length_append]; omega), Option.bind_some,
      rf3_l h k (i + 1) _ (by omega) (by simp only [List.length_append]; omega), encD_drop hx2]
    simp only [List.append_assoc]
theorem rb3_l {t : Term} (h : ∀ u, u ∈ t.list → p_ref03_Bytes u = some (enc (bu u))) : ∀ (k i : Nat) (s : Str), k + i = t.list.length → s.length + (encL ((t.list.map bu).drop i)).length ≤ 1073741824 → ref03_Bytes_l2 p_ref03_Bytes t s i = some (s ++ encL ((t.list.map bu).drop i))
  | 0, i, s, hk, hs => by
    rw [ref03_Bytes_l2_eq]
    simp only [ref03_Bytes_l2b, lt_f (by omega : ¬ i < t.list.length), cond_false, ref03_Bytes_j1]
    rw [List.drop_of_length_le (by simp; omega), encL, List.append_nil]
  | k + 1, i, s, hk, hs => by
    obtain ⟨x, hx, _⟩ := dropc (by omega : i < t.list.length)
    have hx2 : (t.list.map bu)[i]? = some (bu x) := by rw [List.getElem?_map, hx]; rfl
    rw [encL_drop hx2, List.length_append] at hs
    rw [ref03_Bytes_l2_eq]
    simp only [ref03_Bytes_l2b, lt_t (by omega : i < t.list.length), cond_true, hx, Option.bind_some]
    rw [h _ (List.mem_of_getElem? hx), Option.bind_some, appW (by omega), Option.bind_some, rb3_l h k (i + 1) _ (by omega) (by simp only [List.length_append]; omega), encL_drop hx2, List.append_assoc]
end Go.Proofs.Ytigadhiciinicaa

namespace Go.Proofs.Ytigadhiciinicaa
open Go Aw
set_option linter.unusedVariables false
set_option linter.unusedSimpArgs false
set_option maxRecDepth 8000
theorem float3_put {t : Term} {acc : Str} (hf : t.float < 18446744073709551616) (ha : acc.length ≤ 1000) : ref03_Bytes_l1 t acc 0 = some (acc ++ be8 t.float) := by
  have step : ∀ (i s : Nat) (acc : Str), i < 8 → s = 56 - 8 * i → acc.length ≤ 1073741824 → ref03_Bytes_l1 t acc (i : Int) = ref03_Bytes_l1 t (acc ++ [UInt8.ofNat (t.float / 2 ^ s)]) ((i + 1 : Nat) : Int) := by
    intro i s acc hi hs ha
    rw [ref03_Bytes_l1_eq]
    simp only [ref03_Bytes_l1b]
    have e1 : IntKind.u64.wrap (IntKind.i64.wrap (56 - (IntKind.i64.wrap (8 * (i : Int))))) = ((s : Nat) : Int) := by
      rw [show IntKind.i64.wrap (8 * (i : Int)) = 8 * (i : Int) from w64_in (by omega) (by omega), show IntKind.i64.wrap (56 - 8 * (i : Int)) = 56 - 8 * (i : Int) from w64_in (by omega) (by omega), show 56 - 8 * (i : Int) = ((s : Nat) : Int) by omega, wu_nat (by omega)]
    have e2 : IntKind.i64.wrap ((i : Int) + 1) = ((i + 1 : Nat) : Int) := by rw [w64_in (by omega) (by omega)]; omega
    have hn : negO ((s : Nat) : Int) = some () := by unfold negO; rw [decide_eq_true (by omega)]; rfl
    have e : UInt8.ofInt ((t.float / 2 ^ s : Nat) : Int) = UInt8.ofNat (t.float / 2 ^ s) := by
      apply UInt8.toNat_inj.1; rw [u8_ofInt, UInt8.toNat_ofNat']
    rw [decide_eq_true (by omega), cond_true, e1, hn, Option.bind_some, shr_nat _ s (by omega), e, app1W ha, Option.bind_some, e2]
  have hl : ∀ (x : Str) (c : UInt8), (x ++ [c]).length = x.length + 1 := fun x c => by simp
  rw [show (0 : Int) = ((0 : Nat) : Int) from rfl, step 0 56 _ (by omega) rfl (by omega), step 1 48 _ (by omega) rfl (by simp only [hl]; omega), step 2 40 _ (by omega) rfl (by simp only [hl]; omega), step 3 32 _ (by omega) rfl (by simp only [hl]; omega),
    step 4 24 _ (by omega) rfl (by simp only [hl]; omega), step 5 16 _ (by omega) rfl (by simp only [hl]; omega), step 6 8 _ (by omega) rfl (by simp only [hl]; omega), step 7 0 _ (by omega) rfl (by simp only [hl]; omega), ref03_Bytes_l1_eq]
  simp only [ref03_Bytes_l1b]
  rw [decide_eq_false (by omega), cond_false]
  simp only [ref03_Bytes_j1, be8, List.append_assoc, List.singleton_append, List.cons_append, List.nil_append]
  simp only [Nat.reducePow, Nat.div_one]
theorem ref03_Bytes_eq (t : Term) : okT t → bkT t ≤ 268435456 → Fine (bu t) → p_ref03_Bytes t = some (enc (bu t)) := by
  induction t using Term.byParts with
  | _ t ih =>
  intro hok hb hx
  have hm := bkT_mk t
  have hlen := (bt t hok hb).len
  obtain ⟨o1, o2, o3, o4, o5, o6, o7⟩ := (okT_mkW t).1 hok
  have hp := hx.own.2
  have hn := hx.own.1
  rw [← partsT_bu] at hp
  have hl : t.kind = 8 → ∀ u, u ∈ t.list → p_ref03_Bytes u = some (enc (bu u)) := fun h8 u hu => by
    have hu' : u ∈ partsT t := by unfold partsT; rw [if_pos h8]; exact hu
    exact ih u hu' (okTs_memW o5 u hu) (by have := bkTs_mem hu; omega) (hp _ (List.mem_map_of_mem hu'))
  have hd : t.kind = 9 ∨ t.kind = 10 → ∀ u, u ∈ t.fields → p_ref03_Bytes u.2 = some (enc (bu u.2)) := fun h9 u hu => by
    have hu' : u.2 ∈ partsT t := by unfold partsT; rw [if_neg (by omega), if_pos h9]; exact List.mem_map_of_mem hu
    exact ih u.2 hu' (okEs_memW o6 u hu) (by have := bkEs_mem hu; omega) (hp _ (List.mem_map_of_mem hu'))
  have hF : t.kind = 9 ∨ t.kind = 10 → (encD (t.fields.map buE)).length ≤ 1073741811 → p_ref03_fields t.fields = some (num (t.fields.map buE).length ++ encD (t.fields.map buE)) := fun h9 hbd => by
    have h1 := bkEs_len t.fields
    have h2 := num_le t.fields.length (by omega)
    rw [e_ref03_fields]
    simp only [b_ref03_fields]
    rw [wu_nat (by omega), ref03_Number_eq _ (by omega), Option.bind_some, rf3_l (hd h9) t.fields.length 0 _ (by omega) (by rw [List.drop_zero]; omega), List.drop_zero, List.length_map]
  rw [e_ref03_Bytes]
  have hc := bu_c t
  generalize bu t = x at hc hn hlen
  cases hc with
  | nothing h => simp [nearE] at hn
  | alien h => simp [nearE] at hn
  | nil h => simp only [b_ref03_Bytes, h]; rfl
  | bool h =>
    simp only [b_ref03_Bytes, h]
    cases t.bool <;> rfl
  | int h =>
    have hi := inI_i64 o2
    have hz := zig_lt hi.1 hi.2
    have hnl := num_le (zig t.int) hz
    have key : ∀ m : Int, m = (zig t.int : Int) → (Option.bind (p_ref03_Number m) fun x8 => Option.bind (appO 1 ([3] : Str) x8) fun x9 => some x9) = some (enc (.int t.int)) := by
      rintro m rfl
      rw [ref03_Number_eq _ hz, Option.bind_some, appW (by simp only [List.length_cons, List.length_nil]; omega), Option.bind_some, enc]; rfl
    have e3 : (t.kind == 2) = false := by rw [h]; rfl
    have e4 : (t.kind == 3) = true := by rw [h]; rfl
    have e5 : UInt8.ofInt t.kind = 3 := by rw [h]; rfl
    simp only [b_ref03_Bytes, e3, e4, e5, cond_true, cond_false]
    by_cases hneg : t.int < 0
    · rw [decide_eq_true hneg, cond_true]
      refine key _ ?_
      rw [show IntKind.i64.wrap (t.int + 1) = t.int + 1 from w64_in (by omega) (by omega), show IntKind.i64.wrap (0 - (t.int + 1)) = 0 - (t.int + 1) from w64_in (by omega) (by omega), show IntKind.u64.wrap (0 - (t.int + 1)) = 0 - (t.int + 1) from wu_inW (by omega) (by omega),
        show IntKind.u64.wrap (2 * (0 - (t.int + 1))) = 2 * (0 - (t.int + 1)) from wu_inW (by omega) (by omega), show IntKind.u64.wrap (2 * (0 - (t.int + 1)) + 1) = 2 * (0 - (t.int + 1)) + 1 from wu_inW (by omega) (by omega)]
      unfold zig; rw [if_neg (by omega)]; omega
    · rw [decide_eq_false hneg, cond_false]
      refine key _ ?_
      rw [show IntKind.u64.wrap t.int = t.int from wu_inW (by omega) (by omega), show IntKind.u64.wrap (2 * t.int) = 2 * t.int from wu_inW (by omega) (by omega)]
      unfold zig; rw [if_pos (by omega)]; omega
  | float h =>
    simp only [b_ref03_Bytes, h]
    have := float3_put (t := t) (acc := [4]) o3 (by decide)
    exact this
  | text h =>
    have hnl := num_le t.text.length (by omega)
    simp only [b_ref03_Bytes, h, ref03_text_eq t.text (by omega)]
    show Option.bind (appO 1 ([5] : Str) (num t.text.length ++ t.text)) (fun x20 => ref03_Bytes_j1 x20) = _
    rw [appW (by simp only [List.length_cons, List.length_nil, List.length_append]; omega), Option.bind_some, enc]; rfl
  | bytes h =>
    have hnl := num_le t.bytes.length (by omega)
    simp only [b_ref03_Bytes, h, ref03_text_eq t.bytes (by omega)]
    show Option.bind (appO 1 ([6] : Str) (num t.bytes.length ++ t.bytes)) (fun x20 => ref03_Bytes_j1 x20) = _
    rw [appW (by simp only [List.length_cons, List.length_nil, List.length_append]; omega), Option.bind_some, enc]; rfl
  | ref h =>
    have hr := inI_u64 o4
    obtain ⟨m, hm'⟩ : ∃ m : Nat, t.ref = (m : Int) := ⟨t.ref.toNat, by omega⟩
    have hnl := num_le m (by omega)
    simp only [b_ref03_Bytes, h, hm', ref03_Number_eq m (by omega)]
    show Option.bind (appO 1 ([7] : Str) (num m)) (fun x20 => ref03_Bytes_j1 x20) = _
    rw [appW (by simp only [List.length_cons, List.length_nil]; omega), Option.bind_some, enc, Int.toNat_natCast]; rfl
  | list h =>
    have h1 := bkTs_len t.list
    have hnl := num_le t.list.length (by omega)
    simp only [enc, List.length_cons, List.length_append] at hlen
    simp only [b_ref03_Bytes, h, wu_nat (show t.list.length < 18446744073709551616 by omega), ref03_Number_eq t.list.length (by omega)]
    show Option.bind (appO 1 ([8] : Str) (num t.list.length)) (fun x29 => ref03_Bytes_l2 p_ref03_Bytes t x29 0) = _
    rw [appW (by simp only [List.length_cons, List.length_nil]; omega), Option.bind_some, rb3_l (hl h) t.list.length 0 _ (by omega) (by simp only [List.length_append, List.length_cons, List.length_nil, List.drop_zero]; omega), List.drop_zero, enc, List.length_map, List.append_assoc]; rfl
  | dict h =>
    simp only [enc, List.length_cons, List.length_append] at hlen
    simp only [b_ref03_Bytes, h, hF (.inl h) (by omega)]
    show Option.bind (appO 1 ([9] : Str) (num (t.fields.map buE).length ++ encD (t.fields.map buE))) (fun x29 => ref03_Bytes_j1 x29) = _
    rw [appW (by simp only [List.length_append, List.length_cons, List.length_nil]; omega), Option.bind_some, enc]; rfl
  | record h =>
    have hv := near_rec hn
    obtain ⟨m, hm'⟩ : ∃ m : Nat, t.ver = (m : Int) := ⟨t.ver.toNat, by omega⟩
    simp only [enc, List.length_cons, List.length_append, hm', Int.toNat_natCast] at hlen
    simp only [b_ref03_Bytes, h, ref03_text_eq t.cls (by omega), hm', wu_nat (show m < 18446744073709551616 by omega), ref03_Number_eq m (by omega), hF (.inr h) (by omega)]
    show Option.bind (appO 1 ([10] : Str) (num t.cls.length ++ t.cls)) (fun x42 => Option.bind (appO 1 x42 (num m)) fun x44 => Option.bind (appO 1 x44 (num (t.fields.map buE).length ++ encD (t.fields.map buE))) fun x46 => ref03_Bytes_j1 x46) = _
    rw [appW (by simp only [List.length_append, List.length_cons, List.length_nil]; omega), Option.bind_some, appW (by simp only [List.length_append, List.length_cons, List.length_nil]; omega), Option.bind_some, appW (by simp only [List.length_append, List.length_cons, List.length_nil]; omega), Option.bind_some, enc, Int.toNat_natCast]
    simp only [List.append_assoc]; rfl
end Go.Proofs.Ytigadhiciinicaa

namespace Go.Proofs.Ytigadhiciinicaa
open Go Aw
set_option linter.unusedVariables false
set_option linter.unusedSimpArgs false
set_option maxRecDepth 8000
theorem sm_l (a b : Str) (hl : a.length = b.length) : ∀ k i, k + i = a.length → ∃ r, law03_same_l1 a b i = some r ∧ (r = true ↔ a.drop i = b.drop i)
  | 0, i, hk => by
    rw [law03_same_l1_eq]
    simp only [law03_same_l1b, lt_f (by omega : ¬ i < a.length), cond_false]
    exact ⟨true, rfl, by rw [List.drop_of_length_le (by omega), List.drop_of_length_le (by omega)]; simp⟩
  | k + 1, i, hk => by
    have h1 : i < a.length := by omega
    have h2 : i < b.length := by omega
    rw [law03_same_l1_eq]
    simp only [law03_same_l1b, lt_t h1, cond_true, List.getElem?_eq_getElem h1, List.getElem?_eq_getElem h2, Option.bind_some]
    rw [List.drop_eq_getElem_cons h1, List.drop_eq_getElem_cons h2, List.cons.injEq]
    by_cases h : a[i] = b[i]
    · rw [h, show (((b[i].toNat : Nat) : Int) != ((b[i].toNat : Nat) : Int)) = false by simp, cond_false]
      obtain ⟨r, h3, h4⟩ := sm_l a b hl k (i + 1) (by omega)
      exact ⟨r, h3, by rw [h4]; simp⟩
    · have : a[i].toNat ≠ b[i].toNat := fun e => h (UInt8.toNat_inj.1 e)
      rw [show (((a[i].toNat : Nat) : Int) != ((b[i].toNat : Nat) : Int)) = true by simp; omega, cond_true]
      exact ⟨false, rfl, by simp [h]⟩
theorem law_same (a b : Str) : ∃ r, p_law03_same a b = some r ∧ (r = true ↔ a = b) := by
  unfold p_law03_same
  by_cases hl : a.length = b.length
  · rw [show (((a.length : Nat) : Int) != ((b.length : Nat) : Int)) = false by simp [hl], cond_false]
    obtain ⟨r, h1, h2⟩ := sm_l a b hl a.length 0 (by omega)
    exact ⟨r, h1, by simpa using h2⟩
  · rw [show (((a.length : Nat) : Int) != ((b.length : Nat) : Int)) = true by simp; omega, cond_true]
    exact ⟨false, rfl, by simp; exact fun h => hl (by rw [h])⟩
end Go.Proofs.Ytigadhiciinicaa

namespace Go.Proofs.Ytigadhiciinicaa
open Go Aw
set_option linter.unusedVariables false
set_option linter.unusedSimpArgs false
set_option maxRecDepth 8000
theorem enc_ge1 (v : V) : 1 ≤ (enc v).length := by cases v <;> simp [enc]
theorem encL_len : ∀ l, l.length ≤ (encL l).length ∧ ∀ x, x ∈ l → (enc x).length ≤ (encL l).length
  | [] => ⟨Nat.le_refl _, fun x hx => by cases hx⟩
  | x :: r => by
    have h := encL_len r
    have h1 := enc_ge1 x
    simp only [encL, List.length_append, List.length_cons]
    refine ⟨by omega, fun y hy => ?_⟩
    rcases List.mem_cons.1 hy with rfl | hy
    · omega
    · have := h.2 y hy; omega
theorem encD_len : ∀ l, l.length ≤ (encD l).length ∧ ∀ x, x ∈ l → (enc x.2).length ≤ (encD l).length
  | [] => ⟨Nat.le_refl _, fun x hx => by cases hx⟩
  | (s, x) :: r => by
    have h := encD_len r
    have h1 := enc_ge1 x
    simp only [encD, List.length_append, List.length_cons]
    refine ⟨by omega, fun y hy => ?_⟩
    rcases List.mem_cons.1 hy with rfl | hy
    · dsimp only; omega
    · have := h.2 y hy; omega
theorem mp_ex (v : V) (l : List V) (d : Int) (hv : v.asList = l) (hl : ∀ u, u ∈ l → ∃ t, p_mk_plain u (IntKind.i64.wrap (d + 1)) = some t) (hb : l.length ≤ 1073741824) : ∀ k i (acc : List Term), k + i = l.length → acc.length = i → ∃ t, mk_plain_l1 p_mk_plain v d i acc = some t
  | 0, i, acc, h, ha => by
    rw [mk_plain_l1_eq]
    simp only [mk_plain_l1b, hv, lt_f (by omega : ¬ i < l.length), cond_false]
    exact ⟨_, rfl⟩
  | k + 1, i, acc, h, ha => by
    obtain ⟨x, hx, _⟩ := dropc (by omega : i < l.length)
    obtain ⟨t, ht⟩ := hl x (List.mem_of_getElem? hx)
    rw [mk_plain_l1_eq]
    simp only [mk_plain_l1b, hv, lt_t (by omega : i < l.length), cond_true, hx, Option.bind_some, ht, app1 (b := 152) (by omega) (show acc.length ≤ 1073741824 by omega)]
    exact mp_ex v l d hv hl hb k (i + 1) _ (by omega) (by simp [ha])
theorem me_ex (l : List (Str × V)) (d : Int) (hl : ∀ u, u ∈ l → ∃ t, p_mk_plain u.2 (IntKind.i64.wrap (d + 1)) = some t) (hb : l.length ≤ 1073741824) : ∀ k i (acc : List (Str × Term)), k + i = l.length → acc.length = i → ∃ t, mk_entries_l1 p_mk_plain l d acc i = some t
  | 0, i, acc, h, ha => by
    rw [mk_entries_l1_eq]
    simp only [mk_entries_l1b, lt_f (by omega : ¬ i < l.length), cond_false]
    exact ⟨_, rfl⟩
  | k + 1, i, acc, h, ha => by
    obtain ⟨x, hx, _⟩ := dropc (by omega : i < l.length)
    obtain ⟨t, ht⟩ := hl x (List.mem_of_getElem? hx)
    rw [mk_entries_l1_eq]
    simp only [mk_entries_l1b, lt_t (by omega : i < l.length), cond_true, hx, Option.bind_some, ht, app1 (b := 168) (x := (x.1, t)) (by omega) (show acc.length ≤ 1073741824 by omega)]
    exact me_ex l d hl hb k (i + 1) _ (by omega) (by simp [ha])
theorem plain_tot (x : V) : (enc x).length ≤ 1073741824 → ∀ d : Nat, d ≤ 401 → ∃ t, p_mk_plain x (d : Int) = some t := by
  induction x using V.byParts with
  | _ x ih =>
  intro hx d hd
  rw [e_mk_plain, b_mk_plain]
  by_cases h4 : (d : Int) > 400
  · rw [decide_eq_true h4, cond_true]; exact ⟨_, rfl⟩
  · rw [decide_eq_false h4, cond_false]
    have hw : IntKind.i64.wrap ((d : Int) + 1) = ((d + 1 : Nat) : Int) := by rw [w64_in (by omega) (by omega)]; omega
    have hp : ∀ u, u ∈ x.parts → (enc u).length ≤ 1073741824 → ∃ t, p_mk_plain u (IntKind.i64.wrap ((d : Int) + 1)) = some t := fun u hu hl => by
      rw [hw]; exact ih u hu hl (d + 1) (by omega)
    have hD : ∀ l : List (Str × V), (∀ u, u ∈ l → u.2 ∈ x.parts) → (encD l).length ≤ 1073741824 → ∃ r, p_mk_entries l (d : Int) = some r := fun l hl hb => by
      rw [e_mk_entries, b_mk_entries]
      exact me_ex l d (fun u hu => hp _ (hl u hu) (by have := (encD_len l).2 u hu; omega)) (by have := (encD_len l).1; omega) l.length 0 [] (by omega) rfl
    cases x with
    | bytes b =>
      simp only [V.isNil, V.isBool, V.isInt, V.isFloat, V.isText, V.isBytes, V.asBytes, cond_true, cond_false, app0 (by omega : 1 ≤ 1024) (show b.length ≤ 1073741824 by simp only [enc, List.length_cons, List.length_append] at hx; omega), Option.bind_some]
      exact ⟨_, rfl⟩
    | list l =>
      simp only [enc, List.length_cons, List.length_append] at hx
      simp only [V.isNil, V.isBool, V.isInt, V.isFloat, V.isText, V.isBytes, V.isRef, V.isList, cond_true, cond_false]
      exact mp_ex (.list l) l d rfl (fun u hu => hp u hu (by have := (encL_len l).2 u hu; omega)) (by have := (encL_len l).1; omega) l.length 0 [] (by omega) rfl
    | dict l =>
      simp only [enc, List.length_cons, List.length_append] at hx
      obtain ⟨r, hr⟩ := hD l (fun u hu => List.mem_map_of_mem hu) (by omega)
      simp only [V.isNil, V.isBool, V.isInt, V.isFloat, V.isText, V.isBytes, V.isRef, V.isList, V.isDict, V.asDict, cond_true, cond_false, hr, Option.bind_some]
      exact ⟨_, rfl⟩
    | record c v l =>
      simp only [enc, List.length_cons, List.length_append] at hx
      obtain ⟨r, hr⟩ := hD l (fun u hu => List.mem_map_of_mem hu) (by omega)
      simp only [V.isNil, V.isBool, V.isInt, V.isFloat, V.isText, V.isBytes, V.isRef, V.isList, V.isDict, V.isRec, V.asRec, Option.isNone, cond_true, cond_false, hr, Option.bind_some]
      exact ⟨_, rfl⟩
    | _ => exact ⟨_, rfl⟩
theorem sl_ex {a b : List Term} (h : ∀ x, x ∈ a → ∀ y, ∃ r, p_mk_Same x y = some r) (hl : a.length = b.length) : ∀ k i, k + i = a.length → ∃ r, mk_Lists_l1 p_mk_Same a b i = some r
  | 0, i, hk => by
    rw [mk_Lists_l1_eq]
    simp only [mk_Lists_l1b, lt_f (by omega : ¬ i < a.length), cond_false]
    exact ⟨true, rfl⟩
  | k + 1, i, hk => by
    obtain ⟨x, hx, _⟩ := dropc (by omega : i < a.length)
    obtain ⟨y, hy, _⟩ := dropc (by omega : i < b.length)
    obtain ⟨r, h1⟩ := h x (List.mem_of_getElem? hx) y
    rw [mk_Lists_l1_eq]
    simp only [mk_Lists_l1b, lt_t (by omega : i < a.length), cond_true, hx, hy, Option.bind_some, h1]
    cases r with
    | false => exact ⟨false, rfl⟩
    | true => exact sl_ex h hl k (i + 1) (by omega)
theorem se_ex {a b : List (Str × Term)} (h : ∀ x, x ∈ a → ∀ y, ∃ r, p_mk_Same x.2 y = some r) (hl : a.length = b.length) : ∀ k i, k + i = a.length → ∃ r, mk_Entries_l1 p_mk_Same a b i = some r
  | 0, i, hk => by
    rw [mk_Entries_l1_eq]
    simp only [mk_Entries_l1b, lt_f (by omega : ¬ i < a.length), cond_false]
    exact ⟨true, rfl⟩
  | k + 1, i, hk => by
    obtain ⟨x, hx, _⟩ := dropc (by omega : i < a.length)
    obtain ⟨y, hy, _⟩ := dropc (by omega : i < b.length)
    obtain ⟨r, h1⟩ := h x (List.mem_of_getElem? hx) y.2
    rw [mk_Entries_l1_eq]
    simp only [mk_Entries_l1b, lt_t (by omega : i < a.length), cond_true, hx, hy, Option.bind_some, h1]
    cases (!(x.1 == y.1)) with
    | true => exact ⟨false, rfl⟩
    | false =>
      rw [cond_false]
      cases r with
      | false => exact ⟨false, rfl⟩
      | true => exact se_ex h hl k (i + 1) (by omega)
theorem same_tot (s : Term) : ∀ t, ∃ r, p_mk_Same s t = some r := by
  induction s using Term.byParts with
  | _ s ih =>
  intro t
  have hL : s.list.length = t.list.length → s.kind = 8 → ∃ r, mk_Lists_l1 p_mk_Same s.list t.list 0 = some r := fun hl hk => sl_ex (fun x hx y => ih x (by cases s; simp only [Term.kind] at hk; subst hk; exact hx) y) hl s.list.length 0 (by omega)
  have hE : (s.kind = 9 ∨ s.kind = 10) → ∃ r, p_mk_Entries s.fields t.fields = some r := fun hk => by
    rw [e_mk_Entries, b_mk_Entries]
    by_cases hl : s.fields.length = t.fields.length
    · rw [show ((((s.fields).length : Nat) : Int) != (((t.fields).length : Nat) : Int)) = false by simp [hl], cond_false]
      exact se_ex (fun x hx y => ih x.2 (by cases s; simp only [Term.kind] at hk; rcases hk with rfl | rfl <;> exact List.mem_map_of_mem hx) y) hl s.fields.length 0 (by omega)
    · rw [show ((((s.fields).length : Nat) : Int) != (((t.fields).length : Nat) : Int)) = true by simp; omega, cond_true]; exact ⟨_, rfl⟩
  have hL' : s.kind = 8 → ∃ r, p_mk_Lists s.list t.list = some r := fun hk => by
    rw [e_mk_Lists, b_mk_Lists]
    by_cases hl : s.list.length = t.list.length
    · rw [show ((((s.list).length : Nat) : Int) != (((t.list).length : Nat) : Int)) = false by simp [hl], cond_false]
      exact hL hl hk
    · rw [show ((((s.list).length : Nat) : Int) != (((t.list).length : Nat) : Int)) = true by simp; omega, cond_true]; exact ⟨_, rfl⟩
  have hj : ∀ q, ∃ r, mk_Same_j1 p_mk_Entries p_mk_Lists s t q = some r := by
    intro q
    unfold mk_Same_j1
    cases q with
    | true => exact ⟨_, rfl⟩
    | false =>
      rw [cond_false]
      cases (s.kind == 2) with | true => exact ⟨_, rfl⟩ | false =>
      cases (s.kind == 3) with | true => exact ⟨_, rfl⟩ | false =>
      cases (s.kind == 4) with | true => exact ⟨_, rfl⟩ | false =>
      cases (s.kind == 5) with | true => exact ⟨_, rfl⟩ | false =>
      cases (s.kind == 6) with | true => exact ⟨_, rfl⟩ | false =>
      cases (s.kind == 7) with | true => exact ⟨_, rfl⟩ | false =>
      simp only [cond_false]
      cases h8 : (s.kind == 8) with
      | true =>
        obtain ⟨r, hr⟩ := hL' (by simpa using h8)
        simp only [cond_true, hr, Option.bind_some]; exact ⟨_, rfl⟩
      | false =>
        cases h9 : (s.kind == 9) with
        | true =>
          obtain ⟨r, hr⟩ := hE (.inl (by simpa using h9))
          simp only [cond_true, cond_false, hr, Option.bind_some]; exact ⟨_, rfl⟩
        | false =>
          cases h10 : (s.kind == 10) with
          | true =>
            obtain ⟨r, hr⟩ := hE (.inr (by simpa using h10))
            simp only [cond_true, cond_false, hr, Option.bind_some]
            cases (s.cls == t.cls) <;> cases (s.ver == t.ver) <;> exact ⟨_, rfl⟩
          | false => exact ⟨_, rfl⟩
  rw [e_mk_Same, b_mk_Same]
  cases (s.kind != t.kind) with
  | true => exact ⟨_, rfl⟩
  | false =>
    rw [cond_false]
    cases (s.kind == 1) with
    | true => exact hj true
    | false => exact hj (s.kind == 11)
theorem ref03_encode_can {t : Term} (h : bkT t ≤ 268435456) (ok : okT t) (hc : Can (bu t)) : p_ref03_Encode t = some (enc (bu t), 0) := by
  simp only [p_ref03_Encode, ref01_Check_eq t h, check_can hc, Option.bind_some]
  rw [show ((0 : Int) != 0) = false from rfl, cond_false, ref03_Bytes_eq t ok h (can_fine hc)]; rfl
theorem ref03_encode_not {t : Term} (h : bkT t ≤ 268435456) (hc : ¬ Can (bu t)) : p_ref03_Encode t = some ([], (checkF (bu t)).2) := by
  simp only [p_ref03_Encode, ref01_Check_eq t h, Option.bind_some]
  rw [ne_t (check_cannot hc), cond_true]
theorem law_same_self (a : Str) : p_law03_same a a = some true := by
  obtain ⟨r, h1, h2⟩ := law_same a a
  rw [h1, h2.2 rfl]
theorem encodes_j1 (e : Str) (w : Int) (h : e.length ≤ 1073741824) : law03_WireEncodes_j1 (e, w) (e, w) (e, w) false = some true := by
  have hc : Can (.bool true) := ⟨.mk rfl (fun y hy => by cases hy), by decide, by decide⟩
  have hf : fullO e 3 = some () := by
    unfold fullO
    rw [show Nat.ble (e.length + 90) 140737488355328 = true from Nat.ble_eq_true_of_le (by omega)]; rfl
  unfold law03_WireEncodes_j1
  simp only [cond_false, hf, Option.bind_some, encode_can hc (by trivial) (by simp [enc]), law_same_self, cond_true]
  rfl
theorem plain_WireEncodes (a0 : Term) (h : bkT a0 ≤ 1048576) (ok0 : okT a0) : p_law03_WireEncodes a0 = some true := by
  have hb := bt a0 ok0 (by omega)
  have hlen := hb.len
  have hle : (enc (bu a0)).length ≤ 1073741824 := by omega
  simp only [p_law03_WireEncodes, mk_Built_eq a0 (by omega), Option.bind_some]
  by_cases hc : Can (bu a0)
  · have hf := can_fine hc
    have h0 := mk_plain_eq (bu a0) 0 0 1 (can_ok.2 hc) (by omega)
    have hp : p_mk_Plain (bu a0) = some (cl (bu a0)) := by
      unfold p_mk_Plain; rw [show (0 : Int) = 1 - 1 from rfl, h0]; rfl
    obtain ⟨r, h1, h2⟩ := same_iff (cl (bu a0)) (cl (bu a0)) (by rw [bu_cl _ hf]; exact hf)
    have hr : r = true := h2.2 rfl
    subst hr
    simp only [encode_can hc hb.ok hle, ref03_encode_can (by omega) ok0 hc, Option.bind_some, law_same_self, hp, h1, Bool.not_true, cond_false]
    rw [show ((0 : Int) != 0) = false from rfl, cond_false]
    exact encodes_j1 _ 0 hle
  · obtain ⟨t, ht⟩ := plain_tot (bu a0) hle 0 (by omega)
    obtain ⟨r, hr⟩ := same_tot t t
    have hp : p_mk_Plain (bu a0) = some t := by
      unfold p_mk_Plain; rw [show (0 : Int) = ((0 : Nat) : Int) from rfl, ht]; rfl
    simp only [encode_not hc, ref03_encode_not (by omega) hc, Option.bind_some, law_same_self, hp, hr, Bool.not_true, cond_false]
    rw [show ((checkF (bu a0)).2 != (checkF (bu a0)).2) = false by simp, cond_false, eq_t (check_cannot hc)]
    have hj := encodes_j1 [] (checkF (bu a0)).2 (by simp)
    cases r <;> exact hj
end Go.Proofs.Ytigadhiciinicaa

