/- What the program writes and reads, whole. -/
import Derived.Test.YtigadhiciinicaaW6
import Derived.Test.YtigadhiciinicaaW7
import Derived.Test.YtigadhiciinicaaW8
namespace Go.Proofs.Ytigadhiciinicaa
open Go Aw
set_option linter.unusedVariables false
set_option linter.unusedSimpArgs false
set_option maxRecDepth 8000
theorem okT_mkW (t : Term) : okT t ↔ (inI .i64 t.kind ∧ inI .i64 t.int ∧ t.float < 18446744073709551616 ∧ inI .u64 t.ref ∧ okTs t.list ∧ okEs t.fields ∧ inI .i64 t.ver) := by cases t; rw [okT]; rfl
theorem okTs_memW : ∀ {l : List Term}, okTs l → ∀ t, t ∈ l → okT t
  | x :: r, h, t, ht => by
    rw [okTs] at h
    rcases List.mem_cons.1 ht with rfl | ht
    · exact h.1
    · exact okTs_memW h.2 t ht
theorem okEs_memW : ∀ {l : List (Str × Term)}, okEs l → ∀ t, t ∈ l → okT t.2
  | (s, x) :: r, h, t, ht => by
    rw [okEs] at h
    rcases List.mem_cons.1 ht with rfl | ht
    · exact h.1
    · exact okEs_memW h.2 t ht
structure Bt (t : Term) : Prop where
  ok : okV (bu t)
  len : (enc (bu t)).length + 12 ≤ 4 * bkT t
theorem bt_l : ∀ (l : List Term), (∀ u, u ∈ l → Bt u) → okL (l.map bu) ∧ (encL (l.map bu)).length ≤ 4 * bkTs l
  | [], _ => by simp [okL, encL]
  | x :: r, h => by
    have hx := h x (by simp)
    have hr := bt_l r (fun u hu => h u (by simp [hu]))
    have := hx.len
    rw [List.map_cons, okL, encL, List.length_append, bkTs]
    exact ⟨⟨hx.ok, hr.1⟩, by omega⟩
theorem bt_d : ∀ (l : List (Str × Term)), (∀ u, u ∈ l → Bt u.2) → bkEs l ≤ 268435456 → okD (l.map buE) ∧ (encD (l.map buE)).length ≤ 4 * bkEs l
  | [], _, _ => by simp [okD, encD]
  | (s, x) :: r, h, hb => by
    rw [bkEs] at hb ⊢
    have hx := h (s, x) (by simp)
    have hr := bt_d r (fun u hu => h u (by simp [hu])) (by omega)
    have := hx.len
    have hn := num_le s.length (by omega)
    dsimp only at this
    rw [List.map_cons, show buE (s, x) = (s, bu x) from rfl, okD, encD]
    simp only [List.length_append]
    exact ⟨⟨hx.ok, hr.1⟩, by omega⟩
theorem inI_i64 {i : Int} (h : inI .i64 i) : -9223372036854775808 ≤ i ∧ i ≤ 9223372036854775807 := by unfold inI at h; simpa using h
theorem inI_u64 {i : Int} (h : inI .u64 i) : 0 ≤ i ∧ i < 18446744073709551616 := by unfold inI at h; simp at h; omega
theorem bt (t : Term) : okT t → bkT t ≤ 268435456 → Bt t := by
  induction t using Term.byParts with
  | _ t ih =>
  intro hok hb
  have hm := bkT_mk t
  obtain ⟨o1, o2, o3, o4, o5, o6, o7⟩ := (okT_mkW t).1 hok
  have hl : t.kind = 8 → okL (t.list.map bu) ∧ (encL (t.list.map bu)).length ≤ 4 * bkTs t.list := fun h8 => bt_l t.list fun u hu => ih u (by unfold partsT; rw [if_pos h8]; exact hu) (okTs_memW o5 u hu) (by have := bkTs_mem hu; omega)
  have hd : t.kind = 9 ∨ t.kind = 10 → okD (t.fields.map buE) ∧ (encD (t.fields.map buE)).length ≤ 4 * bkEs t.fields := fun h9 => bt_d t.fields (fun u hu => ih u.2 (by unfold partsT; rw [if_neg (by omega), if_pos h9]; exact List.mem_map_of_mem hu) (okEs_memW o6 u hu) (by have := bkEs_mem hu; omega)) (by omega)
  have hc := bu_c t
  constructor
  · generalize bu t = x at hc
    cases hc with
    | int h => rw [okV]; exact inI_i64 o2
    | float h => rw [okV]; exact o3
    | ref h => rw [okV]; exact inI_u64 o4
    | list h => rw [okV]; exact (hl h).1
    | dict h => rw [okV]; exact (hd (.inl h)).1
    | record h => rw [okV]; exact (hd (.inr h)).1
    | _ h => rw [okV] <;> (intros; first | trivial | simp_all)
  · generalize bu t = x at hc
    cases hc with
    | nil h => simp only [enc, List.length_cons, List.length_nil]; omega
    | bool h => simp only [enc, List.length_cons, List.length_nil]; omega
    | int h => have := num_le (zig t.int) (zig_lt (inI_i64 o2).1 (inI_i64 o2).2); simp only [enc, List.length_cons]; omega
    | float h => simp only [enc, List.length_cons, be8_len]; omega
    | text h => have := num_le t.text.length (by omega); simp only [enc, List.length_cons, List.length_append]; omega
    | bytes h => have := num_le t.bytes.length (by omega); simp only [enc, List.length_cons, List.length_append]; omega
    | ref h => have := num_le t.ref.toNat (by have := inI_u64 o4; omega); simp only [enc, List.length_cons]; omega
    | list h => have h1 := bkTs_len t.list; have := num_le (t.list.map bu).length (by rw [List.length_map]; omega); have := (hl h).2; simp only [enc, List.length_cons, List.length_append]; omega
    | dict h => have h1 := bkEs_len t.fields; have := num_le (t.fields.map buE).length (by rw [List.length_map]; omega); have := (hd (.inl h)).2; simp only [enc, List.length_cons, List.length_append]; omega
    | record h =>
      have h1 := bkEs_len t.fields
      have h2 := num_le (t.fields.map buE).length (by rw [List.length_map]; omega)
      have h3 := num_le t.cls.length (by omega)
      have h4 := num_le t.ver.toNat (by have := inI_i64 o7; omega)
      have := (hd (.inr h)).2; simp only [enc, List.length_cons, List.length_append]; omega
    | nothing h => simp only [enc, List.length_cons, List.length_nil]; omega
    | alien h => simp only [enc, List.length_cons, List.length_nil]; omega
theorem encode_can {v : V} (hc : Can v) (hok : okV v) (hl : (enc v).length ≤ 1073741824) : p_wire_Encode v = some (enc v, 0) := by
  simp only [p_wire_Encode, value_Check_eq, Option.bind_some, check_can hc]
  rw [show ((0 : Int) != 0) = false from rfl, cond_false, put_eq v hc.1 hok [] (by simpa using hl)]
  rfl
theorem encode_not {v : V} (hc : ¬ Can v) : p_wire_Encode v = some ([], (checkF v).2) := by
  simp only [p_wire_Encode, value_Check_eq, Option.bind_some]
  rw [ne_t (check_cannot hc), cond_true]
theorem read_ok {b r r' : Str} {k n : Nat} {mk : Bool} {v : V} (hs : Sx b k r) (hb : b.length ≤ 1099511627776) (h : valS 64 0 r = .ok (v, n) r') : ∃ v', (MkP mk → v' = v) ∧ r'.length ≤ b.length ∧ p_wire_read b (k : Nat) mk = some (v', ((b.length - r'.length : Nat) : Int), 0) := by
  have h1 := value_eq (mk := mk) hb 64 (Nat.le_refl _) k 0 r hs (by omega)
  rw [h] at h1
  obtain ⟨a, h2, k', v', h3, h4, h5, rfl⟩ := h1
  refine ⟨v', h5, by have := h3.len; omega, ?_⟩
  have h2 : p_wire_reader_value ⟨b, (k : Nat), 0, mk⟩ 1 = _ := h2
  simp only [p_wire_read]
  rw [h2]
  have : k' = b.length - r'.length := by have := h3.len; omega
  rw [← this]; rfl
theorem read_bad {b r : Str} {k p : Nat} {w : Int} {mk : Bool} (hs : Sx b k r) (hb : b.length ≤ 1099511627776) (h : valS 64 0 r = .bad p w) : p_wire_read b (k : Nat) mk = some (.nil, ((b.length - p : Nat) : Int), w) := by
  have h1 := value_eq (mk := mk) hb 64 (Nat.le_refl _) k 0 r hs (by omega)
  rw [h] at h1
  obtain ⟨st, h2⟩ := h1
  have h2 : p_wire_reader_value ⟨b, (k : Nat), 0, mk⟩ 1 = _ := h2
  simp only [p_wire_read]
  rw [h2]; rfl
/-! ### what is bad is named -/
def Nm {α : Type} (o : Rs α) : Prop := ∀ p w, o = .bad p w → w ≠ 0
theorem nm_bind {α β : Type} {o : Rs α} {f : α → Str → Rs β} (h : Nm o) (hf : ∀ x r, Nm (f x r)) : Nm (o.bind f) := by
  cases o with
  | ok x r => exact hf x r
  | bad p w => intro p' w' e; exact h p' w' (by rw [Rs.bind] at e; injection e with e1 e2; rw [e1, e2])
theorem nm_ok {α : Type} {x : α} {r : Str} : Nm (.ok x r) := fun p w h => by cases h
theorem nm_bad {α : Type} {p : Nat} {w : Int} (hw : w ≠ 0) : Nm (.bad p w : Rs α) := fun p' w' h => by injection h with _ h; omega
theorem nm_if {α : Type} {c : Prop} [Decidable c] {a b : Rs α} (ha : Nm a) (hb : Nm b) : Nm (if c then a else b) := by split <;> assumption
theorem numS_nm (fr : Nat) : ∀ (j i acc : Nat) (r : Str), j + i = 10 → i ≤ 9 → Nm (numS fr j i acc r)
  | 0, i, acc, r, h, hi => by omega
  | j + 1, i, acc, [], h, hi => nm_bad (by decide)
  | j + 1, i, acc, c :: r, h, hi => by
    rw [numS]
    by_cases hb : (i = 9 ∧ 1 < c.toNat) ∨ (0 < i ∧ c.toNat = 0)
    · rw [if_pos hb]; exact nm_bad (by decide)
    · rw [if_neg hb]
      by_cases h1 : c.toNat < 128
      · rw [if_pos h1]; exact nm_ok
      · rw [if_neg h1]
        exact numS_nm fr j (i + 1) _ r (by omega) (by omega)
theorem nmS_nm (r : Str) : Nm (nmS r) := numS_nm _ 10 0 0 r rfl (by omega)
theorem takeS_nm (n : Nat) (r : Str) : Nm (takeS n r) := nm_if (nm_bad (by decide)) nm_ok
theorem mostS_nm (a l : Nat) (r : Str) : Nm (mostS a l r) := nm_bind (nmS_nm r) fun _ _ => nm_if (nm_bad (by decide)) nm_ok
theorem nameS_nm (a : Nat) (r : Str) : Nm (nameS a r) := nm_bind (nmS_nm r) fun _ _ => nm_if (nm_bad (by decide)) (nm_bind (takeS_nm _ _) fun _ _ => nm_if nm_ok (nm_bad (by decide)))
theorem items_nm {f : Nat → Str → Rs (V × Nat)} (hf : ∀ n r, Nm (f n r)) : ∀ k n r, Nm (itemsS f k n r)
  | 0, n, r => nm_ok
  | k + 1, n, r => nm_bind (hf n r) fun x r => nm_bind (items_nm hf k x.2 r) fun _ _ => nm_ok
theorem flds_nm {f : Nat → Str → Rs (V × Nat)} (hf : ∀ n r, Nm (f n r)) (a : Nat) : ∀ k last n r, Nm (fldsS f a k last n r)
  | 0, last, n, r => nm_ok
  | k + 1, last, n, r => nm_bind (nameS_nm a r) fun s r => nm_if (nm_bad (by decide)) (nm_bind (hf n r) fun x r => nm_bind (flds_nm hf a k s x.2 r) fun _ _ => nm_ok)
theorem boolS_nm (n : Nat) : ∀ r, Nm (boolS n r)
  | [] => nm_bad (by decide)
  | c :: r => nm_if (nm_bad (by decide)) nm_ok
theorem valS_nm : ∀ d n r, Nm (valS d n r)
  | 0, n, [] => nm_bad (by decide)
  | d + 1, n, [] => nm_bad (by decide)
  | 0, n, c :: r => nm_bad (by decide)
  | d + 1, n, c :: r => by
    have hf := valS_nm d
    rw [valS]
    refine nm_if (nm_bad (by decide)) (nm_if (nm_bad (by decide)) ?_)
    unfold bodyS
    refine nm_if (boolS_nm _ _) (nm_if (nm_bind (nmS_nm _) fun _ _ => nm_ok) (nm_if (nm_bind (takeS_nm _ _) fun _ _ => nm_ok) (nm_if (nm_bind (mostS_nm _ _ _) fun _ _ => nm_bind (takeS_nm _ _) fun _ _ => nm_ok) (nm_if (nm_bind (mostS_nm _ _ _) fun _ _ => nm_bind (takeS_nm _ _) fun _ _ => nm_ok) (nm_if (nm_bind (nmS_nm _) fun _ _ => nm_ok) ?_)))))
    refine nm_if (nm_bind (mostS_nm _ _ _) fun _ _ => nm_bind (items_nm hf _ _ _) fun _ _ => nm_ok) (nm_if (nm_bind (mostS_nm _ _ _) fun _ _ => nm_bind (flds_nm hf _ _ _ _ _) fun _ _ => nm_ok) (nm_if ?_ nm_ok))
    exact nm_bind (nameS_nm _ _) fun _ _ => nm_bind (nmS_nm _) fun _ _ => nm_if (nm_bad (by decide)) (nm_bind (mostS_nm _ _ _) fun _ _ => nm_bind (flds_nm hf _ _ _ _ _) fun _ _ => nm_ok)
/-! ### the program's functions -/
theorem sx0 (b : Str) : Sx b 0 b := ⟨Nat.zero_le _, rfl⟩
theorem decode_ok {b r' : Str} {v : V} {n : Nat} (hb : b.length ≤ 1099511627776) (h : valS 64 0 b = .ok (v, n) r') : p_wire_Decode b = some (v, ((b.length - r'.length : Nat) : Int), 0) := by
  obtain ⟨v', h1, _, h2⟩ := read_ok (mk := true) (sx0 b) hb h
  have h2 : p_wire_read b 0 true = _ := h2
  simp only [p_wire_Decode, h2, Option.bind_some, h1 rfl]
theorem decode_bad {b : Str} {p : Nat} {w : Int} (hb : b.length ≤ 1099511627776) (h : valS 64 0 b = .bad p w) : p_wire_Decode b = some (.nil, ((b.length - p : Nat) : Int), w) := by
  have h2 := read_bad (mk := true) (sx0 b) hb h
  have h2 : p_wire_read b 0 true = _ := h2
  simp only [p_wire_Decode, h2, Option.bind_some]
theorem skip_ok {b r' : Str} {v : V} {n : Nat} (hb : b.length ≤ 1099511627776) (h : valS 64 0 b = .ok (v, n) r') : p_wire_Skip b = some (((b.length - r'.length : Nat) : Int), 0) := by
  obtain ⟨v', h1, _, h2⟩ := read_ok (mk := false) (sx0 b) hb h
  have h2 : p_wire_read b 0 false = _ := h2
  simp only [p_wire_Skip, h2, Option.bind_some]
  rfl
theorem skip_bad {b : Str} {p : Nat} {w : Int} (hb : b.length ≤ 1099511627776) (h : valS 64 0 b = .bad p w) : p_wire_Skip b = some (0, w) := by
  have h2 := read_bad (mk := false) (sx0 b) hb h
  have h2 : p_wire_read b 0 false = _ := h2
  simp only [p_wire_Skip, h2, Option.bind_some]
  rw [ne_t (valS_nm _ _ _ _ _ h), cond_true]
theorem val_enc {v : V} (hc : Can v) (hok : okV v) (post : Str) : valS 64 0 (enc v ++ post) = .ok (v, (cnt v).toNat) post := by
  have := valS_enc v 64 hc.1 hok hc.2.2 0 post (by have := hc.2.1; omega)
  rw [this, Nat.zero_add]
theorem val_can {b r' : Str} {v : V} {n : Nat} (h : valS 64 0 b = .ok (v, n) r') : Can v ∧ okV v ∧ b = enc v ++ r' := by
  have hd := valS_inv 64 _ _ _ _ _ h
  have h1 := hd.cn
  have h2 := hd.le (by omega)
  have h3 := hd.dp
  exact ⟨⟨hd.near, by omega, by omega⟩, hd.ok, hd.eq⟩
end Go.Proofs.Ytigadhiciinicaa
