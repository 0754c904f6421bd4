/- What the program reads, whole. -/
import Derived.Test.YtigadhiciinicaaW6
import Derived.Test.YtigadhiciinicaaW7
namespace Go.Proofs.Ytigadhiciinicaa
open Go Aw
set_option linter.unusedVariables false
set_option linter.unusedSimpArgs false
set_option maxRecDepth 8000
theorem ones_sum {α : Type} : ∀ l : List α, (l.map (fun _ => 1)).sum = l.length
  | [] => rfl
  | x :: r => by rw [List.map_cons, List.sum_cons, ones_sum r, List.length_cons]; omega
theorem enc_pos (v : V) : 1 ≤ (enc v).length := by cases v <;> simp [enc]
theorem read_ok {b r r' : Str} {k n : Nat} {mk : Bool} {v : V} (hs : Sx b k r) (hb : b.length ≤ 1099511627776) (h : valS 64 0 r = .ok (v, n) r') : ∃ v', (MkP mk → v' = v) ∧ r'.length ≤ b.length ∧ p_wire_read b (k : Nat) mk = some (v', ((b.length - r'.length : Nat) : Int), 0) := by
  have h1 := value_eq (mk := mk) hb 64 (Nat.le_refl _) k 0 r hs (by omega)
  rw [h] at h1
  obtain ⟨a, h2, k', v', h3, h4, h5, rfl⟩ := h1
  refine ⟨v', h5, by have := h3.len; omega, ?_⟩
  have h2 : p_wire_reader_value ⟨b, (k : Nat), 0, mk⟩ 1 = _ := h2
  simp only [p_wire_read]
  rw [h2]
  have : k' = b.length - r'.length := by have := h3.len; omega
  rw [← this]; rfl
theorem read_bad {b r : Str} {k p : Nat} {w : Int} {mk : Bool} (hs : Sx b k r) (hb : b.length ≤ 1099511627776) (h : valS 64 0 r = .bad p w) : p_wire_read b (k : Nat) mk = some (.nil, ((b.length - p : Nat) : Int), w) := by
  have h1 := value_eq (mk := mk) hb 64 (Nat.le_refl _) k 0 r hs (by omega)
  rw [h] at h1
  obtain ⟨st, h2⟩ := h1
  have h2 : p_wire_reader_value ⟨b, (k : Nat), 0, mk⟩ 1 = _ := h2
  simp only [p_wire_read]
  rw [h2]; rfl
/-! ### what is bad is named -/
def Nm {α : Type} (o : Rs α) : Prop := ∀ p w, o = .bad p w → w ≠ 0
theorem nm_bind {α β : Type} {o : Rs α} {f : α → Str → Rs β} (h : Nm o) (hf : ∀ x r, Nm (f x r)) : Nm (o.bind f) := by
  cases o with
  | ok x r => exact hf x r
  | bad p w => intro p' w' e; exact h p' w' (by rw [Rs.bind] at e; injection e with e1 e2; rw [e1, e2])
theorem nm_ok {α : Type} {x : α} {r : Str} : Nm (.ok x r) := fun p w h => by cases h
theorem nm_bad {α : Type} {p : Nat} {w : Int} (hw : w ≠ 0) : Nm (.bad p w : Rs α) := fun p' w' h => by injection h with _ h; omega
theorem nm_if {α : Type} {c : Prop} [Decidable c] {a b : Rs α} (ha : Nm a) (hb : Nm b) : Nm (if c then a else b) := by split <;> assumption
theorem numS_nm (fr : Nat) : ∀ (j i acc : Nat) (r : Str), j + i = 10 → i ≤ 9 → Nm (numS fr j i acc r)
  | 0, i, acc, r, h, hi => by omega
  | j + 1, i, acc, [], h, hi => nm_bad (by decide)
  | j + 1, i, acc, c :: r, h, hi => by
    rw [numS]
    by_cases hb : (i = 9 ∧ 1 < c.toNat) ∨ (0 < i ∧ c.toNat = 0)
    · rw [if_pos hb]; exact nm_bad (by decide)
    · rw [if_neg hb]
      by_cases h1 : c.toNat < 128
      · rw [if_pos h1]; exact nm_ok
      · rw [if_neg h1]
        exact numS_nm fr j (i + 1) _ r (by omega) (by omega)
theorem nmS_nm (r : Str) : Nm (nmS r) := numS_nm _ 10 0 0 r rfl (by omega)
theorem takeS_nm (n : Nat) (r : Str) : Nm (takeS n r) := nm_if (nm_bad (by decide)) nm_ok
theorem mostS_nm (a l : Nat) (r : Str) : Nm (mostS a l r) := nm_bind (nmS_nm r) fun _ _ => nm_if (nm_bad (by decide)) nm_ok
theorem nameS_nm (a : Nat) (r : Str) : Nm (nameS a r) := nm_bind (nmS_nm r) fun _ _ => nm_if (nm_bad (by decide)) (nm_bind (takeS_nm _ _) fun _ _ => nm_if nm_ok (nm_bad (by decide)))
theorem items_nm {f : Nat → Str → Rs (V × Nat)} (hf : ∀ n r, Nm (f n r)) : ∀ k n r, Nm (itemsS f k n r)
  | 0, n, r => nm_ok
  | k + 1, n, r => nm_bind (hf n r) fun x r => nm_bind (items_nm hf k x.2 r) fun _ _ => nm_ok
theorem flds_nm {f : Nat → Str → Rs (V × Nat)} (hf : ∀ n r, Nm (f n r)) (a : Nat) : ∀ k last n r, Nm (fldsS f a k last n r)
  | 0, last, n, r => nm_ok
  | k + 1, last, n, r => nm_bind (nameS_nm a r) fun s r => nm_if (nm_bad (by decide)) (nm_bind (hf n r) fun x r => nm_bind (flds_nm hf a k s x.2 r) fun _ _ => nm_ok)
theorem boolS_nm (n : Nat) : ∀ r, Nm (boolS n r)
  | [] => nm_bad (by decide)
  | c :: r => nm_if (nm_bad (by decide)) nm_ok
theorem valS_nm : ∀ d n r, Nm (valS d n r)
  | 0, n, [] => nm_bad (by decide)
  | d + 1, n, [] => nm_bad (by decide)
  | 0, n, c :: r => nm_bad (by decide)
  | d + 1, n, c :: r => by
    have hf := valS_nm d
    rw [valS]
    refine nm_if (nm_bad (by decide)) (nm_if (nm_bad (by decide)) ?_)
    unfold bodyS
    refine nm_if (boolS_nm _ _) (nm_if (nm_bind (nmS_nm _) fun _ _ => nm_ok) (nm_if (nm_bind (takeS_nm _ _) fun _ _ => nm_ok) (nm_if (nm_bind (mostS_nm _ _ _) fun _ _ => nm_bind (takeS_nm _ _) fun _ _ => nm_ok) (nm_if (nm_bind (mostS_nm _ _ _) fun _ _ => nm_bind (takeS_nm _ _) fun _ _ => nm_ok) (nm_if (nm_bind (nmS_nm _) fun _ _ => nm_ok) ?_)))))
    refine nm_if (nm_bind (mostS_nm _ _ _) fun _ _ => nm_bind (items_nm hf _ _ _) fun _ _ => nm_ok) (nm_if (nm_bind (mostS_nm _ _ _) fun _ _ => nm_bind (flds_nm hf _ _ _ _ _) fun _ _ => nm_ok) (nm_if ?_ nm_ok))
    exact nm_bind (nameS_nm _ _) fun _ _ => nm_bind (nmS_nm _) fun _ _ => nm_if (nm_bad (by decide)) (nm_bind (mostS_nm _ _ _) fun _ _ => nm_bind (flds_nm hf _ _ _ _ _) fun _ _ => nm_ok)
/-! ### the program's functions -/
theorem sx0 (b : Str) : Sx b 0 b := ⟨Nat.zero_le _, rfl⟩
theorem val_enc {v : V} (hc : Can v) (hok : okV v) (post : Str) : valS 64 0 (enc v ++ post) = .ok (v, (cnt v).toNat) post := by
  have := valS_enc v 64 hc.1 hok hc.2.2 0 post (by have := hc.2.1; omega)
  rw [this, Nat.zero_add]
theorem val_can {b r' : Str} {v : V} {n : Nat} (h : valS 64 0 b = .ok (v, n) r') : Can v ∧ okV v ∧ b = enc v ++ r' := by
  have hd := valS_inv 64 _ _ _ _ _ h
  have h1 := hd.cn
  have h2 := hd.le (by omega)
  have h3 := hd.dp
  exact ⟨⟨hd.near, by omega, by omega⟩, hd.ok, hd.eq⟩
end Go.Proofs.Ytigadhiciinicaa
