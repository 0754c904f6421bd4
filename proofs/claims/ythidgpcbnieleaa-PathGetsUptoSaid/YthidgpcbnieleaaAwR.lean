/- Aw: from what a row reads to typed trees. -/
import Derived.Test.YthidgpcbnieleaaAwT
import Derived.Test.YthidgpcbnieleaaAw10
namespace Go.Proofs.Ythidgpcbnieleaa.Aw
open Go Go.ChangeShapes Go.RowKit
set_option linter.unusedVariables false
set_option linter.unusedSimpArgs false
variable {P : Program} {H : Type}
def RD (enc : TypeId × Value → H) (P : Program) (w : World) (base : Nat) (spare : Nat → Bool) (held : Bool) (n : Nat) (t : TypeId) {α : Type} (f : α → PV) (bk : α → Nat) (ok : α → Prop) : Prop :=
 ∀ (cs : List Value) (x : DataW H × List MemPlace), DataW.trod enc P w base spare held n t cs = some x → ∃ a, TV (ctx0 P w) (f a) cs ∧ bk a ≤ Rows.uptoBulk x.1 ∧ ok a
section
variable {enc : TypeId × Value → H} {w : World} {base : Nat} {spare : Nat → Bool} {held : Bool} {n : Nat} {t e : TypeId}
theorem zc2 {C : Ctx} {p : PV} {v : Value} (hp : p.cells = [p]) (h : VR C p v) : TV C p [v] := by
 refine ⟨by rw [hp]; rfl, fun j y hy => ?_⟩
 rw [hp] at hy
 cases j with
 | zero => simp at hy; subst hy; exact ⟨v, rfl, h⟩
 | succ j => simp at hy
theorem zwu {C : Ctx} {p : PV} {v : Value} (hp : p.cells = [p]) (h : TV C p [v]) : VR C p v := by
 obtain ⟨u, h1, h2⟩ := h.2 0 p (by rw [hp]; rfl)
 simp at h1; subst h1; exact h2
theorem zvk {C : Ctx} {ps : List PV} {cs : Array Value} (h : TV C (.agg ps) cs.toList) : VR C (.agg ps) (.agg cs) :=
 vr_agg.2 ⟨cs.toList, by simp, h.1.symm, fun i y hy => h.2 i y hy⟩
def inI : IntKind → Int → Prop
 | .i64, i => -9223372036854775808 ≤ i ∧ i ≤ 9223372036854775807
 | .u64, i => 0 ≤ i ∧ i ≤ 18446744073709551615
 | k, i => k.min ≤ i ∧ i ≤ k.max
theorem Z14 {k : IntKind} {i : Int} (h : (Lit.int k i).wf = true) : inI k i := by
 simp only [Lit.wf, Bool.and_eq_true, decide_eq_true_eq] at h
 cases k <;> first | exact h | skip
 all_goals exact h
theorem zh6 {k : IntKind} (ht : P.underlying t = some (.int k)) : RD enc P w base spare held n t (ofI k) (fun _ => 1) (inI k) := by
 intro cs x h
 obtain ⟨i, rfl, rfl, hw⟩ := DataW.trod_int ht h
 exact ⟨i, zc2 rfl (vr_v.2 rfl), Nat.le_refl _, Z14 hw⟩
theorem rd_u8 (ht : P.underlying t = some (.int .u8)) : RD enc P w base spare held n t ofB (fun _ => 1) (fun _ => True) := by
 intro cs x h
 obtain ⟨i, rfl, rfl, hw⟩ := DataW.trod_int ht h
 have h1 : 0 ≤ i ∧ i ≤ 255 := by
  simp only [Lit.wf, Bool.and_eq_true, decide_eq_true_eq] at hw; exact hw
 refine ⟨UInt8.ofInt i, zc2 rfl (vr_v.2 ?_), Nat.le_refl _, trivial⟩
 have := zok i
 have h2 : IntKind.u8.wrap i = i % 256 := rfl
 rw [← this, h2]; congr 1; omega
theorem zp0 (ht : P.underlying t = some .bool) : RD enc P w base spare held n t Z0t (fun _ => 1) (fun _ => True) := by
 intro cs x h
 obtain ⟨b, rfl, rfl⟩ := DataW.trod_bool ht h
 exact ⟨b, zc2 rfl (vr_v.2 rfl), Nat.le_refl _, trivial⟩
theorem zl8 (ht : P.underlying t = some .string) : RD enc P w base spare held n t z0k (fun s => s.length + 1) (fun _ => True) := by
 intro cs x h
 obtain ⟨s, rfl, rfl, _⟩ := DataW.trod_string ht h
 exact ⟨s.data.toList, zc2 rfl (vr_v.2 rfl), Nat.le_refl _, trivial⟩
theorem zmq (ht : P.underlying t = some (.float .f64)) {cs : List Value} {x : DataW H × List MemPlace} (h : DataW.trod enc P w base spare held n t cs = some x) : ∃ b, cs = [.float .f64 b] ∧ x = (.lit (.float .f64 b), []) ∧ (Lit.float .f64 b).wf = true := by
 cases n with
 | zero => simp [DataW.trod] at h
 | succ n =>
  unfold DataW.trod at h
  rw [ht] at h
  split at h <;> simp_all
theorem zti (ht : P.underlying t = some (.float .f64)) : RD enc P w base spare held n t ofF (fun _ => 1) (fun f => f < 18446744073709551616) := by
 intro cs x h
 obtain ⟨b, rfl, rfl, hw⟩ := zmq ht h
 refine ⟨b, zc2 rfl (vr_v.2 rfl), Nat.le_refl _, ?_⟩
 simp [Lit.wf] at hw
 omega
theorem zmc {α : Type} {bk : α → Nat} : ∀ {l : List (DataW H)} {zs : List α}, zs.length ≤ l.length → (∀ (i : Nat) (z : α) (d : DataW H), zs[i]? = some z → l[i]? = some d → bk z ≤ Rows.uptoBulk d) → (zs.map bk).sum ≤ Rows.uptoBulkAll l
 | l, [], _, _ => by simp
 | [], z :: zs, h, _ => by simp at h
 | d :: l, z :: zs, h, hi => by
  have h0 := hi 0 z d rfl rfl
  have h1 := zmc (bk := bk) (l := l) (zs := zs) (by simpa using h) (fun i z' d' h1 h2 => hi (i + 1) z' d' (by simpa using h1) (by simpa using h2))
  simp only [List.map_cons, List.sum_cons, Rows.uptoBulkAll]; omega
theorem zbo {α : Type} {f : α → PV} {bk : α → Nat} {ok : α → Prop} {sz : Nat} (ht : P.underlying t = some (.slice e)) (hc : P.cellsOf e = sz) (hsz : Nat.blt 0 sz = true) (hel : ∀ m, m < n → RD enc P w base spare held m e f bk ok) :
 RD enc P w base spare held n t (Z6i e sz f) (fun l => (l.map bk).sum + 1) (fun l => ∀ a, a ∈ l → ok a) := by
 have hsz' : 0 < sz := Nat.le_of_ble_eq_true hsz
 intro cs x h
 rcases DataW.trod_slice ht h with ⟨rfl, rfl⟩ | ⟨a, len, cap, elems, rest, m, rfl, rfl, rfl, hb, hl, hm, hlen, hi, _, _⟩
 ·exact ⟨[], zc2 rfl (Wk.nil _ _ (vr_v.2 rfl)), by simp [Rows.uptoBulk], by simp⟩
 ·rw [hc] at hi
  obtain ⟨zs, h1, h2⟩ := zdl len (fun i z => ∃ cs' y, elems[i]? = some y ∧ w.cells? base (a.add (i * sz)) sz = some cs' ∧ TV (ctx0 P w) (f z) cs' ∧ bk z ≤ Rows.uptoBulk y.1 ∧ ok z) (fun i hil => by
   have h3 := hi i hil
   have hil' : i < elems.length := by omega
   rw [List.getElem?_eq_getElem hil', Option.bind_eq_some_iff] at h3
   obtain ⟨cs', h4, h5⟩ := h3
   obtain ⟨z, h6, h7, h8⟩ := hel m (by omega) cs' _ h5
   exact ⟨z, cs', _, List.getElem?_eq_getElem hil', h4, h6, h7, h8⟩)
  refine ⟨zs, zc2 rfl (vr_sl.2 ⟨some a, cap, by simp [h1], ⟨⟨by simp [h1]; omega, by unfold maxLen at hm; simp [h1]; omega⟩, fun hf => nomatch hf⟩, by simp, fun i x hx => ?_⟩), ?_, fun z hz => ?_⟩
  ·rw [List.getElem?_map, Option.map_eq_some_iff] at hx
   obtain ⟨z, hz, rfl⟩ := hx
   obtain ⟨cs', y, _, h3, ⟨h4, h5⟩, _, _⟩ := h2 i z hz
   obtain ⟨h6, h7⟩ := zm8 h3
   have hil : i < len := by have := (List.getElem?_eq_some_iff.1 hz).1; omega
   have hsp : a = ⟨a.block, a.off, none⟩ := by
    obtain ⟨cs0, y0, _, h8, _⟩ := h2 0 zs[0] (List.getElem?_eq_getElem (by omega))
    obtain ⟨h9, h10⟩ := zm8 h8
    have := h10 0 cs0[0] (List.getElem?_eq_getElem (by omega))
    simp [Addr.add] at this
    exact zsj this
   refine ⟨by rw [h4, h6], a.block, a.off, by rw [← hsp], fun j y hy => ?_⟩
   obtain ⟨u, h8, h9⟩ := h5 j y hy
   have h10 := h7 j u h8
   rw [hsp, z1m, z1m, Nat.add_assoc] at h10
   exact ⟨u, Z2a h10, h9⟩
  ·simp only [Rows.uptoBulk]
   have := zmc (bk := bk) (l := elems.map (·.1)) (zs := zs) (by simp [h1, hlen]) (fun i z d hz hd => by
    obtain ⟨cs', y, h3, _, _, h4, _⟩ := h2 i z hz
    rw [List.getElem?_map, h3] at hd
    simp at hd; subst hd; exact h4)
   omega
  ·obtain ⟨i, hi', rfl⟩ := List.getElem_of_mem hz
   obtain ⟨_, _, _, _, _, _, h7⟩ := h2 i _ (List.getElem?_eq_getElem hi')
   exact h7
def zzi (C : Ctx) (cells : List PV) (cs : List Value) (off : Nat) : Prop := ∀ (j : Nat) (y : PV), cells[j]? = some y → ∃ u, cs[off + j]? = some u ∧ VR C y u
theorem z39 {C : Ctx} {p : PV} {cs : List Value} {off sz : Nat} (h : TV C p ((cs.drop off).take sz)) : zzi C p.cells cs off := fun j y hy => by
 obtain ⟨u, h1, h2⟩ := h.2 j y hy
 rw [List.getElem?_take] at h1
 split at h1
 ·rw [List.getElem?_drop] at h1; exact ⟨u, h1, h2⟩
 ·cases h1
theorem z2n {C : Ctx} {a b : List PV} {cs : List Value} {off k : Nat} (ha : zzi C a cs off) (hl : a.length = k) (hb : zzi C b cs (off + k)) : zzi C (a ++ b) cs off := fun j y hy => by
 rcases Nat.lt_or_ge j a.length with h | h
 ·rw [List.getElem?_append_left h] at hy; exact ha j y hy
 ·rw [List.getElem?_append_right h] at hy
  obtain ⟨u, h1, h2⟩ := hb _ y hy
  exact ⟨u, by rw [show off + k + (j - a.length) = off + j by omega] at h1; exact h1, h2⟩
theorem zfj {C : Ctx} {cs : List Value} {off : Nat} : zzi C [] cs off := fun j y hy => by simp at hy
theorem zfk {C : Ctx} {cells : List PV} {cs : List Value} (h : zzi C cells cs 0) (hl : cells.length = cs.length) : TV C (.agg cells) cs := ⟨hl, fun j y hy => by simpa using h j y hy⟩
end
end Go.Proofs.Ythidgpcbnieleaa.Aw
