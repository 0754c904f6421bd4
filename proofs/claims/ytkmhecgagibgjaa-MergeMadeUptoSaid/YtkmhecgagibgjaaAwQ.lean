/- Aw: rows that are written in place: such a row is a variable of the call's own (rowE), of which a slice knows the number (rs). -/
import Derived.Test.YtkmhecgagibgjaaAwO
import Derived.Test.YtkmhecgagibgjaaAwH
namespace Go.Proofs.Ytkmhecgagibgjaa.Aw
open Go
set_option linter.unusedVariables false
set_option linter.unusedSimpArgs false
variable {P : Program} {F : Lo} {H H' : List AEnt} {g g' : List (Option Nat)} {w w' : World} {env : List (Nat × PV)} {n : Nat} {o : Oper}
def rowE (e : TypeId) : List PV → AEnt
  | [] => .dead
  | c :: r => .box e (c :: r)
theorem rowE_pos {e : TypeId} {cs : List PV} (h : cs ≠ []) : rowE e cs = .box e cs := by
  cases cs with
  | nil => exact absurd rfl h
  | cons c r => rfl
theorem rowE_ids {e : TypeId} {cs : List PV} (h : PV.ids.idsL cs = []) : (rowE e cs).ids = [] := by
  cases cs with
  | nil => rfl
  | cons c r => exact h
def mvH (H : List AEnt) (j : Nat) (e : AEnt) : List AEnt := H.set j .dead ++ [e]
theorem mv_len {j : Nat} {e : AEnt} : (mvH H j e).length = H.length + 1 := by simp [mvH]
theorem mv_lt {j i : Nat} {e : AEnt} (hi : i < H.length) : (mvH H j e)[i]? = if j = i then some .dead else H[i]? := by
  unfold mvH
  rw [List.getElem?_append_left (by simpa using hi)]
  by_cases h : j = i
  · subst h; simp [hi]
  · rw [if_neg h, set_get_ne h]
theorem mv_new {j : Nat} {e : AEnt} : (mvH H j e)[H.length]? = some e := by
  unfold mvH
  rw [List.getElem?_append_right (by simp)]; simp
theorem mv_cases {j i : Nat} {e x : AEnt} (h : (mvH H j e)[i]? = some x) : (i < H.length ∧ j ≠ i ∧ H[i]? = some x) ∨ (i < H.length ∧ j = i ∧ x = .dead) ∨ (i = H.length ∧ x = e) := by
  rcases Nat.lt_trichotomy i H.length with h1 | h1 | h1
  · rw [mv_lt h1] at h
    split at h
    · injection h with h; exact .inr (.inl ⟨h1, by assumption, h.symm⟩)
    · exact .inl ⟨h1, by assumption, h⟩
  · subst h1; rw [mv_new] at h; injection h with h; exact .inr (.inr ⟨rfl, h.symm⟩)
  · rw [List.getElem?_eq_none (by rw [mv_len]; omega)] at h; cases h
theorem live_mv (hl : g.length = H.length) {j i b : Nat} {ty : TypeId} {cs : List PV} {m : Option Nat} (hj : H[j]? = some (.box ty cs)) (hg : g[j]? = some m) :
    live (mvH H j (.box ty cs)) (g ++ [m]) i b → (j ≠ i ∧ live H g i b) ∨ (i = H.length ∧ live H g j b) := by
  rintro ⟨c, h1, x, h2, h3⟩
  rcases mv_cases h2 with ⟨h4, h5, h6⟩ | ⟨h4, h5, rfl⟩ | ⟨rfl, rfl⟩
  · rw [List.getElem?_append_left (by omega)] at h1
    exact .inl ⟨h5, c, h1, x, h6, h3⟩
  · exact h3.elim
  · rw [← hl] at h1
    simp at h1
    subst h1
    exact .inr ⟨rfl, c, hg, _, hj, h3⟩
theorem le_mv (h : RelH P F H g w) {j : Nat} {ty : TypeId} {cs : List PV} {m : Option Nat} (hj : H[j]? = some (.box ty cs)) (hg : g[j]? = some m) :
    (ctx P F H g w).Le (ctx P F (mvH H j (.box ty cs)) (g ++ [m]) w) := by
  have hlt : ∀ {i : Nat}, i < H.length → (g ++ [m])[i]? = g[i]? := fun hi => List.getElem?_append_left (by rw [h.len]; exact hi)
  have hne : ∀ {i e k : Nat}, H[i]? = some (.arr e k) → j ≠ i := by rintro i e k hi rfl; rw [hj] at hi; cases hi
  refine le_mk rfl ?_ ?_ ?_ ?_ ((Keeps.refl w).B rfl) (Keeps.refl w).K
  · rintro b off u ⟨h1, h2⟩
    refine ⟨?_, h2⟩
    rcases h1 with ⟨h1, h3⟩ | ⟨i, e, k, h1, h3, h4⟩
    · refine .inl ⟨fun i hi => ?_, h3⟩
      rcases live_mv h.len hj hg hi with ⟨_, hi⟩ | ⟨_, hi⟩
      · exact h1 i hi
      · exact h1 j hi
    · exact .inr ⟨i, e, k, by rw [mv_lt (lt_of_getL h1), if_neg (hne h1)]; exact h1, by rw [hlt (lt_of_getL h1)]; exact h3, h4⟩
  · rintro i b ⟨h1, h2⟩
    have hi : i < H.length := by rw [← h.len]; exact lt_of_getL h1
    refine ⟨by rw [hlt hi]; exact h1, fun e k he => ?_⟩
    rw [mv_lt hi] at he
    split at he
    · cases he
    · exact h2 e k he
  · rintro i k A c z ⟨h1, h2⟩
    refine ⟨by rw [mv_len]; omega, fun e q he => ?_⟩
    rw [mv_lt h1] at he
    split at he
    · cases he
    · rw [hlt h1]; exact h2 e q he
  · rintro k b ob ⟨h1, h2⟩
    refine ⟨by rw [mv_len]; omega, fun he => ?_⟩
    rw [mv_lt h1] at he
    split at he
    · cases he
    · rw [hlt h1]; exact h2 he
theorem rel_mv (h : RelH P F H g w) {j : Nat} {ty : TypeId} {cs : List PV} {m : Option Nat} (hj : H[j]? = some (.box ty cs)) (hg : g[j]? = some m) :
    RelH P F (mvH H j (.box ty cs)) (g ++ [m]) w := by
  have hle := le_mv h hj hg
  have hlt : ∀ {i : Nat}, i < H.length → (g ++ [m])[i]? = g[i]? := fun hi => List.getElem?_append_left (by rw [h.len]; exact hi)
  have hold : ∀ {i b}, live (mvH H j (.box ty cs)) (g ++ [m]) i b → ∃ k, live H g k b := fun hi => by
    rcases live_mv h.len hj hg hi with ⟨_, hi⟩ | ⟨_, hi⟩
    · exact ⟨_, hi⟩
    · exact ⟨_, hi⟩
  refine rel_of_ok (by rw [mv_len]; simp [h.len]) ?_ (fun i b hi => let ⟨k, hk⟩ := hold hi; h.fr k b hk) h.fb ⟨h.bs.1, fun i b hi => let ⟨k, hk⟩ := hold hi; h.bs.2 k b hk⟩ ?_
  · intro i k b hi hk
    rcases live_mv h.len hj hg hi with ⟨h1, h2⟩ | ⟨h1, h2⟩ <;> rcases live_mv h.len hj hg hk with ⟨h3, h4⟩ | ⟨h3, h4⟩
    · exact h.inj i k b h2 h4
    · exact absurd (h.inj i j b h2 h4).symm h1
    · exact absurd (h.inj j k b h2 h4) h3
    · omega
  · intro i x hx
    rcases mv_cases hx with ⟨h4, h5, h6⟩ | ⟨h4, h5, rfl⟩ | ⟨rfl, rfl⟩
    · obtain ⟨q, h7, h8⟩ := rel_ok h h6
      exact ⟨q, by rw [hlt h4]; exact h7, h8.mono hle (fun _ _ => rfl)⟩
    · exact ⟨g[i]'(by rw [h.len]; exact h4), by rw [hlt h4]; exact List.getElem?_eq_getElem _, trivial⟩
    · obtain ⟨q, h7, h8⟩ := rel_ok h hj
      rw [hg] at h7; injection h7 with h7; subst h7
      exact ⟨m, by rw [← h.len]; exact get_snoc_eq, h8.mono hle (fun _ _ => rfl)⟩
theorem ext_mv (h : RelH P F H g w) {j : Nat} {ty : TypeId} {cs : List PV} {m : Option Nat} (hj : H[j]? = some (.box ty cs)) (hg : g[j]? = some m) :
    Ext P F H g w (mvH H j (.box ty cs)) (g ++ [m]) w := by
  refine ⟨rfl, rfl, rfl, Nat.le_refl _, fun b hb hn => ⟨rfl, fun i hi => ?_⟩, le_mv h hj hg, by rw [mv_len]; omega⟩
  rcases live_mv h.len hj hg hi with ⟨_, hi⟩ | ⟨_, hi⟩
  · exact hn i hi
  · exact hn j hi
theorem mv_set {j : Nat} {x e : AEnt} : mvH (H.set j x) j e = mvH H j e := by simp [mvH]
theorem rs_get {C : Ctx} {j k e sz : Nat} {u : Value} (h : VR C (.rs j 0 k e sz) u) : ∃ A c, u = .slice A k c ∧ (k ≤ c ∧ k ≤ 9223372036854775807) ∧ ((k = 0 ∧ c = 0 ∧ C.B A e sz 0) ∨ (0 < k ∧ ∃ b m, A = some ⟨b, 0, none⟩ ∧ C.R j b ∧ C.K b m ∧ c * sz ≤ m)) := by
  obtain ⟨A, c, h1, h2, h3, h4⟩ := vr_rs.1 h
  refine ⟨A, c, h1, h2, ?_⟩
  rcases Nat.eq_zero_or_pos k with hk | hk
  · exact .inl ⟨hk, (h3 hk).1, (h3 hk).2⟩
  · obtain ⟨b, m, a1, a2, a3, a4⟩ := h4 (by omega)
    exact .inr ⟨hk, b, m, a1, a2, a3, by omega⟩
theorem op1_rapp {t tx e : TypeId} {x y : Operand} {j : Nat} {sz b_ : Nat} {z : Value} {xs ys : List PV} (ht : P.underlying t = some (.slice e)) (hi : Inf P e z sz b_) (hz : z.cells.size = sz) (h0 : Nat.blt 0 sz = true)
    (ho : o.op = .call { callee := .builtin .append, args := #[x, y], argTypes := #[t, tx] }) (hx : ev env x = some (.rs j 0 xs.length e sz)) (hj : H[j]? = some (rowE e (xs.flatMap PV.cells))) (hxsB : xs.all (fun y => Nat.beq y.cells.length sz) = true)
    (hsrc : ∀ F g a w, Rel P F ⟨env, H, n⟩ a w g → ∃ news : List Value, Src P sz tx (a.eval y) ys.length news w ∧ RC (ctx P F H g w) (ys.flatMap PV.cells) news.toArray) (hysB : ys.all (fun y => Nat.beq y.cells.length sz) = true)
    (hb : (xs.length + ys.length) * b_ ≤ 140737488355328) (hl : xs.length + ys.length ≤ 9223372036854775807) : Op1 P o env H n (.rs H.length 0 (xs.length + ys.length) e sz) (mvH H j (rowE e ((xs ++ ys).flatMap PV.cells))) := by
  have hys : ∀ y, y ∈ ys → y.cells.length = sz := fun y hy => beq_iff'.1 (List.all_eq_true.1 hysB y hy)
  have hxz : ∀ y, y ∈ xs → y.cells.length = sz := fun y hy => beq_iff'.1 (List.all_eq_true.1 hxsB y hy)
  have h0 : 0 < sz := Nat.le_of_ble_eq_true h0
  intro F g a w hr Kn Q hK
  obtain ⟨inf, hinf, hzz, hss, hbb⟩ := hi.spec
  obtain ⟨news, hs, hrc⟩ := hsrc F g a w hr
  obtain ⟨A, c, hu, hc, hcase⟩ := rs_get (hr.opd hx)
  have hnl : news.length = ys.length * sz := hs.newsLen
  have hfx := flat_len hxz
  have hfy := flat_len hys
  have hexec : ∀ r, (Builtin.append_ #[t, tx] o.type #[a.eval x, a.eval y]).run P w = r → (execOp a.eval o).run P w = r.andThen fun v w' => .ok (.value v) w' := by
    intro r hr'
    simp [execOp, ho, resolve, invoke, builtin, hr']
  have hjl := lt_of_getL hj
  have hgl := hr.rel.len
  subst hss
  unfold Oper.wp
  have grown : ∀ (cells : Array Value) (cap : Nat) (olds : List Value), 0 < xs.length + ys.length → (Builtin.append_ #[t, tx] o.type #[a.eval x, a.eval y]).run P w = .ok (.slice (some ⟨w.heap.size, 0, none⟩) (xs.length + ys.length) cap) (w.drew.alloc (.cells cells e)) → xs.length + ys.length ≤ cap → cells.size = cap * inf.size →
      RC (ctx P F H g w) (xs.flatMap PV.cells) olds.toArray → (∀ (k : Nat) v, olds[k]? = some v → cells[k]? = some v) → (∀ (k : Nat) v, news[k]? = some v → cells[xs.length * inf.size + k]? = some v) → o.upon P a Kn Q ((execOp a.eval o).run P w) := by
    intro cells cap olds hpos hrun hcap hcsz hold h1 h2
    rw [hexec _ hrun]
    have hd := hr.rel
    have hsz1 : w.heap.size ≤ (w.drew.alloc (.cells cells e)).heap.size := by simp
    have hk1 : ∀ k, k < w.heap.size → (w.drew.alloc (.cells cells e)).heap[k]? = w.heap[k]? := fun k hk => by rw [alloc_old (by exact hk)]; rfl
    have hnew : (w.drew.alloc (.cells cells e)).heap[w.heap.size]? = some (.cells cells e (0, 0)) := alloc_new (w := w.drew)
    have hne : (xs ++ ys).flatMap PV.cells ≠ [] := by
      intro hz
      have := congrArg List.length hz
      rw [flat_append, List.length_append, hfx, hfy, ← Nat.add_mul] at this
      have := Nat.mul_pos hpos h0
      simp only [List.length_nil] at *
      omega
    have hE := rowE_pos (e := e) hne
    rw [hE] at hK
    have hn : ∀ b, some w.heap.size = some b → b = w.heap.size := fun b hb => by injection hb with hb; exact hb.symm
    have hrd := rel_dead hd j
    have hld : (H.set j .dead).length = H.length := by simp
    have hle := le_snoc hrd (.box e ((xs ++ ys).flatMap PV.cells)) (some w.heap.size) hn hsz1 hk1
    have hex := ext_snoc hrd (.box e ((xs ++ ys).flatMap PV.cells)) (some w.heap.size) hn hsz1 hk1 rfl rfl rfl
    have hbox : RelH P F (mvH H j (.box e ((xs ++ ys).flatMap PV.cells))) (g ++ [some w.heap.size]) (w.drew.alloc (.cells cells e)) := by
      refine rel_snoc hrd (.box e ((xs ++ ys).flatMap PV.cells)) (some w.heap.size) hn hsz1 hk1 ⟨_, cells, rfl, hnew, ?_, fun k q hq => ?_⟩
      · rw [flat_append, List.length_append, hfx, hfy, ← Nat.add_mul, hcsz]; exact Nat.mul_le_mul_right _ hcap
      · rw [flat_append] at hq
        by_cases hkx : k < (xs.flatMap PV.cells).length
        · rw [List.getElem?_append_left hkx] at hq
          obtain ⟨v, h4, h5⟩ := hold.2 k q hq
          exact ⟨v, h1 k v (by simpa using h4), (h5.mono (le_dead hd j)).mono hle⟩
        · rw [List.getElem?_append_right (by omega)] at hq
          obtain ⟨v, h4, h5⟩ := hrc.2 _ q hq
          rw [hfx] at h4 hkx
          rw [List.getElem?_toArray] at h4
          have := h2 _ v h4
          rw [show xs.length * inf.size + (k - xs.length * inf.size) = k by omega] at this
          exact ⟨v, this, (h5.mono (le_dead hd j)).mono hle⟩
    refine hK _ _ (g ++ [some w.heap.size]) ?_ hbox ((ext_dead hd j).trans hex)
    refine vr_rs.2 ⟨_, cap, rfl, ⟨hcap, hl⟩, fun hz => by omega, fun _ => ⟨w.heap.size, cells.size, rfl, ⟨by rw [← hgl]; exact get_snoc_eq, fun e' k he => ?_⟩, ⟨cells, e, (0, 0), hnew, rfl⟩, by rw [hcsz]; omega⟩⟩
    rw [mv_new] at he; cases he
  by_cases hm0 : ys = []
  · subst hm0
    have hn0 : news = [] := List.eq_nil_of_length_eq_zero (by simpa using hnl)
    subst hn0
    have hrun : (Builtin.append_ #[t, tx] o.type #[a.eval x, a.eval y]).run P w = .ok (.slice A xs.length c) w := by
      rw [hu]
      have hlen := hs.len w
      have hcl := hs.cells
      simp only [List.length_nil] at hlen hcl
      rcases hs.kind with ⟨e', hk⟩ | hk <;> cases A <;> simp [Builtin.append_, run_und ht, run_und hk, Go.sizeOf, typeInfo, hinf, hlen, hc, hcl, storeCells]
    rw [hexec _ hrun]
    simp only [List.append_nil, List.length_nil, Nat.add_zero] at hK hl ⊢
    by_cases hx0 : xs = []
    · subst hx0
      have hdd : H.set j .dead = H := by
        apply List.ext_getElem?
        intro i
        by_cases hij : j = i
        · subst hij; rw [set_get_eq hj, hj]; rfl
        · rw [set_get_ne hij]
      have hK' := hK (.slice A 0 c) w (g ++ [none])
      simp only [List.flatMap_nil, rowE, mvH, hdd] at hK'
      have hns : ∀ b, (none : Option Nat) = some b → b = w.heap.size := fun b hb => nomatch hb
      have hle := le_snoc hr.rel .dead none hns (Nat.le_refl _) (fun _ _ => rfl)
      refine hK' ?_ (rel_snoc hr.rel .dead none hns (Nat.le_refl _) (fun _ _ => rfl) trivial) (ext_snoc hr.rel .dead none hns (Nat.le_refl _) (fun _ _ => rfl) rfl rfl rfl)
      rcases hcase with ⟨_, h2, h3⟩ | ⟨h1, _⟩
      · subst h2
        exact vr_rs.2 ⟨A, 0, rfl, hc, fun _ => ⟨rfl, hle.B _ _ _ _ h3⟩, fun hz => absurd rfl hz⟩
      · simp at h1
    · have hpos : 0 < xs.length := by cases xs with | nil => exact absurd rfl hx0 | cons _ _ => simp
      have hne : xs.flatMap PV.cells ≠ [] := by
        intro hz
        have := congrArg List.length hz
        rw [hfx] at this
        have := Nat.mul_pos hpos h0
        simp only [List.length_nil] at *
        omega
      rcases hcase with ⟨h1, _⟩ | ⟨_, b, m, rfl, hR, hKm, hcm⟩
      · omega
      · rw [rowE_pos hne] at hj hK
        have hle := le_mv hr.rel hj hR.1
        refine hK _ w (g ++ [some b]) ?_ (rel_mv hr.rel hj hR.1) (ext_mv hr.rel hj hR.1)
        refine vr_rs.2 ⟨_, c, rfl, hc, fun hz => by omega, fun _ => ⟨b, m, rfl, ⟨by rw [← hgl]; exact get_snoc_eq, fun e' k he => ?_⟩, hle.K _ _ hKm, by omega⟩⟩
        rw [mv_new] at he; cases he
  · have hm : 0 < ys.length := by cases ys with | nil => exact absurd rfl hm0 | cons _ _ => simp
    rcases hcase with ⟨h1, rfl, _⟩ | ⟨hpos, b, m, rfl, hR, hKm, hcm⟩
    · -- the row has no room at all
      have hx0 : xs = [] := List.eq_nil_of_length_eq_zero h1
      subst hx0
      simp only [List.length_nil, Nat.zero_add] at *
      have hfc : (Builtin.firstCells inf.size 0 (.slice A 0 0)).run P w.drew = .ok ([] : List Value).toArray w.drew := by
        cases A <;> simp [Builtin.firstCells, loadCells, loadCellsFrom]
      have hrun := run_append_grow_src (P := P) w t tx o.type e inf z ht hinf hzz A 0 0 [] hfc (a.eval y) ys.length news hs (by omega) (by omega) (growslice_fits (by omega) (by simpa [hbb] using hb))
      rw [← hu] at hrun
      simp only [Nat.zero_add, List.nil_append] at hrun
      have hge := grownCap_ge w ys.length 0 e
      have hzc : (Builtin.zeroCells z.cells (grownCap w ys.length 0 e - ys.length)).size = (grownCap w ys.length 0 e - ys.length) * inf.size := by rw [size_zeroCells, hz]
      refine grown (news.toArray ++ Builtin.zeroCells z.cells (grownCap w ys.length 0 e - ys.length)) (grownCap w ys.length 0 e) [] hm hrun hge ?_ ⟨rfl, fun k q hq => by simp at hq⟩ (fun k v hk => by simp at hk) ?_
      · simp only [Array.size_append, List.size_toArray, hnl, hzc, ← Nat.add_mul]; congr 1; omega
      · intro k v hk
        rw [Nat.zero_mul, Nat.zero_add, Array.getElem?_append_left (by simpa using lt_of_getL hk)]
        simpa using hk
    · have hne : xs.flatMap PV.cells ≠ [] := by
        intro hz
        have := congrArg List.length hz
        rw [hfx] at this
        have := Nat.mul_pos hpos h0
        simp only [List.length_nil] at *
        omega
      rw [rowE_pos hne] at hj
      obtain ⟨b', cur, h1, hcur, h3, h4⟩ := hr.rel.box j e _ hj
      rw [hR.1] at h1; injection h1 with h1; injection h1 with h1; subst h1
      have hcsz : c * inf.size ≤ cur.size := by
        obtain ⟨c1, t1, z1, h5, h6⟩ := hKm
        rw [hcur] at h5; injection h5 with h5; injection h5 with h5 _ _; subst h5
        omega
      rw [hfx] at h3
      by_cases hroom : xs.length + ys.length ≤ c
      · -- there is room
        have hfit : xs.length * inf.size + news.length ≤ cur.size := by
          rw [hnl, ← Nat.add_mul]; exact Nat.le_trans (Nat.mul_le_mul_right _ hroom) hcsz
        have hst := run_storeCells_at P b (xs.length * inf.size) e news 0 cur w hcur (by simpa using hfit) hs.one
        simp only [Nat.add_zero] at hst
        have hrun : (Builtin.append_ #[t, tx] o.type #[a.eval x, a.eval y]).run P w = .ok (.slice (some ⟨b, 0, none⟩) (xs.length + ys.length) c) (w.setRow b (cur.toList.take (xs.length * inf.size) ++ news ++ cur.toList.drop (xs.length * inf.size + news.length)).toArray) := by
          rw [hu]
          rcases hs.kind with ⟨e', hk⟩ | hk <;> simp [Builtin.append_, run_und ht, run_und hk, Go.sizeOf, typeInfo, hinf, hs.len, hroom, hs.cells, addr_add, hst]
        have hget : ∀ k, (cur.toList.take (xs.length * inf.size) ++ news ++ cur.toList.drop (xs.length * inf.size + news.length)).toArray[k]? = if k < xs.length * inf.size then cur[k]? else if k < xs.length * inf.size + news.length then news[k - xs.length * inf.size]? else cur[k]? := by
          intro k
          rw [List.getElem?_toArray, get_three rfl (by simpa using hfit)]; simp
        have hw : Wr b cur _ e w (w.setRow b (cur.toList.take (xs.length * inf.size) ++ news ++ cur.toList.drop (xs.length * inf.size + news.length)).toArray) := Wr.row hcur (by
          simp only [List.size_toArray, List.length_append, List.length_take, List.length_drop, Array.length_toList]; omega)
        rw [hexec _ hrun]
        have hne2 : (xs ++ ys).flatMap PV.cells ≠ [] := by
          rw [flat_append]; intro hz; exact hne (List.append_eq_nil_iff.1 hz).1
        rw [rowE_pos hne2] at hK
        have hrb := rel_box (cs' := (xs ++ ys).flatMap PV.cells) hr.rel hj hR.1 hw (by rw [hw.sz, flat_append, List.length_append, hfx, hfy, ← hnl]; exact hfit) (fun k q hq => by
          rw [hget]
          rw [flat_append] at hq
          by_cases hkx : k < (xs.flatMap PV.cells).length
          · rw [List.getElem?_append_left hkx] at hq
            rw [if_pos (by rw [← hfx]; exact hkx)]
            exact h4 k q hq
          · have hkl := lt_of_getL hq
            rw [List.length_append, hfx, hfy, ← hnl] at hkl
            rw [List.getElem?_append_right (by omega)] at hq
            obtain ⟨v, h7, h8⟩ := hrc.2 _ q hq
            rw [hfx] at h7 hkx
            rw [if_neg hkx, if_pos hkl]
            exact ⟨v, by simpa using h7, h8⟩)
        have hxb := ext_box (cs' := (xs ++ ys).flatMap PV.cells) hr.rel hj hR.1 hw
        have hj2 : (H.set j (.box e ((xs ++ ys).flatMap PV.cells)))[j]? = some (.box e ((xs ++ ys).flatMap PV.cells)) := set_get_eq hj
        have hrm := rel_mv hrb hj2 hR.1
        have hxm := ext_mv hrb hj2 hR.1
        rw [mv_set] at hrm hxm
        refine hK _ _ (g ++ [some b]) ?_ hrm (hxb.trans hxm)
        refine vr_rs.2 ⟨_, c, rfl, ⟨hroom, hl⟩, fun hz => by omega, fun _ => ⟨b, m, rfl, ⟨by rw [← hgl]; exact get_snoc_eq, fun e' k he => ?_⟩, hw.keeps.K (F := F.fr) (H := H) (g := g) b m hKm, by omega⟩⟩
        rw [mv_new] at he; cases he
      · -- there is none
        have holds : ∀ (k : Nat) (v : Value), (cur.toList.take (xs.length * inf.size))[k]? = some v → w.drew.cell? ((⟨b, 0, none⟩ : Addr).add k) = some v := by
          intro k v hk
          rw [addr_add, World.cell?_drew, cell_row hcur, Nat.zero_add]
          rw [List.getElem?_take] at hk
          split at hk
          · simpa using hk
          · cases hk
        have hol : (cur.toList.take (xs.length * inf.size)).length = xs.length * inf.size := by
          have : cur.toList.length = cur.size := rfl
          rw [List.length_take, this]
          exact Nat.min_eq_left h3
        have hrun := run_append_grow_src (P := P) w t tx o.type e inf z ht hinf hzz (some ⟨b, 0, none⟩) xs.length c (cur.toList.take (xs.length * inf.size)) (run_firstCells_some w.drew inf.size xs.length ⟨b, 0, none⟩ xs.length c _ hol holds) (a.eval y) ys.length news hs (by omega) (by omega) (growslice_fits (by omega) (by simpa [hbb] using hb))
        rw [← hu] at hrun
        have hge := grownCap_ge w (xs.length + ys.length) c e
        have hzc : (Builtin.zeroCells z.cells (grownCap w (xs.length + ys.length) c e - (xs.length + ys.length))).size = (grownCap w (xs.length + ys.length) c e - (xs.length + ys.length)) * inf.size := by rw [size_zeroCells, hz]
        refine grown ((cur.toList.take (xs.length * inf.size) ++ news).toArray ++ Builtin.zeroCells z.cells (grownCap w (xs.length + ys.length) c e - (xs.length + ys.length))) (grownCap w (xs.length + ys.length) c e) (cur.toList.take (xs.length * inf.size)) (by omega) hrun hge ?_ ⟨by rw [hfx, List.size_toArray, hol], fun k q hq => ?_⟩ ?_ ?_
        · simp only [Array.size_append, List.size_toArray, List.length_append, hnl, hol, hzc, ← Nat.add_mul]; congr 1; omega
        · obtain ⟨v, h7, h8⟩ := h4 k q hq
          have hk := lt_of_getL hq
          rw [hfx] at hk
          exact ⟨v, by rw [List.getElem?_toArray, List.getElem?_take, if_pos hk]; simpa using h7, h8⟩
        · intro k v hk
          have hkl := lt_of_getL hk
          rw [Array.getElem?_append_left (by simp only [List.size_toArray, List.length_append]; omega), List.getElem?_toArray, List.getElem?_append_left hkl]
          exact hk
        · intro k v hk
          have hkl := lt_of_getL hk
          rw [Array.getElem?_append_left (by simp only [List.size_toArray, List.length_append, hol]; omega), List.getElem?_toArray, List.getElem?_append_right (by omega), hol]
          rw [show xs.length * inf.size + k - xs.length * inf.size = k by omega]; exact hk
def flatM {α : Type} (f : α → PV) (xs : List α) : List PV := (xs.map f).flatMap PV.cells
def rowM {α : Type} (f : α → PV) (e : TypeId) (xs : List α) : AEnt := rowE e (flatM f xs)
section
variable {α : Type} {f : α → PV}
theorem flatM_len {sz : Nat} {xs : List α} (hs : ∀ a, (f a).cells.length = sz) : (flatM f xs).length = xs.length * sz := by
  unfold flatM
  rw [flat_len (sz := sz) (fun x hx => by obtain ⟨a, _, rfl⟩ := List.mem_map.1 hx; exact hs a), List.length_map]
theorem flatM_get {sz i q : Nat} {xs : List α} {a : α} {y : PV} (hs : ∀ a, (f a).cells.length = sz) (ha : xs[i]? = some a) (hy : (f a).cells[q]? = some y) : (flatM f xs)[i * sz + q]? = some y :=
  flat_get (sz := sz) (fun x hx => by obtain ⟨a, _, rfl⟩ := List.mem_map.1 hx; exact hs a) i q (f a) y (by rw [List.getElem?_map, ha]; rfl) hy
theorem flatM_ne {sz i : Nat} {xs : List α} {a : α} (hs : ∀ a, (f a).cells.length = sz) (h0 : 0 < sz) (ha : xs[i]? = some a) : flatM f xs ≠ [] := by
  intro h
  have h1 := flatM_len (xs := xs) hs
  rw [h] at h1
  have h2 := lt_of_getL ha
  have := Nat.mul_pos (show 0 < xs.length by omega) h0
  simp only [List.length_nil] at h1
  omega
theorem rowM_at {e sz i : Nat} {xs : List α} {a : α} (hs : ∀ a, (f a).cells.length = sz) (h0 : Nat.blt 0 sz = true) (ha : xs[i]? = some a) : rowM f e xs = .box e (flatM f xs) := rowE_pos (flatM_ne hs (Nat.le_of_ble_eq_true h0) ha)
theorem all_map {p : PV → Bool} {xs : List α} (h : ∀ a, p (f a) = true) : (xs.map f).all p = true := List.all_eq_true.2 fun q hq => by obtain ⟨a, _, rfl⟩ := List.mem_map.1 hq; exact h a
theorem op1_rappM {t tx e e' : TypeId} {x y : Operand} {j kk : Nat} {sz b_ : Nat} {z : Value} {l m r : List α} {tk : Option Nat} (ht : P.underlying t = some (.slice e)) (hi : Inf P e z sz b_) (hz : z.cells.size = sz) (h0 : Nat.blt 0 sz = true) (htx : P.underlying tx = some (.slice e'))
    (ho : o.op = .call { callee := .builtin .append, args := #[x, y], argTypes := #[t, tx] }) (hx : ev env x = some (.rs j 0 kk e sz)) (hkk : kk = l.length) (hj : H[j]? = some (rowM f e l)) (hy : ev env y = some (.sl tk e sz (m.map f)))
    (hsz : ∀ a, (f a).cells.length = sz) (h1 : ∀ a, (f a).cells.all one1 = true) (hr : appO b_ l m = some r) (hb1 : Nat.ble 1 b_ = true) : Op1 P o env H n (.rs H.length 0 r.length e sz) (mvH H j (rowM f e r)) := by
  obtain ⟨hb, rfl⟩ := appO_some hr
  subst hkk
  have hb1' := Nat.le_of_ble_eq_true hb1
  refine (op1_rapp (xs := l.map f) (ys := m.map f) ht hi hz h0 ho (by rw [List.length_map]; exact hx) hj (all_map fun a => by rw [hsz]; exact Nat.beq_refl _) (fun F g a w hr => src_sl hr hy htx (all_map h1))
    (all_map fun a => by rw [hsz]; exact Nat.beq_refl _) (by simpa only [List.length_map] using hb) ?_).cast (by simp only [List.length_map, List.length_append]) (by rw [← List.map_append]; rfl)
  simp only [List.length_map]
  have : l.length + m.length ≤ (l.length + m.length) * b_ := Nat.le_mul_of_pos_right _ hb1'
  omega
theorem op1_rlen {x : Operand} {t e e' : TypeId} {j k sz : Nat} (ht : P.underlying t = some (.slice e)) (ho : o.op = .call { callee := .builtin .len, args := #[x], argTypes := #[t] }) (hx : ev env x = some (.rs j 0 k e' sz)) : Op1 P o env H n (.v (.int .i64 k)) H :=
  op1_same fun F g a w hr => by
    obtain ⟨A, c, hu, _⟩ := vr_rs.1 (hr.opd hx)
    exact ⟨_, vr_v.2 rfl, by simp [execOp, ho, resolve, invoke, builtin, hu, Builtin.len_, run_und ht, goInt]⟩
theorem op1_ridxN {x y : Operand} {t e : TypeId} {j kk sz by_ : Nat} {z : Value} {l : List α} {i : Nat} {a : α} {k : IntKind} (ht : P.underlying t = some (.slice e)) (hi : Inf P e z sz by_) (ho : o.op = .indexAddr t x y)
    (hx : ev env x = some (.rs j 0 kk e sz)) (hkk : kk = l.length) (hy : ev env y = some (.v (.int k (i : Nat)))) (ha : l[i]? = some a) : Op1 P o env H n (.rf j (i * sz)) H :=
  op1_same fun F g a w hr => by
    have hlt := lt_of_getL ha
    subst hkk
    obtain ⟨A, c, hu, hc, hcase⟩ := rs_get (hr.opd hx)
    rcases hcase with ⟨h2, _, _⟩ | ⟨hpos, b, m, rfl, hR, hKm, hcm⟩
    · omega
    · refine ⟨.pointer (some ⟨b, i * sz, none⟩), vr_rf.2 ⟨b, rfl, hR⟩, ?_⟩
      have h0 : (0 : Int) ≤ (i : Int) := by omega
      have hlt' : (i : Int) < (l.length : Int) := by omega
      simp [execOp, ho, hu, hr.const hy, Instr.indexAt, asIntOf, run_und ht, h0, hlt', hlt, hi.run_size, addr_add]
theorem op1_ridxM {x y : Operand} {t e : TypeId} {j kk sz by_ : Nat} {z : Value} {l : List α} {i : Int} {a : α} {k : IntKind} (ht : P.underlying t = some (.slice e)) (hi : Inf P e z sz by_) (ho : o.op = .indexAddr t x y)
    (hx : ev env x = some (.rs j 0 kk e sz)) (hkk : kk = l.length) (hy : ev env y = some (.v (.int k i))) (ha : idxI l i = some a) : Op1 P o env H n (.rf j (i.toNat * sz)) H := by
  obtain ⟨h0, h1⟩ := idxI_some ha
  exact op1_ridxN (i := i.toNat) ht hi ho hx hkk (by rw [hy, Int.toNat_of_nonneg h0]) h1
theorem op1_rld {x : Operand} {t e : TypeId} {d : TypeDesc} {j i q off sz : Nat} {l : List α} {a : α} {y : PV} (hd : P.underlying t = some d) (hs : aggD d = false) (ho : o.op = .load t x) (hx : ev env x = some (.rf j off)) (hj : H[j]? = some (rowM f e l)) (ha : l[i]? = some a)
    (hsz : ∀ a, (f a).cells.length = sz) (h0 : Nat.blt 0 sz = true) (hq : off = i * sz + q) (hy : (f a).cells[q]? = some y) : Op1 P o env H n y H :=
  op1_ldR hd hs ho hx (by rw [hj, rowM_at hsz h0 ha]) (by rw [hq]; exact flatM_get hsz ha hy)
end
theorem drop_extL {F : Lo} {σ : List Nat} {m : Nat} {H0 : List AEnt} {g0 : List (Option Nat)} {w0 : World} (hx : Ext P F H0 g0 w0 H g w) (h0 : g0.length = H0.length) (h : RelH P F H g w) (hm : H0.length = m) (hn : σ.Nodup) (hl : ∀ i, i ∈ σ → i < H.length)
    (hσ : ∀ k, k < m → σ[k]? = some k) : Ext P F H0 g0 w0 (pickH H σ) (pickG g σ) w := by
  have hf := drop_fits h σ
  have hlen : m ≤ σ.length := by
    cases m with
    | zero => omega
    | succ m => have := lt_of_getL (hσ m (by omega)); omega
  have hid : ∀ i, i < m → i ∈ σ ∧ σ.idxOf i = i := fun i hi => ⟨List.mem_of_getElem? (hσ i hi), get_idx hn (hσ i hi)⟩
  refine ⟨hx.os, hx.tape, hx.output, hx.size, fun b hb hlv => ?_, ?_, by simpa [pickH, hm] using hlen⟩
  · have h1 := hx.keep b hb hlv
    exact ⟨h1.1, fun k hk => by obtain ⟨i, _, hi⟩ := live_pick hk; exact h1.2 i hi⟩
  · refine le_mk rfl ?_ ?_ ?_ (fun k b o hg => by
      have hk : k < m := by rw [← hm]; exact hg.1
      obtain ⟨h1, h2⟩ := hid k hk
      have := pick_G (F' := F) h1 (hx.le.G k b o hg)
      rwa [h2] at this) (fun A e s n hB => hx.le.B A e s n hB) hx.le.K
    · intro b off u hM
      have h1 := hx.le.N b off u hM
      exact ⟨pick_M h hn hf h1.1, h1.2⟩
    · intro i b hr
      have hi : i < m := by rw [← hm, ← h0]; exact lt_of_getL hr.1
      obtain ⟨h1, h2⟩ := hid i hi
      have := pick_R (F' := F) h1 (hx.le.R i b hr)
      rwa [h2] at this
    · intro j n A c sz ht
      have hj : j < m := by rw [← hm]; exact ht.1
      obtain ⟨h1, h2⟩ := hid j hj
      have := pick_T (F' := F) h1 (hx.le.T j n A c sz ht)
      rwa [h2] at this
structure RnW (σ : List Nat) (x y : PV) : Prop where
  ids : ∀ i, i ∈ x.ids → i ∈ σ
  wk : Wk (x.ren (σ.idxOf ·)) y
theorem RnW.none {σ : List Nat} {x y : PV} (h : x.ids = []) (hw : Wk x y) : RnW σ x y := ⟨fun i hi => by rw [h] at hi; (cases hi), by rw [ren_id_of x (fun i hi => by rw [h] at hi; cases hi)]; exact hw⟩
theorem RnW.rs {σ : List Nat} {i j o k k' e sz : Nat} (h : σ.contains i = true) (hi : σ.idxOf i = j) (hk : k = k') : RnW σ (.rs i o k e sz) (.rs j o k' e sz) := ⟨fun q hq => by simp [PV.ids] at hq; subst hq; simpa using h, by rw [PV.ren, hi, hk]; exact Wk.refl _⟩
theorem RnW.rf {σ : List Nat} {i j o : Nat} (h : σ.contains i = true) (hi : σ.idxOf i = j) : RnW σ (.rf i o) (.rf j o) := ⟨fun q hq => by simp [PV.ids] at hq; subst hq; simpa using h, by rw [PV.ren, hi]; exact Wk.refl _⟩
theorem RnW.tok {σ : List Nat} {i j e sz : Nat} {xs : List PV} (h : σ.contains i = true) (hi : σ.idxOf i = j) (hx : PV.ids.idsL xs = []) : RnW σ (.sl (some i) e sz xs) (.sl (some j) e sz xs) := ⟨fun q hq => by simp [PV.ids, hx] at hq; subst hq; simpa using h, by rw [PV.ren, renL_same hx, Option.map_some, hi]; exact Wk.refl _⟩
theorem RnW.iface {σ : List Nat} {t : TypeId} {x y : PV} (h : RnW σ x y) : RnW σ (.iface t x) (.iface t y) := ⟨fun i hi => h.ids i (by simpa only [PV.ids] using hi), by rw [PV.ren]; exact Wk.iface h.wk⟩
inductive RnWL (σ : List Nat) : List PV → List PV → Prop
  | nil : RnWL σ [] []
  | cons {x y : PV} {xs ys : List PV} : RnW σ x y → RnWL σ xs ys → RnWL σ (x :: xs) (y :: ys)
theorem RnWL.ids {σ : List Nat} : ∀ {xs ys : List PV}, RnWL σ xs ys → ∀ i, i ∈ PV.ids.idsL xs → i ∈ σ
  | _, _, .nil, i, hi => by cases hi
  | _, _, .cons h hr, i, hi => by
    rw [idsL_cons', List.mem_append] at hi
    rcases hi with hi | hi
    · exact h.ids i hi
    · exact hr.ids i hi
theorem RnWL.wk {σ : List Nat} : ∀ {xs ys : List PV}, RnWL σ xs ys → WkL (PV.ren.renL (σ.idxOf ·) xs) ys
  | _, _, .nil => .nil
  | _, _, .cons h hr => by rw [PV.ren.renL]; exact .cons h.wk hr.wk
inductive ER (σ : List Nat) : AEnt → AEnt → Prop
  | same {e : AEnt} : e.ids = [] → ER σ e e
  | box {ty : TypeId} {cs cs' : List PV} : RnWL σ cs cs' → ER σ (.box ty cs') (.box ty cs)
  | dead {e : AEnt} : e.ids = [] → ER σ .dead e
theorem ER.ids {σ : List Nat} {e' e : AEnt} (h : ER σ e' e) : ∀ k, k ∈ e.ids → k ∈ σ := by
  cases h with
  | same h => intro k hk; rw [h] at hk; cases hk
  | box h => exact fun k hk => h.ids k hk
  | dead h => intro k hk; rw [h] at hk; cases hk
theorem ER.sub {σ : List Nat} {e' e : AEnt} (h : ER σ e' e) : ESub e' (e.ren (σ.idxOf ·)) := by
  cases h with
  | same h => rw [ent_ren_same h]; exact .same
  | box h => exact .box h.wk
  | dead h => exact .dead
inductive HR (H : List AEnt) (σ : List Nat) : List Nat → List AEnt → Prop
  | nil : HR H σ [] []
  | cons {i : Nat} {e e' : AEnt} {τ : List Nat} {H' : List AEnt} : H[i]? = some e → ER σ e' e → HR H σ τ H' → HR H σ (i :: τ) (e' :: H')
theorem HR.lt {σ : List Nat} : ∀ {τ : List Nat} {H' : List AEnt}, HR H σ τ H' → ∀ i, i ∈ τ → i < H.length
  | _, _, .nil, i, hi => by cases hi
  | _, _, .cons h _ hr, i, hi => by
    rcases List.mem_cons.1 hi with rfl | hi
    · exact lt_of_getL h
    · exact hr.lt i hi
theorem HR.ids {σ : List Nat} : ∀ {τ : List Nat} {H' : List AEnt}, HR H σ τ H' → ∀ i e, i ∈ τ → H[i]? = some e → ∀ k, k ∈ e.ids → k ∈ σ
  | _, _, .nil, i, e, hi, _ => by cases hi
  | _, _, .cons h he hr, i, e, hi, hH => by
    rcases List.mem_cons.1 hi with rfl | hi
    · rw [h] at hH; injection hH with hH; subst hH; exact he.ids
    · exact hr.ids i e hi hH
theorem HR.sub {σ : List Nat} : ∀ {τ : List Nat} {H' : List AEnt}, HR H σ τ H' → HSub H' (τ.map fun i => (H.getD i .dead).ren (σ.idxOf ·))
  | _, _, .nil => .nil
  | _, _, .cons h he hr => by
    rw [List.map_cons, List.getD_eq_getElem?_getD, h]
    exact .cons he.sub hr.sub
def SubR (σ : List Nat) (e' e : List (Nat × PV)) : Prop := ∀ t x, get e' t = some x → ∃ y z, get e t = some y ∧ Wk y z ∧ RnW σ z x
theorem subr_nil {σ : List Nat} {e : List (Nat × PV)} : SubR σ [] e := fun t x h => by cases h
theorem subr_cons {σ : List Nat} {e e' : List (Nat × PV)} {k : Nat} {x y z : PV} (h : get e k = some y) (hz' : Wk y z) (hw : RnW σ z x) (hs : SubR σ e' e) : SubR σ ((k, x) :: e') e := by
  intro t q hz
  simp only [get] at hz
  cases hb : Nat.beq k t with
  | true =>
    rw [hb] at hz; simp at hz; subst hz
    rw [← beq_iff'.1 hb]; exact ⟨y, _, h, hz', hw⟩
  | false => rw [hb] at hz; exact hs t _ hz
def renOk (m : Nat) (σ : List Nat) : Bool := (σ.map fun i => σ.count i).all (Nat.beq 1) && (List.range m).all (fun k => (σ[k]?).elim false (Nat.beq k))
structure JoinsR (m : Nat) (env : List (Nat × PV)) (H : List AEnt) (s : ASt) : Prop where
  ex : ∃ σ, renOk m σ = true ∧ HR s.H σ σ H ∧ SubR σ env s.env
section
variable {s : ASt} {K : AExit → ASt → Prop} {H0 : List AEnt}
theorem joinsR {m : Nat} {env : List (Nat × PV)} (σ : List Nat) (h : renOk m σ = true) (hH : HR s.H σ σ H) (hs : SubR σ env s.env) : JoinsR m env H s := ⟨⟨σ, h, hH, hs⟩⟩
theorem rel_joinsR {F : Fr} {g g0 : List (Option Nat)} {a : Act} {w w0 : World} (hl : g0.length = H0.length) (hr : Rel P F s a w g) (hx : Ext P F H0 g0 w0 s.H g w) {env' : List (Nat × PV)} (hj : JoinsR H0.length env' H' s) (hw : WfJ H0.length env' H') :
    ∃ g', Rel P F ⟨env', H', s.n⟩ a w g' ∧ Ext P F H0 g0 w0 H' g' w := by
  obtain ⟨σ, h1, hH, hs⟩ := hj.ex
  simp only [renOk, Bool.and_eq_true] at h1
  have hn := nodupσ h1.1
  have hσ : ∀ k, k < H0.length → σ[k]? = some k := fun k hk => by
    have h2 := List.all_eq_true.1 h1.2 k (List.mem_range.2 hk)
    cases hq : σ[k]? with
    | none => rw [hq] at h2; cases h2
    | some q => rw [hq] at h2; simp only [Option.elim_some] at h2; rw [← beq_iff'.1 h2]
  have hf := drop_fits hr.rel σ
  have hrel := pick_rel hr.rel hn hf hH.lt hH.ids
  have hext := drop_extL hx hl hr.rel rfl hn hH.lt hσ
  have hsub : HSub H' (pickH s.H σ) := hH.sub
  refine ⟨_, ⟨hs_rel hrel hsub hw.ent, fun t x hx => ?_, hr.size, hr.defers⟩, hs_ext hrel hsub hl hw.len hext⟩
  obtain ⟨y, z, h2, hz, h3⟩ := hs t x hx
  obtain ⟨u, h4, h5⟩ := hr.env t y h2
  exact ⟨u, h4, hs_VR hrel hsub (hw.env.get hx) (h3.wk _ _ (pick_VR hr.rel hn hf h3.ids (hz _ _ h5)))⟩
theorem bw_loopR {σ ρ : Type} {Φ : (σ → Option ρ) → σ → Option ρ} {r : ρ} {c : Code} (mk : σ → List (Nat × PV)) (mkH : σ → List AEnt) (x0 : σ) (hr0 : fixO Φ x0 = some r) (hw : ∀ x, WfJ H0.length (mk x) (mkH x)) (h0 : JoinsR H0.length (mk x0) (mkH x0) s)
    (round : ∀ (g : σ → Option ρ) (x : σ), Φ g x = some r → BW P H0 c ⟨mk x, mkH x, s.n⟩ (jumpK (fun s' => s'.n = s.n ∧ ∃ x', g x' = some r ∧ JoinsR H0.length (mk x') (mkH x') s') K)) : BW P H0 (.loop c) s K := fun F g a w g0 w0 hl hr hx => by
  obtain ⟨n, hn⟩ := fixO_iter hr0
  obtain ⟨g1, h1, h2⟩ := rel_joinsR hl hr hx h0 (hw x0)
  refine wp_loop_ind (fun n a' w' => ∃ x g', iterO Φ n x = some r ∧ Rel P F ⟨mk x, mkH x, s.n⟩ a' w' g' ∧ Ext P F H0 g0 w0 (mkH x) g' w') ⟨x0, _, hn, h1, h2⟩ ?_
  rintro n a1 w1 ⟨x, g1, hI, hr1, hx1⟩
  cases n with
  | zero => cases hI
  | succ n =>
    refine wp_mono (round (iterO Φ n) x hI F g1 a1 w1 g0 w0 hl hr1 hx1) ?_
    rintro e a' w' ⟨y, s', g', h1, h2, h3, h4⟩
    cases y <;> cases e <;> first
      | exact h1.elim
      | exact ⟨_, s', g', h1, h2, h3, h4⟩
      | skip
    obtain ⟨hn', x', h5, h6⟩ := h4
    obtain ⟨g2, h7, h8⟩ := rel_joinsR hl h2 h3 h6 (hw x')
    rw [hn'] at h7
    exact ⟨n, by omega, x', _, h5, h7, h8⟩
end
section
variable {α : Type} {f : α → PV}
theorem ids_rowM {e : TypeId} {xs : List α} (hf : ∀ a, (f a).ids = []) : (rowM f e xs).ids = [] := rowE_ids (by
  have : ∀ k, k ∉ PV.ids.idsL (flatM f xs) := fun k hk => by
    obtain ⟨x, hx, hk⟩ := mem_idsL.1 hk
    obtain ⟨p, hp, hx⟩ := List.mem_flatMap.1 hx
    obtain ⟨a, _, rfl⟩ := List.mem_map.1 hp
    obtain ⟨j, hj⟩ := List.mem_iff_getElem?.1 hx
    have := mem_ids_cells hj hk
    rw [hf] at this; cases this
  exact List.eq_nil_iff_forall_not_mem.2 this)
theorem wfL_of {k : Nat} : ∀ {cs : List PV}, (∀ x, x ∈ cs → x.ids = []) → WfL k cs
  | [], _ => trivial
  | x :: r, h => ⟨il_nil (h x (by simp)), wfL_of (fun y hy => h y (by simp [hy]))⟩
theorem wfH_row {k e : Nat} {xs : List α} {r : List AEnt} (hf : ∀ a, (f a).ids = []) (h : WfH k r) : WfH k (rowM f e xs :: r) := by
  have hx : ∀ x, x ∈ flatM f xs → x.ids = [] := fun x hx => by
    obtain ⟨p, hp, hx⟩ := List.mem_flatMap.1 hx
    obtain ⟨a, _, rfl⟩ := List.mem_map.1 hp
    obtain ⟨j, hj⟩ := List.mem_iff_getElem?.1 hx
    refine List.eq_nil_iff_forall_not_mem.2 fun i hi => ?_
    have := mem_ids_cells hj hi
    rw [hf] at this; cases this
  unfold rowM
  cases hc : flatM f xs with
  | nil => exact h
  | cons c q => rw [hc] at hx; exact ⟨wfL_of hx, h⟩
end
theorem il_rs {k i o m e sz : Nat} (h : Nat.blt i k = true) : IdsLt k (.rs i o m e sz) := fun j hj => by simp [PV.ids] at hj; subst hj; exact Nat.le_of_ble_eq_true h
end Go.Proofs.Ytkmhecgagibgjaa.Aw
