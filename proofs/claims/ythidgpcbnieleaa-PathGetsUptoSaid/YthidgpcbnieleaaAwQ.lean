/- Aw: rows that are written in place: such a row is a variable of the call's own (ztf), of which a slice knows the number (rs). -/
import Derived.Test.YthidgpcbnieleaaAwO
import Derived.Test.YthidgpcbnieleaaAwH
namespace Go.Proofs.Ythidgpcbnieleaa.Aw
open Go
set_option linter.unusedVariables false
set_option linter.unusedSimpArgs false
variable {P : Program} {F : Lo} {H H' : List AEnt} {g g' : List (Option Nat)} {w w' : World} {env : List (Nat × PV)} {n : Nat} {o : Oper}
def ztf (e : TypeId) : List PV → AEnt
 | [] => .dead
 | c :: r => .box e (c :: r)
theorem z60 {e : TypeId} {cs : List PV} (h : cs ≠ []) : ztf e cs = .box e cs := by
 cases cs with
 | nil => exact absurd rfl h
 | cons c r => rfl
theorem zte {e : TypeId} {cs : List PV} (h : PV.ids.idsL cs = []) : (ztf e cs).ids = [] := by
 cases cs with
 | nil => rfl
 | cons c r => exact h
def mvH (H : List AEnt) (j : Nat) (e : AEnt) : List AEnt := H.set j .dead ++ [e]
theorem zip {j : Nat} {e : AEnt} : (mvH H j e).length = H.length + 1 := by simp [mvH]
theorem zrb {j i : Nat} {e : AEnt} (hi : i < H.length) : (mvH H j e)[i]? = if j = i then some .dead else H[i]? := by
 unfold mvH
 rw [List.getElem?_append_left (by simpa using hi)]
 by_cases h : j = i
 ·subst h; simp [hi]
 ·rw [if_neg h, z0z h]
theorem zlj {j : Nat} {e : AEnt} : (mvH H j e)[H.length]? = some e := by
 unfold mvH
 rw [List.getElem?_append_right (by simp)]; simp
theorem zlk {j i : Nat} {e x : AEnt} (h : (mvH H j e)[i]? = some x) : (i < H.length ∧ j ≠ i ∧ H[i]? = some x) ∨ (i < H.length ∧ j = i ∧ x = .dead) ∨ (i = H.length ∧ x = e) := by
 rcases Nat.lt_trichotomy i H.length with h1 | h1 | h1
 ·rw [zrb h1] at h
  split at h
  ·injection h with h; exact .inr (.inl ⟨h1, by assumption, h.symm⟩)
  ·exact .inl ⟨h1, by assumption, h⟩
 ·subst h1; rw [zlj] at h; injection h with h; exact .inr (.inr ⟨rfl, h.symm⟩)
 ·rw [List.getElem?_eq_none (by rw [zip]; omega)] at h; cases h
theorem zdb (hl : g.length = H.length) {j i b : Nat} {ty : TypeId} {cs : List PV} {m : Option Nat} (hj : H[j]? = some (.box ty cs)) (hg : g[j]? = some m) :
 live (mvH H j (.box ty cs)) (g ++ [m]) i b → (j ≠ i ∧ live H g i b) ∨ (i = H.length ∧ live H g j b) := by
 rintro ⟨c, h1, x, h2, h3⟩
 rcases zlk h2 with ⟨h4, h5, h6⟩ | ⟨h4, h5, rfl⟩ | ⟨rfl, rfl⟩
 ·rw [List.getElem?_append_left (by omega)] at h1
  exact .inl ⟨h5, c, h1, x, h6, h3⟩
 ·exact h3.elim
 ·rw [← hl] at h1
  simp at h1
  subst h1
  exact .inr ⟨rfl, c, hg, _, hj, h3⟩
theorem zxx (h : RelH P F H g w) {j : Nat} {ty : TypeId} {cs : List PV} {m : Option Nat} (hj : H[j]? = some (.box ty cs)) (hg : g[j]? = some m) :
 (ctx P F H g w).Le (ctx P F (mvH H j (.box ty cs)) (g ++ [m]) w) := by
 have hlt : ∀ {i : Nat}, i < H.length → (g ++ [m])[i]? = g[i]? := fun hi => List.getElem?_append_left (by rw [h.len]; exact hi)
 have hne : ∀ {i e k : Nat}, H[i]? = some (.arr e k) → j ≠ i := by rintro i e k hi rfl; rw [hj] at hi; cases hi
 refine zbl rfl ?_ ?_ ?_ ?_ ((Keeps.refl w).B rfl) (Keeps.refl w).K
 ·rintro b off u ⟨h1, h2⟩
  refine ⟨?_, h2⟩
  rcases h1 with ⟨h1, h3⟩ | ⟨i, e, k, h1, h3, h4⟩
  ·refine .inl ⟨fun i hi => ?_, h3⟩
   rcases zdb h.len hj hg hi with ⟨_, hi⟩ | ⟨_, hi⟩
   ·exact h1 i hi
   ·exact h1 j hi
  ·exact .inr ⟨i, e, k, by rw [zrb (z0a h1), if_neg (hne h1)]; exact h1, by rw [hlt (z0a h1)]; exact h3, h4⟩
 ·rintro i b ⟨h1, h2⟩
  have hi : i < H.length := by rw [← h.len]; exact z0a h1
  refine ⟨by rw [hlt hi]; exact h1, fun e k he => ?_⟩
  rw [zrb hi] at he
  split at he
  ·cases he
  ·exact h2 e k he
 ·rintro i k A c z ⟨h1, h2⟩
  refine ⟨by rw [zip]; omega, fun e q he => ?_⟩
  rw [zrb h1] at he
  split at he
  ·cases he
  ·rw [hlt h1]; exact h2 e q he
 ·rintro k b ob ⟨h1, h2⟩
  refine ⟨by rw [zip]; omega, fun he => ?_⟩
  rw [zrb h1] at he
  split at he
  ·cases he
  ·rw [hlt h1]; exact h2 he
theorem zvs (h : RelH P F H g w) {j : Nat} {ty : TypeId} {cs : List PV} {m : Option Nat} (hj : H[j]? = some (.box ty cs)) (hg : g[j]? = some m) :
 RelH P F (mvH H j (.box ty cs)) (g ++ [m]) w := by
 have hle := zxx h hj hg
 have hlt : ∀ {i : Nat}, i < H.length → (g ++ [m])[i]? = g[i]? := fun hi => List.getElem?_append_left (by rw [h.len]; exact hi)
 have hold : ∀ {i b}, live (mvH H j (.box ty cs)) (g ++ [m]) i b → ∃ k, live H g k b := fun hi => by
  rcases zdb h.len hj hg hi with ⟨_, hi⟩ | ⟨_, hi⟩
  ·exact ⟨_, hi⟩
  ·exact ⟨_, hi⟩
 refine z2s (by rw [zip]; simp [h.len]) ?_ (fun i b hi => let ⟨k, hk⟩ := hold hi; h.fr k b hk) h.fb ⟨h.bs.1, fun i b hi => let ⟨k, hk⟩ := hold hi; h.bs.2 k b hk⟩ ?_
 ·intro i k b hi hk
  rcases zdb h.len hj hg hi with ⟨h1, h2⟩ | ⟨h1, h2⟩ <;> rcases zdb h.len hj hg hk with ⟨h3, h4⟩ | ⟨h3, h4⟩
  ·exact h.inj i k b h2 h4
  ·exact absurd (h.inj i j b h2 h4).symm h1
  ·exact absurd (h.inj j k b h2 h4) h3
  ·omega
 ·intro i x hx
  rcases zlk hx with ⟨h4, h5, h6⟩ | ⟨h4, h5, rfl⟩ | ⟨rfl, rfl⟩
  ·obtain ⟨q, h7, h8⟩ := z4t h h6
   exact ⟨q, by rw [hlt h4]; exact h7, h8.mono hle (fun _ _ => rfl)⟩
  ·exact ⟨g[i]'(by rw [h.len]; exact h4), by rw [hlt h4]; exact List.getElem?_eq_getElem _, trivial⟩
  ·obtain ⟨q, h7, h8⟩ := z4t h hj
   rw [hg] at h7; injection h7 with h7; subst h7
   exact ⟨m, by rw [← h.len]; exact z2q, h8.mono hle (fun _ _ => rfl)⟩
theorem zwb (h : RelH P F H g w) {j : Nat} {ty : TypeId} {cs : List PV} {m : Option Nat} (hj : H[j]? = some (.box ty cs)) (hg : g[j]? = some m) :
 Ext P F H g w (mvH H j (.box ty cs)) (g ++ [m]) w := by
 refine ⟨rfl, rfl, rfl, Nat.le_refl _, fun b hb hn => ⟨rfl, fun i hi => ?_⟩, zxx h hj hg, by rw [zip]; omega⟩
 rcases zdb h.len hj hg hi with ⟨_, hi⟩ | ⟨_, hi⟩
 ·exact hn i hi
 ·exact hn j hi
theorem Z0x {j : Nat} {x e : AEnt} : mvH (H.set j x) j e = mvH H j e := by simp [mvH]
theorem zca {C : Ctx} {j k e sz : Nat} {u : Value} (h : VR C (.rs j 0 k e sz) u) : ∃ A c, u = .slice A k c ∧ (k ≤ c ∧ k ≤ 9223372036854775807) ∧ ((k = 0 ∧ c = 0 ∧ C.B A e sz 0) ∨ (0 < k ∧ ∃ b m, A = some ⟨b, 0, none⟩ ∧ C.R j b ∧ C.K b m ∧ c * sz ≤ m)) := by
 obtain ⟨A, c, h1, h2, h3, h4⟩ := vr_rs.1 h
 refine ⟨A, c, h1, h2, ?_⟩
 rcases Nat.eq_zero_or_pos k with hk | hk
 ·exact .inl ⟨hk, (h3 hk).1, (h3 hk).2⟩
 ·obtain ⟨b, m, a1, a2, a3, a4⟩ := h4 (by omega)
  exact .inr ⟨hk, b, m, a1, a2, a3, by omega⟩
theorem ztw {t tx e : TypeId} {x y : Operand} {j : Nat} {sz b_ : Nat} {z : Value} {xs ys : List PV} (ht : P.underlying t = some (.slice e)) (hi : Inf P e z sz b_) (hz : z.cells.size = sz) (h0 : Nat.blt 0 sz = true)
 (ho : o.op = .call { callee := .builtin .append, args := #[x, y], argTypes := #[t, tx] }) (hx : ev env x = some (.rs j 0 xs.length e sz)) (hj : H[j]? = some (ztf e (xs.flatMap PV.cells))) (hxsB : xs.all (fun y => Nat.beq y.cells.length sz) = true)
 (hsrc : ∀ F g a w, Rel P F ⟨env, H, n⟩ a w g → ∃ news : List Value, Src P sz tx (a.eval y) ys.length news w ∧ RC (ctx P F H g w) (ys.flatMap PV.cells) news.toArray) (hysB : ys.all (fun y => Nat.beq y.cells.length sz) = true)
 (hb : (xs.length + ys.length) * b_ ≤ 140737488355328) (hl : xs.length + ys.length ≤ 9223372036854775807) : Op1 P o env H n (.rs H.length 0 (xs.length + ys.length) e sz) (mvH H j (ztf e ((xs ++ ys).flatMap PV.cells))) := by
 have hys : ∀ y, y ∈ ys → y.cells.length = sz := fun y hy => beq_iff'.1 (List.all_eq_true.1 hysB y hy)
 have hxz : ∀ y, y ∈ xs → y.cells.length = sz := fun y hy => beq_iff'.1 (List.all_eq_true.1 hxsB y hy)
 have h0 : 0 < sz := Nat.le_of_ble_eq_true h0
 intro F g a w hr Kn Q hK
 obtain ⟨inf, hinf, hzz, hss, hbb⟩ := hi.spec
 obtain ⟨news, hs, hrc⟩ := hsrc F g a w hr
 obtain ⟨A, c, hu, hc, hcase⟩ := zca (hr.opd hx)
 have hnl : news.length = ys.length * sz := hs.newsLen
 have hfx := z2r hxz
 have hfy := z2r hys
 have hexec : ∀ r, (Builtin.append_ #[t, tx] o.type #[a.eval x, a.eval y]).run P w = r → (execOp a.eval o).run P w = r.andThen fun v w' => .ok (.value v) w' := by
  intro r hr'
  simp [execOp, ho, resolve, invoke, builtin, hr']
 have hjl := z0a hj
 have hgl := hr.rel.len
 subst hss
 unfold Oper.wp
 have grown : ∀ (cells : Array Value) (cap : Nat) (olds : List Value), 0 < xs.length + ys.length → (Builtin.append_ #[t, tx] o.type #[a.eval x, a.eval y]).run P w = .ok (.slice (some ⟨w.heap.size, 0, none⟩) (xs.length + ys.length) cap) (w.drew.alloc (.cells cells e)) → xs.length + ys.length ≤ cap → cells.size = cap * inf.size →
  RC (ctx P F H g w) (xs.flatMap PV.cells) olds.toArray → (∀ (k : Nat) v, olds[k]? = some v → cells[k]? = some v) → (∀ (k : Nat) v, news[k]? = some v → cells[xs.length * inf.size + k]? = some v) → o.upon P a Kn Q ((execOp a.eval o).run P w) := by
  intro cells cap olds hpos hrun hcap hcsz hold h1 h2
  rw [hexec _ hrun]
  have hd := hr.rel
  have hsz1 : w.heap.size ≤ (w.drew.alloc (.cells cells e)).heap.size := by simp
  have hk1 : ∀ k, k < w.heap.size → (w.drew.alloc (.cells cells e)).heap[k]? = w.heap[k]? := fun k hk => by rw [z2k (by exact hk)]; rfl
  have hnew : (w.drew.alloc (.cells cells e)).heap[w.heap.size]? = some (.cells cells e (0, 0)) := z2o (w := w.drew)
  have hne : (xs ++ ys).flatMap PV.cells ≠ [] := by
   intro hz
   have := congrArg List.length hz
   rw [z3l, List.length_append, hfx, hfy, ← Nat.add_mul] at this
   have := Nat.mul_pos hpos h0
   simp only [List.length_nil] at *
   omega
  have hE := z60 (e := e) hne
  rw [hE] at hK
  have hn : ∀ b, some w.heap.size = some b → b = w.heap.size := fun b hb => by injection hb with hb; exact hb.symm
  have hrd := zfr hd j
  have hld : (H.set j .dead).length = H.length := by simp
  have hle := z7e hrd (.box e ((xs ++ ys).flatMap PV.cells)) (some w.heap.size) hn hsz1 hk1
  have hex := z43 hrd (.box e ((xs ++ ys).flatMap PV.cells)) (some w.heap.size) hn hsz1 hk1 rfl rfl rfl
  have hbox : RelH P F (mvH H j (.box e ((xs ++ ys).flatMap PV.cells))) (g ++ [some w.heap.size]) (w.drew.alloc (.cells cells e)) := by
   refine z40 hrd (.box e ((xs ++ ys).flatMap PV.cells)) (some w.heap.size) hn hsz1 hk1 ⟨_, cells, rfl, hnew, ?_, fun k q hq => ?_⟩
   ·rw [z3l, List.length_append, hfx, hfy, ← Nat.add_mul, hcsz]; exact Nat.mul_le_mul_right _ hcap
   ·rw [z3l] at hq
    by_cases hkx : k < (xs.flatMap PV.cells).length
    ·rw [List.getElem?_append_left hkx] at hq
     obtain ⟨v, h4, h5⟩ := hold.2 k q hq
     exact ⟨v, h1 k v (by simpa using h4), (h5.mono (z3z hd j)).mono hle⟩
    ·rw [List.getElem?_append_right (by omega)] at hq
     obtain ⟨v, h4, h5⟩ := hrc.2 _ q hq
     rw [hfx] at h4 hkx
     rw [List.getElem?_toArray] at h4
     have := h2 _ v h4
     rw [show xs.length * inf.size + (k - xs.length * inf.size) = k by omega] at this
     exact ⟨v, this, (h5.mono (z3z hd j)).mono hle⟩
  refine hK _ _ (g ++ [some w.heap.size]) ?_ hbox ((z9r hd j).trans hex)
  refine vr_rs.2 ⟨_, cap, rfl, ⟨hcap, hl⟩, fun hz => by omega, fun _ => ⟨w.heap.size, cells.size, rfl, ⟨by rw [← hgl]; exact z2q, fun e' k he => ?_⟩, ⟨cells, e, (0, 0), hnew, rfl⟩, by rw [hcsz]; omega⟩⟩
  rw [zlj] at he; cases he
 by_cases hm0 : ys = []
 ·subst hm0
  have hn0 : news = [] := List.eq_nil_of_length_eq_zero (by simpa using hnl)
  subst hn0
  have hrun : (Builtin.append_ #[t, tx] o.type #[a.eval x, a.eval y]).run P w = .ok (.slice A xs.length c) w := by
   rw [hu]
   have hlen := hs.len w
   have hcl := hs.cells
   simp only [List.length_nil] at hlen hcl
   rcases hs.kind with ⟨e', hk⟩ | hk <;> cases A <;> simp [Builtin.append_, z13 ht, z13 hk, Go.sizeOf, typeInfo, hinf, hlen, hc, hcl, storeCells]
  rw [hexec _ hrun]
  simp only [List.append_nil, List.length_nil, Nat.add_zero] at hK hl ⊢
  by_cases hx0 : xs = []
  ·subst hx0
   have hdd : H.set j .dead = H := by
    apply List.ext_getElem?
    intro i
    by_cases hij : j = i
    ·subst hij; rw [z1n hj, hj]; rfl
    ·rw [z0z hij]
   have hK' := hK (.slice A 0 c) w (g ++ [none])
   simp only [List.flatMap_nil, ztf, mvH, hdd] at hK'
   have hns : ∀ b, (none : Option Nat) = some b → b = w.heap.size := fun b hb => nomatch hb
   have hle := z7e hr.rel .dead none hns (Nat.le_refl _) (fun _ _ => rfl)
   refine hK' ?_ (z40 hr.rel .dead none hns (Nat.le_refl _) (fun _ _ => rfl) trivial) (z43 hr.rel .dead none hns (Nat.le_refl _) (fun _ _ => rfl) rfl rfl rfl)
   rcases hcase with ⟨_, h2, h3⟩ | ⟨h1, _⟩
   ·subst h2
    exact vr_rs.2 ⟨A, 0, rfl, hc, fun _ => ⟨rfl, hle.B _ _ _ _ h3⟩, fun hz => absurd rfl hz⟩
   ·simp at h1
  ·have hpos : 0 < xs.length := by cases xs with | nil => exact absurd rfl hx0 | cons _ _ => simp
   have hne : xs.flatMap PV.cells ≠ [] := by
    intro hz
    have := congrArg List.length hz
    rw [hfx] at this
    have := Nat.mul_pos hpos h0
    simp only [List.length_nil] at *
    omega
   rcases hcase with ⟨h1, _⟩ | ⟨_, b, m, rfl, hR, hKm, hcm⟩
   ·omega
   ·rw [z60 hne] at hj hK
    have hle := zxx hr.rel hj hR.1
    refine hK _ w (g ++ [some b]) ?_ (zvs hr.rel hj hR.1) (zwb hr.rel hj hR.1)
    refine vr_rs.2 ⟨_, c, rfl, hc, fun hz => by omega, fun _ => ⟨b, m, rfl, ⟨by rw [← hgl]; exact z2q, fun e' k he => ?_⟩, hle.K _ _ hKm, by omega⟩⟩
    rw [zlj] at he; cases he
 ·have hm : 0 < ys.length := by cases ys with | nil => exact absurd rfl hm0 | cons _ _ => simp
  rcases hcase with ⟨h1, rfl, _⟩ | ⟨hpos, b, m, rfl, hR, hKm, hcm⟩
  ·-- the row has no room at all
   have hx0 : xs = [] := List.eq_nil_of_length_eq_zero h1
   subst hx0
   simp only [List.length_nil, Nat.zero_add] at *
   have hfc : (Builtin.firstCells inf.size 0 (.slice A 0 0)).run P w.drew = .ok ([] : List Value).toArray w.drew := by
    cases A <;> simp [Builtin.firstCells, loadCells, loadCellsFrom]
   have hrun := run_append_grow_src (P := P) w t tx o.type e inf z ht hinf hzz A 0 0 [] hfc (a.eval y) ys.length news hs (by omega) (by omega) (growslice_fits (by omega) (by simpa [hbb] using hb))
   rw [← hu] at hrun
   simp only [Nat.zero_add, List.nil_append] at hrun
   have hge := grownCap_ge w ys.length 0 e
   have hzc : (Builtin.zeroCells z.cells (grownCap w ys.length 0 e - ys.length)).size = (grownCap w ys.length 0 e - ys.length) * inf.size := by rw [size_zeroCells, hz]
   refine grown (news.toArray ++ Builtin.zeroCells z.cells (grownCap w ys.length 0 e - ys.length)) (grownCap w ys.length 0 e) [] hm hrun hge ?_ ⟨rfl, fun k q hq => by simp at hq⟩ (fun k v hk => by simp at hk) ?_
   ·simp only [Array.size_append, List.size_toArray, hnl, hzc, ← Nat.add_mul]; congr 1; omega
   ·intro k v hk
    rw [Nat.zero_mul, Nat.zero_add, Array.getElem?_append_left (by simpa using z0a hk)]
    simpa using hk
  ·have hne : xs.flatMap PV.cells ≠ [] := by
    intro hz
    have := congrArg List.length hz
    rw [hfx] at this
    have := Nat.mul_pos hpos h0
    simp only [List.length_nil] at *
    omega
   rw [z60 hne] at hj
   obtain ⟨b', cur, h1, hcur, h3, h4⟩ := hr.rel.box j e _ hj
   rw [hR.1] at h1; injection h1 with h1; injection h1 with h1; subst h1
   have hcsz : c * inf.size ≤ cur.size := by
    obtain ⟨c1, t1, z1, h5, h6⟩ := hKm
    rw [hcur] at h5; injection h5 with h5; injection h5 with h5 _ _; subst h5
    omega
   rw [hfx] at h3
   by_cases hroom : xs.length + ys.length ≤ c
   ·-- there is room
    have hfit : xs.length * inf.size + news.length ≤ cur.size := by
     rw [hnl, ← Nat.add_mul]; exact Nat.le_trans (Nat.mul_le_mul_right _ hroom) hcsz
    have hst := run_storeCells_at P b (xs.length * inf.size) e news 0 cur w hcur (by simpa using hfit) hs.one
    simp only [Nat.add_zero] at hst
    have hrun : (Builtin.append_ #[t, tx] o.type #[a.eval x, a.eval y]).run P w = .ok (.slice (some ⟨b, 0, none⟩) (xs.length + ys.length) c) (w.setRow b (cur.toList.take (xs.length * inf.size) ++ news ++ cur.toList.drop (xs.length * inf.size + news.length)).toArray) := by
     rw [hu]
     rcases hs.kind with ⟨e', hk⟩ | hk <;> simp [Builtin.append_, z13 ht, z13 hk, Go.sizeOf, typeInfo, hinf, hs.len, hroom, hs.cells, z1m, hst]
    have hget : ∀ k, (cur.toList.take (xs.length * inf.size) ++ news ++ cur.toList.drop (xs.length * inf.size + news.length)).toArray[k]? = if k < xs.length * inf.size then cur[k]? else if k < xs.length * inf.size + news.length then news[k - xs.length * inf.size]? else cur[k]? := by
     intro k
     rw [List.getElem?_toArray, z4a rfl (by simpa using hfit)]; simp
    have hw : Wr b cur _ e w (w.setRow b (cur.toList.take (xs.length * inf.size) ++ news ++ cur.toList.drop (xs.length * inf.size + news.length)).toArray) := Wr.row hcur (by
     simp only [List.size_toArray, List.length_append, List.length_take, List.length_drop, Array.length_toList]; omega)
    rw [hexec _ hrun]
    have hne2 : (xs ++ ys).flatMap PV.cells ≠ [] := by
     rw [z3l]; intro hz; exact hne (List.append_eq_nil_iff.1 hz).1
    rw [z60 hne2] at hK
    have hrb := zjp (cs' := (xs ++ ys).flatMap PV.cells) hr.rel hj hR.1 hw (by rw [hw.sz, z3l, List.length_append, hfx, hfy, ← hnl]; exact hfit) (fun k q hq => by
     rw [hget]
     rw [z3l] at hq
     by_cases hkx : k < (xs.flatMap PV.cells).length
     ·rw [List.getElem?_append_left hkx] at hq
      rw [if_pos (by rw [← hfx]; exact hkx)]
      exact h4 k q hq
     ·have hkl := z0a hq
      rw [List.length_append, hfx, hfy, ← hnl] at hkl
      rw [List.getElem?_append_right (by omega)] at hq
      obtain ⟨v, h7, h8⟩ := hrc.2 _ q hq
      rw [hfx] at h7 hkx
      rw [if_neg hkx, if_pos hkl]
      exact ⟨v, by simpa using h7, h8⟩)
    have hxb := zk8 (cs' := (xs ++ ys).flatMap PV.cells) hr.rel hj hR.1 hw
    have hj2 : (H.set j (.box e ((xs ++ ys).flatMap PV.cells)))[j]? = some (.box e ((xs ++ ys).flatMap PV.cells)) := z1n hj
    have hrm := zvs hrb hj2 hR.1
    have hxm := zwb hrb hj2 hR.1
    rw [Z0x] at hrm hxm
    refine hK _ _ (g ++ [some b]) ?_ hrm (hxb.trans hxm)
    refine vr_rs.2 ⟨_, c, rfl, ⟨hroom, hl⟩, fun hz => by omega, fun _ => ⟨b, m, rfl, ⟨by rw [← hgl]; exact z2q, fun e' k he => ?_⟩, hw.keeps.K (F := F.fr) (H := H) (g := g) b m hKm, by omega⟩⟩
    rw [zlj] at he; cases he
   ·-- there is none
    have holds : ∀ (k : Nat) (v : Value), (cur.toList.take (xs.length * inf.size))[k]? = some v → w.drew.cell? ((⟨b, 0, none⟩ : Addr).add k) = some v := by
     intro k v hk
     rw [z1m, World.cell?_drew, z1p hcur, Nat.zero_add]
     rw [List.getElem?_take] at hk
     split at hk
     ·simpa using hk
     ·cases hk
    have hol : (cur.toList.take (xs.length * inf.size)).length = xs.length * inf.size := by
     have : cur.toList.length = cur.size := rfl
     rw [List.length_take, this]
     exact Nat.min_eq_left h3
    have hrun := run_append_grow_src (P := P) w t tx o.type e inf z ht hinf hzz (some ⟨b, 0, none⟩) xs.length c (cur.toList.take (xs.length * inf.size)) (run_firstCells_some w.drew inf.size xs.length ⟨b, 0, none⟩ xs.length c _ hol holds) (a.eval y) ys.length news hs (by omega) (by omega) (growslice_fits (by omega) (by simpa [hbb] using hb))
    rw [← hu] at hrun
    have hge := grownCap_ge w (xs.length + ys.length) c e
    have hzc : (Builtin.zeroCells z.cells (grownCap w (xs.length + ys.length) c e - (xs.length + ys.length))).size = (grownCap w (xs.length + ys.length) c e - (xs.length + ys.length)) * inf.size := by rw [size_zeroCells, hz]
    refine grown ((cur.toList.take (xs.length * inf.size) ++ news).toArray ++ Builtin.zeroCells z.cells (grownCap w (xs.length + ys.length) c e - (xs.length + ys.length))) (grownCap w (xs.length + ys.length) c e) (cur.toList.take (xs.length * inf.size)) (by omega) hrun hge ?_ ⟨by rw [hfx, List.size_toArray, hol], fun k q hq => ?_⟩ ?_ ?_
    ·simp only [Array.size_append, List.size_toArray, List.length_append, hnl, hol, hzc, ← Nat.add_mul]; congr 1; omega
    ·obtain ⟨v, h7, h8⟩ := h4 k q hq
     have hk := z0a hq
     rw [hfx] at hk
     exact ⟨v, by rw [List.getElem?_toArray, List.getElem?_take, if_pos hk]; simpa using h7, h8⟩
    ·intro k v hk
     have hkl := z0a hk
     rw [Array.getElem?_append_left (by simp only [List.size_toArray, List.length_append]; omega), List.getElem?_toArray, List.getElem?_append_left hkl]
     exact hk
    ·intro k v hk
     have hkl := z0a hk
     rw [Array.getElem?_append_left (by simp only [List.size_toArray, List.length_append, hol]; omega), List.getElem?_toArray, List.getElem?_append_right (by omega), hol]
     rw [show xs.length * inf.size + k - xs.length * inf.size = k by omega]; exact hk
theorem ztt {e : TypeId} {k sz : Nat} {cs : List PV} (h0 : cs = [] → k = 0) (mk : ∀ F g a w, Rel P F ⟨env, H, n⟩ a w g → ∃ (c : Array Value) (w1 : World) (cap : Nat), w1.heap = w.heap ∧ w1.os = w.os ∧ w1.tape = w.tape ∧ w1.output = w.output ∧
 (execOp a.eval o).run P w = .ok (.value (.slice (some ⟨w.heap.size, 0, none⟩) k cap)) (w1.alloc (.cells c e)) ∧ (k ≤ cap ∧ k ≤ 9223372036854775807) ∧ (k = 0 → cap = 0) ∧ cap * sz ≤ c.size ∧ cs.length ≤ c.size ∧
 ∀ (j : Nat) (y : PV), cs[j]? = some y → ∃ v, c[j]? = some v ∧ VR (ctx P F H g w) y v) : Op1 P o env H n (.rs H.length 0 k e sz) (H ++ [ztf e cs]) := by
 intro F g a w hr Kn Q hK
 obtain ⟨c, w1, cap, e1, e2, e3, e4, h2, h3, h4, h5, h6, h7⟩ := mk F g a w hr
 unfold Oper.wp
 rw [h2]
 have hsz : w1.heap.size = w.heap.size := by rw [e1]
 have hs : w.heap.size ≤ (w1.alloc (.cells c e)).heap.size := by simp [hsz]
 have ho : ∀ k, k < w.heap.size → (w1.alloc (.cells c e)).heap[k]? = w.heap[k]? := fun k hk => by rw [z2k (by rw [hsz]; exact hk), e1]
 have hnew : (w1.alloc (.cells c e)).heap[w.heap.size]? = some (.cells c e (0, 0)) := by rw [← hsz]; exact z2o
 have hgl := hr.rel.len
 by_cases hc : cs = []
 ·subst hc
  have hk := h0 rfl
  subst hk
  have hns : ∀ b, (none : Option Nat) = some b → b = w.heap.size := fun b hb => nomatch hb
  refine hK _ _ (g ++ [none]) (vr_rs.2 ⟨_, cap, rfl, h3, fun _ => ⟨h4 rfl, fun _ => .inr ⟨_, 0, c, _, 0, rfl, hr.rel.bs.1, hnew, by omega, .inl (Nat.le_refl _), by simp⟩⟩, fun hz => absurd rfl hz⟩) (z40 hr.rel .dead none hns hs ho trivial) (z43 hr.rel .dead none hns hs ho e2 e3 e4)
 ·rw [z60 hc] at hK
  have hn : ∀ b, some w.heap.size = some b → b = w.heap.size := fun b hb => by injection hb with hb; exact hb.symm
  have hle := z7e hr.rel (.box e cs) (some w.heap.size) hn hs ho
  refine hK _ _ (g ++ [some w.heap.size]) ?_ (z40 hr.rel (.box e cs) (some w.heap.size) hn hs ho ⟨_, c, rfl, hnew, h6, fun j y hy => let ⟨v, a1, a2⟩ := h7 j y hy; ⟨v, a1, a2.mono hle⟩⟩) (z43 hr.rel (.box e cs) (some w.heap.size) hn hs ho e2 e3 e4)
  refine vr_rs.2 ⟨_, cap, rfl, h3, fun hz => ⟨h4 hz, fun _ => .inr ⟨_, 0, c, _, 0, rfl, hr.rel.bs.1, hnew, by omega, .inl (Nat.le_refl _), by simp⟩⟩, fun _ => ⟨w.heap.size, c.size, rfl, ⟨by rw [← hgl]; exact z2q, fun e' k he => ?_⟩, ⟨c, e, (0, 0), hnew, rfl⟩, by omega⟩⟩
  rw [z2q] at he; cases he
theorem zfw {t e : TypeId} {len : Nat} {parts : List (Nat × Operand)} {z : Value} {sz b : Nat} {xs : List PV} (ht : P.underlying t = some (.slice e)) (hi : Inf P e z sz b) (h0 : Nat.blt 0 sz = true)
 (ho : o.op = .buildSlice t len parts.toArray) (hp : evp env parts = some (zgl 0 xs)) (hlen : xs.length = len) (hcB : xs.all cok = true) (hszB : xs.all (fun x => Nat.beq x.cells.length sz) = true) (hz : z.cells.size = sz) (hsmall : len * sz ≤ 16777216 ∧ len ≤ 16777216)
 (hf : z6y (fun i => some (i * sz, sz)) ((List.range (len * sz)).map fun i => .v (z.cells[i % sz]!)) (zgl 0 xs) = some (xs.flatMap PV.cells)) : Op1 P o env H n (.rs H.length 0 len e sz) (H ++ [ztf e (xs.flatMap PV.cells)]) := by
 have hc : ∀ x, x ∈ xs → cok x = true := List.all_eq_true.1 hcB
 have hsz : ∀ x, x ∈ xs → x.cells.length = sz := fun x hx => beq_iff'.1 (List.all_eq_true.1 hszB x hx)
 have h0 : 0 < sz := Nat.le_of_ble_eq_true h0
 subst hlen
 refine ztt (fun h => ?_) (fun F g a w hr => ?_)
 ·have := congrArg List.length h
  rw [z2r hsz] at this
  rcases Nat.mul_eq_zero.1 this with h | h
  ·exact h
  ·omega
 have hc' : ∀ q, q ∈ zgl 0 xs → cok q.2 = true := by
  have : ∀ k (ys : List PV), (∀ x, x ∈ ys → cok x = true) → ∀ q, q ∈ zgl k ys → cok q.2 = true := by
   intro k ys
   induction ys generalizing k with
   | nil => intro _ q hq; cases hq
   | cons y r ih =>
    intro h q hq
    simp only [zgl, List.mem_cons] at hq
    rcases hq with rfl | hq
    ·exact h y (by simp)
    ·exact ih (k + 1) (fun x hx => h x (by simp [hx])) q hq
  exact this 0 xs hc
 obtain ⟨h1, h2⟩ := zbp hr hp hc'
 have hz0 : RC (ctx P F H g w) ((List.range (xs.length * sz)).map fun i => .v (z.cells[i % sz]!)) ((Array.range (xs.length * sz)).map (fun i => z.cells[i % sz]!)) := by
  refine ⟨by simp, fun j y hy => ?_⟩
  rw [List.getElem?_map, Option.map_eq_some_iff] at hy
  obtain ⟨i, h3, rfl⟩ := hy
  have hj := z0a h3
  simp at hj
  rw [List.getElem?_range hj] at h3
  injection h3 with h3; subst h3
  refine ⟨z.cells[j % sz]!, ?_, vr_v.2 rfl⟩
  rw [Array.getElem?_map, Array.getElem?_range]; simp [hj]
 obtain ⟨c', h3, h4⟩ := z4r hz0 hf h1 h2
 have hl : c'.size = xs.length * sz := by rw [h4.1, z2r hsz]
 refine ⟨c', w, xs.length, rfl, rfl, rfl, rfl, ?_, ⟨Nat.le_refl _, by omega⟩, id, by omega, by rw [z2r hsz]; omega, h4.2⟩
 have hpow : ¬ (xs.length * sz > 2 ^ 24) := by simpa using hsmall.1
 simp only [execOp, ho, Instr.buildSlice, Sem.run_bind, z13 ht, Result.andThen_ok, hi.run_size]
 rw [if_neg hpow]
 by_cases h0 : xs.length * sz = 0
 ·have hx0 : Array.range (xs.length * sz) = #[] := by rw [h0]; rfl
  simp only [h0, if_true, Sem.run_bind, Sem.run_pure, Result.andThen_ok, List.map_toArray]
  rw [hx0] at h3
  have he : (Array.range 0) = #[] := rfl
  rw [he]
  simp only [Array.map_empty] at h3 ⊢
  rw [h3]
  simp [newRow]
 ·simp only [h0, if_false, Sem.run_bind, Sem.run_pure, Result.andThen_ok, hi.run_zero, List.map_toArray, hz]
  rw [h3]
  simp [newRow]
def flatM {α : Type} (f : α → PV) (xs : List α) : List PV := (xs.map f).flatMap PV.cells
def rowM {α : Type} (f : α → PV) (e : TypeId) (xs : List α) : AEnt := ztf e (flatM f xs)
section
variable {α : Type} {f : α → PV}
theorem z4p {sz : Nat} {xs : List α} (hs : ∀ a, (f a).cells.length = sz) : (flatM f xs).length = xs.length * sz := by
 unfold flatM
 rw [z2r (sz := sz) (fun x hx => by obtain ⟨a, _, rfl⟩ := List.mem_map.1 hx; exact hs a), List.length_map]
theorem zdh {xs ys : List α} : flatM f (xs ++ ys) = flatM f xs ++ flatM f ys := by simp [flatM]
theorem z7h {sz i q : Nat} {xs : List α} {a : α} {y : PV} (hs : ∀ a, (f a).cells.length = sz) (ha : xs[i]? = some a) (hy : (f a).cells[q]? = some y) : (flatM f xs)[i * sz + q]? = some y :=
 z7v (sz := sz) (fun x hx => by obtain ⟨a, _, rfl⟩ := List.mem_map.1 hx; exact hs a) i q (f a) y (by rw [List.getElem?_map, ha]; rfl) hy
theorem zlw {sz i : Nat} {xs : List α} {a : α} (hs : ∀ a, (f a).cells.length = sz) (h0 : 0 < sz) (ha : xs[i]? = some a) : flatM f xs ≠ [] := by
 intro h
 have h1 := z4p (xs := xs) hs
 rw [h] at h1
 have h2 := z0a ha
 have := Nat.mul_pos (show 0 < xs.length by omega) h0
 simp only [List.length_nil] at h1
 omega
theorem zfq {e sz i : Nat} {xs : List α} {a : α} (hs : ∀ a, (f a).cells.length = sz) (h0 : Nat.blt 0 sz = true) (ha : xs[i]? = some a) : rowM f e xs = .box e (flatM f xs) := z60 (zlw hs (Nat.le_of_ble_eq_true h0) ha)
theorem zkn {p : PV → Bool} {xs : List α} (h : ∀ a, p (f a) = true) : (xs.map f).all p = true := List.all_eq_true.2 fun q hq => by obtain ⟨a, _, rfl⟩ := List.mem_map.1 hq; exact h a
theorem zd0 {t tx e e' : TypeId} {x y : Operand} {j kk : Nat} {sz b_ : Nat} {z : Value} {l m r : List α} {tk : Option Nat} (ht : P.underlying t = some (.slice e)) (hi : Inf P e z sz b_) (hz : z.cells.size = sz) (h0 : Nat.blt 0 sz = true) (htx : P.underlying tx = some (.slice e'))
 (ho : o.op = .call { callee := .builtin .append, args := #[x, y], argTypes := #[t, tx] }) (hx : ev env x = some (.rs j 0 kk e sz)) (hkk : kk = l.length) (hj : H[j]? = some (rowM f e l)) (hy : ev env y = some (.sl tk e sz (m.map f)))
 (hsz : ∀ a, (f a).cells.length = sz) (h1 : ∀ a, (f a).cells.all z6w = true) (hr : z6x b_ l m = some r) (hb1 : Nat.ble 1 b_ = true) : Op1 P o env H n (.rs H.length 0 r.length e sz) (mvH H j (rowM f e r)) := by
 obtain ⟨hb, rfl⟩ := zdu hr
 subst hkk
 have hb1' := Nat.le_of_ble_eq_true hb1
 refine (ztw (xs := l.map f) (ys := m.map f) ht hi hz h0 ho (by rw [List.length_map]; exact hx) hj (zkn fun a => by rw [hsz]; exact Nat.beq_refl _) (fun F g a w hr => zvo hr hy htx (zkn h1))
  (zkn fun a => by rw [hsz]; exact Nat.beq_refl _) (by simpa only [List.length_map] using hb) ?_).cast (by simp only [List.length_map, List.length_append]) (by rw [← List.map_append]; rfl)
 simp only [List.length_map]
 have : l.length + m.length ≤ (l.length + m.length) * b_ := Nat.le_mul_of_pos_right _ hb1'
 omega
theorem ztu {x : Operand} {t e e' : TypeId} {j k sz : Nat} (ht : P.underlying t = some (.slice e)) (ho : o.op = .call { callee := .builtin .len, args := #[x], argTypes := #[t] }) (hx : ev env x = some (.rs j 0 k e' sz)) : Op1 P o env H n (.v (.int .i64 k)) H :=
 z17 fun F g a w hr => by
  obtain ⟨A, c, hu, _⟩ := vr_rs.1 (hr.opd hx)
  exact ⟨_, vr_v.2 rfl, by simp [execOp, ho, resolve, invoke, builtin, hu, Builtin.len_, z13 ht, goInt]⟩
theorem zqv {x y : Operand} {t e : TypeId} {j kk sz by_ : Nat} {z : Value} {l : List α} {i : Nat} {a : α} {k : IntKind} (ht : P.underlying t = some (.slice e)) (hi : Inf P e z sz by_) (ho : o.op = .indexAddr t x y)
 (hx : ev env x = some (.rs j 0 kk e sz)) (hkk : kk = l.length) (hy : ev env y = some (.v (.int k (i : Nat)))) (ha : l[i]? = some a) : Op1 P o env H n (.rf j (i * sz)) H :=
 z17 fun F g a w hr => by
  have hlt := z0a ha
  subst hkk
  obtain ⟨A, c, hu, hc, hcase⟩ := zca (hr.opd hx)
  rcases hcase with ⟨h2, _, _⟩ | ⟨hpos, b, m, rfl, hR, hKm, hcm⟩
  ·omega
  ·refine ⟨.pointer (some ⟨b, i * sz, none⟩), vr_rf.2 ⟨b, rfl, hR⟩, ?_⟩
   have h0 : (0 : Int) ≤ (i : Int) := by omega
   have hlt' : (i : Int) < (l.length : Int) := by omega
   simp [execOp, ho, hu, hr.const hy, Instr.indexAt, asIntOf, z13 ht, h0, hlt', hlt, hi.run_size, z1m]
theorem zik {x y : Operand} {t e : TypeId} {j kk sz by_ : Nat} {z : Value} {l : List α} {i : Int} {a : α} {k : IntKind} (ht : P.underlying t = some (.slice e)) (hi : Inf P e z sz by_) (ho : o.op = .indexAddr t x y)
 (hx : ev env x = some (.rs j 0 kk e sz)) (hkk : kk = l.length) (hy : ev env y = some (.v (.int k i))) (ha : z8x l i = some a) : Op1 P o env H n (.rf j (i.toNat * sz)) H := by
 obtain ⟨h0, h1⟩ := z7g ha
 exact zqv (i := i.toNat) ht hi ho hx hkk (by rw [hy, Int.toNat_of_nonneg h0]) h1
theorem zry {sz i q : Nat} {l : List α} {a a' : α} {ps : List PV} (hsz : ∀ a, (f a).cells.length = sz) (ha : l[i]? = some a) (hfit : q + ps.length ≤ sz) (hp : (f a').cells = setL (f a).cells q ps) : flatM f (l.set i a') = setL (flatM f l) (i * sz + q) ps := by
 have hlt := z0a ha
 have hfl := z4p (xs := l) hsz
 have hle : (i + 1) * sz ≤ l.length * sz := Nat.mul_le_mul_right _ hlt
 have hsm : (i + 1) * sz = i * sz + sz := Nat.succ_mul _ _
 apply List.ext_getElem?
 intro r
 rw [show setL (flatM f l) (i * sz + q) ps = (flatM f l).take (i * sz + q) ++ ps ++ (flatM f l).drop (i * sz + q + ps.length) from rfl, z4a rfl (by rw [hfl]; omega)]
 by_cases hr : r < (flatM f l).length
 ·have hsz0 : 0 < sz := by
   rcases Nat.eq_zero_or_pos sz with h | h
   ·rw [hfl, h] at hr; simp at hr
   ·exact h
  have hdm : r / sz * sz + r % sz = r := by rw [Nat.mul_comm]; exact Nat.div_add_mod r sz
  have hm := Nat.mod_lt r hsz0
  have hdl : r / sz < l.length := Nat.div_lt_of_lt_mul (by rw [Nat.mul_comm, ← hfl]; exact hr)
  by_cases hd : r / sz = i
  ·have h1 : (l.set i a')[r / sz]? = some a' := by rw [hd]; simp [hlt]
   have hlen' : (r % sz) < (f a').cells.length := by rw [hsz]; exact hm
   have h2 := z7h (f := f) hsz h1 (List.getElem?_eq_getElem hlen')
   rw [hdm] at h2
   have L : (flatM f (l.set i a'))[r]? = (f a').cells[r % sz]? := h2.trans (List.getElem?_eq_getElem hlen').symm
   have h3 : l[r / sz]? = some a := by rw [hd]; exact ha
   have hlen : (r % sz) < (f a).cells.length := by rw [hsz]; exact hm
   have h4 := z7h (f := f) hsz h3 (List.getElem?_eq_getElem hlen)
   rw [hdm] at h4
   have R : (flatM f l)[r]? = (f a).cells[r % sz]? := h4.trans (List.getElem?_eq_getElem hlen).symm
   rw [L, R, hp, show setL (f a).cells q ps = (f a).cells.take q ++ ps ++ (f a).cells.drop (q + ps.length) from rfl, z4a rfl (by rw [hsz]; exact hfit)]
   rw [hd] at hdm
   by_cases c1 : r % sz < q
   ·rw [if_pos c1, if_pos (show r < i * sz + q by omega)]
   ·rw [if_neg c1, if_neg (show ¬ r < i * sz + q by omega)]
    by_cases c2 : r % sz < q + ps.length
    ·rw [if_pos c2, if_pos (show r < i * sz + q + ps.length by omega)]; congr 1; omega
    ·rw [if_neg c2, if_neg (show ¬ r < i * sz + q + ps.length by omega)]
  ·have h1 : (l.set i a')[r / sz]? = l[r / sz]? := by rw [List.getElem?_set_ne (fun h => hd h.symm)]
   have h3 := List.getElem?_eq_getElem hdl
   have hlen : (r % sz) < (f l[r / sz]).cells.length := by rw [hsz]; exact hm
   have h2 := z7h (f := f) hsz (h1.trans h3) (List.getElem?_eq_getElem hlen)
   have h4 := z7h (f := f) hsz h3 (List.getElem?_eq_getElem hlen)
   rw [hdm] at h2 h4
   rw [h2]
   rcases Nat.lt_or_ge (r / sz) i with c | c
   ·have : (r / sz + 1) * sz ≤ i * sz := Nat.mul_le_mul_right _ c
    rw [Nat.succ_mul] at this
    rw [if_pos (by omega), h4]
   ·have : (i + 1) * sz ≤ r / sz * sz := Nat.mul_le_mul_right _ (by omega)
    rw [if_neg (by omega), if_neg (by omega), h4]
 ·rw [List.getElem?_eq_none (by rw [z4p hsz, List.length_set, ← hfl]; omega), if_neg (by rw [hfl] at hr; omega), if_neg (by rw [hfl] at hr; omega), List.getElem?_eq_none (by omega)]
theorem zqt {t e : TypeId} {x y : Operand} {z : Value} {k b_ j i q off sz : Nat} {l : List α} {a a' : α} {p : PV} (hinf : Inf P t z k b_) (ho : o.op = .store t x y) (hx : ev env x = some (.rf j off)) (hy : ev env y = some p) (hj : H[j]? = some (rowM f e l)) (ha : l[i]? = some a)
 (hsz : ∀ a, (f a).cells.length = sz) (h0 : Nat.blt 0 sz = true) (hq : off = i * sz + q) (hc : cok p = true) (hl : p.cells.length = k) (hfit : Nat.ble (q + k) sz = true) (h1 : p.cells.all z6w = true) (hp : (f a').cells = setL (f a).cells q p.cells) : Op1 P o env H n (.v undef) (H.set j (rowM f e (l.set i a'))) := by
 have hfit' := Nat.le_of_ble_eq_true hfit
 have hlt := z0a ha
 have hle : (i + 1) * sz ≤ l.length * sz := Nat.mul_le_mul_right _ hlt
 have hsm : (i + 1) * sz = i * sz + sz := Nat.succ_mul _ _
 have ha' : (l.set i a')[i]? = some a' := by simp [hlt]
 rw [zfq hsz h0 ha', zry hsz ha (by rw [hl]; exact hfit') hp, ← hq]
 exact z0g hinf ho hx hy (by rw [hj, zfq hsz h0 ha]) hc hl (by rw [z4p hsz, hq]; omega) h1
theorem zcc {F : Fr} {s : ASt} {a : Act} {w : World} {g : List (Option Nat)} (hr : Rel P F s a w g) (t j : Nat) {e sz kk : Nat} {l : List α} (hx : get s.env t = some (.rs j 0 kk e sz)) (hkk : kk = l.length) (hj : s.H[j]? = some (rowM f e l)) (hsz : ∀ a, (f a).cells.length = sz) (h0 : Nat.blt 0 sz = true) :
 Rel P F ⟨(t, .sl none e sz (l.map f)) :: s.env, s.H.set j .dead, s.n⟩ a w g := by
 subst hkk
 have hd := hr.dead j
 obtain ⟨u, h1, h2⟩ := hr.env t _ hx
 have hall : ∀ q, q ∈ l.map f → q.cells.length = sz := fun q hq => by obtain ⟨a, _, rfl⟩ := List.mem_map.1 hq; exact hsz a
 have key : VR (ctx P F (s.H.set j .dead) g w) (.sl none e sz (l.map f)) u := by
  obtain ⟨A, c, hu, hc, hcase⟩ := zca h2
  subst hu
  rcases hcase with ⟨h3, rfl, h4⟩ | ⟨hpos, b, m, rfl, hR, hKm, hcm⟩
  ·have hl0 : l = [] := List.eq_nil_of_length_eq_zero h3
   subst hl0
   exact vr_sl.2 ⟨A, 0, rfl, ⟨hc, by rw [Nat.zero_mul]; exact (z3z hr.rel j).B _ _ _ _ h4⟩, (fun i hi => nomatch hi), fun i x hx => by simp at hx⟩
  ·have hne : flatM f l ≠ [] := by
    cases l with
    | nil => simp at hpos
    | cons x r => exact zlw (i := 0) hsz (Nat.le_of_ble_eq_true h0) rfl
   have hj' : s.H[j]? = some (.box e (flatM f l)) := by rw [hj]; exact congrArg some (z60 hne)
   obtain ⟨b', cur, h3, hcur, h4, h5⟩ := hr.rel.box j e _ hj'
   have hg := hR.1
   rw [hg] at h3; injection h3 with h3; injection h3 with h3; subst h3
   have hbs := hr.rel.bs.2 j b ⟨_, hg, _, hj', rfl⟩
   have hcsz : c * sz ≤ cur.size := by
    obtain ⟨c1, t1, z1, h6, h7⟩ := hKm
    rw [hcur] at h6; injection h6 with h6; injection h6 with h6 _ _; subst h6
    omega
   have hlen : (l.map f).length = l.length := List.length_map _
   rw [← hlen]
   refine zbn hall (by rw [hlen]; exact hc) (fun _ => .inr ⟨b, 0, cur, _, 0, rfl, hbs, hcur, by omega, .inl (Nat.le_refl _), by simp⟩) (fun i hi => nomatch hi) (fun k q hq => ?_)
   obtain ⟨v, h6, h7⟩ := h5 k q hq
   refine ⟨v, ⟨⟨.inl ⟨fun i hi => ?_, fun i hF => ?_⟩, fun _ => hbs⟩, ?_⟩, h7.mono (z3z hr.rel j)⟩
   ·have := hr.rel.inj j i b ⟨_, hg, _, hj', rfl⟩ (z1h hi).1
    exact (z1h hi).2 this.symm
   ·have := (hr.rel.fr j b ⟨_, hg, _, hj', rfl⟩).1; rw [this] at hF; cases hF
   ·rw [Nat.zero_add, z1p hcur]; exact h6
 refine ⟨hd.rel, fun k z hz => ?_, hr.size, hr.defers⟩
 simp only [get] at hz
 cases hb : Nat.beq t k with
 | true =>
  rw [hb] at hz; simp at hz; subst hz
  have := beq_iff'.1 hb; subst this
  exact ⟨u, h1, key⟩
 | false => rw [hb] at hz; exact hd.env k z hz
theorem zf8 {H0 : List AEnt} {c : Code} {s : ASt} {K : AExit → ASt → Prop} (t j : Nat) {e sz kk : Nat} {l : List α} (hx : get s.env t = some (.rs j 0 kk e sz)) (hkk : kk = l.length) (hj : s.H[j]? = some (rowM f e l)) (hsz : ∀ a, (f a).cells.length = sz) (h0 : Nat.blt 0 sz = true)
 (h : BW P H0 c ⟨(t, .sl none e sz (l.map f)) :: s.env, s.H.set j .dead, s.n⟩ K) : BW P H0 c s K := fun F g a w g0 w0 hl hr hx' =>
 h F g a w g0 w0 hl (zcc hr t j hx hkk hj hsz h0) (hx'.trans (z9r hr.rel j))
end
structure RnW (σ : List Nat) (x y : PV) : Prop where
 ids : ∀ i, i ∈ x.ids → i ∈ σ
 wk : Wk (x.ren (σ.idxOf ·)) y
theorem RnW.none {σ : List Nat} {x y : PV} (h : x.ids = []) (hw : Wk x y) : RnW σ x y := ⟨fun i hi => by rw [h] at hi; (cases hi), by rw [z18 x (fun i hi => by rw [h] at hi; cases hi)]; exact hw⟩
theorem RnW.rs {σ : List Nat} {i j o k k' e sz : Nat} (h : σ.contains i = true) (hi : σ.idxOf i = j) (hk : k = k') : RnW σ (.rs i o k e sz) (.rs j o k' e sz) := ⟨fun q hq => by simp [PV.ids] at hq; subst hq; simpa using h, by rw [PV.ren, hi, hk]; exact Wk.refl _⟩
theorem RnW.rf {σ : List Nat} {i j o : Nat} (h : σ.contains i = true) (hi : σ.idxOf i = j) : RnW σ (.rf i o) (.rf j o) := ⟨fun q hq => by simp [PV.ids] at hq; subst hq; simpa using h, by rw [PV.ren, hi]; exact Wk.refl _⟩
theorem RnW.tok {σ : List Nat} {i j e sz : Nat} {xs : List PV} (h : σ.contains i = true) (hi : σ.idxOf i = j) (hx : PV.ids.idsL xs = []) : RnW σ (.sl (some i) e sz xs) (.sl (some j) e sz xs) := ⟨fun q hq => by simp [PV.ids, hx] at hq; subst hq; simpa using h, by rw [PV.ren, z97 hx, Option.map_some, hi]; exact Wk.refl _⟩
theorem RnW.iface {σ : List Nat} {t : TypeId} {x y : PV} (h : RnW σ x y) : RnW σ (.iface t x) (.iface t y) := ⟨fun i hi => h.ids i (by simpa only [PV.ids] using hi), by rw [PV.ren]; exact Wk.iface h.wk⟩
inductive RnWL (σ : List Nat) : List PV → List PV → Prop
 | nil : RnWL σ [] []
 | cons {x y : PV} {xs ys : List PV} : RnW σ x y → RnWL σ xs ys → RnWL σ (x :: xs) (y :: ys)
theorem RnWL.ids {σ : List Nat} : ∀ {xs ys : List PV}, RnWL σ xs ys → ∀ i, i ∈ PV.ids.idsL xs → i ∈ σ
 | _, _, .nil, i, hi => by cases hi
 | _, _, .cons h hr, i, hi => by
  rw [zf3, List.mem_append] at hi
  rcases hi with hi | hi
  ·exact h.ids i hi
  ·exact hr.ids i hi
theorem RnWL.wk {σ : List Nat} : ∀ {xs ys : List PV}, RnWL σ xs ys → WkL (PV.ren.renL (σ.idxOf ·) xs) ys
 | _, _, .nil => .nil
 | _, _, .cons h hr => by rw [PV.ren.renL]; exact .cons h.wk hr.wk
inductive ER (σ : List Nat) : AEnt → AEnt → Prop
 | same {e : AEnt} : e.ids = [] → ER σ e e
 | box {ty : TypeId} {cs cs' : List PV} : RnWL σ cs cs' → ER σ (.box ty cs') (.box ty cs)
 | dead {e : AEnt} : e.ids = [] → ER σ .dead e
theorem ER.ids {σ : List Nat} {e' e : AEnt} (h : ER σ e' e) : ∀ k, k ∈ e.ids → k ∈ σ := by
 cases h with
 | same h => intro k hk; rw [h] at hk; cases hk
 | box h => exact fun k hk => h.ids k hk
 | dead h => intro k hk; rw [h] at hk; cases hk
theorem ER.sub {σ : List Nat} {e' e : AEnt} (h : ER σ e' e) : ESub e' (e.ren (σ.idxOf ·)) := by
 cases h with
 | same h => rw [z4y h]; exact .same
 | box h => exact .box h.wk
 | dead h => exact .dead
inductive HR (H : List AEnt) (σ : List Nat) : List Nat → List AEnt → Prop
 | nil : HR H σ [] []
 | cons {i : Nat} {e e' : AEnt} {τ : List Nat} {H' : List AEnt} : H[i]? = some e → ER σ e' e → HR H σ τ H' → HR H σ (i :: τ) (e' :: H')
theorem HR.lt {σ : List Nat} : ∀ {τ : List Nat} {H' : List AEnt}, HR H σ τ H' → ∀ i, i ∈ τ → i < H.length
 | _, _, .nil, i, hi => by cases hi
 | _, _, .cons h _ hr, i, hi => by
  rcases List.mem_cons.1 hi with rfl | hi
  ·exact z0a h
  ·exact hr.lt i hi
theorem HR.ids {σ : List Nat} : ∀ {τ : List Nat} {H' : List AEnt}, HR H σ τ H' → ∀ i e, i ∈ τ → H[i]? = some e → ∀ k, k ∈ e.ids → k ∈ σ
 | _, _, .nil, i, e, hi, _ => by cases hi
 | _, _, .cons h he hr, i, e, hi, hH => by
  rcases List.mem_cons.1 hi with rfl | hi
  ·rw [h] at hH; injection hH with hH; subst hH; exact he.ids
  ·exact hr.ids i e hi hH
theorem HR.sub {σ : List Nat} : ∀ {τ : List Nat} {H' : List AEnt}, HR H σ τ H' → HSub H' (τ.map fun i => (H.getD i .dead).ren (σ.idxOf ·))
 | _, _, .nil => .nil
 | _, _, .cons h he hr => by
  rw [List.map_cons, List.getD_eq_getElem?_getD, h]
  exact .cons he.sub hr.sub
def Z6p (σ : List Nat) (e' e : List (Nat × PV)) : Prop := ∀ t x, get e' t = some x → ∃ y z, get e t = some y ∧ Wk y z ∧ RnW σ z x
def Z3p (m : Nat) (σ : List Nat) : Bool := (σ.map fun i => σ.count i).all (Nat.beq 1) && (List.range m).all (fun k => (σ[k]?).elim false (Nat.beq k))
structure JoinsR (m : Nat) (env : List (Nat × PV)) (H : List AEnt) (s : ASt) : Prop where
 ex : ∃ σ, Z3p m σ = true ∧ HR s.H σ σ H ∧ Z6p σ env s.env
section
variable {s : ASt} {K : AExit → ASt → Prop} {H0 : List AEnt}
end
section
variable {α : Type} {f : α → PV}
theorem z4x {e : TypeId} {xs : List α} (hf : ∀ a, (f a).ids = []) : (rowM f e xs).ids = [] := zte (by
 have : ∀ k, k ∉ PV.ids.idsL (flatM f xs) := fun k hk => by
  obtain ⟨x, hx, hk⟩ := mem_idsL.1 hk
  obtain ⟨p, hp, hx⟩ := List.mem_flatMap.1 hx
  obtain ⟨a, _, rfl⟩ := List.mem_map.1 hp
  obtain ⟨j, hj⟩ := List.mem_iff_getElem?.1 hx
  have := z4c hj hk
  rw [hf] at this; cases this
 exact List.eq_nil_iff_forall_not_mem.2 this)
end
theorem zm0 {x y y' : PV} {Es : List AEnt} {R : PV → List AEnt → Prop} (σ : List Nat) (hn : (σ.map fun i => σ.count i).all (Nat.beq 1) = true) (hw : Wk x y) (hy : RnS σ y y') (hH : Hand H σ σ Es) (hR : R y' Es) : EndOk H 0 x R := by
 have hn' := nodupσ hn
 refine ⟨σ, y, hn', hH.lt, fun k hk => by omega, hw, hy.ids, hH.ids, ?_⟩
 rw [hy.down hn']
 have : z3f H σ = Es := hH.pick hn'
 rw [this]; exact hR
theorem ztc {g : Nat → Nat} {i o m e sz : Nat} : (PV.rs i o m e sz).ren g = .rs (g i) o m e sz := by rw [PV.ren]
theorem zl7 {g : Nat → Nat} : ([] : List AEnt).map (AEnt.ren g) = [] := rfl
theorem zft {g : Nat → Nat} {e : AEnt} {r r' : List AEnt} (h : e.ids = []) (hr : r.map (AEnt.ren g) = r') : (e :: r).map (AEnt.ren g) = e :: r' := by rw [List.map_cons, z4y h, hr]
end Go.Proofs.Ythidgpcbnieleaa.Aw
