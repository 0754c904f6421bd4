/- Aw: a region whose operations Go may carry out in more than one order: where all but a tail only read, every order comes to the same. -/
import Derived.Test.YthfdpaboekoncaaAw7
namespace Go.Proofs.Ythfdpaboekoncaa.Aw
open Go
set_option linter.unusedVariables false
set_option linter.unusedSimpArgs false
variable {P : Program} {F : Fr} {H H' : List AEnt} {g g' : List (Option Nat)} {w w' : World}

def mask1 (acc : List Nat) (o : Oper) : Nat := o.after.toList.foldl (fun s e => bif Region.binds .any e then s ||| 2 ^ e.on ||| acc.getD e.on 0 else s) 0
def masks : List Oper → List Nat → List Nat
  | [], acc => acc
  | o :: r, acc => masks r (acc ++ [mask1 acc o])
theorem mask1_bit {acc : List Nat} {es : List Edge} {k : Nat} : ∀ {s : Nat}, (es.foldl (fun s e => bif Region.binds .any e then s ||| 2 ^ e.on ||| acc.getD e.on 0 else s) s).testBit k = true →
    s.testBit k = true ∨ ∃ e, e ∈ es ∧ Region.binds .any e = true ∧ (k = e.on ∨ (acc.getD e.on 0).testBit k = true) := by
  induction es with
  | nil => intro s h; exact .inl h
  | cons e r ih =>
    intro s h
    rw [List.foldl_cons] at h
    rcases ih h with h | ⟨e', h1, h2⟩
    · cases hb : Region.binds .any e with
      | false => rw [hb] at h; exact .inl h
      | true =>
        rw [hb] at h
        simp only [cond_true, Nat.testBit_or, Bool.or_eq_true, Nat.testBit_two_pow, decide_eq_true_eq] at h
        rcases h with (h | h) | h
        · exact .inl h
        · exact .inr ⟨e, by simp, hb, .inl h.symm⟩
        · exact .inr ⟨e, by simp, hb, .inr h⟩
    · exact .inr ⟨e', by simp [h1], h2⟩
theorem masks_len : ∀ {l : List Oper} {acc : List Nat}, (masks l acc).length = acc.length + l.length
  | [], acc => by simp [masks]
  | o :: r, acc => by simp [masks, masks_len (l := r)]; omega
theorem masks_sound {L : Nat → Prop} {all : List Oper} (hL : ∀ k, L k → ∀ o, all[k]? = some o → ∀ e, e ∈ o.after.toList → Region.binds .any e = true → L e.on) :
    ∀ (l pre : List Oper) (acc : List Nat), all = pre ++ l → acc.length = pre.length →
      (∀ i o, pre[i]? = some o → (∀ e, e ∈ o.after.toList → Region.binds .any e = true → L e.on) → ∀ k, (acc.getD i 0).testBit k = true → L k) →
      ∀ i o, all[i]? = some o → (∀ e, e ∈ o.after.toList → Region.binds .any e = true → L e.on) → ∀ k, ((masks l acc).getD i 0).testBit k = true → L k
  | [], pre, acc, ha, hl, h, i, o, hi, he, k, hk => by
    rw [ha, List.append_nil] at hi
    exact h i o hi he k hk
  | x :: r, pre, acc, ha, hl, h, i, o, hi, he, k, hk => by
    refine masks_sound hL r (pre ++ [x]) (acc ++ [mask1 acc x]) (by simp [ha]) (by simp [hl]) ?_ i o hi he k (by simpa [masks] using hk)
    intro j y hy hye q hq
    rcases get_snoc_some hy with hy | ⟨rfl, rfl⟩
    · have hlt := lt_of_getL hy
      rw [List.getD_eq_getElem?_getD, List.getElem?_append_left (by omega), ← List.getD_eq_getElem?_getD] at hq
      exact h j y hy hye q hq
    · rw [← hl, List.getD_eq_getElem?_getD, List.getElem?_append_right (by omega)] at hq
      simp at hq
      rcases mask1_bit hq with hq | ⟨e, h1, h2, h3⟩
      · simp at hq
      · rcases h3 with rfl | h3
        · exact hye e h1 h2
        · have hLe := hye e h1 h2
          have hlt : e.on < pre.length := by
            rcases Nat.lt_or_ge e.on acc.length with hlt | hge
            · omega
            · rw [List.getD_eq_getElem?_getD, List.getElem?_eq_none hge] at h3; simp at h3
          have hpe : pre[e.on]? = some pre[e.on] := List.getElem?_eq_getElem hlt
          have hae : all[e.on]? = some pre[e.on] := by rw [ha, List.getElem?_append_left hlt]; exact hpe
          exact h e.on _ hpe (hL e.on hLe _ hae) q h3

def quietOk (ops : Array Oper) (m : Nat) : Bool :=
  let l := ops.toList
  let ms := masks l []
  let n := l.length
  Nat.ble m n &&
  (List.range n).all fun i => match l[i]? with
    | none => true
    | some o =>
      (o.after.toList.all fun e => !(Region.binds .any e) || Nat.blt e.on i) &&
      (Nat.blt i m || (List.range i).all fun j => (ms.getD i 0).testBit j) &&
      (List.range n).all fun k => match l[k]? with
        | none => true
        | some q => (Nat.beq i k) || (match q.dst with
          | none => true
          | some d => (o.dst != some d) && (!(Nat.blt i m) || !((o.looksAt ops).contains d) || (bif Nat.blt k i then (ms.getD i 0).testBit k else (ms.getD k 0).testBit i)))

def keepE (ts : List Nat) : List (Nat × PV) → List (Nat × PV)
  | [] => []
  | (k, x) :: r => bif ts.contains k then (k, x) :: keepE ts r else keepE ts r
theorem get_keepE {ts : List Nat} {t : Nat} {x : PV} : ∀ {env : List (Nat × PV)}, get (keepE ts env) t = some x → t ∈ ts ∧ get env t = some x
  | [], h => by cases h
  | (k, y) :: r, h => by
    simp only [keepE] at h
    cases hc : ts.contains k with
    | true =>
      rw [hc] at h
      simp only [cond_true, get] at h ⊢
      cases hb : Nat.beq k t with
      | true =>
        have := beq_iff'.1 hb; subst this
        rw [hb] at h
        exact ⟨by simpa using hc, h⟩
      | false => rw [hb] at h; exact get_keepE h
    | false =>
      rw [hc] at h
      obtain ⟨h1, h2⟩ := get_keepE h
      refine ⟨h1, ?_⟩
      simp only [get]
      have : Nat.beq k t = false := by
        cases hb : Nat.beq k t with
        | false => rfl
        | true =>
          have := beq_iff'.1 hb; subst this
          rw [List.contains_iff_mem.2 h1] at hc; cases hc
      rw [this]; exact h2
inductive QStep (P : Program) (ops : Array Oper) (o : Oper) (env : List (Nat × PV)) (H : List AEnt) (n : Nat) : PV → Prop
  | go {x : PV} : o.guard = none → Op1 P o (keepE (o.looksAt ops) env) H n x H → QStep P ops o env H n x
  | yes {x : PV} {j : Nat} {want b : Bool} {t : Nat} : o.guard = some (j, want) → (ops[j]?).bind (·.dst) = some t → get env t = some (.v (.bool b)) → (b == want) = true → Op1 P o (keepE (o.looksAt ops) env) H n x H → QStep P ops o env H n x
  | no {j : Nat} {want : Bool} {v : Value} {t : Nat} : o.guard = some (j, want) → (ops[j]?).bind (·.dst) = some t → get env t = some (.v v) → noW v want = true → QStep P ops o env H n (.v undef)
def AQ (P : Program) (ops : Array Oper) (suf : List Oper) (H : List AEnt) (n : Nat) (K : AExit → ASt → Prop) : List Oper → List (Nat × PV) → Prop
  | [], env => AO P ops suf ⟨env, H, n⟩ K
  | o :: r, env => dstOk o.dst n = true ∧ ∃ x, QStep P ops o env H n x ∧ AQ P ops suf H n K r (putE o.dst x env)
section
variable {ops : Array Oper} {suf : List Oper} {n : Nat} {K : AExit → ASt → Prop} {o : Oper} {r : List Oper} {env : List (Nat × PV)}
theorem aq_go {x : PV} {d : Nat} (hg : o.guard = none) (hd : o.dst = some d) (hn : Nat.blt d n = true) (h1 : Op1 P o (keepE (o.looksAt ops) env) H n x H) (h : AQ P ops suf H n K r ((d, x) :: env)) : AQ P ops suf H n K (o :: r) env :=
  ⟨by rw [hd]; exact hn, x, .go hg h1, by rw [hd]; exact h⟩
theorem aq_yes {x : PV} {j : Nat} {want b : Bool} {t d : Nat} (hg : o.guard = some (j, want)) (ht : (ops[j]?).bind (·.dst) = some t) (hb : get env t = some (.v (.bool b))) (hw : (b == want) = true) (hd : o.dst = some d) (hn : Nat.blt d n = true)
    (h1 : Op1 P o (keepE (o.looksAt ops) env) H n x H) (h : AQ P ops suf H n K r ((d, x) :: env)) : AQ P ops suf H n K (o :: r) env := ⟨by rw [hd]; exact hn, x, .yes hg ht hb hw h1, by rw [hd]; exact h⟩
theorem aq_no {j : Nat} {want : Bool} {v : Value} {t d : Nat} (hg : o.guard = some (j, want)) (ht : (ops[j]?).bind (·.dst) = some t) (hb : get env t = some (.v v)) (hw : noW v want = true) (hd : o.dst = some d) (hn : Nat.blt d n = true)
    (h : AQ P ops suf H n K r ((d, .v undef) :: env)) : AQ P ops suf H n K (o :: r) env := ⟨by rw [hd]; exact hn, _, .no hg ht hb hw, by rw [hd]; exact h⟩
theorem aq_nil (h : AO P ops suf ⟨env, H, n⟩ K) : AQ P ops suf H n K [] env := h
theorem aq_cases (t : Nat) {b : Bool} (hb : get env t = some (.v (.bool b))) (ht : b = true → AQ P ops suf H n K r (setE t (.v (.bool true)) env)) (hf : b = false → AQ P ops suf H n K r (setE t (.v (.bool false)) env)) : AQ P ops suf H n K r env := by
  cases b with
  | true => have := ht rfl; rwa [setE_same hb] at this
  | false => have := hf rfl; rwa [setE_same hb] at this
end

def envs : List Oper → List PV → List (Nat × PV) → Nat → List (Nat × PV)
  | o :: r, x :: xs, env, j + 1 => envs r xs (putE o.dst x env) j
  | _, _, env, _ => env
theorem aq_extract {ops : Array Oper} {suf : List Oper} {n : Nat} {K : AExit → ASt → Prop} : ∀ {l : List Oper} {env : List (Nat × PV)}, AQ P ops suf H n K l env →
    ∃ xs : List PV, xs.length = l.length ∧ (∀ (j : Nat) (o : Oper), l[j]? = some o → dstOk o.dst n = true ∧ ∃ x, xs[j]? = some x ∧ QStep P ops o (envs l xs env j) H n x) ∧ AO P ops suf ⟨envs l xs env l.length, H, n⟩ K
  | [], env, h => ⟨[], rfl, by simp, h⟩
  | o :: r, env, ⟨hd, x, h1, h2⟩ => by
    obtain ⟨xs, h3, h4, h5⟩ := aq_extract h2
    refine ⟨x :: xs, by simp [h3], fun j q hq => ?_, h5⟩
    cases j with
    | zero => simp at hq; subst hq; exact ⟨hd, x, rfl, h1⟩
    | succ j => simpa [envs] using h4 j q (by simpa using hq)
theorem envs_get : ∀ {l : List Oper} {xs : List PV} {env : List (Nat × PV)}, xs.length = l.length → (∀ (i j : Nat) (o q : Oper) (d : Nat), l[i]? = some o → l[j]? = some q → o.dst = some d → q.dst = some d → i = j) → ∀ (j t : Nat), j ≤ l.length →
    (∀ (k : Nat) (o : Oper) (x : PV), k < j → l[k]? = some o → o.dst = some t → xs[k]? = some x → get (envs l xs env j) t = some x) ∧
    ((∀ (k : Nat) (o : Oper), k < j → l[k]? = some o → o.dst ≠ some t) → get (envs l xs env j) t = get env t)
  | [], xs, env, hl, hd, j, t, hj => by simp [envs]
  | o :: r, [], env, hl, hd, j, t, hj => by simp at hl
  | o :: r, x :: xs, env, hl, hd, 0, t, hj => by simp [envs]
  | o :: r, x :: xs, env, hl, hd, j + 1, t, hj => by
    have ih := envs_get (l := r) (xs := xs) (env := putE o.dst x env) (by simpa using hl) (fun a b p q d h1 h2 h3 h4 => by have := hd (a + 1) (b + 1) p q d (by simpa using h1) (by simpa using h2) h3 h4; omega) j t (by simpa using hj)
    simp only [envs]
    refine ⟨fun k q y hk hq hqd hy => ?_, fun hno => ?_⟩
    · cases k with
      | zero =>
        simp at hq hy; subst hq; subst hy
        rw [ih.2 (fun k q' hk hq' hd' => by have := hd 0 (k + 1) o q' t (by simp) (by simpa using hq') hqd hd'; omega)]
        simp [putE, hqd, get]
      | succ k => exact ih.1 k q y (by omega) (by simpa using hq) hqd (by simpa using hy)
    · rw [ih.2 (fun k q hk hq => hno (k + 1) q (by omega) (by simpa using hq))]
      have h0 := hno 0 o (by omega) rfl
      cases hd0 : o.dst with
      | none => rfl
      | some d =>
        simp only [putE, get]
        have : Nat.beq d t = false := by
          cases hb : Nat.beq d t with
          | false => rfl
          | true => exact absurd (by rw [hd0, beq_iff'.1 hb]) h0
        rw [this]; rfl

theorem filter_lt {p q : Nat → Bool} : ∀ {l : List Nat}, (∀ x, q x = true → p x = true) → (∃ x, x ∈ l ∧ p x = true ∧ q x = false) → (l.filter q).length < (l.filter p).length
  | [], _, ⟨x, hx, _⟩ => by cases hx
  | y :: r, hqp, hex => by
    have hle : ∀ l : List Nat, (l.filter q).length ≤ (l.filter p).length := by
      intro l
      induction l with
      | nil => simp
      | cons z r ih =>
        simp only [List.filter_cons]
        cases hq : q z with
        | true => rw [hqp z hq]; simpa using ih
        | false => cases hp : p z <;> simp <;> omega
    obtain ⟨x, hx, h1, h2⟩ := hex
    simp only [List.filter_cons]
    rcases List.mem_cons.1 hx with rfl | hx
    · rw [h1, h2]; have := hle r; simp; omega
    · have ih := filter_lt (l := r) hqp ⟨x, hx, h1, h2⟩
      cases hq : q y with
      | true => rw [hqp y hq]; simpa using ih
      | false => cases hp : p y <;> simp <;> omega
def left (ops : Array Oper) (listed : Array Bool) : Nat := ((List.range ops.size).filter fun j => !(listed.getD j false)).length
theorem left_set {ops : Array Oper} {listed : Array Bool} {i : Nat} (hs : listed.size = ops.size) (hi : i < ops.size) (hu : listed.getD i false = false) : left ops (listed.setIfInBounds i true) < left ops listed := by
  refine filter_lt (fun x hx => ?_) ⟨i, List.mem_range.2 hi, by simpa using hu, ?_⟩
  · by_cases hix : i = x
    · subst hix; simpa using hu
    · rw [getD_set_ne false hix] at hx; exact hx
  · have : i < listed.size := by rw [hs]; exact hi
    simp [this]
theorem left_zero {ops : Array Oper} {listed : Array Bool} (h : left ops listed = 0) (j : Nat) (hj : j < ops.size) : listed.getD j false = true := by
  have h1 := List.eq_nil_of_length_eq_zero h
  cases hc : listed.getD j false with
  | true => rfl
  | false =>
    have : j ∈ (List.range ops.size).filter fun j => !(listed.getD j false) := List.mem_filter.2 ⟨List.mem_range.2 hj, by rw [hc]; rfl⟩
    rw [h1] at this; cases this
theorem getD_tf {listed : Array Bool} {i : Nat} {ops : Array Oper} (hs : listed.size = ops.size) (hi : i < ops.size) : listed.getD i true = listed.getD i false := by
  have : i < listed.size := by rw [hs]; exact hi
  simp [this]
def Closed (ops : Array Oper) (fs : Array Bool) : Prop := ∀ k, fs.getD k false = true → ∀ o, ops[k]? = some o → ∀ e, e ∈ o.after.toList → Region.binds .any e = true → fs.getD e.on false = true

theorem wpOps_list {ops : Array Oper} {Q : Exit → Act → World → Prop} {m : Nat} (hedge : ∀ k o, ops[k]? = some o → ∀ e, e ∈ o.after.toList → Region.binds .any e = true → e.on < k)
    (hord : ∀ fs : Array Bool, fs.size = ops.size → Closed ops fs → ∀ k, m ≤ k → k < ops.size → k ∈ Region.ready .any ops fs → ∀ j, j < k → fs.getD j false = true) :
    ∀ (l : List Oper) (i : Nat), m ≤ i → (∀ j, l[j]? = ops[i + j]?) → ∀ a w, wpList P ops Q l a w → ∀ fuel listed, listed.size = ops.size → (∀ j, j < ops.size → (listed.getD j false = true ↔ j < i)) → i ≤ ops.size → left ops listed ≤ fuel → wpAny P .any ops Q fuel listed a w
  | l, i, hmi, hl, a, w, h, fuel, listed, hsz, hls, hi, hf => by
    have hclosed : Closed ops listed := fun k hk o ho e he hb => by
      have hks := lt_of_get ho
      have h1 := (hls k hks).1 hk
      have h2 := hedge k o ho e he hb
      exact (hls e.on (by omega)).2 (by omega)
    match l, hl with
    | [], hl =>
      have hie : i = ops.size := by
        rcases Nat.lt_or_ge i ops.size with hlt | hge
        · have := hl 0; rw [Nat.add_zero, Array.getElem?_eq_getElem hlt] at this; cases this
        · omega
      refine wpAny_done ?_ h fuel
      apply List.eq_nil_iff_forall_not_mem.2
      intro j hj
      obtain ⟨h1, o, ho, _⟩ := mem_ready.1 hj
      have hjs := lt_of_get ho
      rw [getD_tf hsz hjs, (hls j hjs).2 (by omega)] at h1; cases h1
    | x :: r, hl =>
      have hx : ops[i]? = some x := by have := hl 0; simpa using this.symm
      have hil := lt_of_get hx
      have hui : listed.getD i false = false := by
        cases hc : listed.getD i false with
        | false => rfl
        | true => have := (hls i hil).1 hc; omega
      match fuel, hf with
      | 0, hf => have := left_zero (Nat.le_zero.1 hf) i hil; rw [hui] at this; cases this
      | fuel + 1, hf =>
        have hmem : ∀ k, k ∈ Region.ready .any ops listed → k = i := by
          intro k hk
          obtain ⟨h1, o, ho, h2⟩ := mem_ready.1 hk
          have hks := lt_of_get ho
          rw [getD_tf hsz hks] at h1
          have hge : ¬ k < i := fun hlt => by rw [(hls k hks).2 hlt] at h1; cases h1
          rcases Nat.lt_or_ge i k with hlt | hge'
          · have := hord listed hsz hclosed k (by omega) hks hk i hlt
            rw [hui] at this; cases this
          · omega
        have himem : i ∈ Region.ready .any ops listed := by
          refine mem_ready.2 ⟨by rw [getD_tf hsz hil]; exact hui, x, hx, fun e he hb => ?_⟩
          have hlt := hedge i x hx e (by simpa using he) hb
          exact (hls e.on (by omega)).2 hlt
        refine ⟨fun h0 => (by rw [h0] at himem; cases himem), fun k hk => ?_⟩
        have hki := hmem k hk
        subst hki
        unfold wpOp
        rw [hx]
        simp only []
        unfold wpList at h
        have next : ∀ a w, wpList P ops Q r a w → wpAny P .any ops Q fuel (listed.setIfInBounds k true) a w := fun a w hr =>
          wpOps_list hedge hord r (k + 1) (by omega) (fun j => by have := hl (j + 1); simpa [Nat.add_assoc, Nat.add_comm 1 j] using this) a w hr fuel _ (by simp [hsz]) (fun j hj => by
            by_cases hjk : k = j
            · subst hjk
              have : k < listed.size := by rw [hsz]; exact hil
              simp [this]
            · rw [getD_set_ne false hjk, hls j hj]; omega) (by omega) (by have := left_set hsz hil hui; omega)
        split
        · rename_i hw
          rw [if_pos hw] at h
          exact h.imp (Oper.wp_mono next) id
        · rename_i hw
          rw [if_neg hw] at h
          exact next _ _ h

theorem aw_drawG {rid : Nat} {ops : Array Oper} {s : ASt} {K : AExit → ASt → Prop} (m : Nat) (hm : P.follows .mixedOrders = true) (hq : quietOk ops m = true) (h : AQ P ops (ops.toList.drop m) s.H s.n K (ops.toList.take m) s.env) : AW P (.region rid ops true) s K := by
  intro F g0 a0 w0 hr0
  obtain ⟨xs, hxl, hst, hsuf⟩ := aq_extract h
  simp only [quietOk, Bool.and_eq_true, List.all_eq_true, List.mem_range] at hq
  obtain ⟨hmn, hall⟩ := hq
  have hmn' := Nat.le_of_ble_eq_true hmn
  simp only [Array.length_toList] at hmn' hall
  have chk : ∀ (i : Nat) (o : Oper), ops[i]? = some o →
      (∀ e, e ∈ o.after.toList → Region.binds .any e = true → e.on < i) ∧ (m ≤ i → ∀ j, j < i → ((masks ops.toList []).getD i 0).testBit j = true) ∧
      ∀ (k : Nat) (q : Oper) (d : Nat), ops[k]? = some q → i ≠ k → q.dst = some d → o.dst ≠ some d ∧ (i < m → d ∈ o.looksAt ops → (k < i → ((masks ops.toList []).getD i 0).testBit k = true) ∧ (¬ k < i → ((masks ops.toList []).getD k 0).testBit i = true)) := by
    intro i o hi
    have h1 := hall i (lt_of_get hi)
    have hi' : ops.toList[i]? = some o := by simpa using hi
    rw [hi'] at h1
    simp only [Bool.and_eq_true, List.all_eq_true, List.mem_range] at h1
    obtain ⟨⟨h2, h3⟩, h4⟩ := h1
    refine ⟨fun e he hb => ?_, fun hmi j hj => ?_, fun k q d hk hne hqd => ?_⟩
    · have := h2 e he
      rw [hb] at this
      simpa [Nat.blt_eq] using this
    · simp only [Bool.or_eq_true, List.all_eq_true, List.mem_range, Nat.blt_eq] at h3
      rcases h3 with h3 | h3
      · omega
      · exact h3 j hj
    · have h5 := h4 k (lt_of_get hk)
      have hk' : ops.toList[k]? = some q := by simpa using hk
      rw [hk'] at h5
      simp only [hqd, Bool.or_eq_true, Bool.and_eq_true] at h5
      rcases h5 with h5 | ⟨h5, h6⟩
      · exact absurd (beq_iff'.1 h5) hne
      · refine ⟨by simpa using h5, fun him hdm => ?_⟩
        have him' : Nat.blt i m = true := by simpa [Nat.blt_eq] using him
        have hdm' : (o.looksAt ops).contains d = true := by simpa using hdm
        rw [him', hdm'] at h6
        simp only [Bool.not_true, Bool.false_eq_true, false_or, or_false] at h6
        cases hki : Nat.blt k i with
        | true => rw [hki] at h6; simp [Nat.blt_eq] at hki; exact ⟨fun _ => by simpa using h6, fun hn => absurd hki hn⟩
        | false =>
          rw [hki] at h6
          have : ¬ k < i := fun hlt => by
            have : Nat.blt k i = true := by simpa [Nat.blt_eq] using hlt
            rw [this] at hki; cases hki
          exact ⟨fun hlt => absurd hlt this, fun _ => by simpa using h6⟩
  have hdist : ∀ (i j : Nat) (o q : Oper) (d : Nat), ops[i]? = some o → ops[j]? = some q → o.dst = some d → q.dst = some d → i = j := by
    intro i j o q d h1 h2 h3 h4
    by_cases hij : i = j
    · exact hij
    · exact absurd h3 ((chk i o h1).2.2 j q d h2 hij h4).1
  have htake : ∀ (j : Nat) (o : Oper), (ops.toList.take m)[j]? = some o ↔ (j < m ∧ ops[j]? = some o) := by
    intro j o
    rw [List.getElem?_take]
    split
    · rename_i hj; simp [hj]
    · rename_i hj; simp [hj]
  have htl : (ops.toList.take m).length = m := by rw [List.length_take, Array.length_toList]; omega
  have hdist' : ∀ (i j : Nat) (o q : Oper) (d : Nat), (ops.toList.take m)[i]? = some o → (ops.toList.take m)[j]? = some q → o.dst = some d → q.dst = some d → i = j :=
    fun i j o q d h1 h2 => hdist i j o q d ((htake i o).1 h1).2 ((htake j q).1 h2).2
  have closed : ∀ (listed : Array Bool), Closed ops listed → ∀ i o, ops[i]? = some o → (∀ e, e ∈ o.after.toList → Region.binds .any e = true → listed.getD e.on false = true) → ∀ k, ((masks ops.toList []).getD i 0).testBit k = true → listed.getD k false = true := by
    intro listed hcl i o hi he k hk
    exact masks_sound (L := fun k => listed.getD k false = true) (all := ops.toList) (fun k hk o ho => hcl k hk o (by simpa using ho)) ops.toList [] [] rfl rfl (by simp) i o (by simpa using hi) he k hk
  have hedge : ∀ k o, ops[k]? = some o → ∀ e, e ∈ o.after.toList → Region.binds .any e = true → e.on < k := fun k o ho => (chk k o ho).1
  have hord : ∀ fs : Array Bool, fs.size = ops.size → Closed ops fs → ∀ k, m ≤ k → k < ops.size → k ∈ Region.ready .any ops fs → ∀ j, j < k → fs.getD j false = true := by
    intro fs _ hcl k hmk hks hk j hj
    obtain ⟨_, o, ho, h2⟩ := mem_ready.1 hk
    exact closed fs hcl k o ho (fun e he hb => h2 e (by simpa using he) hb) j ((chk k o ho).2.1 hmk j hj)
  refine wp_region_any hm ?_
  have donecase : ∀ (fuel : Nat) (listed : Array Bool) (a : Act) (w : World) (g : List (Option Nat)), listed.size = ops.size → Closed ops listed →
      (∀ k, m ≤ k → listed.getD k false = false) → left ops listed ≤ fuel → RelH P F s.H g w → Ext P F s.H g0 w0 s.H g w → a.tmps.size = s.n → a.defers = F.ds →
      (∀ (k : Nat) (o : Oper) (d : Nat) (x : PV), listed.getD k false = true → ops[k]? = some o → o.dst = some d → xs[k]? = some x → ∃ u, a.tmps[d]? = some u ∧ VR (ctx P F s.H g w) x u) →
      (∀ (t : Nat) (x : PV), get s.env t = some x → (∀ (k : Nat) (o : Oper), listed.getD k false = true → ops[k]? = some o → o.dst ≠ some t) → ∃ u, a.tmps[t]? = some u ∧ VR (ctx P F s.H g w) x u) →
      (∀ j, j < m → listed.getD j false = true) → wpAny P .any ops (Post P F s.H g0 w0 K) fuel listed a w := by
    intro fuel listed a w g hsz hcl hno hcount hrel hext hts hdf hk1 hk2 hdone
    have hrelE : Rel P F ⟨envs (ops.toList.take m) xs s.env (ops.toList.take m).length, s.H, s.n⟩ a w g := by
      refine ⟨hrel, fun t x hx => ?_, hts, hdf⟩
      have hg := envs_get (l := ops.toList.take m) (xs := xs) (env := s.env) hxl hdist' (ops.toList.take m).length t (Nat.le_refl _)
      by_cases hw : ∃ (k : Nat) (o : Oper), (ops.toList.take m)[k]? = some o ∧ o.dst = some t
      · obtain ⟨k, o, h1, h2⟩ := hw
        have hkl := lt_of_getL h1
        have hxk : xs[k]? = some (xs[k]'(by rw [hxl]; exact hkl)) := List.getElem?_eq_getElem (by rw [hxl]; exact hkl)
        rw [hg.1 k o _ hkl h1 h2 hxk] at hx
        injection hx with hx; subst hx
        exact hk1 k o t _ (hdone k ((htake k o).1 h1).1) ((htake k o).1 h1).2 h2 hxk
      · rw [hg.2 (fun k o _ h1 h2 => hw ⟨k, o, h1, h2⟩)] at hx
        refine hk2 t x hx (fun k o hk ho hd => ?_)
        have hkm : k < m := by
          rcases Nat.lt_or_ge k m with hlt | hge
          · exact hlt
          · rw [hno k hge] at hk; cases hk
        exact hw ⟨k, o, (htake k o).2 ⟨hkm, ho⟩, hd⟩
    have hfin := wpList_mono (fun _ _ _ hp => hp.from hext) _ _ _ (hsuf F g a w hrelE)
    refine wpOps_list hedge hord (ops.toList.drop m) m (Nat.le_refl _) (fun j => by simp [List.getElem?_drop]) a w hfin _ listed hsz (fun j hj => ?_) hmn' hcount
    constructor
    · intro h1
      rcases Nat.lt_or_ge j m with hlt | hge
      · exact hlt
      · rw [hno j hge] at h1; cases h1
    · exact hdone j
  have main : ∀ (fuel : Nat) (listed : Array Bool) (a : Act) (w : World) (g : List (Option Nat)), listed.size = ops.size → Closed ops listed →
      (∀ k, m ≤ k → listed.getD k false = false) → left ops listed ≤ fuel → RelH P F s.H g w → Ext P F s.H g0 w0 s.H g w → a.tmps.size = s.n → a.defers = F.ds →
      (∀ (k : Nat) (o : Oper) (d : Nat) (x : PV), listed.getD k false = true → ops[k]? = some o → o.dst = some d → xs[k]? = some x → ∃ u, a.tmps[d]? = some u ∧ VR (ctx P F s.H g w) x u) →
      (∀ (t : Nat) (x : PV), get s.env t = some x → (∀ (k : Nat) (o : Oper), listed.getD k false = true → ops[k]? = some o → o.dst ≠ some t) → ∃ u, a.tmps[t]? = some u ∧ VR (ctx P F s.H g w) x u) →
      wpAny P .any ops (Post P F s.H g0 w0 K) fuel listed a w := by
    intro fuel
    induction fuel with
    | zero =>
      intro listed a w g hsz hcl hno hcount hrel hext hts hdf hk1 hk2
      exact donecase 0 listed a w g hsz hcl hno hcount hrel hext hts hdf hk1 hk2 (fun j hj => left_zero (Nat.le_zero.1 hcount) j (by omega))
    | succ fuel ih =>
      intro listed a w g hsz hcl hno hcount hrel hext hts hdf hk1 hk2
      by_cases hdone : ∀ j, j < m → listed.getD j false = true
      · exact donecase (fuel + 1) listed a w g hsz hcl hno hcount hrel hext hts hdf hk1 hk2 hdone
      · obtain ⟨j0, hj0m, hj0u⟩ : ∃ j, j < m ∧ listed.getD j false = false := by
          refine Classical.byContradiction fun hc => hdone (fun j hj => ?_)
          cases hv : listed.getD j false with
          | true => rfl
          | false => exact absurd ⟨j, hj, hv⟩ hc
        refine ⟨fun h0 => ?_, fun j hj => ?_⟩
        · -- the least that is left is ready
          have key : ∀ k, k < m → listed.getD k false = false → ∃ i, i ∈ Region.ready .any ops listed := by
            intro k
            induction k using Nat.strongRecOn with
            | _ k ihk =>
              intro hkm hku
              have hks : k < ops.size := by omega
              by_cases hp : ∀ j, j < k → listed.getD j false = true
              · refine ⟨k, mem_ready.2 ⟨by rw [getD_tf hsz hks]; exact hku, ops[k], Array.getElem?_eq_getElem hks, fun e he hb => ?_⟩⟩
                exact hp _ (hedge k _ (Array.getElem?_eq_getElem hks) e (by simpa using he) hb)
              · obtain ⟨j, hjk, hju⟩ : ∃ j, j < k ∧ listed.getD j false = false := by
                  refine Classical.byContradiction fun hc => hp (fun j hj => ?_)
                  cases hv : listed.getD j false with
                  | true => rfl
                  | false => exact absurd ⟨j, hj, hv⟩ hc
                exact ihk j hjk (by omega) hju
          obtain ⟨i, hi⟩ := key j0 hj0m hj0u
          rw [h0] at hi; cases hi
        · obtain ⟨h1, o, ho, h2⟩ := mem_ready.1 hj
          have hjs := lt_of_get ho
          have hju : listed.getD j false = false := by rw [getD_tf hsz hjs] at h1; exact h1
          have hpre : ∀ e, e ∈ o.after.toList → Region.binds .any e = true → listed.getD e.on false = true := fun e he hb => h2 e (by simpa using he) hb
          have hjm : j < m := by
            rcases Nat.lt_or_ge j m with hlt | hge
            · exact hlt
            · have := hord listed hsz hcl j hge hjs hj j0 (by omega)
              rw [hj0u] at this; cases this
          obtain ⟨hdok, x, hxj, hstep⟩ := hst j o ((htake j o).2 ⟨hjm, ho⟩)
          have hchk := chk j o ho
          -- what the operation looks at is as in the text's order
          have hlook : ∀ (t : Nat) (y : PV), t ∈ o.looksAt ops → get (envs (ops.toList.take m) xs s.env j) t = some y → ∃ u, a.tmps[t]? = some u ∧ VR (ctx P F s.H g w) y u := by
            intro t y ht hy
            have hg := envs_get (l := ops.toList.take m) (xs := xs) (env := s.env) hxl hdist' j t (by rw [htl]; omega)
            by_cases hw : ∃ (k : Nat) (q : Oper), k < j ∧ ops[k]? = some q ∧ q.dst = some t
            · obtain ⟨k, q, hkj, hk, hqd⟩ := hw
              have hxk : xs[k]? = some (xs[k]'(by rw [hxl, htl]; omega)) := List.getElem?_eq_getElem (by rw [hxl, htl]; omega)
              rw [hg.1 k q _ hkj ((htake k q).2 ⟨by omega, hk⟩) hqd hxk] at hy
              injection hy with hy; subst hy
              have hbit := ((hchk.2.2 k q t hk (by omega) hqd).2 hjm ht).1 hkj
              exact hk1 k q t _ (closed listed hcl j o ho hpre k hbit) hk hqd hxk
            · rw [hg.2 (fun k q hkj hk hqd => hw ⟨k, q, hkj, ((htake k q).1 hk).2, hqd⟩)] at hy
              refine hk2 t y hy (fun k q hk hq hqd => ?_)
              have hkj : ¬ k < j := fun hlt => hw ⟨k, q, hlt, hq, hqd⟩
              have hne : j ≠ k := fun e => by subst e; rw [hju] at hk; cases hk
              have hbit := ((hchk.2.2 k q t hq hne hqd).2 hjm ht).2 hkj
              have := closed listed hcl k q hq (hcl k hk q hq) j hbit
              rw [hju] at this; cases this
          -- behind it
          have next : ∀ (v : Value) (w' : World) (g' : List (Option Nat)), VR (ctx P F s.H g' w') x v → RelH P F s.H g' w' → Ext P F s.H g w s.H g' w' → wpAny P .any ops (Post P F s.H g0 w0 K) fuel (listed.setIfInBounds j true) (a.put o.dst v) w' := by
            intro v w' g' hv hr' hx'
            refine ih (listed.setIfInBounds j true) (a.put o.dst v) w' g' (by simp [hsz]) ?_ ?_ (by have := left_set hsz hjs hju; omega) hr' (hext.trans hx') ?_ ?_ ?_ ?_
            · intro k hk q hq e he hb
              by_cases hjk : j = k
              · subst hjk; rw [ho] at hq; injection hq with hq; subst hq
                exact getD_set_true (hpre e he hb)
              · rw [getD_set_ne false hjk] at hk; exact getD_set_true (hcl k hk q hq e he hb)
            · intro k hk
              rw [getD_set_ne false (by omega)]; exact hno k hk
            · cases o.dst <;> simp [Act.put, hts]
            · cases o.dst <;> simp [Act.put, hdf]
            · intro k q d y hk hq hqd hy
              by_cases hjk : j = k
              · subst hjk
                rw [ho] at hq; injection hq with hq; subst hq
                rw [hxj] at hy; injection hy with hy; subst hy
                have hdn : d < a.tmps.size := by rw [hqd] at hdok; rw [hts]; simpa [dstOk, Nat.blt_eq] using hdok
                exact ⟨v, by simp [Act.put, hqd, hdn], hv⟩
              · rw [getD_set_ne false hjk] at hk
                obtain ⟨u, h3, h4⟩ := hk1 k q d y hk hq hqd hy
                refine ⟨u, ?_, h4.mono hx'.le⟩
                cases hod : o.dst with
                | none => simpa [Act.put] using h3
                | some d' =>
                  have hne : d' ≠ d := fun e => hjk (hdist j k o q d ho hq (by rw [hod, e]) hqd)
                  simpa [Act.put, Array.getElem?_setIfInBounds_ne hne] using h3
            · intro t y hy hnw
              have hjt := hnw j o (by have : j < listed.size := by rw [hsz]; exact hjs
                                      simp [this]) ho
              obtain ⟨u, h3, h4⟩ := hk2 t y hy (fun k q hk hq => hnw k q (getD_set_true hk) hq)
              refine ⟨u, ?_, h4.mono hx'.le⟩
              cases hod : o.dst with
              | none => simpa [Act.put] using h3
              | some d' =>
                have hne : d' ≠ t := fun e => hjt (by rw [hod, e])
                simpa [Act.put, Array.getElem?_setIfInBounds_ne hne] using h3
          have hrelK : Rel P F ⟨keepE (o.looksAt ops) (envs (ops.toList.take m) xs s.env j), s.H, s.n⟩ a w g := ⟨hrel, fun t y hy => let ⟨h3, h4⟩ := get_keepE hy; hlook t y h3 h4, hts, hdf⟩
          have hnot : ∀ {i : Nat} {want : Bool} {v : Value} {t : Nat}, o.guard = some (i, want) → (ops[i]?).bind (·.dst) = some t → get (envs (ops.toList.take m) xs s.env j) t = some (.v v) → noW v want = true → Region.wanted o (yielded ops a.tmps) = false := by
            intro i want v t hgd hdt hget hw
            obtain ⟨u, h3, h4⟩ := hlook t _ (by unfold Oper.looksAt; rw [hgd]; simp [hdt]) hget
            rw [vr_v.1 h4] at h3
            exact noW_wanted hgd hdt h3 hw
          have hyield : ∀ {i : Nat} {want b : Bool} {t : Nat}, o.guard = some (i, want) → (ops[i]?).bind (·.dst) = some t → get (envs (ops.toList.take m) xs s.env j) t = some (.v (.bool b)) → yielded ops a.tmps i = some b := by
            intro i want b t hgd hdt hget
            obtain ⟨u, h3, h4⟩ := hlook t _ (by unfold Oper.looksAt; rw [hgd]; simp [hdt]) hget
            rw [vr_v.1 h4] at h3
            simp [yielded, hdt, h3]
          unfold wpOp
          rw [ho]
          simp only []
          cases hstep with
          | go hgd h1 =>
            rw [if_pos (by simp [Region.wanted, hgd])]
            exact .inl (h1 F g a w hrelK _ _ next)
          | yes hgd hdt hget hb h1 =>
            rw [if_pos (by simp only [Region.wanted, hgd, hyield hgd hdt hget]; simpa using hb)]
            exact .inl (h1 F g a w hrelK _ _ next)
          | no hgd hdt hget hb =>
            rw [if_neg (by rw [hnot hgd hdt hget hb]; decide)]
            exact next undef w g (vr_v.2 rfl) hrel .refl
  have hdrew : RelH P F s.H g0 { w0 with drawn := w0.drawn + 1 } := rel_heap hr0.rel rfl
  have hcd : ctx P F s.H g0 { w0 with drawn := w0.drawn + 1 } = ctx P F s.H g0 w0 := ctx_heap rfl
  refine main ops.size (Array.replicate ops.size false) a0 _ g0 (by simp) (fun k hk => ?_) (fun k _ => ?_) ?_ hdrew (ext_heap rfl rfl rfl rfl) hr0.size hr0.defers (fun k o d x hk => ?_) (fun t x hx _ => ?_)
  · simp [Array.getElem?_replicate] at hk; split at hk <;> cases hk
  · simp [Array.getElem?_replicate]; split <;> rfl
  · unfold left; refine Nat.le_trans (List.length_filter_le _ _) (by simp)
  · simp [Array.getElem?_replicate] at hk; split at hk <;> cases hk
  · rw [hcd]; exact hr0.env t x hx

theorem aw_draw {rid : Nat} {ops : Array Oper} {env : List (Nat × PV)} {H : List AEnt} {n : Nat} {K : AExit → ASt → Prop} (m : Nat) (hm : P.follows .mixedOrders = true) (hq : quietOk ops m = true) (h : AQ P ops (ops.toList.drop m) H n K (ops.toList.take m) env) : AW P (.region rid ops true) ⟨env, H, n⟩ K := aw_drawG (s := ⟨env, H, n⟩) m hm hq h

end Go.Proofs.Ythfdpaboekoncaa.Aw
