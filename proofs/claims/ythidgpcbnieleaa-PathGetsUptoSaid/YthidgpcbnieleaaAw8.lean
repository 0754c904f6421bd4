/- Aw: a region whose operations Go may carry out in more than one order: where all but a tail only read, every order comes to the same. -/
import Derived.Test.YthidgpcbnieleaaAw7
namespace Go.Proofs.Ythidgpcbnieleaa.Aw
open Go
set_option linter.unusedVariables false
set_option linter.unusedSimpArgs false
variable {P : Program} {F : Fr} {H H' : List AEnt} {g g' : List (Option Nat)} {w w' : World}

def Z10 (acc : List Nat) (o : Oper) : Nat := o.after.toList.foldl (fun s e => bif Region.binds .any e then s ||| 2 ^ e.on ||| acc.getD e.on 0 else s) 0
def masks : List Oper → List Nat → List Nat
 | [], acc => acc
 | o :: r, acc => masks r (acc ++ [Z10 acc o])
theorem zrh {acc : List Nat} {es : List Edge} {k : Nat} : ∀ {s : Nat}, (es.foldl (fun s e => bif Region.binds .any e then s ||| 2 ^ e.on ||| acc.getD e.on 0 else s) s).testBit k = true →
 s.testBit k = true ∨ ∃ e, e ∈ es ∧ Region.binds .any e = true ∧ (k = e.on ∨ (acc.getD e.on 0).testBit k = true) := by
 induction es with
 | nil => intro s h; exact .inl h
 | cons e r ih =>
  intro s h
  rw [List.foldl_cons] at h
  rcases ih h with h | ⟨e', h1, h2⟩
  ·cases hb : Region.binds .any e with
   | false => rw [hb] at h; exact .inl h
   | true =>
    rw [hb] at h
    simp only [cond_true, Nat.testBit_or, Bool.or_eq_true, Nat.testBit_two_pow, decide_eq_true_eq] at h
    rcases h with (h | h) | h
    ·exact .inl h
    ·exact .inr ⟨e, by simp, hb, .inl h.symm⟩
    ·exact .inr ⟨e, by simp, hb, .inr h⟩
  ·exact .inr ⟨e', by simp [h1], h2⟩
theorem z8k {L : Nat → Prop} {all : List Oper} (hL : ∀ k, L k → ∀ o, all[k]? = some o → ∀ e, e ∈ o.after.toList → Region.binds .any e = true → L e.on) :
 ∀ (l pre : List Oper) (acc : List Nat), all = pre ++ l → acc.length = pre.length →
  (∀ i o, pre[i]? = some o → (∀ e, e ∈ o.after.toList → Region.binds .any e = true → L e.on) → ∀ k, (acc.getD i 0).testBit k = true → L k) →
  ∀ i o, all[i]? = some o → (∀ e, e ∈ o.after.toList → Region.binds .any e = true → L e.on) → ∀ k, ((masks l acc).getD i 0).testBit k = true → L k
 | [], pre, acc, ha, hl, h, i, o, hi, he, k, hk => by
  rw [ha, List.append_nil] at hi
  exact h i o hi he k hk
 | x :: r, pre, acc, ha, hl, h, i, o, hi, he, k, hk => by
  refine z8k hL r (pre ++ [x]) (acc ++ [Z10 acc x]) (by simp [ha]) (by simp [hl]) ?_ i o hi he k (by simpa [masks] using hk)
  intro j y hy hye q hq
  rcases z6p hy with hy | ⟨rfl, rfl⟩
  ·have hlt := z0a hy
   rw [List.getD_eq_getElem?_getD, List.getElem?_append_left (by omega), ← List.getD_eq_getElem?_getD] at hq
   exact h j y hy hye q hq
  ·rw [← hl, List.getD_eq_getElem?_getD, List.getElem?_append_right (by omega)] at hq
   simp at hq
   rcases zrh hq with hq | ⟨e, h1, h2, h3⟩
   ·simp at hq
   ·rcases h3 with rfl | h3
    ·exact hye e h1 h2
    ·have hLe := hye e h1 h2
     have hlt : e.on < pre.length := by
      rcases Nat.lt_or_ge e.on acc.length with hlt | hge
      ·omega
      ·rw [List.getD_eq_getElem?_getD, List.getElem?_eq_none hge] at h3; simp at h3
     have hpe : pre[e.on]? = some pre[e.on] := List.getElem?_eq_getElem hlt
     have hae : all[e.on]? = some pre[e.on] := by rw [ha, List.getElem?_append_left hlt]; exact hpe
     exact h e.on _ hpe (hL e.on hLe _ hae) q h3

def zjq (ops : Array Oper) (m : Nat) : Bool :=
 let l := ops.toList
 let ms := masks l []
 let n := l.length
 Nat.ble m n &&
 (List.range n).all fun i => match l[i]? with
  | none => true
  | some o =>
   (o.after.toList.all fun e => !(Region.binds .any e) || Nat.blt e.on i) &&
   (Nat.blt i m || (List.range i).all fun j => (ms.getD i 0).testBit j) &&
   (List.range n).all fun k => match l[k]? with
    | none => true
    | some q => (Nat.beq i k) || (match q.dst with
     | none => true
     | some d => (o.dst != some d) && (!(Nat.blt i m) || !((o.looksAt ops).contains d) || (bif Nat.blt k i then (ms.getD i 0).testBit k else (ms.getD k 0).testBit i)))

def z6o (ts : List Nat) : List (Nat × PV) → List (Nat × PV)
 | [] => []
 | (k, x) :: r => bif ts.contains k then (k, x) :: z6o ts r else z6o ts r
theorem z9p {ts : List Nat} {t : Nat} {x : PV} : ∀ {env : List (Nat × PV)}, get (z6o ts env) t = some x → t ∈ ts ∧ get env t = some x
 | [], h => by cases h
 | (k, y) :: r, h => by
  simp only [z6o] at h
  cases hc : ts.contains k with
  | true =>
   rw [hc] at h
   simp only [cond_true, get] at h ⊢
   cases hb : Nat.beq k t with
   | true =>
    have := beq_iff'.1 hb; subst this
    rw [hb] at h
    exact ⟨by simpa using hc, h⟩
   | false => rw [hb] at h; exact z9p h
  | false =>
   rw [hc] at h
   obtain ⟨h1, h2⟩ := z9p h
   refine ⟨h1, ?_⟩
   simp only [get]
   have : Nat.beq k t = false := by
    cases hb : Nat.beq k t with
    | false => rfl
    | true =>
     have := beq_iff'.1 hb; subst this
     rw [List.contains_iff_mem.2 h1] at hc; cases hc
   rw [this]; exact h2
inductive QStep (P : Program) (ops : Array Oper) (o : Oper) (env : List (Nat × PV)) (H : List AEnt) (n : Nat) : PV → Prop
 | go {x : PV} : o.guard = none → Op1 P o (z6o (o.looksAt ops) env) H n x H → QStep P ops o env H n x
 | yes {x : PV} {j : Nat} {want b : Bool} {t : Nat} : o.guard = some (j, want) → (ops[j]?).bind (·.dst) = some t → get env t = some (.v (.bool b)) → (b == want) = true → Op1 P o (z6o (o.looksAt ops) env) H n x H → QStep P ops o env H n x
 | no {j : Nat} {want : Bool} {v : Value} {t : Nat} : o.guard = some (j, want) → (ops[j]?).bind (·.dst) = some t → get env t = some (.v v) → noW v want = true → QStep P ops o env H n (.v undef)
section
variable {ops : Array Oper} {suf : List Oper} {n : Nat} {K : AExit → ASt → Prop} {o : Oper} {r : List Oper} {env : List (Nat × PV)}
end

def ze1 : List Oper → List PV → List (Nat × PV) → Nat → List (Nat × PV)
 | o :: r, x :: xs, env, j + 1 => ze1 r xs (zpv o.dst x env) j
 | _, _, env, _ => env
theorem z9s : ∀ {l : List Oper} {xs : List PV} {env : List (Nat × PV)}, xs.length = l.length → (∀ (i j : Nat) (o q : Oper) (d : Nat), l[i]? = some o → l[j]? = some q → o.dst = some d → q.dst = some d → i = j) → ∀ (j t : Nat), j ≤ l.length →
 (∀ (k : Nat) (o : Oper) (x : PV), k < j → l[k]? = some o → o.dst = some t → xs[k]? = some x → get (ze1 l xs env j) t = some x) ∧
 ((∀ (k : Nat) (o : Oper), k < j → l[k]? = some o → o.dst ≠ some t) → get (ze1 l xs env j) t = get env t)
 | [], xs, env, hl, hd, j, t, hj => by simp [ze1]
 | o :: r, [], env, hl, hd, j, t, hj => by simp at hl
 | o :: r, x :: xs, env, hl, hd, 0, t, hj => by simp [ze1]
 | o :: r, x :: xs, env, hl, hd, j + 1, t, hj => by
  have ih := z9s (l := r) (xs := xs) (env := zpv o.dst x env) (by simpa using hl) (fun a b p q d h1 h2 h3 h4 => by have := hd (a + 1) (b + 1) p q d (by simpa using h1) (by simpa using h2) h3 h4; omega) j t (by simpa using hj)
  simp only [ze1]
  refine ⟨fun k q y hk hq hqd hy => ?_, fun hno => ?_⟩
  ·cases k with
   | zero =>
    simp at hq hy; subst hq; subst hy
    rw [ih.2 (fun k q' hk hq' hd' => by have := hd 0 (k + 1) o q' t (by simp) (by simpa using hq') hqd hd'; omega)]
    simp [zpv, hqd, get]
   | succ k => exact ih.1 k q y (by omega) (by simpa using hq) hqd (by simpa using hy)
  ·rw [ih.2 (fun k q hk hq => hno (k + 1) q (by omega) (by simpa using hq))]
   have h0 := hno 0 o (by omega) rfl
   cases hd0 : o.dst with
   | none => rfl
   | some d =>
    simp only [zpv, get]
    have : Nat.beq d t = false := by
     cases hb : Nat.beq d t with
     | false => rfl
     | true => exact absurd (by rw [hd0, beq_iff'.1 hb]) h0
    rw [this]; rfl

theorem zj4 {p q : Nat → Bool} : ∀ {l : List Nat}, (∀ x, q x = true → p x = true) → (∃ x, x ∈ l ∧ p x = true ∧ q x = false) → (l.filter q).length < (l.filter p).length
 | [], _, ⟨x, hx, _⟩ => by cases hx
 | y :: r, hqp, hex => by
  have hle : ∀ l : List Nat, (l.filter q).length ≤ (l.filter p).length := by
   intro l
   induction l with
   | nil => simp
   | cons z r ih =>
    simp only [List.filter_cons]
    cases hq : q z with
    | true => rw [hqp z hq]; simpa using ih
    | false => cases hp : p z <;> simp <;> omega
  obtain ⟨x, hx, h1, h2⟩ := hex
  simp only [List.filter_cons]
  rcases List.mem_cons.1 hx with rfl | hx
  ·rw [h1, h2]; have := hle r; simp; omega
  ·have ih := zj4 (l := r) hqp ⟨x, hx, h1, h2⟩
   cases hq : q y with
   | true => rw [hqp y hq]; simpa using ih
   | false => cases hp : p y <;> simp <;> omega
def left (ops : Array Oper) (listed : Array Bool) : Nat := ((List.range ops.size).filter fun j => !(listed.getD j false)).length
theorem zg5 {ops : Array Oper} {listed : Array Bool} {i : Nat} (hs : listed.size = ops.size) (hi : i < ops.size) (hu : listed.getD i false = false) : left ops (listed.setIfInBounds i true) < left ops listed := by
 refine zj4 (fun x hx => ?_) ⟨i, List.mem_range.2 hi, by simpa using hu, ?_⟩
 ·by_cases hix : i = x
  ·subst hix; simpa using hu
  ·rw [getD_set_ne false hix] at hx; exact hx
 ·have : i < listed.size := by rw [hs]; exact hi
  simp [this]
theorem zdd {ops : Array Oper} {listed : Array Bool} (h : left ops listed = 0) (j : Nat) (hj : j < ops.size) : listed.getD j false = true := by
 have h1 := List.eq_nil_of_length_eq_zero h
 cases hc : listed.getD j false with
 | true => rfl
 | false =>
  have : j ∈ (List.range ops.size).filter fun j => !(listed.getD j false) := List.mem_filter.2 ⟨List.mem_range.2 hj, by rw [hc]; rfl⟩
  rw [h1] at this; cases this
theorem z8o {listed : Array Bool} {i : Nat} {ops : Array Oper} (hs : listed.size = ops.size) (hi : i < ops.size) : listed.getD i true = listed.getD i false := by
 have : i < listed.size := by rw [hs]; exact hi
 simp [this]
def z8c (ops : Array Oper) (fs : Array Bool) : Prop := ∀ k, fs.getD k false = true → ∀ o, ops[k]? = some o → ∀ e, e ∈ o.after.toList → Region.binds .any e = true → fs.getD e.on false = true

theorem za4 {ops : Array Oper} {Q : Exit → Act → World → Prop} {m : Nat} (hedge : ∀ k o, ops[k]? = some o → ∀ e, e ∈ o.after.toList → Region.binds .any e = true → e.on < k)
 (hord : ∀ fs : Array Bool, fs.size = ops.size → z8c ops fs → ∀ k, m ≤ k → k < ops.size → k ∈ Region.ready .any ops fs → ∀ j, j < k → fs.getD j false = true) :
 ∀ (l : List Oper) (i : Nat), m ≤ i → (∀ j, l[j]? = ops[i + j]?) → ∀ a w, wpList P ops Q l a w → ∀ fuel listed, listed.size = ops.size → (∀ j, j < ops.size → (listed.getD j false = true ↔ j < i)) → i ≤ ops.size → left ops listed ≤ fuel → wpAny P .any ops Q fuel listed a w
 | l, i, hmi, hl, a, w, h, fuel, listed, hsz, hls, hi, hf => by
  have hclosed : z8c ops listed := fun k hk o ho e he hb => by
   have hks := z1e ho
   have h1 := (hls k hks).1 hk
   have h2 := hedge k o ho e he hb
   exact (hls e.on (by omega)).2 (by omega)
  match l, hl with
  | [], hl =>
   have hie : i = ops.size := by
    rcases Nat.lt_or_ge i ops.size with hlt | hge
    ·have := hl 0; rw [Nat.add_zero, Array.getElem?_eq_getElem hlt] at this; cases this
    ·omega
   refine wpAny_done ?_ h fuel
   apply List.eq_nil_iff_forall_not_mem.2
   intro j hj
   obtain ⟨h1, o, ho, _⟩ := mem_ready.1 hj
   have hjs := z1e ho
   rw [z8o hsz hjs, (hls j hjs).2 (by omega)] at h1; cases h1
  | x :: r, hl =>
   have hx : ops[i]? = some x := by have := hl 0; simpa using this.symm
   have hil := z1e hx
   have hui : listed.getD i false = false := by
    cases hc : listed.getD i false with
    | false => rfl
    | true => have := (hls i hil).1 hc; omega
   match fuel, hf with
   | 0, hf => have := zdd (Nat.le_zero.1 hf) i hil; rw [hui] at this; cases this
   | fuel + 1, hf =>
    have hmem : ∀ k, k ∈ Region.ready .any ops listed → k = i := by
     intro k hk
     obtain ⟨h1, o, ho, h2⟩ := mem_ready.1 hk
     have hks := z1e ho
     rw [z8o hsz hks] at h1
     have hge : ¬ k < i := fun hlt => by rw [(hls k hks).2 hlt] at h1; cases h1
     rcases Nat.lt_or_ge i k with hlt | hge'
     ·have := hord listed hsz hclosed k (by omega) hks hk i hlt
      rw [hui] at this; cases this
     ·omega
    have himem : i ∈ Region.ready .any ops listed := by
     refine mem_ready.2 ⟨by rw [z8o hsz hil]; exact hui, x, hx, fun e he hb => ?_⟩
     have hlt := hedge i x hx e (by simpa using he) hb
     exact (hls e.on (by omega)).2 hlt
    refine ⟨fun h0 => (by rw [h0] at himem; cases himem), fun k hk => ?_⟩
    have hki := hmem k hk
    subst hki
    unfold wpOp
    rw [hx]
    simp only []
    unfold wpList at h
    have next : ∀ a w, wpList P ops Q r a w → wpAny P .any ops Q fuel (listed.setIfInBounds k true) a w := fun a w hr =>
     za4 hedge hord r (k + 1) (by omega) (fun j => by have := hl (j + 1); simpa [Nat.add_assoc, Nat.add_comm 1 j] using this) a w hr fuel _ (by simp [hsz]) (fun j hj => by
      by_cases hjk : k = j
      ·subst hjk
       have : k < listed.size := by rw [hsz]; exact hil
       simp [this]
      ·rw [getD_set_ne false hjk, hls j hj]; omega) (by omega) (by have := zg5 hsz hil hui; omega)
    split
    ·rename_i hw
     rw [if_pos hw] at h
     exact h.imp (Oper.wp_mono next) id
    ·rename_i hw
     rw [if_neg hw] at h
     exact next _ _ h

end Go.Proofs.Ythidgpcbnieleaa.Aw
