/- Aw: a region in any order, of whose operations some make or write, one z3v the other; the others only read what these leave alone. -/
import Derived.Test.YthidgpcbnieleaaAw8
namespace Go.Proofs.Ythidgpcbnieleaa.Aw
open Go
set_option linter.unusedVariables false
set_option linter.unusedSimpArgs false
variable {P : Program} {F : Fr} {H H' : List AEnt} {g g' : List (Option Nat)} {w w' : World}

def zsi (ops : Array Oper) (ls : List Nat) : Bool :=
 let l := ops.toList
 let ms := masks l []
 let n := l.length
 (List.range n).all fun i => match l[i]? with
  | none => true
  | some o =>
   (o.after.toList.all fun e => !(Region.binds .any e) || Nat.blt e.on i) &&
   (!(ls.contains i) || (List.range i).all fun j => !(ls.contains j) || (ms.getD i 0).testBit j) &&
   (List.range n).all fun k => match l[k]? with
    | none => true
    | some q => (Nat.beq i k) || (match q.dst with
     | none => true
     | some d => (o.dst != some d) && (!((o.looksAt ops).contains d) || (bif Nat.blt k i then (ms.getD i 0).testBit k else (ms.getD k 0).testBit i)))
def Pins : List Nat → List AEnt → List AEnt → Prop
 | [], _, _ => True
 | i :: r, H0, H => H[i]? = H0[i]? ∧ Pins r H0 H
theorem Pins.refl : ∀ {I : List Nat} {H : List AEnt}, Pins I H H
 | [], _ => trivial
 | _ :: _, _ => ⟨rfl, Pins.refl⟩
theorem Pins.get : ∀ {I : List Nat} {H0 H : List AEnt} {i : Nat}, Pins I H0 H → I.contains i = true → H[i]? = H0[i]?
 | [], _, _, i, _, hc => by simp at hc
 | j :: r, H0, H, i, hp, hc => by
  by_cases hij : i = j
  ·subst hij; exact hp.1
  ·refine Pins.get (I := r) hp.2 ?_
   simpa [hij] using hc
theorem Pins.at {I : List Nat} {H0 H : List AEnt} {i : Nat} {e : AEnt} (hp : Pins I H0 H) (hc : I.contains i = true) (h : H0[i]? = some e) : H[i]? = some e := (hp.get hc).trans h
inductive LStep (P : Program) (ops : Array Oper) (o : Oper) (env : List (Nat × PV)) (H : List AEnt) (n : Nat) : PV → List AEnt → Prop
 | go {x : PV} {H' : List AEnt} : o.guard = none → Op1 P o (z6o (o.looksAt ops) env) H n x H' → LStep P ops o env H n x H'
 | yes {x : PV} {H' : List AEnt} {j : Nat} {want b : Bool} {t : Nat} : o.guard = some (j, want) → (ops[j]?).bind (·.dst) = some t → get env t = some (.v (.bool b)) → (b == want) = true → Op1 P o (z6o (o.looksAt ops) env) H n x H' → LStep P ops o env H n x H'
 | no {j : Nat} {want : Bool} {v : Value} {t : Nat} : o.guard = some (j, want) → (ops[j]?).bind (·.dst) = some t → get env t = some (.v v) → noW v want = true → LStep P ops o env H n (.v undef) H
def AC (P : Program) (ops : Array Oper) (ls I : List Nat) (H0 : List AEnt) (n : Nat) (K : AExit → ASt → Prop) : Nat → List Oper → List (Nat × PV) → List AEnt → Prop
 | _, [], env, H => K .normal ⟨env, H, n⟩
 | k, o :: r, env, H => z6q o.dst n = true ∧ ∃ x H', ((ls.contains k = false ∧ H' = H ∧ ∀ H, Pins I H0 H → QStep P ops o env H n x) ∨ (ls.contains k = true ∧ Pins I H0 H' ∧ LStep P ops o env H n x H')) ∧ AC P ops ls I H0 n K (k + 1) r (zpv o.dst x env) H'
section
variable {ops : Array Oper} {ls I : List Nat} {H0 : List AEnt} {n k : Nat} {K : AExit → ASt → Prop} {o : Oper} {r : List Oper} {env : List (Nat × PV)}
theorem z1v {x : PV} {d : Nat} (hl : ls.contains k = false) (hg : o.guard = none) (hd : o.dst = some d) (hn : Nat.blt d n = true) (h1 : ∀ H, Pins I H0 H → Op1 P o (z6o (o.looksAt ops) env) H n x H) (h : AC P ops ls I H0 n K (k + 1) r ((d, x) :: env) H) : AC P ops ls I H0 n K k (o :: r) env H :=
 ⟨by rw [hd]; exact hn, x, H, .inl ⟨hl, rfl, fun H hp => .go hg (h1 H hp)⟩, by rw [hd]; exact h⟩
theorem z8b {x : PV} {j : Nat} {want b : Bool} {t d : Nat} (hl : ls.contains k = false) (hg : o.guard = some (j, want)) (ht : (ops[j]?).bind (·.dst) = some t) (hb : get env t = some (.v (.bool b))) (hw : (b == want) = true) (hd : o.dst = some d) (hn : Nat.blt d n = true)
 (h1 : ∀ H, Pins I H0 H → Op1 P o (z6o (o.looksAt ops) env) H n x H) (h : AC P ops ls I H0 n K (k + 1) r ((d, x) :: env) H) : AC P ops ls I H0 n K k (o :: r) env H := ⟨by rw [hd]; exact hn, x, H, .inl ⟨hl, rfl, fun H hp => .yes hg ht hb hw (h1 H hp)⟩, by rw [hd]; exact h⟩
theorem Z5e {j : Nat} {want : Bool} {v : Value} {t d : Nat} (hl : ls.contains k = false) (hg : o.guard = some (j, want)) (ht : (ops[j]?).bind (·.dst) = some t) (hb : get env t = some (.v v)) (hw : noW v want = true) (hd : o.dst = some d) (hn : Nat.blt d n = true)
 (h : AC P ops ls I H0 n K (k + 1) r ((d, .v undef) :: env) H) : AC P ops ls I H0 n K k (o :: r) env H := ⟨by rw [hd]; exact hn, _, H, .inl ⟨hl, rfl, fun H hp => .no hg ht hb hw⟩, by rw [hd]; exact h⟩
theorem z9y {x : PV} {H' : List AEnt} {d : Nat} (hl : ls.contains k = true) (hg : o.guard = none) (hd : o.dst = some d) (hn : Nat.blt d n = true) (h1 : Op1 P o (z6o (o.looksAt ops) env) H n x H') (hp : Pins I H0 H') (h : AC P ops ls I H0 n K (k + 1) r ((d, x) :: env) H') : AC P ops ls I H0 n K k (o :: r) env H :=
 ⟨by rw [hd]; exact hn, x, H', .inr ⟨hl, hp, .go hg h1⟩, by rw [hd]; exact h⟩
theorem zko {x : PV} {H' : List AEnt} (hl : ls.contains k = true) (hg : o.guard = none) (hd : o.dst = none) (h1 : Op1 P o (z6o (o.looksAt ops) env) H n x H') (hp : Pins I H0 H') (h : AC P ops ls I H0 n K (k + 1) r env H') : AC P ops ls I H0 n K k (o :: r) env H :=
 ⟨by rw [hd]; rfl, x, H', .inr ⟨hl, hp, .go hg h1⟩, by rw [hd]; exact h⟩
theorem z23 (h : K .normal ⟨env, H, n⟩) : AC P ops ls I H0 n K k [] env H := h
theorem z7z (t : Nat) {b : Bool} (hb : get env t = some (.v (.bool b))) (ht : b = true → AC P ops ls I H0 n K k r (zzu t (.v (.bool true)) env) H) (hf : b = false → AC P ops ls I H0 n K k r (zzu t (.v (.bool false)) env) H) : AC P ops ls I H0 n K k r env H := by
 cases b with
 | true => have := ht rfl; rwa [zc6 hb] at this
 | false => have := hf rfl; rwa [zc6 hb] at this
end
def rk (ls : List Nat) : Nat → Nat → Nat
 | _, 0 => 0
 | k, j + 1 => (ls.contains k).toNat + rk ls (k + 1) j
theorem zoy {ls : List Nat} : ∀ {k j : Nat}, rk ls k (j + 1) = rk ls k j + (ls.contains (k + j)).toNat
 | k, 0 => by simp [rk]
 | k, j + 1 => by
  have := zoy (ls := ls) (k := k + 1) (j := j)
  have e : k + 1 + j = k + (j + 1) := by omega
  rw [e] at this
  rw [rk, this, rk]; omega
def cnt (L : Nat → Bool) : Nat → Nat
 | 0 => 0
 | n + 1 => cnt L n + (L n).toNat
theorem z5y {L L' : Nat → Bool} : ∀ {n : Nat}, (∀ k, k < n → L k = L' k) → cnt L n = cnt L' n
 | 0, _ => rfl
 | n + 1, h => by rw [cnt, cnt, z5y (n := n) (fun k hk => h k (by omega)), h n (by omega)]
theorem zl5 {ls : List Nat} : ∀ {j : Nat}, rk ls 0 j = cnt (fun k => ls.contains k) j
 | 0 => rfl
 | j + 1 => by rw [zoy, zl5, cnt]; simp
theorem zm4 {L : Nat → Bool} : ∀ {n : Nat}, (∀ k, k < n → L k = false) → cnt L n = 0
 | 0, _ => rfl
 | n + 1, h => by rw [cnt, zm4 (n := n) (fun k hk => h k (by omega)), h n (by omega)]; rfl
theorem zsg {L : Nat → Bool} {j : Nat} : ∀ {n : Nat}, j ≤ n → cnt (fun k => L k && decide (k < j)) n = cnt L j
  | n, h => by
    induction n with
    | zero => have : j = 0 := by omega
              subst this; rfl
    | succ n ih =>
      rcases Nat.lt_or_ge n j with hlt | hge
      · have : j = n + 1 := by omega
        subst this
        exact z5y (fun k hk => by simp; omega)
      · rw [cnt, ih hge]
        have : ¬ n < j := by omega
        simp [this]
theorem zsf {L L' : Nat → Bool} {j : Nat} : ∀ {n : Nat}, j < n → L j = false → L' j = true → (∀ k, k ≠ j → L' k = L k) → cnt L' n = cnt L n + 1
 | 0, h, _, _, _ => by omega
 | n + 1, h, h1, h2, h3 => by
  rcases Nat.lt_or_ge j n with hlt | hge
  ·rw [cnt, cnt, zsf hlt h1 h2 h3, h3 n (by omega)]; omega
  ·have : j = n := by omega
   subst this
   rw [cnt, cnt, h1, h2, z5y (n := j) (fun k hk => h3 k (by omega))]; rfl
theorem zfa {ops : Array Oper} {ls I : List Nat} {H0 : List AEnt} {n : Nat} {K : AExit → ASt → Prop} : ∀ {l : List Oper} {k : Nat} {env : List (Nat × PV)} {H : List AEnt}, AC P ops ls I H0 n K k l env H → Pins I H0 H →
 ∃ (xs : List PV) (Hs : Nat → List AEnt), xs.length = l.length ∧ Hs 0 = H ∧ (∀ c, c ≤ rk ls k l.length → Pins I H0 (Hs c)) ∧
  (∀ (j : Nat) (o : Oper), l[j]? = some o → z6q o.dst n = true ∧ ∃ x, xs[j]? = some x ∧
   ((ls.contains (k + j) = false ∧ ∀ H, Pins I H0 H → QStep P ops o (ze1 l xs env j) H n x) ∨ (ls.contains (k + j) = true ∧ LStep P ops o (ze1 l xs env j) (Hs (rk ls k j)) n x (Hs (rk ls k j + 1))))) ∧
  K .normal ⟨ze1 l xs env l.length, Hs (rk ls k l.length), n⟩
 | [], k, env, H, h, hp => ⟨[], fun _ => H, rfl, rfl, fun _ _ => hp, by simp, h⟩
 | o :: r, k, env, H, ⟨hd, x, H', hs, h2⟩, hp => by
  have hp' : Pins I H0 H' := by
   rcases hs with ⟨_, rfl, _⟩ | ⟨_, h, _⟩
   ·exact hp
   ·exact h
  obtain ⟨xs, Hs, h3, h4, h5, h6, h7⟩ := zfa h2 hp'
  rcases hs with ⟨hq, rfl, hs⟩ | ⟨hq, _, hs⟩
  ·have hrk : ∀ j, rk ls k (j + 1) = rk ls (k + 1) j := fun j => by simp only [rk, hq, Bool.toNat_false, Nat.zero_add]
   refine ⟨x :: xs, Hs, by simp [h3], h4, fun c hc => h5 c (by rw [List.length_cons, hrk] at hc; exact hc), fun j q hj => ?_, ?_⟩
   ·cases j with
    | zero => simp at hj; subst hj; exact ⟨hd, x, rfl, .inl ⟨hq, hs⟩⟩
    | succ j =>
     have := h6 j q (by simpa using hj)
     have e : k + 1 + j = k + (j + 1) := by omega
     rw [e] at this
     rw [hrk]
     exact this
   ·rw [List.length_cons, hrk]; exact h7
  ·have hrk : ∀ j, rk ls k (j + 1) = rk ls (k + 1) j + 1 := fun j => by simp only [rk, hq, Bool.toNat_true]; omega
   refine ⟨x :: xs, fun c => match c with | 0 => H | c + 1 => Hs c, by simp [h3], rfl, fun c hc => ?_, fun j q hj => ?_, ?_⟩
   ·cases c with
    | zero => exact hp
    | succ c => exact h5 c (by rw [List.length_cons, hrk] at hc; omega)
   ·cases j with
    | zero => simp at hj; subst hj; exact ⟨hd, x, rfl, .inr ⟨hq, by rw [← h4] at hs; exact hs⟩⟩
    | succ j =>
     have := h6 j q (by simpa using hj)
     have e : k + 1 + j = k + (j + 1) := by omega
     rw [e] at this
     rw [hrk]
     exact this
   ·show K .normal ⟨ze1 (o :: r) (x :: xs) env (r.length + 1), _, n⟩
    rw [List.length_cons, hrk]
    exact h7

end Go.Proofs.Ythidgpcbnieleaa.Aw
