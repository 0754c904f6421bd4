/- Aw: a region in any order, of whose operations some make or write, one behind the other; the others only read what these leave alone. -/
import Derived.Test.YthfdpaboekoncaaAw8
namespace Go.Proofs.Ythfdpaboekoncaa.Aw
open Go
set_option linter.unusedVariables false
set_option linter.unusedSimpArgs false
variable {P : Program} {F : Fr} {H H' : List AEnt} {g g' : List (Option Nat)} {w w' : World}

def chainOk (ops : Array Oper) (ls : List Nat) : Bool :=
  let l := ops.toList
  let ms := masks l []
  let n := l.length
  (List.range n).all fun i => match l[i]? with
    | none => true
    | some o =>
      (o.after.toList.all fun e => !(Region.binds .any e) || Nat.blt e.on i) &&
      (!(ls.contains i) || (List.range i).all fun j => !(ls.contains j) || (ms.getD i 0).testBit j) &&
      (List.range n).all fun k => match l[k]? with
        | none => true
        | some q => (Nat.beq i k) || (match q.dst with
          | none => true
          | some d => (o.dst != some d) && (!((o.looksAt ops).contains d) || (bif Nat.blt k i then (ms.getD i 0).testBit k else (ms.getD k 0).testBit i)))
def Pins : List Nat → List AEnt → List AEnt → Prop
  | [], _, _ => True
  | i :: r, H0, H => H[i]? = H0[i]? ∧ Pins r H0 H
theorem Pins.refl : ∀ {I : List Nat} {H : List AEnt}, Pins I H H
  | [], _ => trivial
  | _ :: _, _ => ⟨rfl, Pins.refl⟩
theorem Pins.get : ∀ {I : List Nat} {H0 H : List AEnt} {i : Nat}, Pins I H0 H → I.contains i = true → H[i]? = H0[i]?
  | [], _, _, i, _, hc => by simp at hc
  | j :: r, H0, H, i, hp, hc => by
    by_cases hij : i = j
    · subst hij; exact hp.1
    · refine Pins.get (I := r) hp.2 ?_
      simpa [hij] using hc
theorem Pins.at {I : List Nat} {H0 H : List AEnt} {i : Nat} {e : AEnt} (hp : Pins I H0 H) (hc : I.contains i = true) (h : H0[i]? = some e) : H[i]? = some e := (hp.get hc).trans h
inductive LStep (P : Program) (ops : Array Oper) (o : Oper) (env : List (Nat × PV)) (H : List AEnt) (n : Nat) : PV → List AEnt → Prop
  | go {x : PV} {H' : List AEnt} : o.guard = none → Op1 P o (keepE (o.looksAt ops) env) H n x H' → LStep P ops o env H n x H'
  | yes {x : PV} {H' : List AEnt} {j : Nat} {want b : Bool} {t : Nat} : o.guard = some (j, want) → (ops[j]?).bind (·.dst) = some t → get env t = some (.v (.bool b)) → (b == want) = true → Op1 P o (keepE (o.looksAt ops) env) H n x H' → LStep P ops o env H n x H'
  | no {j : Nat} {want : Bool} {v : Value} {t : Nat} : o.guard = some (j, want) → (ops[j]?).bind (·.dst) = some t → get env t = some (.v v) → noW v want = true → LStep P ops o env H n (.v undef) H
def AC (P : Program) (ops : Array Oper) (ls I : List Nat) (H0 : List AEnt) (n : Nat) (K : AExit → ASt → Prop) : Nat → List Oper → List (Nat × PV) → List AEnt → Prop
  | _, [], env, H => K .normal ⟨env, H, n⟩
  | k, o :: r, env, H => dstOk o.dst n = true ∧ ∃ x H', ((ls.contains k = false ∧ H' = H ∧ ∀ H, Pins I H0 H → QStep P ops o env H n x) ∨ (ls.contains k = true ∧ Pins I H0 H' ∧ LStep P ops o env H n x H')) ∧ AC P ops ls I H0 n K (k + 1) r (putE o.dst x env) H'
section
variable {ops : Array Oper} {ls I : List Nat} {H0 : List AEnt} {n k : Nat} {K : AExit → ASt → Prop} {o : Oper} {r : List Oper} {env : List (Nat × PV)}
theorem ac_go {x : PV} {d : Nat} (hl : ls.contains k = false) (hg : o.guard = none) (hd : o.dst = some d) (hn : Nat.blt d n = true) (h1 : ∀ H, Pins I H0 H → Op1 P o (keepE (o.looksAt ops) env) H n x H) (h : AC P ops ls I H0 n K (k + 1) r ((d, x) :: env) H) : AC P ops ls I H0 n K k (o :: r) env H :=
  ⟨by rw [hd]; exact hn, x, H, .inl ⟨hl, rfl, fun H hp => .go hg (h1 H hp)⟩, by rw [hd]; exact h⟩
theorem ac_yes {x : PV} {j : Nat} {want b : Bool} {t d : Nat} (hl : ls.contains k = false) (hg : o.guard = some (j, want)) (ht : (ops[j]?).bind (·.dst) = some t) (hb : get env t = some (.v (.bool b))) (hw : (b == want) = true) (hd : o.dst = some d) (hn : Nat.blt d n = true)
    (h1 : ∀ H, Pins I H0 H → Op1 P o (keepE (o.looksAt ops) env) H n x H) (h : AC P ops ls I H0 n K (k + 1) r ((d, x) :: env) H) : AC P ops ls I H0 n K k (o :: r) env H := ⟨by rw [hd]; exact hn, x, H, .inl ⟨hl, rfl, fun H hp => .yes hg ht hb hw (h1 H hp)⟩, by rw [hd]; exact h⟩
theorem ac_no {j : Nat} {want : Bool} {v : Value} {t d : Nat} (hl : ls.contains k = false) (hg : o.guard = some (j, want)) (ht : (ops[j]?).bind (·.dst) = some t) (hb : get env t = some (.v v)) (hw : noW v want = true) (hd : o.dst = some d) (hn : Nat.blt d n = true)
    (h : AC P ops ls I H0 n K (k + 1) r ((d, .v undef) :: env) H) : AC P ops ls I H0 n K k (o :: r) env H := ⟨by rw [hd]; exact hn, _, H, .inl ⟨hl, rfl, fun H hp => .no hg ht hb hw⟩, by rw [hd]; exact h⟩
theorem ac_lgo {x : PV} {H' : List AEnt} {d : Nat} (hl : ls.contains k = true) (hg : o.guard = none) (hd : o.dst = some d) (hn : Nat.blt d n = true) (h1 : Op1 P o (keepE (o.looksAt ops) env) H n x H') (hp : Pins I H0 H') (h : AC P ops ls I H0 n K (k + 1) r ((d, x) :: env) H') : AC P ops ls I H0 n K k (o :: r) env H :=
  ⟨by rw [hd]; exact hn, x, H', .inr ⟨hl, hp, .go hg h1⟩, by rw [hd]; exact h⟩
theorem ac_lyes {x : PV} {H' : List AEnt} {j : Nat} {want b : Bool} {t d : Nat} (hl : ls.contains k = true) (hg : o.guard = some (j, want)) (ht : (ops[j]?).bind (·.dst) = some t) (hb : get env t = some (.v (.bool b))) (hw : (b == want) = true) (hd : o.dst = some d) (hn : Nat.blt d n = true)
    (h1 : Op1 P o (keepE (o.looksAt ops) env) H n x H') (hp : Pins I H0 H') (h : AC P ops ls I H0 n K (k + 1) r ((d, x) :: env) H') : AC P ops ls I H0 n K k (o :: r) env H := ⟨by rw [hd]; exact hn, x, H', .inr ⟨hl, hp, .yes hg ht hb hw h1⟩, by rw [hd]; exact h⟩
theorem ac_lno {j : Nat} {want : Bool} {v : Value} {t d : Nat} (hl : ls.contains k = true) (hg : o.guard = some (j, want)) (ht : (ops[j]?).bind (·.dst) = some t) (hb : get env t = some (.v v)) (hw : noW v want = true) (hd : o.dst = some d) (hn : Nat.blt d n = true) (hp : Pins I H0 H)
    (h : AC P ops ls I H0 n K (k + 1) r ((d, .v undef) :: env) H) : AC P ops ls I H0 n K k (o :: r) env H := ⟨by rw [hd]; exact hn, _, H, .inr ⟨hl, hp, .no hg ht hb hw⟩, by rw [hd]; exact h⟩
theorem ac_lgo0 {x : PV} {H' : List AEnt} (hl : ls.contains k = true) (hg : o.guard = none) (hd : o.dst = none) (h1 : Op1 P o (keepE (o.looksAt ops) env) H n x H') (hp : Pins I H0 H') (h : AC P ops ls I H0 n K (k + 1) r env H') : AC P ops ls I H0 n K k (o :: r) env H :=
  ⟨by rw [hd]; rfl, x, H', .inr ⟨hl, hp, .go hg h1⟩, by rw [hd]; exact h⟩
theorem ac_lyes0 {x : PV} {H' : List AEnt} {j : Nat} {want b : Bool} {t : Nat} (hl : ls.contains k = true) (hg : o.guard = some (j, want)) (ht : (ops[j]?).bind (·.dst) = some t) (hb : get env t = some (.v (.bool b))) (hw : (b == want) = true) (hd : o.dst = none)
    (h1 : Op1 P o (keepE (o.looksAt ops) env) H n x H') (hp : Pins I H0 H') (h : AC P ops ls I H0 n K (k + 1) r env H') : AC P ops ls I H0 n K k (o :: r) env H := ⟨by rw [hd]; rfl, x, H', .inr ⟨hl, hp, .yes hg ht hb hw h1⟩, by rw [hd]; exact h⟩
theorem ac_lno0 {j : Nat} {want : Bool} {v : Value} {t : Nat} (hl : ls.contains k = true) (hg : o.guard = some (j, want)) (ht : (ops[j]?).bind (·.dst) = some t) (hb : get env t = some (.v v)) (hw : noW v want = true) (hd : o.dst = none) (hp : Pins I H0 H)
    (h : AC P ops ls I H0 n K (k + 1) r env H) : AC P ops ls I H0 n K k (o :: r) env H := ⟨by rw [hd]; rfl, .v undef, H, .inr ⟨hl, hp, .no hg ht hb hw⟩, by rw [hd]; exact h⟩
theorem ac_nil (h : K .normal ⟨env, H, n⟩) : AC P ops ls I H0 n K k [] env H := h
theorem ac_cases (t : Nat) {b : Bool} (hb : get env t = some (.v (.bool b))) (ht : b = true → AC P ops ls I H0 n K k r (setE t (.v (.bool true)) env) H) (hf : b = false → AC P ops ls I H0 n K k r (setE t (.v (.bool false)) env) H) : AC P ops ls I H0 n K k r env H := by
  cases b with
  | true => have := ht rfl; rwa [setE_same hb] at this
  | false => have := hf rfl; rwa [setE_same hb] at this
end
def rk (ls : List Nat) : Nat → Nat → Nat
  | _, 0 => 0
  | k, j + 1 => (ls.contains k).toNat + rk ls (k + 1) j
theorem rk_last {ls : List Nat} : ∀ {k j : Nat}, rk ls k (j + 1) = rk ls k j + (ls.contains (k + j)).toNat
  | k, 0 => by simp [rk]
  | k, j + 1 => by
    have := rk_last (ls := ls) (k := k + 1) (j := j)
    have e : k + 1 + j = k + (j + 1) := by omega
    rw [e] at this
    rw [rk, this, rk]; omega
def cnt (L : Nat → Bool) : Nat → Nat
  | 0 => 0
  | n + 1 => cnt L n + (L n).toNat
theorem cnt_congr {L L' : Nat → Bool} : ∀ {n : Nat}, (∀ k, k < n → L k = L' k) → cnt L n = cnt L' n
  | 0, _ => rfl
  | n + 1, h => by rw [cnt, cnt, cnt_congr (n := n) (fun k hk => h k (by omega)), h n (by omega)]
theorem rk_cnt {ls : List Nat} : ∀ {j : Nat}, rk ls 0 j = cnt (fun k => ls.contains k) j
  | 0 => rfl
  | j + 1 => by rw [rk_last, rk_cnt, cnt]; simp
theorem cnt_zero {L : Nat → Bool} : ∀ {n : Nat}, (∀ k, k < n → L k = false) → cnt L n = 0
  | 0, _ => rfl
  | n + 1, h => by rw [cnt, cnt_zero (n := n) (fun k hk => h k (by omega)), h n (by omega)]; rfl
theorem cnt_below {L : Nat → Bool} {j : Nat} : ∀ {n : Nat}, j ≤ n → cnt (fun k => L k && decide (k < j)) n = cnt L j
  | n, h => by
    induction n with
    | zero => have : j = 0 := by omega
              subst this; rfl
    | succ n ih =>
      rcases Nat.lt_or_ge n j with hlt | hge
      · have : j = n + 1 := by omega
        subst this
        exact cnt_congr (fun k hk => by simp; omega)
      · rw [cnt, ih hge]
        have : ¬ n < j := by omega
        simp [this]
theorem cnt_set {L L' : Nat → Bool} {j : Nat} : ∀ {n : Nat}, j < n → L j = false → L' j = true → (∀ k, k ≠ j → L' k = L k) → cnt L' n = cnt L n + 1
  | 0, h, _, _, _ => by omega
  | n + 1, h, h1, h2, h3 => by
    rcases Nat.lt_or_ge j n with hlt | hge
    · rw [cnt, cnt, cnt_set hlt h1 h2 h3, h3 n (by omega)]; omega
    · have : j = n := by omega
      subst this
      rw [cnt, cnt, h1, h2, cnt_congr (n := j) (fun k hk => h3 k (by omega))]; rfl
theorem ac_extract {ops : Array Oper} {ls I : List Nat} {H0 : List AEnt} {n : Nat} {K : AExit → ASt → Prop} : ∀ {l : List Oper} {k : Nat} {env : List (Nat × PV)} {H : List AEnt}, AC P ops ls I H0 n K k l env H → Pins I H0 H →
    ∃ (xs : List PV) (Hs : Nat → List AEnt), xs.length = l.length ∧ Hs 0 = H ∧ (∀ c, c ≤ rk ls k l.length → Pins I H0 (Hs c)) ∧
      (∀ (j : Nat) (o : Oper), l[j]? = some o → dstOk o.dst n = true ∧ ∃ x, xs[j]? = some x ∧
        ((ls.contains (k + j) = false ∧ ∀ H, Pins I H0 H → QStep P ops o (envs l xs env j) H n x) ∨ (ls.contains (k + j) = true ∧ LStep P ops o (envs l xs env j) (Hs (rk ls k j)) n x (Hs (rk ls k j + 1))))) ∧
      K .normal ⟨envs l xs env l.length, Hs (rk ls k l.length), n⟩
  | [], k, env, H, h, hp => ⟨[], fun _ => H, rfl, rfl, fun _ _ => hp, by simp, h⟩
  | o :: r, k, env, H, ⟨hd, x, H', hs, h2⟩, hp => by
    have hp' : Pins I H0 H' := by
      rcases hs with ⟨_, rfl, _⟩ | ⟨_, h, _⟩
      · exact hp
      · exact h
    obtain ⟨xs, Hs, h3, h4, h5, h6, h7⟩ := ac_extract h2 hp'
    rcases hs with ⟨hq, rfl, hs⟩ | ⟨hq, _, hs⟩
    · have hrk : ∀ j, rk ls k (j + 1) = rk ls (k + 1) j := fun j => by simp only [rk, hq, Bool.toNat_false, Nat.zero_add]
      refine ⟨x :: xs, Hs, by simp [h3], h4, fun c hc => h5 c (by rw [List.length_cons, hrk] at hc; exact hc), fun j q hj => ?_, ?_⟩
      · cases j with
        | zero => simp at hj; subst hj; exact ⟨hd, x, rfl, .inl ⟨hq, hs⟩⟩
        | succ j =>
          have := h6 j q (by simpa using hj)
          have e : k + 1 + j = k + (j + 1) := by omega
          rw [e] at this
          rw [hrk]
          exact this
      · rw [List.length_cons, hrk]; exact h7
    · have hrk : ∀ j, rk ls k (j + 1) = rk ls (k + 1) j + 1 := fun j => by simp only [rk, hq, Bool.toNat_true]; omega
      refine ⟨x :: xs, fun c => match c with | 0 => H | c + 1 => Hs c, by simp [h3], rfl, fun c hc => ?_, fun j q hj => ?_, ?_⟩
      · cases c with
        | zero => exact hp
        | succ c => exact h5 c (by rw [List.length_cons, hrk] at hc; omega)
      · cases j with
        | zero => simp at hj; subst hj; exact ⟨hd, x, rfl, .inr ⟨hq, by rw [← h4] at hs; exact hs⟩⟩
        | succ j =>
          have := h6 j q (by simpa using hj)
          have e : k + 1 + j = k + (j + 1) := by omega
          rw [e] at this
          rw [hrk]
          exact this
      · show K .normal ⟨envs (o :: r) (x :: xs) env (r.length + 1), _, n⟩
        rw [List.length_cons, hrk]
        exact h7

theorem aw_chainG {rid : Nat} {ops : Array Oper} {s : ASt} {K : AExit → ASt → Prop} (ls I : List Nat) (hm : P.follows .mixedOrders = true) (hq : chainOk ops ls = true) (h : AC P ops ls I s.H s.n K 0 ops.toList s.env s.H) : AW P (.region rid ops true) s K := by
  intro F g0 a0 w0 hr0
  obtain ⟨xs, Hs, hxl, hH0, hpin, hst, hfin⟩ := ac_extract h Pins.refl
  simp only [chainOk, List.all_eq_true, List.mem_range] at hq
  have hall := hq
  simp only [Array.length_toList] at hall hxl hpin hfin
  simp only [Nat.zero_add] at hst
  have chk : ∀ (i : Nat) (o : Oper), ops[i]? = some o →
      (∀ e, e ∈ o.after.toList → Region.binds .any e = true → e.on < i) ∧ (ls.contains i = true → ∀ j, j < i → ls.contains j = true → ((masks ops.toList []).getD i 0).testBit j = true) ∧
      ∀ (k : Nat) (q : Oper) (d : Nat), ops[k]? = some q → i ≠ k → q.dst = some d → o.dst ≠ some d ∧ (d ∈ o.looksAt ops → (k < i → ((masks ops.toList []).getD i 0).testBit k = true) ∧ (¬ k < i → ((masks ops.toList []).getD k 0).testBit i = true)) := by
    intro i o hi
    have h1 := hall i (lt_of_get hi)
    have hi' : ops.toList[i]? = some o := by simpa using hi
    rw [hi'] at h1
    simp only [Bool.and_eq_true, List.all_eq_true, List.mem_range] at h1
    obtain ⟨⟨h2, h3⟩, h4⟩ := h1
    refine ⟨fun e he hb => ?_, fun hli j hj hlj => ?_, fun k q d hk hne hqd => ?_⟩
    · have := h2 e he
      rw [hb] at this
      simpa [Nat.blt_eq] using this
    · rw [hli] at h3
      simp only [Bool.not_true, Bool.false_or, List.all_eq_true, List.mem_range] at h3
      have := h3 j hj
      rw [hlj] at this
      simpa using this
    · have h5 := h4 k (lt_of_get hk)
      have hk' : ops.toList[k]? = some q := by simpa using hk
      rw [hk'] at h5
      simp only [hqd, Bool.or_eq_true, Bool.and_eq_true] at h5
      rcases h5 with h5 | ⟨h5, h6⟩
      · exact absurd (beq_iff'.1 h5) hne
      · refine ⟨by simpa using h5, fun hdm => ?_⟩
        have hdm' : (o.looksAt ops).contains d = true := by simpa using hdm
        rw [hdm'] at h6
        simp only [Bool.not_true, Bool.false_eq_true, false_or] at h6
        cases hki : Nat.blt k i with
        | true => rw [hki] at h6; simp [Nat.blt_eq] at hki; exact ⟨fun _ => by simpa using h6, fun hn => absurd hki hn⟩
        | false =>
          rw [hki] at h6
          have : ¬ k < i := fun hlt => by
            have : Nat.blt k i = true := by simpa [Nat.blt_eq] using hlt
            rw [this] at hki; cases hki
          exact ⟨fun hlt => absurd hlt this, fun _ => by simpa using h6⟩
  have hdist : ∀ (i j : Nat) (o q : Oper) (d : Nat), ops[i]? = some o → ops[j]? = some q → o.dst = some d → q.dst = some d → i = j := by
    intro i j o q d h1 h2 h3 h4
    by_cases hij : i = j
    · exact hij
    · exact absurd h3 ((chk i o h1).2.2 j q d h2 hij h4).1
  have htake : ∀ (j : Nat) (o : Oper), ops.toList[j]? = some o ↔ ops[j]? = some o := by
    intro j o
    simp
  have htl : ops.toList.length = ops.size := by simp
  have hdist' : ∀ (i j : Nat) (o q : Oper) (d : Nat), ops.toList[i]? = some o → ops.toList[j]? = some q → o.dst = some d → q.dst = some d → i = j :=
    fun i j o q d h1 h2 => hdist i j o q d ((htake i o).1 h1) ((htake j q).1 h2)
  have closed : ∀ (listed : Array Bool), Closed ops listed → ∀ i o, ops[i]? = some o → (∀ e, e ∈ o.after.toList → Region.binds .any e = true → listed.getD e.on false = true) → ∀ k, ((masks ops.toList []).getD i 0).testBit k = true → listed.getD k false = true := by
    intro listed hcl i o hi he k hk
    exact masks_sound (L := fun k => listed.getD k false = true) (all := ops.toList) (fun k hk o ho => hcl k hk o (by simpa using ho)) ops.toList [] [] rfl rfl (by simp) i o (by simpa using hi) he k hk
  have hedge : ∀ k o, ops[k]? = some o → ∀ e, e ∈ o.after.toList → Region.binds .any e = true → e.on < k := fun k o ho => (chk k o ho).1
  let C : Array Bool → Nat := fun listed => cnt (fun k => ls.contains k && listed.getD k false) ops.size
  have hCle : ∀ listed, (∀ j, j < ops.size → listed.getD j false = true) → C listed = rk ls 0 ops.size := by
    intro listed hl
    rw [rk_cnt]
    exact cnt_congr (fun k hk => by rw [hl k hk]; simp)
  refine wp_region_any hm ?_
  have donecase : ∀ (fuel : Nat) (listed : Array Bool) (a : Act) (w : World) (g : List (Option Nat)), listed.size = ops.size → Closed ops listed →
      left ops listed ≤ fuel → RelH P F (Hs (C listed)) g w → Ext P F s.H g0 w0 (Hs (C listed)) g w → a.tmps.size = s.n → a.defers = F.ds →
      (∀ (k : Nat) (o : Oper) (d : Nat) (x : PV), listed.getD k false = true → ops[k]? = some o → o.dst = some d → xs[k]? = some x → ∃ u, a.tmps[d]? = some u ∧ VR (ctx P F (Hs (C listed)) g w) x u) →
      (∀ (t : Nat) (x : PV), get s.env t = some x → (∀ (k : Nat) (o : Oper), listed.getD k false = true → ops[k]? = some o → o.dst ≠ some t) → ∃ u, a.tmps[t]? = some u ∧ VR (ctx P F (Hs (C listed)) g w) x u) →
      (∀ j, j < ops.size → listed.getD j false = true) → wpAny P .any ops (Post P F s.H g0 w0 K) fuel listed a w := by
    intro fuel listed a w g hsz hcl hcount hrel hext hts hdf hk1 hk2 hdone
    rw [hCle listed hdone] at hrel hext hk1 hk2
    have hrelE : Rel P F ⟨envs ops.toList xs s.env ops.size, Hs (rk ls 0 ops.size), s.n⟩ a w g := by
      refine ⟨hrel, fun t x hx => ?_, hts, hdf⟩
      have hg := envs_get (l := ops.toList) (xs := xs) (env := s.env) (by rw [hxl, htl]) hdist' ops.size t (by rw [htl]; exact Nat.le_refl _)
      by_cases hw : ∃ (k : Nat) (o : Oper), ops.toList[k]? = some o ∧ o.dst = some t
      · obtain ⟨k, o, h1, h2⟩ := hw
        have hkl := lt_of_getL h1
        rw [htl] at hkl
        have hxk : xs[k]? = some (xs[k]'(by rw [hxl]; exact hkl)) := List.getElem?_eq_getElem (by rw [hxl]; exact hkl)
        rw [hg.1 k o _ hkl h1 h2 hxk] at hx
        injection hx with hx; subst hx
        exact hk1 k o t _ (hdone k hkl) ((htake k o).1 h1) h2 hxk
      · rw [hg.2 (fun k o _ h1 h2 => hw ⟨k, o, h1, h2⟩)] at hx
        exact hk2 t x hx (fun k o hk ho hd => hw ⟨k, o, (htake k o).2 ho, hd⟩)
    have hlast : wpList P ops (Post P F s.H g0 w0 K) [] a w := wpList_nil ⟨.normal, _, g, trivial, hrelE, hext, hfin⟩
    refine wpOps_list (m := ops.size) hedge (fun fs _ _ k hk1 hk2 => absurd hk2 (by omega)) [] ops.size (Nat.le_refl _) (fun j => by simp) a w hlast _ listed hsz (fun j hj => ?_) (Nat.le_refl _) hcount
    exact ⟨fun _ => hj, fun _ => hdone j hj⟩
  have main : ∀ (fuel : Nat) (listed : Array Bool) (a : Act) (w : World) (g : List (Option Nat)), listed.size = ops.size → Closed ops listed →
      left ops listed ≤ fuel → RelH P F (Hs (C listed)) g w → Ext P F s.H g0 w0 (Hs (C listed)) g w → a.tmps.size = s.n → a.defers = F.ds →
      (∀ (k : Nat) (o : Oper) (d : Nat) (x : PV), listed.getD k false = true → ops[k]? = some o → o.dst = some d → xs[k]? = some x → ∃ u, a.tmps[d]? = some u ∧ VR (ctx P F (Hs (C listed)) g w) x u) →
      (∀ (t : Nat) (x : PV), get s.env t = some x → (∀ (k : Nat) (o : Oper), listed.getD k false = true → ops[k]? = some o → o.dst ≠ some t) → ∃ u, a.tmps[t]? = some u ∧ VR (ctx P F (Hs (C listed)) g w) x u) →
      wpAny P .any ops (Post P F s.H g0 w0 K) fuel listed a w := by
    intro fuel
    induction fuel with
    | zero =>
      intro listed a w g hsz hcl hcount hrel hext hts hdf hk1 hk2
      exact donecase 0 listed a w g hsz hcl hcount hrel hext hts hdf hk1 hk2 (fun j hj => left_zero (Nat.le_zero.1 hcount) j hj)
    | succ fuel ih =>
      intro listed a w g hsz hcl hcount hrel hext hts hdf hk1 hk2
      by_cases hdone : ∀ j, j < ops.size → listed.getD j false = true
      · exact donecase (fuel + 1) listed a w g hsz hcl hcount hrel hext hts hdf hk1 hk2 hdone
      · obtain ⟨j0, hj0m, hj0u⟩ : ∃ j, j < ops.size ∧ listed.getD j false = false := by
          refine Classical.byContradiction fun hc => hdone (fun j hj => ?_)
          cases hv : listed.getD j false with
          | true => rfl
          | false => exact absurd ⟨j, hj, hv⟩ hc
        refine ⟨fun h0 => ?_, fun j hj => ?_⟩
        · -- the least that is left is ready
          have key : ∀ k, k < ops.size → listed.getD k false = false → ∃ i, i ∈ Region.ready .any ops listed := by
            intro k
            induction k using Nat.strongRecOn with
            | _ k ihk =>
              intro hks hku
              by_cases hp : ∀ j, j < k → listed.getD j false = true
              · refine ⟨k, mem_ready.2 ⟨by rw [getD_tf hsz hks]; exact hku, ops[k], Array.getElem?_eq_getElem hks, fun e he hb => ?_⟩⟩
                exact hp _ (hedge k _ (Array.getElem?_eq_getElem hks) e (by simpa using he) hb)
              · obtain ⟨j, hjk, hju⟩ : ∃ j, j < k ∧ listed.getD j false = false := by
                  refine Classical.byContradiction fun hc => hp (fun j hj => ?_)
                  cases hv : listed.getD j false with
                  | true => rfl
                  | false => exact absurd ⟨j, hj, hv⟩ hc
                exact ihk j hjk (by omega) hju
          obtain ⟨i, hi⟩ := key j0 hj0m hj0u
          rw [h0] at hi; cases hi
        · obtain ⟨h1, o, ho, h2⟩ := mem_ready.1 hj
          have hjs := lt_of_get ho
          have hju : listed.getD j false = false := by rw [getD_tf hsz hjs] at h1; exact h1
          have hpre : ∀ e, e ∈ o.after.toList → Region.binds .any e = true → listed.getD e.on false = true := fun e he hb => h2 e (by simpa using he) hb
          obtain ⟨hdok, x, hxj, hstep⟩ := hst j o ((htake j o).2 ho)
          have hchk := chk j o ho
          have hafter : ∀ (k : Nat) (q : Oper), ops[k]? = some q → ((masks ops.toList []).getD k 0).testBit j = true → listed.getD k false = false := by
            intro k q hq hbit
            cases hv : listed.getD k false with
            | false => rfl
            | true =>
              have := closed listed hcl k q hq (hcl k hv q hq) j hbit
              rw [hju] at this; cases this
          -- what the operation looks at is as in the text's order
          have hlook : ∀ (t : Nat) (y : PV), t ∈ o.looksAt ops → get (envs ops.toList xs s.env j) t = some y → ∃ u, a.tmps[t]? = some u ∧ VR (ctx P F (Hs (C listed)) g w) y u := by
            intro t y ht hy
            have hg := envs_get (l := ops.toList) (xs := xs) (env := s.env) (by rw [hxl, htl]) hdist' j t (by rw [htl]; omega)
            by_cases hw : ∃ (k : Nat) (q : Oper), k < j ∧ ops[k]? = some q ∧ q.dst = some t
            · obtain ⟨k, q, hkj, hk, hqd⟩ := hw
              have hxk : xs[k]? = some (xs[k]'(by rw [hxl]; omega)) := List.getElem?_eq_getElem (by rw [hxl]; omega)
              rw [hg.1 k q _ hkj ((htake k q).2 hk) hqd hxk] at hy
              injection hy with hy; subst hy
              have hbit := ((hchk.2.2 k q t hk (by omega) hqd).2 ht).1 hkj
              exact hk1 k q t _ (closed listed hcl j o ho hpre k hbit) hk hqd hxk
            · rw [hg.2 (fun k q hkj hk hqd => hw ⟨k, q, hkj, (htake k q).1 hk, hqd⟩)] at hy
              refine hk2 t y hy (fun k q hk hq hqd => ?_)
              have hkj : ¬ k < j := fun hlt => hw ⟨k, q, hlt, hq, hqd⟩
              have hne : j ≠ k := fun e => by subst e; rw [hju] at hk; cases hk
              have hbit := ((hchk.2.2 k q t hq hne hqd).2 ht).2 hkj
              rw [hafter k q hq hbit] at hk; cases hk
          -- behind it
          have next : ∀ (v : Value) (w' : World) (g' : List (Option Nat)) (H' : List AEnt), H' = Hs (C (listed.setIfInBounds j true)) → VR (ctx P F H' g' w') x v → RelH P F H' g' w' → Ext P F (Hs (C listed)) g w H' g' w' → wpAny P .any ops (Post P F s.H g0 w0 K) fuel (listed.setIfInBounds j true) (a.put o.dst v) w' := by
            intro v w' g' H' hH' hv hr' hx'
            subst hH'
            refine ih (listed.setIfInBounds j true) (a.put o.dst v) w' g' (by simp [hsz]) ?_ (by have := left_set hsz hjs hju; omega) hr' (hext.trans hx') ?_ ?_ ?_ ?_
            · intro k hk q hq e he hb
              by_cases hjk : j = k
              · subst hjk; rw [ho] at hq; injection hq with hq; subst hq
                exact getD_set_true (hpre e he hb)
              · rw [getD_set_ne false hjk] at hk; exact getD_set_true (hcl k hk q hq e he hb)
            · cases o.dst <;> simp [Act.put, hts]
            · cases o.dst <;> simp [Act.put, hdf]
            · intro k q d y hk hq hqd hy
              by_cases hjk : j = k
              · subst hjk
                rw [ho] at hq; injection hq with hq; subst hq
                rw [hxj] at hy; injection hy with hy; subst hy
                have hdn : d < a.tmps.size := by rw [hqd] at hdok; rw [hts]; simpa [dstOk, Nat.blt_eq] using hdok
                exact ⟨v, by simp [Act.put, hqd, hdn], hv⟩
              · rw [getD_set_ne false hjk] at hk
                obtain ⟨u, h3, h4⟩ := hk1 k q d y hk hq hqd hy
                refine ⟨u, ?_, h4.mono hx'.le⟩
                cases hod : o.dst with
                | none => simpa [Act.put] using h3
                | some d' =>
                  have hne : d' ≠ d := fun e => hjk (hdist j k o q d ho hq (by rw [hod, e]) hqd)
                  simpa [Act.put, Array.getElem?_setIfInBounds_ne hne] using h3
            · intro t y hy hnw
              have hjt := hnw j o (by have : j < listed.size := by rw [hsz]; exact hjs
                                      simp [this]) ho
              obtain ⟨u, h3, h4⟩ := hk2 t y hy (fun k q hk hq => hnw k q (getD_set_true hk) hq)
              refine ⟨u, ?_, h4.mono hx'.le⟩
              cases hod : o.dst with
              | none => simpa [Act.put] using h3
              | some d' =>
                have hne : d' ≠ t := fun e => hjt (by rw [hod, e])
                simpa [Act.put, Array.getElem?_setIfInBounds_ne hne] using h3
          have hrelK : Rel P F ⟨keepE (o.looksAt ops) (envs ops.toList xs s.env j), Hs (C listed), s.n⟩ a w g := ⟨hrel, fun t y hy => let ⟨h3, h4⟩ := get_keepE hy; hlook t y h3 h4, hts, hdf⟩
          have hnot : ∀ {i : Nat} {want : Bool} {v : Value} {t : Nat}, o.guard = some (i, want) → (ops[i]?).bind (·.dst) = some t → get (envs ops.toList xs s.env j) t = some (.v v) → noW v want = true → Region.wanted o (yielded ops a.tmps) = false := by
            intro i want v t hgd hdt hget hw
            obtain ⟨u, h3, h4⟩ := hlook t _ (by unfold Oper.looksAt; rw [hgd]; simp [hdt]) hget
            rw [vr_v.1 h4] at h3
            exact noW_wanted hgd hdt h3 hw
          have hyield : ∀ {i : Nat} {want b : Bool} {t : Nat}, o.guard = some (i, want) → (ops[i]?).bind (·.dst) = some t → get (envs ops.toList xs s.env j) t = some (.v (.bool b)) → yielded ops a.tmps i = some b := by
            intro i want b t hgd hdt hget
            obtain ⟨u, h3, h4⟩ := hlook t _ (by unfold Oper.looksAt; rw [hgd]; simp [hdt]) hget
            rw [vr_v.1 h4] at h3
            simp [yielded, hdt, h3]
          have hset : ∀ k, k ≠ j → (listed.setIfInBounds j true).getD k false = listed.getD k false := fun k hk => getD_set_ne false (fun e => hk e.symm)
          have hsetj : (listed.setIfInBounds j true).getD j false = true := by
            have : j < listed.size := by rw [hsz]; exact hjs
            simp [this]
          unfold wpOp
          rw [ho]
          simp only []
          rcases hstep with ⟨hlq, hstep⟩ | ⟨hll, hstep⟩
          · have hCs : C (listed.setIfInBounds j true) = C listed := cnt_congr (fun k _ => by
              by_cases hkj : k = j
              · subst hkj; rw [hlq]; rfl
              · rw [hset k hkj])
            have hpc : Pins I s.H (Hs (C listed)) := hpin _ (by
              rw [rk_cnt]
              have hle : ∀ (L L' : Nat → Bool) (n : Nat), (∀ k, L k = true → L' k = true) → cnt L n ≤ cnt L' n := by
                intro L L' n hLL
                induction n with
                | zero => exact Nat.le_refl _
                | succ n ih =>
                  simp only [cnt]
                  cases hv : L n with
                  | false => simp; omega
                  | true => rw [hLL n hv]; simp; omega
              exact hle _ _ _ (fun k hk => by simp only [Bool.and_eq_true] at hk; exact hk.1))
            have nextQ : ∀ (v : Value) (w' : World) (g' : List (Option Nat)), VR (ctx P F (Hs (C listed)) g' w') x v → RelH P F (Hs (C listed)) g' w' → Ext P F (Hs (C listed)) g w (Hs (C listed)) g' w' → wpAny P .any ops (Post P F s.H g0 w0 K) fuel (listed.setIfInBounds j true) (a.put o.dst v) w' :=
              fun v w' g' => next v w' g' _ (by rw [hCs])
            cases hstep _ hpc with
            | go hgd h1 =>
              rw [if_pos (by simp [Region.wanted, hgd])]
              exact .inl (h1 F g a w hrelK _ _ nextQ)
            | yes hgd hdt hget hb h1 =>
              rw [if_pos (by simp only [Region.wanted, hgd, hyield hgd hdt hget]; simpa using hb)]
              exact .inl (h1 F g a w hrelK _ _ nextQ)
            | no hgd hdt hget hb =>
              rw [if_neg (by rw [hnot hgd hdt hget hb]; decide)]
              exact nextQ undef w g (vr_v.2 rfl) hrel .refl
          · have hCj : C listed = rk ls 0 j := by
              rw [rk_cnt, ← cnt_below (L := fun k => ls.contains k) (Nat.le_of_lt hjs)]
              refine cnt_congr (fun k hk => ?_)
              cases hlk : ls.contains k with
              | false => simp
              | true =>
                simp only [Bool.true_and]
                rcases Nat.lt_trichotomy k j with hlt | heq | hgt
                · rw [closed listed hcl j o ho hpre k (hchk.2.1 hll k hlt hlk)]; simp [hlt]
                · subst heq; rw [hju]; simp
                · have hok : ops[k]? = some ops[k] := Array.getElem?_eq_getElem hk
                  rw [hafter k _ hok ((chk k _ hok).2.1 hlk j hgt hll)]
                  have : ¬ k < j := by omega
                  simp [this]
            have hCs : C (listed.setIfInBounds j true) = C listed + 1 := cnt_set hjs (by simp only [hju, Bool.and_false]) (by simp only [hll, hsetj, Bool.and_true]) (fun k hk => by simp only [hset k hk])
            rw [← hCj] at hstep
            have nextL : ∀ (H' : List AEnt), H' = Hs (C listed + 1) → ∀ (v : Value) (w' : World) (g' : List (Option Nat)), VR (ctx P F H' g' w') x v → RelH P F H' g' w' → Ext P F (Hs (C listed)) g w H' g' w' → wpAny P .any ops (Post P F s.H g0 w0 K) fuel (listed.setIfInBounds j true) (a.put o.dst v) w' :=
              fun H' hH' v w' g' => next v w' g' H' (by rw [hCs]; exact hH')
            generalize hHn : Hs (C listed + 1) = Hn at hstep nextL
            cases hstep with
            | go hgd h1 =>
              rw [if_pos (by simp [Region.wanted, hgd])]
              exact .inl (h1 F g a w hrelK _ _ (nextL _ rfl))
            | yes hgd hdt hget hb h1 =>
              rw [if_pos (by simp only [Region.wanted, hgd, hyield hgd hdt hget]; simpa using hb)]
              exact .inl (h1 F g a w hrelK _ _ (nextL _ rfl))
            | no hgd hdt hget hb =>
              rw [if_neg (by rw [hnot hgd hdt hget hb]; decide)]
              exact nextL _ rfl undef w g (vr_v.2 rfl) hrel .refl
  have hdrew : RelH P F s.H g0 { w0 with drawn := w0.drawn + 1 } := rel_heap hr0.rel rfl
  have hcd : ctx P F s.H g0 { w0 with drawn := w0.drawn + 1 } = ctx P F s.H g0 w0 := ctx_heap rfl
  have hC0 : Hs (C (Array.replicate ops.size false)) = s.H := by
    have : C (Array.replicate ops.size false) = 0 := cnt_zero (fun k hk => by simp [Array.getElem?_replicate, hk])
    rw [this, hH0]
  refine main ops.size (Array.replicate ops.size false) a0 _ g0 (by simp) (fun k hk => ?_) ?_ (by rw [hC0]; exact hdrew) (by rw [hC0]; exact ext_heap rfl rfl rfl rfl) hr0.size hr0.defers (fun k o d x hk => ?_) (fun t x hx _ => ?_)
  · simp [Array.getElem?_replicate] at hk; split at hk <;> cases hk
  · unfold left; refine Nat.le_trans (List.length_filter_le _ _) (by simp)
  · simp [Array.getElem?_replicate] at hk; split at hk <;> cases hk
  · rw [hC0, hcd]; exact hr0.env t x hx

theorem aw_chain {rid : Nat} {ops : Array Oper} {env : List (Nat × PV)} {H : List AEnt} {n : Nat} {K : AExit → ASt → Prop} (ls I : List Nat) (hm : P.follows .mixedOrders = true) (hq : chainOk ops ls = true) (h : AC P ops ls I H n K 0 ops.toList env H) : AW P (.region rid ops true) ⟨env, H, n⟩ K := aw_chainG (s := ⟨env, H, n⟩) ls I hm hq h

end Go.Proofs.Ythfdpaboekoncaa.Aw
