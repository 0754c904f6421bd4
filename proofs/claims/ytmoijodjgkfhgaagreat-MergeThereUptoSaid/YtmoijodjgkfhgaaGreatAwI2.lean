/- Aw: a region in any order, in which one variable is made, without an order to some of those that write. -/
import Derived.Test.YtmoijodjgkfhgaaGreatAwI
namespace Go.Proofs.YtmoijodjgkfhgaaGreat.Aw
open Go
set_option linter.unusedVariables false
set_option linter.unusedSimpArgs false
variable {P : Program}
def AF (P : Program) (ops : Array Oper) (j0 i0 : Nat) (E0 : AEnt) (ls I : List Nat) (H0 HF : List AEnt) (n : Nat) (K : AExit → ASt → Prop) : Nat → List Oper → List (Nat × PV) → List AEnt → Prop
 | _, [], env, H => K .normal ⟨env, H, n⟩
 | k, o :: r, env, H => z5m o.dst n = true ∧ ∃ x H', ((ls.contains k = false ∧ H' = H ∧ ((Nat.beq k j0 = false ∧ ∀ H, Pins I H0 H → QStep P ops o env H n x) ∨ (Nat.beq k j0 = true ∧ x = .rf i0 0 ∧ Z08 P HF o i0))) ∨
  (ls.contains k = true ∧ Pins I H0 H' ∧ LStep P ops o env H n x H' ∧ (((masks ops.toList []).getD k 0).testBit j0 = true ∨ (H'[i0]? = HF[i0]? ∧ LStep P ops o env (H.set i0 E0) n x (H'.set i0 E0))))) ∧ AF P ops j0 i0 E0 ls I H0 HF n K (k + 1) r (putE o.dst x env) H'
theorem zg2 {ops : Array Oper} {j0 i0 : Nat} {E0 : AEnt} {ls I : List Nat} {H0 HF : List AEnt} {n : Nat} {K : AExit → ASt → Prop} : ∀ {l : List Oper} {k : Nat} {env : List (Nat × PV)} {H : List AEnt}, AF P ops j0 i0 E0 ls I H0 HF n K k l env H → Pins I H0 H →
 ∃ (xs : List PV) (Hs : Nat → List AEnt), xs.length = l.length ∧ Hs 0 = H ∧ (∀ c, c ≤ rk ls k l.length → Pins I H0 (Hs c)) ∧
  (∀ (j : Nat) (o : Oper), l[j]? = some o → z5m o.dst n = true ∧ ∃ x, xs[j]? = some x ∧
   ((ls.contains (k + j) = false ∧ ((Nat.beq (k + j) j0 = false ∧ ∀ H, Pins I H0 H → QStep P ops o (z9f l xs env j) H n x) ∨ (Nat.beq (k + j) j0 = true ∧ x = .rf i0 0 ∧ Z08 P HF o i0))) ∨
     (ls.contains (k + j) = true ∧ LStep P ops o (z9f l xs env j) (Hs (rk ls k j)) n x (Hs (rk ls k j + 1)) ∧
      (((masks ops.toList []).getD (k + j) 0).testBit j0 = true ∨ ((Hs (rk ls k j + 1))[i0]? = HF[i0]? ∧ LStep P ops o (z9f l xs env j) ((Hs (rk ls k j)).set i0 E0) n x ((Hs (rk ls k j + 1)).set i0 E0)))))) ∧
  K .normal ⟨z9f l xs env l.length, Hs (rk ls k l.length), n⟩
 | [], k, env, H, h, hp => ⟨[], fun _ => H, rfl, rfl, fun _ _ => hp, by simp, h⟩
 | o :: r, k, env, H, ⟨hd, x, H', hs, h2⟩, hp => by
  have hp' : Pins I H0 H' := by
   rcases hs with ⟨_, rfl, _⟩ | ⟨_, h, _⟩
   ·exact hp
   ·exact h
  obtain ⟨xs, Hs, h3, h4, h5, h6, h7⟩ := zg2 h2 hp'
  rcases hs with ⟨hq, rfl, hs⟩ | ⟨hq, _, hs⟩
  ·have hrk : ∀ j, rk ls k (j + 1) = rk ls (k + 1) j := fun j => by simp only [rk, hq, Bool.toNat_false, Nat.zero_add]
   refine ⟨x :: xs, Hs, by simp [h3], h4, fun c hc => h5 c (by rw [List.length_cons, hrk] at hc; exact hc), fun j q hj => ?_, ?_⟩
   ·cases j with
    | zero => simp at hj; subst hj; exact ⟨hd, x, rfl, .inl ⟨hq, hs⟩⟩
    | succ j =>
     have := h6 j q (by simpa using hj)
     have e : k + 1 + j = k + (j + 1) := by omega
     rw [e] at this
     rw [hrk]
     exact this
   ·rw [List.length_cons, hrk]; exact h7
  ·have hrk : ∀ j, rk ls k (j + 1) = rk ls (k + 1) j + 1 := fun j => by simp only [rk, hq, Bool.toNat_true]; omega
   refine ⟨x :: xs, fun c => match c with | 0 => H | c + 1 => Hs c, by simp [h3], rfl, fun c hc => ?_, fun j q hj => ?_, ?_⟩
   ·cases c with
    | zero => exact hp
    | succ c => exact h5 c (by rw [List.length_cons, hrk] at hc; omega)
   ·cases j with
    | zero => simp at hj; subst hj; exact ⟨hd, x, rfl, .inr ⟨hq, by rw [← h4] at hs; exact hs⟩⟩
    | succ j =>
     have := h6 j q (by simpa using hj)
     have e : k + 1 + j = k + (j + 1) := by omega
     rw [e] at this
     rw [hrk]
     exact this
   ·show K .normal ⟨z9f (o :: r) (x :: xs) env (r.length + 1), _, n⟩
    rw [List.length_cons, hrk]
    exact h7
def zlk (ops : Array Oper) (ls I : List Nat) (j0 i0 : Nat) : Bool :=
 z9y ops [] && z9y ops ls && (I.all fun i => !(Nat.beq i0 i)) && Nat.blt j0 ops.toList.length && !(ls.contains j0)
theorem zu3 {L M : Nat → Bool} (m : Nat) : (∀ q, q < m → L q = true → M q = true) ∨ ∃ J, J < m ∧ L J = true ∧ M J = false ∧ ∀ q, q < J → L q = true → M q = true := by
 induction m with
 | zero => exact .inl fun q h => absurd h (by omega)
 | succ m ih =>
  rcases ih with h | ⟨J, h1, h2⟩
  ·by_cases hv : L m = true → M m = true
   ·refine .inl fun q hq hl => ?_
    rcases Nat.lt_or_ge q m with h3 | h3
    ·exact h q h3 hl
    ·have : q = m := by omega
     subst this; exact hv hl
   ·refine .inr ⟨m, by omega, ?_, ?_, h⟩
    ·cases hl : L m with
     | true => rfl
     | false => exact absurd (fun h => by rw [hl] at h; cases h) hv
    ·cases hM : M m with
     | false => rfl
     | true => exact absurd (fun _ => hM) hv
  ·exact .inr ⟨J, by omega, h2⟩
theorem zvw {I : List Nat} {H0 H : List AEnt} {i0 : Nat} {e : AEnt} (hI : ∀ i, i ∈ I → Nat.beq i0 i = false) (h : Pins I H0 H) : Pins I H0 (H.set i0 e) := by
 induction I with
 | nil => trivial
 | cons i r ih =>
  refine ⟨?_, ih (fun k hk => hI k (by simp [hk])) h.2⟩
  have h1 := h.1
  have hne : i0 ≠ i := fun hq => by
   have := hI i (by simp)
   rw [beq_iff'.2 hq] at this; cases this
  rw [z0w hne]; exact h1
theorem zyp {rid : Nat} {ops : Array Oper} {s : ASt} {K : AExit → ASt → Prop} (j0 i0 : Nat) {e0 : Nat} (B0 : AEnt) (ls I : List Nat) (hm : P.follows .mixedOrders = true) (hq : zlk ops ls I j0 i0 = true)
 (he : s.H[i0]? = some (.arr e0 0)) (h : AF P ops j0 i0 (.arr e0 0) ls I (s.H.set i0 B0) (s.H.set i0 B0) s.n K 0 ops.toList s.env (s.H.set i0 B0)) : AW P (.region rid ops true) s K := by
 classical
 simp only [zlk, Bool.and_eq_true, List.all_eq_true, Bool.not_eq_true'] at hq
 obtain ⟨⟨⟨⟨hq0, hq1⟩, hI⟩, hj0⟩, hlj0⟩ := hq
 have hj0 : j0 < ops.toList.length := by simpa [Nat.blt_eq] using hj0
 obtain ⟨xs, Hs, hxl, hH0, hpin, hst, hfin⟩ := zg2 h Pins.refl
 simp only [Nat.zero_add, Array.length_toList] at hst hxl hpin hfin hj0
 let C : Array Bool → Nat := fun listed => cnt (fun k => ls.contains k && listed.getD k false) ops.size
 let HS : Array Bool → List AEnt := fun listed => if listed.getD j0 false = true then Hs (C listed) else (Hs (C listed)).set i0 (.arr e0 0)
 have masksof : ∀ (listed : Array Bool), z4q ops listed → ∀ i o, ops[i]? = some o → (∀ e, e ∈ o.after.toList → Region.binds .any e = true → listed.getD e.on false = true) → ∀ k, ((masks ops.toList []).getD i 0).testBit k = true → listed.getD k false = true := by
  intro listed hcl i o hi he k hk
  exact z5d (L := fun k => listed.getD k false = true) (all := ops.toList) (fun k hk o ho => hcl k hk o (by simpa using ho)) ops.toList [] [] rfl rfl (by simp) i o (by simpa using hi) he k hk
 simp only [z9y, List.all_eq_true, List.mem_range, Array.length_toList] at hq1
 have hedges : ∀ (i : Nat) (o : Oper), ops[i]? = some o → ls.contains i = true → ∀ j, j < i → ls.contains j = true → ((masks ops.toList []).getD i 0).testBit j = true := by
  intro i o hi hli j hj hlj
  have h1 := hq1 i (z1b hi)
  have hi' : ops.toList[i]? = some o := by simpa using hi
  rw [hi'] at h1
  simp only [Bool.and_eq_true, List.all_eq_true, List.mem_range] at h1
  have h3 := h1.1.2
  rw [hli] at h3
  simp only [Bool.not_true, Bool.false_or, List.all_eq_true, List.mem_range] at h3
  have := h3 j hj
  rw [hlj] at this
  simpa using this
 have hlt0 : i0 < s.H.length := z0c he
 have hB0 : (s.H.set i0 B0)[i0]? = some B0 := by simp [hlt0]
 -- listed ones have those ahead of them listed
 have down : ∀ (listed : Array Bool), z4q ops listed → ∀ k, k < ops.size → listed.getD k false = true → ∀ q, ((masks ops.toList []).getD k 0).testBit q = true → listed.getD q false = true := by
  intro listed hcl k hk hv q hb
  have ho : ops[k]? = some ops[k] := Array.getElem?_eq_getElem hk
  exact masksof listed hcl k _ ho (hcl k hv _ ho) q hb
 -- the place is as it was, until somebody behind j0 writes
 have keep : ∀ (listed : Array Bool), z4q ops listed → listed.getD j0 false = false → ∀ J, J ≤ ops.size → (∀ q, q < J → ls.contains q = true → listed.getD q false = true) → (Hs (rk ls 0 J))[i0]? = some B0 := by
  intro listed hcl hj J
  induction J with
  | zero => intro _ _; show (Hs 0)[i0]? = _; rw [hH0]; exact hB0
  | succ J ih =>
   intro hJ hall
   have h1 := ih (by omega) (fun q hq => hall q (by omega))
   rw [zks]
   cases hl : ls.contains (0 + J) with
   | false => simpa using h1
   | true =>
    have hl' : ls.contains J = true := by simpa using hl
    obtain ⟨_, x, _, hs⟩ := hst J ops[J] (by simp [show J < ops.size by omega])
    rcases hs with ⟨hn, _⟩ | ⟨_, _, hs⟩
    ·rw [hl'] at hn; cases hn
    ·rcases hs with hb | ⟨hb, _⟩
     ·have := down listed hcl J (by omega) (hall J (by omega) hl') j0 hb
      rw [hj] at this; cases this
     ·show (Hs (rk ls 0 J + 1))[i0]? = _
      rw [hb]; exact hB0
 have pinH : ∀ listed : Array Bool, Pins I (s.H.set i0 B0) (Hs (C listed)) := by
  intro listed
  refine hpin _ ?_
  rw [zac]
  have hle : ∀ (L L' : Nat → Bool) (n : Nat), (∀ k, L k = true → L' k = true) → cnt L n ≤ cnt L' n := by
   intro L L' n hLL
   induction n with
   | zero => exact Nat.le_refl _
   | succ n ih =>
    simp only [cnt]
    cases hv : L n with
    | false => simp; omega
    | true => rw [hLL n hv]; simp; omega
  exact hle _ _ _ (fun k hk => by simp only [Bool.and_eq_true] at hk; exact hk.1)
 refine zv3 xs HS (Hs (rk ls 0 ops.size)) hm hq0 hxl ?_ ?_ ?_ hfin
 ·-- at the outset
  have hC0 : C (Array.replicate ops.size false) = 0 := zhe (fun k hk => by simp only [Array.getD_eq_getD_getElem?, Array.getElem?_replicate]; split <;> simp)
  have hj : (Array.replicate ops.size false).getD j0 false = false := by simp only [Array.getD_eq_getD_getElem?, Array.getElem?_replicate]; split <;> simp
  simp only [HS, hC0, hj, hH0, Bool.false_eq_true, if_false]
  apply List.ext_getElem?
  intro i
  by_cases hi : i0 = i
  ·subst hi; rw [z17 hB0, he]
  ·rw [z0w hi, z0w hi]
 ·intro listed hl
  simp only [HS, hl j0 hj0, if_true]
  congr 1
  rw [zac]
  exact z3i (fun k hk => by rw [hl k hk]; simp)
 ·intro listed hsz hcl j o ho hju hpre
  obtain ⟨hd, x, hx, hs⟩ := hst j o (by simpa using ho)
  refine ⟨hd, x, hx, ?_⟩
  have hjs := z1b ho
  have hset : ∀ k, k ≠ j → (listed.setIfInBounds j true).getD k false = listed.getD k false := fun k hk => getD_set_ne false (fun e => hk e.symm)
  have hsetj : (listed.setIfInBounds j true).getD j false = true := by
   have : j < listed.size := by rw [hsz]; exact hjs
   simp [this]
  have hafter : ∀ (k : Nat) (q : Oper), ops[k]? = some q → ((masks ops.toList []).getD k 0).testBit j = true → listed.getD k false = false := by
   intro k q hq hbit
   cases hv : listed.getD k false with
   | false => rfl
   | true =>
    have := masksof listed hcl k q hq (hcl k hv q hq) j hbit
    rw [hju] at this; cases this
  rcases hs with ⟨hlq, hs⟩ | ⟨hll, hs, hs2⟩
  ·have hCs : C (listed.setIfInBounds j true) = C listed := z3i (fun k _ => by
    by_cases hkj : k = j
    ·subst hkj; rw [hlq]; rfl
    ·rw [hset k hkj])
   rcases hs with ⟨hne, hs⟩ | ⟨heq, rfl, hgd, t, z, k, b, hinf, hop, hHi⟩
   ·have hne' : j0 ≠ j := fun e => by rw [beq_iff'.2 e.symm] at hne; cases hne
    have hsame : HS (listed.setIfInBounds j true) = HS listed := by simp only [HS, hCs, hset j0 hne']
    rw [hsame]
    have hp : Pins I (s.H.set i0 B0) (HS listed) := by
     simp only [HS]
     split
     ·exact pinH listed
     ·exact zvw (fun i hi => hI i hi) (pinH listed)
    cases hs _ hp with
    | go h1 h2 => exact .go h1 h2
    | yes h1 h2 h3 h4 h5 => exact .yes h1 h2 h3 h4 h5
    | no h1 h2 h3 h4 => exact .no h1 h2 h3 h4
   ·have hje : j = j0 := beq_iff'.1 heq
    subst hje
    rw [hB0] at hHi; injection hHi with hHi; subst hHi
    have hat : (Hs (C listed))[i0]? = some (.box t (z.cells.toList.map .v)) := by
     have hC : ∃ J, J ≤ ops.size ∧ C listed = rk ls 0 J ∧ ∀ q, q < J → ls.contains q = true → listed.getD q false = true := by
      rcases zu3 (L := fun k => ls.contains k) (M := fun k => listed.getD k false) ops.size with hall | ⟨J, h1, h2, h3, h4⟩
      ·refine ⟨ops.size, Nat.le_refl _, ?_, hall⟩
       rw [zac]
       exact z3i (fun k hk => by
        cases hlk : ls.contains k with
        | false => rfl
        | true => rw [hall k hk hlk]; rfl)
      ·refine ⟨J, Nat.le_of_lt h1, ?_, h4⟩
       rw [zac, ← zeq (L := fun k => ls.contains k) (Nat.le_of_lt h1)]
       refine z3i (fun k hk => ?_)
       cases hlk : ls.contains k with
       | false => simp
       | true =>
        simp only [Bool.true_and]
        rcases Nat.lt_trichotomy k J with hlt | heq | hgt
        ·rw [h4 k hlt hlk]; simp [hlt]
        ·subst heq; rw [h3]; simp
        ·have hv : listed.getD k false = false := by
          cases hv : listed.getD k false with
          | false => rfl
          | true =>
           have := down listed hcl k hk hv J (hedges k _ (Array.getElem?_eq_getElem hk) hlk J hgt h2)
           rw [h3] at this; cases this
         rw [hv]
         have : ¬ k < J := by omega
         simp [this]
     obtain ⟨J, h1, h2, h3⟩ := hC
     rw [h2]; exact keep listed hcl hju J h1 h3
    have hl1 : HS listed = (Hs (C listed)).set i0 (.arr e0 0) := by simp only [HS, hju, Bool.false_eq_true, if_false]
    have hl2 : HS (listed.setIfInBounds j true) = Hs (C listed) := by simp only [HS, hCs, hsetj, if_true]
    rw [hl1, hl2]
    have hlen := z0c hat
    have hback : ((Hs (C listed)).set i0 (.arr e0 0)).set i0 (.box t (z.cells.toList.map .v)) = Hs (C listed) := by
     apply List.ext_getElem?
     intro i
     by_cases hi : i0 = i
     ·subst hi; rw [z17 (z17 hat), hat]
     ·rw [z0w hi, z0w hi]
    have hfl := zws (P := P) (env := z4u (o.looksAt ops) (z9f ops.toList xs s.env j)) (n := s.n) (H := (Hs (C listed)).set i0 (.arr e0 0)) (i := i0) (e0 := e0) hinf hop (by simp [hlen])
    rw [hback] at hfl
    exact .go hgd hfl
  ·-- one of the chain
   have hCj : C listed = rk ls 0 j := by
    rw [zac, ← zeq (L := fun k => ls.contains k) (Nat.le_of_lt hjs)]
    refine z3i (fun k hk => ?_)
    cases hlk : ls.contains k with
    | false => simp
    | true =>
     simp only [Bool.true_and]
     rcases Nat.lt_trichotomy k j with hlt | heq | hgt
     ·rw [masksof listed hcl j o ho hpre k (hedges j o ho hll k hlt hlk)]; simp [hlt]
     ·subst heq; rw [hju]; simp
     ·have hok : ops[k]? = some (ops[k]'(by omega)) := Array.getElem?_eq_getElem (by omega)
      rw [hafter k _ hok (hedges k _ hok hlk j hgt hll)]
      have : ¬ k < j := by omega
      simp [this]
   have hCs : C (listed.setIfInBounds j true) = C listed + 1 := zlo hjs (by simp only [hju, Bool.and_false]) (by simp only [hll, hsetj, Bool.and_true]) (fun k hk => by simp only [hset k hk])
   have hjne : j0 ≠ j := fun e => by subst e; rw [hll] at hlj0; cases hlj0
   cases hv : listed.getD j0 false with
   | true =>
    have hl1 : HS listed = Hs (rk ls 0 j) := by simp only [HS, hv, if_true, hCj]
    have hl2 : HS (listed.setIfInBounds j true) = Hs (rk ls 0 j + 1) := by simp only [HS, hset j0 hjne, hv, if_true, hCs, hCj]
    rw [hl1, hl2]; exact hs
   | false =>
    have hl1 : HS listed = (Hs (rk ls 0 j)).set i0 (.arr e0 0) := by simp only [HS, hv, Bool.false_eq_true, if_false, hCj]
    have hl2 : HS (listed.setIfInBounds j true) = (Hs (rk ls 0 j + 1)).set i0 (.arr e0 0) := by simp only [HS, hset j0 hjne, hv, Bool.false_eq_true, if_false, hCs, hCj]
    rw [hl1, hl2]
    rcases hs2 with hb | ⟨_, hs2⟩
    ·have := masksof listed hcl j o ho hpre j0 hb
     rw [hv] at this; cases this
    ·exact hs2
theorem zy5 {H0 : List AEnt} {rid : Nat} {ops : Array Oper} {env : List (Nat × PV)} {H : List AEnt} {n : Nat} {K : AExit → ASt → Prop} (j0 i0 : Nat) {e0 : Nat} (B0 : AEnt) (ls I : List Nat) (hm : P.follows .mixedOrders = true) (hq : zlk ops ls I j0 i0 = true)
 (he : H[i0]? = some (.arr e0 0)) (h : AF P ops j0 i0 (.arr e0 0) ls I (H.set i0 B0) (H.set i0 B0) n K 0 ops.toList env (H.set i0 B0)) : BW P H0 (.region rid ops true) ⟨env, H, n⟩ K :=
 zlu (zyp (s := ⟨env, H, n⟩) j0 i0 B0 ls I hm hq he h)
section
variable {ops : Array Oper} {j0 i0 : Nat} {E0 : AEnt} {ls I : List Nat} {H H0 HF : List AEnt} {n k : Nat} {K : AExit → ASt → Prop} {o : Oper} {r : List Oper} {env : List (Nat × PV)}
theorem z76 {x : PV} {d : Nat} (hl : ls.contains k = false) (hf : Nat.beq k j0 = false) (hg : o.guard = none) (hd : o.dst = some d) (hn : Nat.blt d n = true) (h1 : ∀ H, Pins I H0 H → Op1 P o (z4u (o.looksAt ops) env) H n x H) (h : AF P ops j0 i0 E0 ls I H0 HF n K (k + 1) r ((d, x) :: env) H) : AF P ops j0 i0 E0 ls I H0 HF n K k (o :: r) env H :=
 ⟨by rw [hd]; exact hn, x, H, .inl ⟨hl, rfl, .inl ⟨hf, fun H hp => .go hg (h1 H hp)⟩⟩, by rw [hd]; exact h⟩
theorem Z37 {t : TypeId} {z : Value} {c b d : Nat} (hl : ls.contains k = false) (hf : Nat.beq k j0 = true) (hg : o.guard = none) (hd : o.dst = some d) (hn : Nat.blt d n = true) (hinf : Inf P t z c b) (ho : o.op = .alloc t) (hH : HF[i0]? = some (.box t (z.cells.toList.map .v)))
 (h : AF P ops j0 i0 E0 ls I H0 HF n K (k + 1) r ((d, .rf i0 0) :: env) H) : AF P ops j0 i0 E0 ls I H0 HF n K k (o :: r) env H :=
 ⟨by rw [hd]; exact hn, _, H, .inl ⟨hl, rfl, .inr ⟨hf, rfl, hg, t, z, c, b, hinf, ho, hH⟩⟩, by rw [hd]; exact h⟩
theorem Z36 {x : PV} {H' : List AEnt} (hl : ls.contains k = true) (hb : ((masks ops.toList []).getD k 0).testBit j0 = true) (hg : o.guard = none) (hd : o.dst = none) (h1 : Op1 P o (z4u (o.looksAt ops) env) H n x H') (hp : Pins I H0 H') (h : AF P ops j0 i0 E0 ls I H0 HF n K (k + 1) r env H') : AF P ops j0 i0 E0 ls I H0 HF n K k (o :: r) env H :=
 ⟨by rw [hd]; rfl, x, H', .inr ⟨hl, hp, .go hg h1, .inl hb⟩, by rw [hd]; exact h⟩
theorem zm9 {x : PV} {H' H1 H1' : List AEnt} {d : Nat} (hl : ls.contains k = true) (hg : o.guard = none) (hd : o.dst = some d) (hn : Nat.blt d n = true) (h1 : Op1 P o (z4u (o.looksAt ops) env) H n x H') (hp : Pins I H0 H') (hk : H'[i0]? = HF[i0]?) (h2 : Op1 P o (z4u (o.looksAt ops) env) H1 n x H1')
 (e1 : H.set i0 E0 = H1) (e2 : H'.set i0 E0 = H1') (h : AF P ops j0 i0 E0 ls I H0 HF n K (k + 1) r ((d, x) :: env) H') : AF P ops j0 i0 E0 ls I H0 HF n K k (o :: r) env H :=
 ⟨by rw [hd]; exact hn, x, H', .inr ⟨hl, hp, .go hg h1, .inr ⟨hk, .go hg (by rw [e1, e2]; exact h2)⟩⟩, by rw [hd]; exact h⟩
theorem Z6k (h : K .normal ⟨env, H, n⟩) : AF P ops j0 i0 E0 ls I H0 HF n K k [] env H := h
end
end Go.Proofs.YtmoijodjgkfhgaaGreat.Aw
