/- Aw: drawn regions, on values as they are: where all but a tail only read. -/
import Derived.Test.YthidgpcbnieleaaE0
namespace Go.Proofs.Ythidgpcbnieleaa
namespace Aw
open Go
set_option linter.unusedVariables false
set_option linter.unusedSimpArgs false
set_option maxRecDepth 4000
variable {P : Program} {N : Nat} {ds : List Deferred}
def RV (env : List (Nat × PV)) (a : Act) : Prop := ∀ (t : Nat) (x : PV), get env t = some x → ∃ u, a.tmps[t]? = some u ∧ x = .v u
def QX (P : Program) (N : Nat) (ds : List Deferred) (w : World) (ops : Array Oper) (o : Oper) (env : List (Nat × PV)) (x : PV) : Prop :=
 o.guard = none ∧ ∃ v, x = .v v ∧ ∀ a, RV (z6o (o.looksAt ops) env) a → a.tmps.size = N → a.defers = ds → (execOp a.eval o).run P w = .ok (.value v) w
def XQj (P : Program) (N : Nat) (ds : List Deferred) (w : World) (ops : Array Oper) (suf : List Oper) (Q : Exit → Act → World → Prop) : List Oper → List (Nat × PV) → Prop
 | [], env => ∀ a, RV env a → a.tmps.size = N → a.defers = ds → wpList P ops Q suf a w
 | o :: r, env => z6q o.dst N = true ∧ ∃ x, QX P N ds w ops o env x ∧ XQj P N ds w ops suf Q r (zpv o.dst x env)
theorem ze6 {w : World} {ops : Array Oper} {suf : List Oper} {Q : Exit → Act → World → Prop} : ∀ {l : List Oper} {env : List (Nat × PV)}, XQj P N ds w ops suf Q l env →
 ∃ xs : List PV, xs.length = l.length ∧ (∀ (j : Nat) (o : Oper), l[j]? = some o → z6q o.dst N = true ∧ ∃ x, xs[j]? = some x ∧ QX P N ds w ops o (ze1 l xs env j) x) ∧ (∀ a, RV (ze1 l xs env l.length) a → a.tmps.size = N → a.defers = ds → wpList P ops Q suf a w)
 | [], env, h => ⟨[], rfl, by simp, h⟩
 | o :: r, env, ⟨hd, x, h1, h2⟩ => by
  obtain ⟨xs, h3, h4, h5⟩ := ze6 h2
  refine ⟨x :: xs, by simp [h3], fun j q hq => ?_, h5⟩
  cases j with
  | zero => simp at hq; subst hq; exact ⟨hd, x, rfl, h1⟩
  | succ j => simpa [ze1] using h4 j q (by simpa using hq)
theorem zsy {rid : Nat} {ops : Array Oper} {env : List (Nat × PV)} {Q : Exit → Act → World → Prop} {a0 : Act} {w0 : World} (m : Nat) (hm : P.follows .mixedOrders = true) (hq : zjq ops m = true) (hr0 : RV env a0) (hsz0 : a0.tmps.size = N) (hds0 : a0.defers = ds)
    (h : XQj P N ds { w0 with drawn := w0.drawn + 1 } ops (ops.toList.drop m) Q (ops.toList.take m) env) : (Code.region rid ops true).wp P Q a0 w0 := by
  generalize hwd : ({ w0 with drawn := w0.drawn + 1 } : World) = w at h
  obtain ⟨xs, hxl, hst, hsuf⟩ := ze6 h
  simp only [zjq, Bool.and_eq_true, List.all_eq_true, List.mem_range] at hq
  obtain ⟨hmn, hall⟩ := hq
  have hmn' := Nat.le_of_ble_eq_true hmn
  simp only [Array.length_toList] at hmn' hall
  have chk : ∀ (i : Nat) (o : Oper), ops[i]? = some o →
      (∀ e, e ∈ o.after.toList → Region.binds .any e = true → e.on < i) ∧ (m ≤ i → ∀ j, j < i → ((masks ops.toList []).getD i 0).testBit j = true) ∧
      ∀ (k : Nat) (q : Oper) (d : Nat), ops[k]? = some q → i ≠ k → q.dst = some d → o.dst ≠ some d ∧ (i < m → d ∈ o.looksAt ops → (k < i → ((masks ops.toList []).getD i 0).testBit k = true) ∧ (¬ k < i → ((masks ops.toList []).getD k 0).testBit i = true)) := by
    intro i o hi
    have h1 := hall i (z1e hi)
    have hi' : ops.toList[i]? = some o := by simpa using hi
    rw [hi'] at h1
    simp only [Bool.and_eq_true, List.all_eq_true, List.mem_range] at h1
    obtain ⟨⟨h2, h3⟩, h4⟩ := h1
    refine ⟨fun e he hb => ?_, fun hmi j hj => ?_, fun k q d hk hne hqd => ?_⟩
    · have := h2 e he
      rw [hb] at this
      simpa [Nat.blt_eq] using this
    · simp only [Bool.or_eq_true, List.all_eq_true, List.mem_range, Nat.blt_eq] at h3
      rcases h3 with h3 | h3
      · omega
      · exact h3 j hj
    · have h5 := h4 k (z1e hk)
      have hk' : ops.toList[k]? = some q := by simpa using hk
      rw [hk'] at h5
      simp only [hqd, Bool.or_eq_true, Bool.and_eq_true] at h5
      rcases h5 with h5 | ⟨h5, h6⟩
      · exact absurd (beq_iff'.1 h5) hne
      · refine ⟨by simpa using h5, fun him hdm => ?_⟩
        have him' : Nat.blt i m = true := by simpa [Nat.blt_eq] using him
        have hdm' : (o.looksAt ops).contains d = true := by simpa using hdm
        rw [him', hdm'] at h6
        simp only [Bool.not_true, Bool.false_eq_true, false_or, or_false] at h6
        cases hki : Nat.blt k i with
        | true => rw [hki] at h6; simp [Nat.blt_eq] at hki; exact ⟨fun _ => by simpa using h6, fun hn => absurd hki hn⟩
        | false =>
          rw [hki] at h6
          have : ¬ k < i := fun hlt => by
            have : Nat.blt k i = true := by simpa [Nat.blt_eq] using hlt
            rw [this] at hki; cases hki
          exact ⟨fun hlt => absurd hlt this, fun _ => by simpa using h6⟩
  have hdist : ∀ (i j : Nat) (o q : Oper) (d : Nat), ops[i]? = some o → ops[j]? = some q → o.dst = some d → q.dst = some d → i = j := by
    intro i j o q d h1 h2 h3 h4
    by_cases hij : i = j
    · exact hij
    · exact absurd h3 ((chk i o h1).2.2 j q d h2 hij h4).1
  have htake : ∀ (j : Nat) (o : Oper), (ops.toList.take m)[j]? = some o ↔ (j < m ∧ ops[j]? = some o) := by
    intro j o
    rw [List.getElem?_take]
    split
    · rename_i hj; simp [hj]
    · rename_i hj; simp [hj]
  have htl : (ops.toList.take m).length = m := by rw [List.length_take, Array.length_toList]; omega
  have hdist' : ∀ (i j : Nat) (o q : Oper) (d : Nat), (ops.toList.take m)[i]? = some o → (ops.toList.take m)[j]? = some q → o.dst = some d → q.dst = some d → i = j :=
    fun i j o q d h1 h2 => hdist i j o q d ((htake i o).1 h1).2 ((htake j q).1 h2).2
  have closed : ∀ (listed : Array Bool), z8c ops listed → ∀ i o, ops[i]? = some o → (∀ e, e ∈ o.after.toList → Region.binds .any e = true → listed.getD e.on false = true) → ∀ k, ((masks ops.toList []).getD i 0).testBit k = true → listed.getD k false = true := by
    intro listed hcl i o hi he k hk
    exact z8k (L := fun k => listed.getD k false = true) (all := ops.toList) (fun k hk o ho => hcl k hk o (by simpa using ho)) ops.toList [] [] rfl rfl (by simp) i o (by simpa using hi) he k hk
  have hedge : ∀ k o, ops[k]? = some o → ∀ e, e ∈ o.after.toList → Region.binds .any e = true → e.on < k := fun k o ho => (chk k o ho).1
  have hord : ∀ fs : Array Bool, fs.size = ops.size → z8c ops fs → ∀ k, m ≤ k → k < ops.size → k ∈ Region.ready .any ops fs → ∀ j, j < k → fs.getD j false = true := by
    intro fs _ hcl k hmk hks hk j hj
    obtain ⟨_, o, ho, h2⟩ := mem_ready.1 hk
    exact closed fs hcl k o ho (fun e he hb => h2 e (by simpa using he) hb) j ((chk k o ho).2.1 hmk j hj)
  refine wp_region_any hm ?_
  have donecase : ∀ (fuel : Nat) (listed : Array Bool) (a : Act), listed.size = ops.size → z8c ops listed →
      (∀ k, m ≤ k → listed.getD k false = false) → left ops listed ≤ fuel → a.tmps.size = N → a.defers = ds →
      (∀ (k : Nat) (o : Oper) (d : Nat) (x : PV), listed.getD k false = true → ops[k]? = some o → o.dst = some d → xs[k]? = some x → ∃ u, a.tmps[d]? = some u ∧ x = .v u) →
      (∀ (t : Nat) (x : PV), get env t = some x → (∀ (k : Nat) (o : Oper), listed.getD k false = true → ops[k]? = some o → o.dst ≠ some t) → ∃ u, a.tmps[t]? = some u ∧ x = .v u) →
      (∀ j, j < m → listed.getD j false = true) → wpAny P .any ops Q fuel listed a w := by
    intro fuel listed a hsz hcl hno hcount hts hdf hk1 hk2 hdone
    have hrelE : RV (ze1 (ops.toList.take m) xs env (ops.toList.take m).length) a := by
      intro t x hx
      have hg := z9s (l := ops.toList.take m) (xs := xs) (env := env) hxl hdist' (ops.toList.take m).length t (Nat.le_refl _)
      by_cases hw : ∃ (k : Nat) (o : Oper), (ops.toList.take m)[k]? = some o ∧ o.dst = some t
      · obtain ⟨k, o, h1, h2⟩ := hw
        have hkl := z0a h1
        have hxk : xs[k]? = some (xs[k]'(by rw [hxl]; exact hkl)) := List.getElem?_eq_getElem (by rw [hxl]; exact hkl)
        rw [hg.1 k o _ hkl h1 h2 hxk] at hx
        injection hx with hx; subst hx
        exact hk1 k o t _ (hdone k ((htake k o).1 h1).1) ((htake k o).1 h1).2 h2 hxk
      · rw [hg.2 (fun k o _ h1 h2 => hw ⟨k, o, h1, h2⟩)] at hx
        refine hk2 t x hx (fun k o hk ho hd => ?_)
        have hkm : k < m := by
          rcases Nat.lt_or_ge k m with hlt | hge
          · exact hlt
          · rw [hno k hge] at hk; cases hk
        exact hw ⟨k, o, (htake k o).2 ⟨hkm, ho⟩, hd⟩
    have hfin := hsuf a hrelE hts hdf
    refine za4 hedge hord (ops.toList.drop m) m (Nat.le_refl _) (fun j => by simp [List.getElem?_drop]) a w hfin _ listed hsz (fun j hj => ?_) hmn' hcount
    constructor
    · intro h1
      rcases Nat.lt_or_ge j m with hlt | hge
      · exact hlt
      · rw [hno j hge] at h1; cases h1
    · exact hdone j
  have main : ∀ (fuel : Nat) (listed : Array Bool) (a : Act), listed.size = ops.size → z8c ops listed →
      (∀ k, m ≤ k → listed.getD k false = false) → left ops listed ≤ fuel → a.tmps.size = N → a.defers = ds →
      (∀ (k : Nat) (o : Oper) (d : Nat) (x : PV), listed.getD k false = true → ops[k]? = some o → o.dst = some d → xs[k]? = some x → ∃ u, a.tmps[d]? = some u ∧ x = .v u) →
      (∀ (t : Nat) (x : PV), get env t = some x → (∀ (k : Nat) (o : Oper), listed.getD k false = true → ops[k]? = some o → o.dst ≠ some t) → ∃ u, a.tmps[t]? = some u ∧ x = .v u) →
      wpAny P .any ops Q fuel listed a w := by
    intro fuel
    induction fuel with
    | zero =>
      intro listed a hsz hcl hno hcount hts hdf hk1 hk2
      exact donecase 0 listed a hsz hcl hno hcount hts hdf hk1 hk2 (fun j hj => zdd (Nat.le_zero.1 hcount) j (by omega))
    | succ fuel ih =>
      intro listed a hsz hcl hno hcount hts hdf hk1 hk2
      by_cases hdone : ∀ j, j < m → listed.getD j false = true
      · exact donecase (fuel + 1) listed a hsz hcl hno hcount hts hdf hk1 hk2 hdone
      · obtain ⟨j0, hj0m, hj0u⟩ : ∃ j, j < m ∧ listed.getD j false = false := by
          refine Classical.byContradiction fun hc => hdone (fun j hj => ?_)
          cases hv : listed.getD j false with
          | true => rfl
          | false => exact absurd ⟨j, hj, hv⟩ hc
        refine ⟨fun h0 => ?_, fun j hj => ?_⟩
        · -- the least that is left is ready
          have key : ∀ k, k < m → listed.getD k false = false → ∃ i, i ∈ Region.ready .any ops listed := by
            intro k
            induction k using Nat.strongRecOn with
            | _ k ihk =>
              intro hkm hku
              have hks : k < ops.size := by omega
              by_cases hp : ∀ j, j < k → listed.getD j false = true
              · refine ⟨k, mem_ready.2 ⟨by rw [z8o hsz hks]; exact hku, ops[k], Array.getElem?_eq_getElem hks, fun e he hb => ?_⟩⟩
                exact hp _ (hedge k _ (Array.getElem?_eq_getElem hks) e (by simpa using he) hb)
              · obtain ⟨j, hjk, hju⟩ : ∃ j, j < k ∧ listed.getD j false = false := by
                  refine Classical.byContradiction fun hc => hp (fun j hj => ?_)
                  cases hv : listed.getD j false with
                  | true => rfl
                  | false => exact absurd ⟨j, hj, hv⟩ hc
                exact ihk j hjk (by omega) hju
          obtain ⟨i, hi⟩ := key j0 hj0m hj0u
          rw [h0] at hi; cases hi
        · obtain ⟨h1, o, ho, h2⟩ := mem_ready.1 hj
          have hjs := z1e ho
          have hju : listed.getD j false = false := by rw [z8o hsz hjs] at h1; exact h1
          have hpre : ∀ e, e ∈ o.after.toList → Region.binds .any e = true → listed.getD e.on false = true := fun e he hb => h2 e (by simpa using he) hb
          have hjm : j < m := by
            rcases Nat.lt_or_ge j m with hlt | hge
            · exact hlt
            · have := hord listed hsz hcl j hge hjs hj j0 (by omega)
              rw [hj0u] at this; cases this
          obtain ⟨hdok, x, hxj, hstep⟩ := hst j o ((htake j o).2 ⟨hjm, ho⟩)
          have hchk := chk j o ho
          -- what the operation looks at is as in the text's order
          have hlook : ∀ (t : Nat) (y : PV), t ∈ o.looksAt ops → get (ze1 (ops.toList.take m) xs env j) t = some y → ∃ u, a.tmps[t]? = some u ∧ y = .v u := by
            intro t y ht hy
            have hg := z9s (l := ops.toList.take m) (xs := xs) (env := env) hxl hdist' j t (by rw [htl]; omega)
            by_cases hw : ∃ (k : Nat) (q : Oper), k < j ∧ ops[k]? = some q ∧ q.dst = some t
            · obtain ⟨k, q, hkj, hk, hqd⟩ := hw
              have hxk : xs[k]? = some (xs[k]'(by rw [hxl, htl]; omega)) := List.getElem?_eq_getElem (by rw [hxl, htl]; omega)
              rw [hg.1 k q _ hkj ((htake k q).2 ⟨by omega, hk⟩) hqd hxk] at hy
              injection hy with hy; subst hy
              have hbit := ((hchk.2.2 k q t hk (by omega) hqd).2 hjm ht).1 hkj
              exact hk1 k q t _ (closed listed hcl j o ho hpre k hbit) hk hqd hxk
            · rw [hg.2 (fun k q hkj hk hqd => hw ⟨k, q, hkj, ((htake k q).1 hk).2, hqd⟩)] at hy
              refine hk2 t y hy (fun k q hk hq hqd => ?_)
              have hkj : ¬ k < j := fun hlt => hw ⟨k, q, hlt, hq, hqd⟩
              have hne : j ≠ k := fun e => by subst e; rw [hju] at hk; cases hk
              have hbit := ((hchk.2.2 k q t hq hne hqd).2 hjm ht).2 hkj
              have := closed listed hcl k q hq (hcl k hk q hq) j hbit
              rw [hju] at this; cases this
          -- z3v it
          have next : ∀ (v : Value), x = .v v → wpAny P .any ops Q fuel (listed.setIfInBounds j true) (a.put o.dst v) w := by
            intro v hv
            refine ih (listed.setIfInBounds j true) (a.put o.dst v) (by simp [hsz]) ?_ ?_ (by have := zg5 hsz hjs hju; omega) ?_ ?_ ?_ ?_
            · intro k hk q hq e he hb
              by_cases hjk : j = k
              · subst hjk; rw [ho] at hq; injection hq with hq; subst hq
                exact getD_set_true (hpre e he hb)
              · rw [getD_set_ne false hjk] at hk; exact getD_set_true (hcl k hk q hq e he hb)
            · intro k hk
              rw [getD_set_ne false (by omega)]; exact hno k hk
            · cases o.dst <;> simp [Act.put, hts]
            · cases o.dst <;> simp [Act.put, hdf]
            · intro k q d y hk hq hqd hy
              by_cases hjk : j = k
              · subst hjk
                rw [ho] at hq; injection hq with hq; subst hq
                rw [hxj] at hy; injection hy with hy; subst hy
                have hdn : d < a.tmps.size := by rw [hqd] at hdok; rw [hts]; simpa [z6q, Nat.blt_eq] using hdok
                exact ⟨v, by simp [Act.put, hqd, hdn], hv⟩
              · rw [getD_set_ne false hjk] at hk
                obtain ⟨u, h3, h4⟩ := hk1 k q d y hk hq hqd hy
                refine ⟨u, ?_, h4⟩
                cases hod : o.dst with
                | none => simpa [Act.put] using h3
                | some d' =>
                  have hne : d' ≠ d := fun e => hjk (hdist j k o q d ho hq (by rw [hod, e]) hqd)
                  simpa [Act.put, Array.getElem?_setIfInBounds_ne hne] using h3
            · intro t y hy hnw
              have hjt := hnw j o (by have : j < listed.size := by rw [hsz]; exact hjs
                                      simp [this]) ho
              obtain ⟨u, h3, h4⟩ := hk2 t y hy (fun k q hk hq => hnw k q (getD_set_true hk) hq)
              refine ⟨u, ?_, h4⟩
              cases hod : o.dst with
              | none => simpa [Act.put] using h3
              | some d' =>
                have hne : d' ≠ t := fun e => hjt (by rw [hod, e])
                simpa [Act.put, Array.getElem?_setIfInBounds_ne hne] using h3
          have hrelK : RV (z6o (o.looksAt ops) (ze1 (ops.toList.take m) xs env j)) a := fun t y hy => let ⟨h3, h4⟩ := z9p hy; hlook t y h3 h4
          obtain ⟨hgd, v, hxv, hrun⟩ := hstep
          unfold wpOp
          rw [ho]
          simp only []
          rw [if_pos (by simp [Region.wanted, hgd])]
          left
          unfold Oper.wp
          rw [hrun a hrelK hts hdf]
          exact next v hxv
  rw [hwd]
  refine main ops.size (Array.replicate ops.size false) a0 (by simp) (fun k hk => ?_) (fun k _ => ?_) ?_ hsz0 hds0 (fun k o d x hk => ?_) (fun t x hx _ => ?_)
  · simp [Array.getElem?_replicate] at hk; split at hk <;> cases hk
  · simp [Array.getElem?_replicate]; split <;> rfl
  · unfold left; refine Nat.le_trans (List.length_filter_le _ _) (by simp)
  · simp [Array.getElem?_replicate] at hk; split at hk <;> cases hk
  · exact hr0 t x hx
def pvE (env : VE) : List (Nat × PV) := env.map fun p => (p.1, .v p.2)
theorem zk6 : ∀ {env : VE} {t : Nat}, get (pvE env) t = (z80 env t).map .v
 | [], t => rfl
 | (k, x) :: r, t => by
  simp only [pvE, List.map_cons, get, z80]
  cases Nat.beq k t with
  | true => rfl
  | false => exact zk6 (env := r)
theorem AR.rv {env : VE} {a : Act} (h : AR N ds env a) : RV (pvE env) a := fun t x hx => by
 rw [zk6, Option.map_eq_some_iff] at hx
 obtain ⟨v, h1, rfl⟩ := hx
 exact ⟨v, h.env t v h1, rfl⟩
theorem RV.ar {env : VE} {a : Act} (h : RV (pvE env) a) (hs : a.tmps.size = N) (hd : a.defers = ds) : AR N ds env a := ⟨fun t v hv => by
 obtain ⟨u, h1, h2⟩ := h t (.v v) (by rw [zk6, hv]; rfl)
 injection h2 with h2; rw [h2]; exact h1, hs, hd⟩
def znw (ts : List Nat) : VE → VE
 | [] => []
 | (k, x) :: r => bif ts.contains k then (k, x) :: znw ts r else znw ts r
theorem zg6 {ts : List Nat} : ∀ {env : VE}, z6o ts (pvE env) = pvE (znw ts env)
 | [] => rfl
 | (k, x) :: r => by
  simp only [pvE, List.map_cons, z6o, znw]
  cases ts.contains k with
  | true => simp only [cond_true, List.map_cons]; exact congrArg _ (zg6 (env := r))
  | false => exact zg6 (env := r)
def XD (P : Program) (N : Nat) (ds : List Deferred) (w : World) (ops : Array Oper) (suf : List Oper) (K : Exit → VE → World → Prop) : List Oper → VE → Prop
 | [], env => XL P N ds ops suf env w K
 | o :: r, env => z6q o.dst N = true ∧ o.guard = none ∧ ∃ v, (∀ a, AR N ds (znw (o.looksAt ops) env) a → (execOp a.eval o).run P w = .ok (.value v) w) ∧ XD P N ds w ops suf K r (zvj o.dst v env)
theorem z2m {w : World} {ops : Array Oper} {suf r : List Oper} {K : Exit → VE → World → Prop} {env : VE} {o : Oper} {v : Value} (hd : z6q o.dst N = true) (hg : o.guard = none) (hrun : ∀ a, AR N ds (znw (o.looksAt ops) env) a → (execOp a.eval o).run P w = .ok (.value v) w)
 (h : XD P N ds w ops suf K r (zvj o.dst v env)) : XD P N ds w ops suf K (o :: r) env := ⟨hd, hg, v, hrun, h⟩
theorem zku {w : World} {ops : Array Oper} {suf : List Oper} {K : Exit → VE → World → Prop} {env : VE} (h : XL P N ds ops suf env w K) : XD P N ds w ops suf K [] env := h
theorem zzn {w : World} {ops : Array Oper} {suf : List Oper} {K : Exit → VE → World → Prop} : ∀ {l : List Oper} {env : VE}, XD P N ds w ops suf K l env → XQj P N ds w ops suf (XP N ds K) l (pvE env)
 | [], env, h => fun a ha hs hd => h a (ha.ar hs hd)
 | o :: r, env, ⟨h1, h2, v, h3, h4⟩ => ⟨h1, .v v, ⟨h2, v, rfl, fun a ha hs hd => h3 a (by rw [zg6] at ha; exact ha.ar hs hd)⟩, by
  have := zzn h4
  cases ho : o.dst with
  | none => rw [ho] at this; exact this
  | some d => rw [ho] at this; exact this⟩
theorem zfe {rid : Nat} {ops : Array Oper} {env : VE} {w : World} {K : Exit → VE → World → Prop} (m : Nat) (hm : P.follows .mixedOrders = true) (hq : zjq ops m = true)
 (h : XD P N ds { w with drawn := w.drawn + 1 } ops (ops.toList.drop m) K (ops.toList.take m) env) : XW P N ds (.region rid ops true) env w K := fun a ha =>
 zsy m hm hq ha.rv ha.size ha.ds (zzn h)
theorem zfd {c : Code} {env env' : VE} {w : World} {K : Exit → VE → World → Prop} (hs : ∀ t v, z80 env' t = some v → z80 env t = some v) (h : XW P N ds c env' w K) : XW P N ds c env w K := fun a ha =>
 h a ⟨fun t v hv => ha.env t v (hs t v hv), ha.size, ha.ds⟩
end Aw
end Go.Proofs.Ythidgpcbnieleaa
