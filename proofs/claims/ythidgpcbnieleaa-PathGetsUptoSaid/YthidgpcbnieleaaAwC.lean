/- Aw: a region in any order, of whose operations some make or write, one z3v the other, and whose last ones come z3v all others, in their order. -/
import Derived.Test.YthidgpcbnieleaaAw9
namespace Go.Proofs.Ythidgpcbnieleaa.Aw
open Go
set_option linter.unusedVariables false
set_option linter.unusedSimpArgs false
variable {P : Program} {F : Fr} {H H' : List AEnt} {g g' : List (Option Nat)} {w w' : World}
def zky (ops : Array Oper) (ls : List Nat) (m : Nat) : Bool :=
 zsi ops ls && Nat.ble m ops.toList.length && (List.range ops.toList.length).all fun i => Nat.blt i m || (List.range i).all fun j => ((masks ops.toList []).getD i 0).testBit j
theorem zvd {rid : Nat} {ops : Array Oper} {s : ASt} {K : AExit → ASt → Prop} (m : Nat) (ls I : List Nat) (hm : P.follows .mixedOrders = true) (hq : zky ops ls m = true) (h : AC P ops ls I s.H s.n (fun _ s1 => AO P ops (ops.toList.drop m) s1 K) 0 (ops.toList.take m) s.env s.H) : AW P (.region rid ops true) s K := by
  intro F g0 a0 w0 hr0
  obtain ⟨xs, Hs, hxl, hH0, hpin, hst, hfin⟩ := zfa h Pins.refl
  simp only [zky, Bool.and_eq_true] at hq
  obtain ⟨⟨hq, hmn⟩, htail⟩ := hq
  simp only [zsi, List.all_eq_true, List.mem_range] at hq
  have hall := hq
  have hmn' := Nat.le_of_ble_eq_true hmn
  simp only [List.all_eq_true, List.mem_range, Bool.or_eq_true, Nat.blt_eq] at htail
  simp only [Array.length_toList] at hall hmn' htail
  simp only [Nat.zero_add] at hst
  have chk : ∀ (i : Nat) (o : Oper), ops[i]? = some o →
      (∀ e, e ∈ o.after.toList → Region.binds .any e = true → e.on < i) ∧ (ls.contains i = true → ∀ j, j < i → ls.contains j = true → ((masks ops.toList []).getD i 0).testBit j = true) ∧
      ∀ (k : Nat) (q : Oper) (d : Nat), ops[k]? = some q → i ≠ k → q.dst = some d → o.dst ≠ some d ∧ (d ∈ o.looksAt ops → (k < i → ((masks ops.toList []).getD i 0).testBit k = true) ∧ (¬ k < i → ((masks ops.toList []).getD k 0).testBit i = true)) := by
    intro i o hi
    have h1 := hall i (z1e hi)
    have hi' : ops.toList[i]? = some o := by simpa using hi
    rw [hi'] at h1
    simp only [Bool.and_eq_true, List.all_eq_true, List.mem_range] at h1
    obtain ⟨⟨h2, h3⟩, h4⟩ := h1
    refine ⟨fun e he hb => ?_, fun hli j hj hlj => ?_, fun k q d hk hne hqd => ?_⟩
    · have := h2 e he
      rw [hb] at this
      simpa [Nat.blt_eq] using this
    · rw [hli] at h3
      simp only [Bool.not_true, Bool.false_or, List.all_eq_true, List.mem_range] at h3
      have := h3 j hj
      rw [hlj] at this
      simpa using this
    · have h5 := h4 k (z1e hk)
      have hk' : ops.toList[k]? = some q := by simpa using hk
      rw [hk'] at h5
      simp only [hqd, Bool.or_eq_true, Bool.and_eq_true] at h5
      rcases h5 with h5 | ⟨h5, h6⟩
      · exact absurd (beq_iff'.1 h5) hne
      · refine ⟨by simpa using h5, fun hdm => ?_⟩
        have hdm' : (o.looksAt ops).contains d = true := by simpa using hdm
        rw [hdm'] at h6
        simp only [Bool.not_true, Bool.false_eq_true, false_or] at h6
        cases hki : Nat.blt k i with
        | true => rw [hki] at h6; simp [Nat.blt_eq] at hki; exact ⟨fun _ => by simpa using h6, fun hn => absurd hki hn⟩
        | false =>
          rw [hki] at h6
          have : ¬ k < i := fun hlt => by
            have : Nat.blt k i = true := by simpa [Nat.blt_eq] using hlt
            rw [this] at hki; cases hki
          exact ⟨fun hlt => absurd hlt this, fun _ => by simpa using h6⟩
  have hdist : ∀ (i j : Nat) (o q : Oper) (d : Nat), ops[i]? = some o → ops[j]? = some q → o.dst = some d → q.dst = some d → i = j := by
    intro i j o q d h1 h2 h3 h4
    by_cases hij : i = j
    · exact hij
    · exact absurd h3 ((chk i o h1).2.2 j q d h2 hij h4).1
  have htake : ∀ (j : Nat) (o : Oper), (ops.toList.take m)[j]? = some o ↔ (j < m ∧ ops[j]? = some o) := by
    intro j o
    rw [List.getElem?_take]
    split
    · rename_i hj; simp [hj]
    · rename_i hj; simp [hj]
  have htl : (ops.toList.take m).length = m := by rw [List.length_take, Array.length_toList]; omega
  rw [htl] at hxl hpin hfin
  have hdist' : ∀ (i j : Nat) (o q : Oper) (d : Nat), (ops.toList.take m)[i]? = some o → (ops.toList.take m)[j]? = some q → o.dst = some d → q.dst = some d → i = j :=
    fun i j o q d h1 h2 => hdist i j o q d ((htake i o).1 h1).2 ((htake j q).1 h2).2
  have closed : ∀ (listed : Array Bool), z8c ops listed → ∀ i o, ops[i]? = some o → (∀ e, e ∈ o.after.toList → Region.binds .any e = true → listed.getD e.on false = true) → ∀ k, ((masks ops.toList []).getD i 0).testBit k = true → listed.getD k false = true := by
    intro listed hcl i o hi he k hk
    exact z8k (L := fun k => listed.getD k false = true) (all := ops.toList) (fun k hk o ho => hcl k hk o (by simpa using ho)) ops.toList [] [] rfl rfl (by simp) i o (by simpa using hi) he k hk
  have hedge : ∀ k o, ops[k]? = some o → ∀ e, e ∈ o.after.toList → Region.binds .any e = true → e.on < k := fun k o ho => (chk k o ho).1
  have hord : ∀ fs : Array Bool, fs.size = ops.size → z8c ops fs → ∀ k, m ≤ k → k < ops.size → k ∈ Region.ready .any ops fs → ∀ j, j < k → fs.getD j false = true := by
    intro fs _ hcl k hmk hks hk j hj
    obtain ⟨_, o, ho, h2⟩ := mem_ready.1 hk
    exact closed fs hcl k o ho (fun e he hb => h2 e (by simpa using he) hb) j ((htail k hks).resolve_left (by omega) j hj)
  let C : Array Bool → Nat := fun listed => cnt (fun k => ls.contains k && listed.getD k false) m
  have hCle : ∀ listed, (∀ j, j < m → listed.getD j false = true) → C listed = rk ls 0 m := by
    intro listed hl
    rw [zl5]
    exact z5y (fun k hk => by rw [hl k hk]; simp)
  refine wp_region_any hm ?_
  have donecase : ∀ (fuel : Nat) (listed : Array Bool) (a : Act) (w : World) (g : List (Option Nat)), listed.size = ops.size → z8c ops listed →
      (∀ k, m ≤ k → listed.getD k false = false) → left ops listed ≤ fuel → RelH P F (Hs (C listed)) g w → Ext P F s.H g0 w0 (Hs (C listed)) g w → a.tmps.size = s.n → a.defers = F.ds →
      (∀ (k : Nat) (o : Oper) (d : Nat) (x : PV), listed.getD k false = true → ops[k]? = some o → o.dst = some d → xs[k]? = some x → ∃ u, a.tmps[d]? = some u ∧ VR (ctx P F (Hs (C listed)) g w) x u) →
      (∀ (t : Nat) (x : PV), get s.env t = some x → (∀ (k : Nat) (o : Oper), listed.getD k false = true → ops[k]? = some o → o.dst ≠ some t) → ∃ u, a.tmps[t]? = some u ∧ VR (ctx P F (Hs (C listed)) g w) x u) →
      (∀ j, j < m → listed.getD j false = true) → wpAny P .any ops (Post P F s.H g0 w0 K) fuel listed a w := by
    intro fuel listed a w g hsz hcl hno hcount hrel hext hts hdf hk1 hk2 hdone
    rw [hCle listed hdone] at hrel hext hk1 hk2
    have hrelE : Rel P F ⟨ze1 (ops.toList.take m) xs s.env m, Hs (rk ls 0 m), s.n⟩ a w g := by
      refine ⟨hrel, fun t x hx => ?_, hts, hdf⟩
      have hg := z9s (l := ops.toList.take m) (xs := xs) (env := s.env) (by rw [hxl, htl]) hdist' m t (by rw [htl]; exact Nat.le_refl _)
      by_cases hw : ∃ (k : Nat) (o : Oper), (ops.toList.take m)[k]? = some o ∧ o.dst = some t
      · obtain ⟨k, o, h1, h2⟩ := hw
        have hkl := ((htake k o).1 h1).1
        have hxk : xs[k]? = some (xs[k]'(by rw [hxl]; exact hkl)) := List.getElem?_eq_getElem (by rw [hxl]; exact hkl)
        rw [hg.1 k o _ hkl h1 h2 hxk] at hx
        injection hx with hx; subst hx
        exact hk1 k o t _ (hdone k hkl) ((htake k o).1 h1).2 h2 hxk
      · rw [hg.2 (fun k o _ h1 h2 => hw ⟨k, o, h1, h2⟩)] at hx
        refine hk2 t x hx (fun k o hk ho hd => ?_)
        have hkm : k < m := by
          rcases Nat.lt_or_ge k m with hlt | hge
          · exact hlt
          · rw [hno k hge] at hk; cases hk
        exact hw ⟨k, o, (htake k o).2 ⟨hkm, ho⟩, hd⟩
    have hlast := z32 (fun _ _ _ hp => hp.from hext) _ _ _ (hfin F g a w hrelE)
    refine za4 hedge hord (ops.toList.drop m) m (Nat.le_refl _) (fun j => by simp [List.getElem?_drop]) a w hlast _ listed hsz (fun j hj => ?_) hmn' hcount
    constructor
    · intro h1
      rcases Nat.lt_or_ge j m with hlt | hge
      · exact hlt
      · rw [hno j hge] at h1; cases h1
    · exact hdone j
  have main : ∀ (fuel : Nat) (listed : Array Bool) (a : Act) (w : World) (g : List (Option Nat)), listed.size = ops.size → z8c ops listed →
      (∀ k, m ≤ k → listed.getD k false = false) → left ops listed ≤ fuel → RelH P F (Hs (C listed)) g w → Ext P F s.H g0 w0 (Hs (C listed)) g w → a.tmps.size = s.n → a.defers = F.ds →
      (∀ (k : Nat) (o : Oper) (d : Nat) (x : PV), listed.getD k false = true → ops[k]? = some o → o.dst = some d → xs[k]? = some x → ∃ u, a.tmps[d]? = some u ∧ VR (ctx P F (Hs (C listed)) g w) x u) →
      (∀ (t : Nat) (x : PV), get s.env t = some x → (∀ (k : Nat) (o : Oper), listed.getD k false = true → ops[k]? = some o → o.dst ≠ some t) → ∃ u, a.tmps[t]? = some u ∧ VR (ctx P F (Hs (C listed)) g w) x u) →
      wpAny P .any ops (Post P F s.H g0 w0 K) fuel listed a w := by
    intro fuel
    induction fuel with
    | zero =>
      intro listed a w g hsz hcl hno hcount hrel hext hts hdf hk1 hk2
      exact donecase 0 listed a w g hsz hcl hno hcount hrel hext hts hdf hk1 hk2 (fun j hj => zdd (Nat.le_zero.1 hcount) j (by omega))
    | succ fuel ih =>
      intro listed a w g hsz hcl hno hcount hrel hext hts hdf hk1 hk2
      by_cases hdone : ∀ j, j < m → listed.getD j false = true
      · exact donecase (fuel + 1) listed a w g hsz hcl hno hcount hrel hext hts hdf hk1 hk2 hdone
      · obtain ⟨j0, hj0m, hj0u⟩ : ∃ j, j < m ∧ listed.getD j false = false := by
          refine Classical.byContradiction fun hc => hdone (fun j hj => ?_)
          cases hv : listed.getD j false with
          | true => rfl
          | false => exact absurd ⟨j, hj, hv⟩ hc
        refine ⟨fun h0 => ?_, fun j hj => ?_⟩
        · -- the least that is left is ready
          have key : ∀ k, k < m → listed.getD k false = false → ∃ i, i ∈ Region.ready .any ops listed := by
            intro k
            induction k using Nat.strongRecOn with
            | _ k ihk =>
              intro hkm hku
              have hks : k < ops.size := by omega
              by_cases hp : ∀ j, j < k → listed.getD j false = true
              · refine ⟨k, mem_ready.2 ⟨by rw [z8o hsz hks]; exact hku, ops[k], Array.getElem?_eq_getElem hks, fun e he hb => ?_⟩⟩
                exact hp _ (hedge k _ (Array.getElem?_eq_getElem hks) e (by simpa using he) hb)
              · obtain ⟨j, hjk, hju⟩ : ∃ j, j < k ∧ listed.getD j false = false := by
                  refine Classical.byContradiction fun hc => hp (fun j hj => ?_)
                  cases hv : listed.getD j false with
                  | true => rfl
                  | false => exact absurd ⟨j, hj, hv⟩ hc
                exact ihk j hjk (by omega) hju
          obtain ⟨i, hi⟩ := key j0 hj0m hj0u
          rw [h0] at hi; cases hi
        · obtain ⟨h1, o, ho, h2⟩ := mem_ready.1 hj
          have hjs := z1e ho
          have hju : listed.getD j false = false := by rw [z8o hsz hjs] at h1; exact h1
          have hpre : ∀ e, e ∈ o.after.toList → Region.binds .any e = true → listed.getD e.on false = true := fun e he hb => h2 e (by simpa using he) hb
          have hjm : j < m := by
            rcases Nat.lt_or_ge j m with hlt | hge
            · exact hlt
            · have := hord listed hsz hcl j hge hjs hj j0 (by omega)
              rw [hj0u] at this; cases this
          obtain ⟨hdok, x, hxj, hstep⟩ := hst j o ((htake j o).2 ⟨hjm, ho⟩)
          have hchk := chk j o ho
          have hafter : ∀ (k : Nat) (q : Oper), ops[k]? = some q → ((masks ops.toList []).getD k 0).testBit j = true → listed.getD k false = false := by
            intro k q hq hbit
            cases hv : listed.getD k false with
            | false => rfl
            | true =>
              have := closed listed hcl k q hq (hcl k hv q hq) j hbit
              rw [hju] at this; cases this
          -- what the operation looks at is as in the text's order
          have hlook : ∀ (t : Nat) (y : PV), t ∈ o.looksAt ops → get (ze1 (ops.toList.take m) xs s.env j) t = some y → ∃ u, a.tmps[t]? = some u ∧ VR (ctx P F (Hs (C listed)) g w) y u := by
            intro t y ht hy
            have hg := z9s (l := ops.toList.take m) (xs := xs) (env := s.env) (by rw [hxl, htl]) hdist' j t (by rw [htl]; omega)
            by_cases hw : ∃ (k : Nat) (q : Oper), k < j ∧ ops[k]? = some q ∧ q.dst = some t
            · obtain ⟨k, q, hkj, hk, hqd⟩ := hw
              have hxk : xs[k]? = some (xs[k]'(by rw [hxl]; omega)) := List.getElem?_eq_getElem (by rw [hxl]; omega)
              rw [hg.1 k q _ hkj ((htake k q).2 ⟨by omega, hk⟩) hqd hxk] at hy
              injection hy with hy; subst hy
              have hbit := ((hchk.2.2 k q t hk (by omega) hqd).2 ht).1 hkj
              exact hk1 k q t _ (closed listed hcl j o ho hpre k hbit) hk hqd hxk
            · rw [hg.2 (fun k q hkj hk hqd => hw ⟨k, q, hkj, ((htake k q).1 hk).2, hqd⟩)] at hy
              refine hk2 t y hy (fun k q hk hq hqd => ?_)
              have hkj : ¬ k < j := fun hlt => hw ⟨k, q, hlt, hq, hqd⟩
              have hne : j ≠ k := fun e => by subst e; rw [hju] at hk; cases hk
              have hbit := ((hchk.2.2 k q t hq hne hqd).2 ht).2 hkj
              rw [hafter k q hq hbit] at hk; cases hk
          -- z3v it
          have next : ∀ (v : Value) (w' : World) (g' : List (Option Nat)) (H' : List AEnt), H' = Hs (C (listed.setIfInBounds j true)) → VR (ctx P F H' g' w') x v → RelH P F H' g' w' → Ext P F (Hs (C listed)) g w H' g' w' → wpAny P .any ops (Post P F s.H g0 w0 K) fuel (listed.setIfInBounds j true) (a.put o.dst v) w' := by
            intro v w' g' H' hH' hv hr' hx'
            subst hH'
            refine ih (listed.setIfInBounds j true) (a.put o.dst v) w' g' (by simp [hsz]) ?_ (fun k hk => by rw [getD_set_ne false (by omega)]; exact hno k hk) (by have := zg5 hsz hjs hju; omega) hr' (hext.trans hx') ?_ ?_ ?_ ?_
            · intro k hk q hq e he hb
              by_cases hjk : j = k
              · subst hjk; rw [ho] at hq; injection hq with hq; subst hq
                exact getD_set_true (hpre e he hb)
              · rw [getD_set_ne false hjk] at hk; exact getD_set_true (hcl k hk q hq e he hb)
            · cases o.dst <;> simp [Act.put, hts]
            · cases o.dst <;> simp [Act.put, hdf]
            · intro k q d y hk hq hqd hy
              by_cases hjk : j = k
              · subst hjk
                rw [ho] at hq; injection hq with hq; subst hq
                rw [hxj] at hy; injection hy with hy; subst hy
                have hdn : d < a.tmps.size := by rw [hqd] at hdok; rw [hts]; simpa [z6q, Nat.blt_eq] using hdok
                exact ⟨v, by simp [Act.put, hqd, hdn], hv⟩
              · rw [getD_set_ne false hjk] at hk
                obtain ⟨u, h3, h4⟩ := hk1 k q d y hk hq hqd hy
                refine ⟨u, ?_, h4.mono hx'.le⟩
                cases hod : o.dst with
                | none => simpa [Act.put] using h3
                | some d' =>
                  have hne : d' ≠ d := fun e => hjk (hdist j k o q d ho hq (by rw [hod, e]) hqd)
                  simpa [Act.put, Array.getElem?_setIfInBounds_ne hne] using h3
            · intro t y hy hnw
              have hjt := hnw j o (by have : j < listed.size := by rw [hsz]; exact hjs
                                      simp [this]) ho
              obtain ⟨u, h3, h4⟩ := hk2 t y hy (fun k q hk hq => hnw k q (getD_set_true hk) hq)
              refine ⟨u, ?_, h4.mono hx'.le⟩
              cases hod : o.dst with
              | none => simpa [Act.put] using h3
              | some d' =>
                have hne : d' ≠ t := fun e => hjt (by rw [hod, e])
                simpa [Act.put, Array.getElem?_setIfInBounds_ne hne] using h3
          have hrelK : Rel P F ⟨z6o (o.looksAt ops) (ze1 (ops.toList.take m) xs s.env j), Hs (C listed), s.n⟩ a w g := ⟨hrel, fun t y hy => let ⟨h3, h4⟩ := z9p hy; hlook t y h3 h4, hts, hdf⟩
          have hnot : ∀ {i : Nat} {want : Bool} {v : Value} {t : Nat}, o.guard = some (i, want) → (ops[i]?).bind (·.dst) = some t → get (ze1 (ops.toList.take m) xs s.env j) t = some (.v v) → noW v want = true → Region.wanted o (yielded ops a.tmps) = false := by
            intro i want v t hgd hdt hget hw
            obtain ⟨u, h3, h4⟩ := hlook t _ (by unfold Oper.looksAt; rw [hgd]; simp [hdt]) hget
            rw [vr_v.1 h4] at h3
            exact zev hgd hdt h3 hw
          have hyield : ∀ {i : Nat} {want b : Bool} {t : Nat}, o.guard = some (i, want) → (ops[i]?).bind (·.dst) = some t → get (ze1 (ops.toList.take m) xs s.env j) t = some (.v (.bool b)) → yielded ops a.tmps i = some b := by
            intro i want b t hgd hdt hget
            obtain ⟨u, h3, h4⟩ := hlook t _ (by unfold Oper.looksAt; rw [hgd]; simp [hdt]) hget
            rw [vr_v.1 h4] at h3
            simp [yielded, hdt, h3]
          have hset : ∀ k, k ≠ j → (listed.setIfInBounds j true).getD k false = listed.getD k false := fun k hk => getD_set_ne false (fun e => hk e.symm)
          have hsetj : (listed.setIfInBounds j true).getD j false = true := by
            have : j < listed.size := by rw [hsz]; exact hjs
            simp [this]
          unfold wpOp
          rw [ho]
          simp only []
          rcases hstep with ⟨hlq, hstep⟩ | ⟨hll, hstep⟩
          · have hCs : C (listed.setIfInBounds j true) = C listed := z5y (fun k _ => by
              by_cases hkj : k = j
              · subst hkj; rw [hlq]; rfl
              · rw [hset k hkj])
            have hpc : Pins I s.H (Hs (C listed)) := hpin _ (by
              rw [zl5]
              have hle : ∀ (L L' : Nat → Bool) (n : Nat), (∀ k, L k = true → L' k = true) → cnt L n ≤ cnt L' n := by
                intro L L' n hLL
                induction n with
                | zero => exact Nat.le_refl _
                | succ n ih =>
                  simp only [cnt]
                  cases hv : L n with
                  | false => simp; omega
                  | true => rw [hLL n hv]; simp; omega
              exact hle _ _ _ (fun k hk => by simp only [Bool.and_eq_true] at hk; exact hk.1))
            have nextQ : ∀ (v : Value) (w' : World) (g' : List (Option Nat)), VR (ctx P F (Hs (C listed)) g' w') x v → RelH P F (Hs (C listed)) g' w' → Ext P F (Hs (C listed)) g w (Hs (C listed)) g' w' → wpAny P .any ops (Post P F s.H g0 w0 K) fuel (listed.setIfInBounds j true) (a.put o.dst v) w' :=
              fun v w' g' => next v w' g' _ (by rw [hCs])
            cases hstep _ hpc with
            | go hgd h1 =>
              rw [if_pos (by simp [Region.wanted, hgd])]
              exact .inl (h1 F g a w hrelK _ _ nextQ)
            | yes hgd hdt hget hb h1 =>
              rw [if_pos (by simp only [Region.wanted, hgd, hyield hgd hdt hget]; simpa using hb)]
              exact .inl (h1 F g a w hrelK _ _ nextQ)
            | no hgd hdt hget hb =>
              rw [if_neg (by rw [hnot hgd hdt hget hb]; decide)]
              exact nextQ undef w g (vr_v.2 rfl) hrel .refl
          · have hCj : C listed = rk ls 0 j := by
              rw [zl5, ← zsg (L := fun k => ls.contains k) (Nat.le_of_lt hjm)]
              refine z5y (fun k hk => ?_)
              cases hlk : ls.contains k with
              | false => simp
              | true =>
                simp only [Bool.true_and]
                rcases Nat.lt_trichotomy k j with hlt | heq | hgt
                · rw [closed listed hcl j o ho hpre k (hchk.2.1 hll k hlt hlk)]; simp [hlt]
                · subst heq; rw [hju]; simp
                · have hok : ops[k]? = some (ops[k]'(by omega)) := Array.getElem?_eq_getElem (by omega)
                  rw [hafter k _ hok ((chk k _ hok).2.1 hlk j hgt hll)]
                  have : ¬ k < j := by omega
                  simp [this]
            have hCs : C (listed.setIfInBounds j true) = C listed + 1 := zsf hjm (by simp only [hju, Bool.and_false]) (by simp only [hll, hsetj, Bool.and_true]) (fun k hk => by simp only [hset k hk])
            rw [← hCj] at hstep
            have nextL : ∀ (H' : List AEnt), H' = Hs (C listed + 1) → ∀ (v : Value) (w' : World) (g' : List (Option Nat)), VR (ctx P F H' g' w') x v → RelH P F H' g' w' → Ext P F (Hs (C listed)) g w H' g' w' → wpAny P .any ops (Post P F s.H g0 w0 K) fuel (listed.setIfInBounds j true) (a.put o.dst v) w' :=
              fun H' hH' v w' g' => next v w' g' H' (by rw [hCs]; exact hH')
            generalize hHn : Hs (C listed + 1) = Hn at hstep nextL
            cases hstep with
            | go hgd h1 =>
              rw [if_pos (by simp [Region.wanted, hgd])]
              exact .inl (h1 F g a w hrelK _ _ (nextL _ rfl))
            | yes hgd hdt hget hb h1 =>
              rw [if_pos (by simp only [Region.wanted, hgd, hyield hgd hdt hget]; simpa using hb)]
              exact .inl (h1 F g a w hrelK _ _ (nextL _ rfl))
            | no hgd hdt hget hb =>
              rw [if_neg (by rw [hnot hgd hdt hget hb]; decide)]
              exact nextL _ rfl undef w g (vr_v.2 rfl) hrel .refl
  have hdrew : RelH P F s.H g0 { w0 with drawn := w0.drawn + 1 } := ztg hr0.rel rfl
  have hcd : ctx P F s.H g0 { w0 with drawn := w0.drawn + 1 } = ctx P F s.H g0 w0 := zgd rfl
  have hC0 : Hs (C (Array.replicate ops.size false)) = s.H := by
    have : C (Array.replicate ops.size false) = 0 := zm4 (fun k hk => by simp only [Array.getD_eq_getD_getElem?, Array.getElem?_replicate]; split <;> simp)
    rw [this, hH0]
  refine main ops.size (Array.replicate ops.size false) a0 _ g0 (by simp) (fun k hk => ?_) (fun k _ => ?_) ?_ (by rw [hC0]; exact hdrew) (by rw [hC0]; exact zuh rfl rfl rfl rfl) hr0.size hr0.defers (fun k o d x hk => ?_) (fun t x hx _ => ?_)
  · simp [Array.getElem?_replicate] at hk; split at hk <;> cases hk
  · simp [Array.getElem?_replicate]; split <;> rfl
  · unfold left; refine Nat.le_trans (List.length_filter_le _ _) (by simp)
  · simp [Array.getElem?_replicate] at hk; split at hk <;> cases hk
  · rw [hC0, hcd]; exact hr0.env t x hx

theorem zz2 {rid : Nat} {ops : Array Oper} {env : List (Nat × PV)} {H : List AEnt} {n : Nat} {K : AExit → ASt → Prop} (m : Nat) (ls I : List Nat) (hm : P.follows .mixedOrders = true) (hq : zky ops ls m = true) (h : AC P ops ls I H n (fun _ s1 => AO P ops (ops.toList.drop m) s1 K) 0 (ops.toList.take m) env H) : AW P (.region rid ops true) ⟨env, H, n⟩ K := zvd (s := ⟨env, H, n⟩) m ls I hm hq h
end Go.Proofs.Ythidgpcbnieleaa.Aw
