/- Plain laws, one behind the other. -/
import Derived.Test.YtmoijodjgkfhgaaGreatAwT
namespace Go.Proofs.YtmoijodjgkfhgaaGreat.Aw
open Go
set_option linter.unusedVariables false
set_option linter.unusedSimpArgs false
variable {P : Program} {H : List AEnt} {env : List (Nat × PV)} {n : Nat} {o : Oper}
section
variable {K : AExit → ASt → Prop} {ops : Array Oper} {rest : List Oper}
theorem sS {x : PV} {H' : List AEnt} {d : Nat} (hg : o.guard = none) (hd : o.dst = some d) (hn : Nat.blt d n = true) (h1 : Op1 P o env H n x H') (h : AO P ops rest ⟨(d, x) :: env, H', n⟩ K) : AO P ops (o :: rest) ⟨env, H, n⟩ K := Z34 hg hd hn h1 h
end
theorem sC {e e' : List (Nat × PV)} {k : Nat} {x : PV} (h : get e k = some x) (hs : Sub e' e) : Sub ((k, x) :: e') e := zde h (fun _ _ h => h) hs
theorem bR {H0 : List AEnt} {s : ASt} {K : AExit → ASt → Prop} {id : Nat} {l : List Oper} {y : Code} (h : AO P l.toArray l s (Z6u P H0 y K)) : BW P H0 (.seq (.region id l.toArray false) y) s K := z0f (z0l h)
abbrev I64 (x : Int) : PV := .v (.int .i64 x)
abbrev BO (b : Bool) : PV := .v (.bool b)
end Go.Proofs.YtmoijodjgkfhgaaGreat.Aw

namespace Go.Proofs.YtmoijodjgkfhgaaGreat.Aw
open Go
set_option linter.unusedVariables false
set_option linter.unusedSimpArgs false
variable {P : Program} {H : List AEnt} {env : List (Nat × PV)} {n : Nat} {o : Oper}
theorem z39 {e : TypeId} {x : PV} {off : Nat} {r : List PV} (h : x.ids = []) (hr : PV.ids.idsL r = []) : PV.ids.idsL (.pt e x off :: r) = [] := by simp only [PV.ids.idsL, PV.ids]; rw [h, hr]; rfl
theorem z3a {f : Fn} {cs : List PV} (h : PV.ids.idsL cs = []) : (PV.fn f [] cs).ids = [] := by simp only [PV.ids, PV.ids.idsL]; rw [h]; rfl
theorem z2q {f : FuncId} {args : List Operand} {types : Array TypeId} {xs cap fargs : List PV} {X : PV} {t : Tmp}
 (ho : o.op = .call { callee := .value (.tmp t), args := args.toArray, argTypes := types }) (hf : get env t = some (.fn (.func f) [] cap)) (hen : z0z P f)
 (hx : evs env args = some xs) (hw : WkL (xs ++ cap) fargs) (hai : IdsNil fargs) (hc : z0p P f fargs X) (hX : X.ids = []) : Op1 P o env H n X H := by
 intro F g a w hr Kn Q hK
 obtain ⟨us, vs, hu, hl1, hl2, _, hcap⟩ := vr_fn.1 (hr.slot hf)
 have h1 : us = [] := List.eq_nil_of_length_eq_zero hl1
 subst h1
 have hv := hr.vrs hx
 have hv' : VRs (ctx P F H g w) fargs (args.toArray.map a.eval ++ vs.toArray) := by
  refine ⟨by rw [← hw.len]; simp [hv.1, hl2]; have := hv.1; simp at this; omega, fun i y hy => ?_⟩
  obtain ⟨x, h1, h2⟩ := hw.get i y hy
  rcases Nat.lt_or_ge i xs.length with hi | hi
  ·rw [List.getElem?_append_left hi] at h1
   obtain ⟨u, h3, h4⟩ := hv.2 i x h1
   refine ⟨u, ?_, h2 _ _ h4⟩
   rw [Array.getElem?_append_left (z1b h3)]; exact h3
  ·rw [List.getElem?_append_right hi] at h1
   obtain ⟨u, h3, h4⟩ := hcap _ x h1
   refine ⟨u, ?_, h2 _ _ h4⟩
   have hs := hv.1
   rw [Array.getElem?_append_right (by rw [hs]; exact hi), hs]
   simpa using h3
 have hf2 := z41 hr.rel []
 have hrel := z43 hr.rel (σ := []) (by simp) hf2 (by simp) (by simp)
 have hargs : VRs (ctx P (z3n P F H g []) (z33 H []) (z4l g []) w) fargs (args.toArray.map a.eval ++ vs.toArray) := by
  refine ⟨hv'.1, fun i x hx => ?_⟩
  obtain ⟨u, h1, h2⟩ := hv'.2 i x hx
  have hid := hai.mem x (List.mem_of_getElem? hx)
  have := z4s hr.rel (σ := []) (by simp) hf2 (fun k hk => by rw [hid] at hk; cases hk) h2
  rw [z1g x (fun i hi => by rw [hid] at hi; cases hi)] at this
  exact ⟨u, h1, this⟩
 unfold Oper.wp
 have hrun : (execOp a.eval o).run P w = .ok (.enter f (args.toArray.map a.eval ++ vs.toArray)) w := by
  have he : a.eval (.tmp t) = .func (.func f) #[] vs.toArray := hu
  simp only [execOp, ho]
  simp [resolve, Deferred.ofValue, invoke, he, z2g hen]
 rw [hrun]
 simp only [Oper.upon_enter]
 refine Calls.mono (hc _ _ _ _ hrel hargs) ?_
 rintro e w' ⟨r, H', g', h1, h2, h3, rfl, rfl⟩
 have hm := z6v hr.rel (σ := []) (by simp) (by simp) h2 h3
 have hx' := z6x hr.rel (σ := []) (by simp) (by simp) h2 h3
 rw [z99] at hm hx'
 cases e with
 | returned v =>
  have hvv := z98 hr.rel (σ := []) (by simp) (by simp) h2 h3 h1
  rw [z99, z1g X (fun i hi => by rw [hX] at hi; cases hi)] at hvv
  exact hK v w' _ hvv hm hx'
 | panicked c => exact h1.elim
 | outgrown => exact h1.elim
def zts : Value → Bool
 | .nilFunc => true
 | _ => false
theorem Z0w {t : TypeId} {d : TypeDesc} (ht : P.underlying t = some d) (hd : ∃ ps rs v, d = .func ps rs v) (x : Value) (w : World) (hx : (∃ f a b, x = .func f a b) ∨ x = .nilFunc) : (Op.equal t x .nilFunc).run P w = .ok (zts x) w := by
 obtain ⟨ps, rs, v, rfl⟩ := hd
 obtain ⟨d, hd⟩ := zjx t x .nilFunc
 rw [hd]; rcases hx with ⟨f, a, b, rfl⟩ | rfl <;> simp [Op.equalIn, z1i ht, zts]
def Z6n : PV → Option Bool
 | .v .nilFunc => some true
 | .fn _ _ _ => some false
 | _ => none
theorem zx0 {op : BinOp} {t t2 : TypeId} {d : TypeDesc} {x : Operand} {p : PV} {b r : Bool} (ht : P.underlying t = some d) (hd : ∃ ps rs v, d = .func ps rs v) (ho : o.op = .binOp op t x (.const .nilFunc) t2) (hx : ev env x = some p)
 (hb : Z6n p = some b) (hp : (op = .eql ∧ r = b) ∨ (op = .neq ∧ r = !b)) : Op1 P o env H n (.v (.bool r)) H :=
 z1c fun F g a w hr => by
  refine ⟨_, vr_v.2 rfl, ?_⟩
  have key : ∀ u, a.eval x = u → ((∃ f a b, u = .func f a b) ∨ u = .nilFunc) → zts u = b → (execOp a.eval o).run P w = .ok (.value (.bool r)) w := by
   intro u hu hk hn
   have h2 := Z0w ht hd u w hk
   rcases hp with ⟨rfl, rfl⟩ | ⟨rfl, rfl⟩ <;> rcases hk with ⟨f, q, s, rfl⟩ | rfl <;> simp [execOp, ho, hu, z74, eqGuard, binOp, h2, hn]
  cases p with
  | v u =>
   cases u <;> simp only [Z6n] at hb <;> first | (cases hb; done) | skip
   injection hb with hb
   exact key _ (hr.const hx) (.inr rfl) hb
  | fn f q s =>
   simp only [Z6n] at hb
   injection hb with hb
   obtain ⟨us, vs, hu, _⟩ := vr_fn.1 (hr.opd hx)
   exact key _ hu (.inl ⟨_, _, _, rfl⟩) hb
  | _ => simp [Z6n] at hb
end Go.Proofs.YtmoijodjgkfhgaaGreat.Aw

namespace Go.Proofs.YtmoijodjgkfhgaaGreat.Aw
open Go
set_option linter.unusedVariables false
set_option linter.unusedSimpArgs false
variable {P : Program} {F : Fr} {H H' : List AEnt} {g g' : List (Option Nat)} {w w' : World}
theorem zv3 {rid : Nat} {ops : Array Oper} {s : ASt} {K : AExit → ASt → Prop} (xs : List PV) (HS : Array Bool → List AEnt) (Hfin : List AEnt) (hm : P.follows .mixedOrders = true) (hq : z9y ops [] = true)
    (hxl : xs.length = ops.size) (hS0 : HS (Array.replicate ops.size false) = s.H) (hS1 : ∀ listed, (∀ j, j < ops.size → listed.getD j false = true) → HS listed = Hfin)
    (hst : ∀ (listed : Array Bool), listed.size = ops.size → z4q ops listed → ∀ (j : Nat) (o : Oper), ops[j]? = some o → listed.getD j false = false → (∀ e, e ∈ o.after.toList → Region.binds .any e = true → listed.getD e.on false = true) →
      z5m o.dst s.n = true ∧ ∃ x, xs[j]? = some x ∧ LStep P ops o (z9f ops.toList xs s.env j) (HS listed) s.n x (HS (listed.setIfInBounds j true)))
    (hfin : K .normal ⟨z9f ops.toList xs s.env ops.size, Hfin, s.n⟩) : AW P (.region rid ops true) s K := by
  intro F g0 a0 w0 hr0
  simp only [z9y, List.all_eq_true, List.mem_range] at hq
  have hall := hq
  simp only [Array.length_toList] at hall
  have chk : ∀ (i : Nat) (o : Oper), ops[i]? = some o →
      (∀ e, e ∈ o.after.toList → Region.binds .any e = true → e.on < i) ∧ True ∧
      ∀ (k : Nat) (q : Oper) (d : Nat), ops[k]? = some q → i ≠ k → q.dst = some d → o.dst ≠ some d ∧ (d ∈ o.looksAt ops → (k < i → ((masks ops.toList []).getD i 0).testBit k = true) ∧ (¬ k < i → ((masks ops.toList []).getD k 0).testBit i = true)) := by
    intro i o hi
    have h1 := hall i (z1b hi)
    have hi' : ops.toList[i]? = some o := by simpa using hi
    rw [hi'] at h1
    simp only [Bool.and_eq_true, List.all_eq_true, List.mem_range] at h1
    obtain ⟨⟨h2, h3⟩, h4⟩ := h1
    refine ⟨fun e he hb => ?_, trivial, fun k q d hk hne hqd => ?_⟩
    · have := h2 e he
      rw [hb] at this
      simpa [Nat.blt_eq] using this
    · have h5 := h4 k (z1b hk)
      have hk' : ops.toList[k]? = some q := by simpa using hk
      rw [hk'] at h5
      simp only [hqd, Bool.or_eq_true, Bool.and_eq_true] at h5
      rcases h5 with h5 | ⟨h5, h6⟩
      · exact absurd (beq_iff'.1 h5) hne
      · refine ⟨by simpa using h5, fun hdm => ?_⟩
        have hdm' : (o.looksAt ops).contains d = true := by simpa using hdm
        rw [hdm'] at h6
        simp only [Bool.not_true, Bool.false_eq_true, false_or] at h6
        cases hki : Nat.blt k i with
        | true => rw [hki] at h6; simp [Nat.blt_eq] at hki; exact ⟨fun _ => by simpa using h6, fun hn => absurd hki hn⟩
        | false =>
          rw [hki] at h6
          have : ¬ k < i := fun hlt => by
            have : Nat.blt k i = true := by simpa [Nat.blt_eq] using hlt
            rw [this] at hki; cases hki
          exact ⟨fun hlt => absurd hlt this, fun _ => by simpa using h6⟩
  have hdist : ∀ (i j : Nat) (o q : Oper) (d : Nat), ops[i]? = some o → ops[j]? = some q → o.dst = some d → q.dst = some d → i = j := by
    intro i j o q d h1 h2 h3 h4
    by_cases hij : i = j
    · exact hij
    · exact absurd h3 ((chk i o h1).2.2 j q d h2 hij h4).1
  have htake : ∀ (j : Nat) (o : Oper), ops.toList[j]? = some o ↔ ops[j]? = some o := by
    intro j o
    simp
  have htl : ops.toList.length = ops.size := by simp
  have hdist' : ∀ (i j : Nat) (o q : Oper) (d : Nat), ops.toList[i]? = some o → ops.toList[j]? = some q → o.dst = some d → q.dst = some d → i = j :=
    fun i j o q d h1 h2 => hdist i j o q d ((htake i o).1 h1) ((htake j q).1 h2)
  have closed : ∀ (listed : Array Bool), z4q ops listed → ∀ i o, ops[i]? = some o → (∀ e, e ∈ o.after.toList → Region.binds .any e = true → listed.getD e.on false = true) → ∀ k, ((masks ops.toList []).getD i 0).testBit k = true → listed.getD k false = true := by
    intro listed hcl i o hi he k hk
    exact z5d (L := fun k => listed.getD k false = true) (all := ops.toList) (fun k hk o ho => hcl k hk o (by simpa using ho)) ops.toList [] [] rfl rfl (by simp) i o (by simpa using hi) he k hk
  have hedge : ∀ k o, ops[k]? = some o → ∀ e, e ∈ o.after.toList → Region.binds .any e = true → e.on < k := fun k o ho => (chk k o ho).1
  refine wp_region_any hm ?_
  have donecase : ∀ (fuel : Nat) (listed : Array Bool) (a : Act) (w : World) (g : List (Option Nat)), listed.size = ops.size → z4q ops listed →
      left ops listed ≤ fuel → RelH P F (HS listed) g w → Ext P F s.H g0 w0 (HS listed) g w → a.tmps.size = s.n → a.defers = F.ds →
      (∀ (k : Nat) (o : Oper) (d : Nat) (x : PV), listed.getD k false = true → ops[k]? = some o → o.dst = some d → xs[k]? = some x → ∃ u, a.tmps[d]? = some u ∧ VR (ctx P F (HS listed) g w) x u) →
      (∀ (t : Nat) (x : PV), get s.env t = some x → (∀ (k : Nat) (o : Oper), listed.getD k false = true → ops[k]? = some o → o.dst ≠ some t) → ∃ u, a.tmps[t]? = some u ∧ VR (ctx P F (HS listed) g w) x u) →
      (∀ j, j < ops.size → listed.getD j false = true) → wpAny P .any ops (Post P F s.H g0 w0 K) fuel listed a w := by
    intro fuel listed a w g hsz hcl hcount hrel hext hts hdf hk1 hk2 hdone
    rw [hS1 listed hdone] at hrel hext hk1 hk2
    have hrelE : Rel P F ⟨z9f ops.toList xs s.env ops.size, Hfin, s.n⟩ a w g := by
      refine ⟨hrel, fun t x hx => ?_, hts, hdf⟩
      have hg := z7v (l := ops.toList) (xs := xs) (env := s.env) (by rw [hxl, htl]) hdist' ops.size t (by rw [htl]; exact Nat.le_refl _)
      by_cases hw : ∃ (k : Nat) (o : Oper), ops.toList[k]? = some o ∧ o.dst = some t
      · obtain ⟨k, o, h1, h2⟩ := hw
        have hkl := z0c h1
        rw [htl] at hkl
        have hxk : xs[k]? = some (xs[k]'(by rw [hxl]; exact hkl)) := List.getElem?_eq_getElem (by rw [hxl]; exact hkl)
        rw [hg.1 k o _ hkl h1 h2 hxk] at hx
        injection hx with hx; subst hx
        exact hk1 k o t _ (hdone k hkl) ((htake k o).1 h1) h2 hxk
      · rw [hg.2 (fun k o _ h1 h2 => hw ⟨k, o, h1, h2⟩)] at hx
        exact hk2 t x hx (fun k o hk ho hd => hw ⟨k, o, (htake k o).2 ho, hd⟩)
    have hlast : wpList P ops (Post P F s.H g0 w0 K) [] a w := wpList_nil ⟨.normal, _, g, trivial, hrelE, hext, hfin⟩
    refine z90 (m := ops.size) hedge (fun fs _ _ k hk1 hk2 => absurd hk2 (by omega)) [] ops.size (Nat.le_refl _) (fun j => by simp) a w hlast _ listed hsz (fun j hj => ?_) (Nat.le_refl _) hcount
    exact ⟨fun _ => hj, fun _ => hdone j hj⟩
  have main : ∀ (fuel : Nat) (listed : Array Bool) (a : Act) (w : World) (g : List (Option Nat)), listed.size = ops.size → z4q ops listed →
      left ops listed ≤ fuel → RelH P F (HS listed) g w → Ext P F s.H g0 w0 (HS listed) g w → a.tmps.size = s.n → a.defers = F.ds →
      (∀ (k : Nat) (o : Oper) (d : Nat) (x : PV), listed.getD k false = true → ops[k]? = some o → o.dst = some d → xs[k]? = some x → ∃ u, a.tmps[d]? = some u ∧ VR (ctx P F (HS listed) g w) x u) →
      (∀ (t : Nat) (x : PV), get s.env t = some x → (∀ (k : Nat) (o : Oper), listed.getD k false = true → ops[k]? = some o → o.dst ≠ some t) → ∃ u, a.tmps[t]? = some u ∧ VR (ctx P F (HS listed) g w) x u) →
      wpAny P .any ops (Post P F s.H g0 w0 K) fuel listed a w := by
    intro fuel
    induction fuel with
    | zero =>
      intro listed a w g hsz hcl hcount hrel hext hts hdf hk1 hk2
      exact donecase 0 listed a w g hsz hcl hcount hrel hext hts hdf hk1 hk2 (fun j hj => zaw (Nat.le_zero.1 hcount) j hj)
    | succ fuel ih =>
      intro listed a w g hsz hcl hcount hrel hext hts hdf hk1 hk2
      by_cases hdone : ∀ j, j < ops.size → listed.getD j false = true
      · exact donecase (fuel + 1) listed a w g hsz hcl hcount hrel hext hts hdf hk1 hk2 hdone
      · obtain ⟨j0, hj0m, hj0u⟩ : ∃ j, j < ops.size ∧ listed.getD j false = false := by
          refine Classical.byContradiction fun hc => hdone (fun j hj => ?_)
          cases hv : listed.getD j false with
          | true => rfl
          | false => exact absurd ⟨j, hj, hv⟩ hc
        refine ⟨fun h0 => ?_, fun j hj => ?_⟩
        · -- the least that is left is ready
          have key : ∀ k, k < ops.size → listed.getD k false = false → ∃ i, i ∈ Region.ready .any ops listed := by
            intro k
            induction k using Nat.strongRecOn with
            | _ k ihk =>
              intro hks hku
              by_cases hp : ∀ j, j < k → listed.getD j false = true
              · refine ⟨k, mem_ready.2 ⟨by rw [z7u hsz hks]; exact hku, ops[k], Array.getElem?_eq_getElem hks, fun e he hb => ?_⟩⟩
                exact hp _ (hedge k _ (Array.getElem?_eq_getElem hks) e (by simpa using he) hb)
              · obtain ⟨j, hjk, hju⟩ : ∃ j, j < k ∧ listed.getD j false = false := by
                  refine Classical.byContradiction fun hc => hp (fun j hj => ?_)
                  cases hv : listed.getD j false with
                  | true => rfl
                  | false => exact absurd ⟨j, hj, hv⟩ hc
                exact ihk j hjk (by omega) hju
          obtain ⟨i, hi⟩ := key j0 hj0m hj0u
          rw [h0] at hi; cases hi
        · obtain ⟨h1, o, ho, h2⟩ := mem_ready.1 hj
          have hjs := z1b ho
          have hju : listed.getD j false = false := by rw [z7u hsz hjs] at h1; exact h1
          have hpre : ∀ e, e ∈ o.after.toList → Region.binds .any e = true → listed.getD e.on false = true := fun e he hb => h2 e (by simpa using he) hb
          obtain ⟨hdok, x, hxj, hstep⟩ := hst listed hsz hcl j o ho hju hpre
          have hchk := chk j o ho
          have hafter : ∀ (k : Nat) (q : Oper), ops[k]? = some q → ((masks ops.toList []).getD k 0).testBit j = true → listed.getD k false = false := by
            intro k q hq hbit
            cases hv : listed.getD k false with
            | false => rfl
            | true =>
              have := closed listed hcl k q hq (hcl k hv q hq) j hbit
              rw [hju] at this; cases this
          -- what the operation looks at is as in the text's order
          have hlook : ∀ (t : Nat) (y : PV), t ∈ o.looksAt ops → get (z9f ops.toList xs s.env j) t = some y → ∃ u, a.tmps[t]? = some u ∧ VR (ctx P F (HS listed) g w) y u := by
            intro t y ht hy
            have hg := z7v (l := ops.toList) (xs := xs) (env := s.env) (by rw [hxl, htl]) hdist' j t (by rw [htl]; omega)
            by_cases hw : ∃ (k : Nat) (q : Oper), k < j ∧ ops[k]? = some q ∧ q.dst = some t
            · obtain ⟨k, q, hkj, hk, hqd⟩ := hw
              have hxk : xs[k]? = some (xs[k]'(by rw [hxl]; omega)) := List.getElem?_eq_getElem (by rw [hxl]; omega)
              rw [hg.1 k q _ hkj ((htake k q).2 hk) hqd hxk] at hy
              injection hy with hy; subst hy
              have hbit := ((hchk.2.2 k q t hk (by omega) hqd).2 ht).1 hkj
              exact hk1 k q t _ (closed listed hcl j o ho hpre k hbit) hk hqd hxk
            · rw [hg.2 (fun k q hkj hk hqd => hw ⟨k, q, hkj, (htake k q).1 hk, hqd⟩)] at hy
              refine hk2 t y hy (fun k q hk hq hqd => ?_)
              have hkj : ¬ k < j := fun hlt => hw ⟨k, q, hlt, hq, hqd⟩
              have hne : j ≠ k := fun e => by subst e; rw [hju] at hk; cases hk
              have hbit := ((hchk.2.2 k q t hq hne hqd).2 ht).2 hkj
              rw [hafter k q hq hbit] at hk; cases hk
          -- behind it
          have next : ∀ (v : Value) (w' : World) (g' : List (Option Nat)) (H' : List AEnt), H' = HS (listed.setIfInBounds j true) → VR (ctx P F H' g' w') x v → RelH P F H' g' w' → Ext P F (HS listed) g w H' g' w' → wpAny P .any ops (Post P F s.H g0 w0 K) fuel (listed.setIfInBounds j true) (a.put o.dst v) w' := by
            intro v w' g' H' hH' hv hr' hx'
            subst hH'
            refine ih (listed.setIfInBounds j true) (a.put o.dst v) w' g' (by simp [hsz]) ?_ (by have := zcy hsz hjs hju; omega) hr' (hext.trans hx') ?_ ?_ ?_ ?_
            · intro k hk q hq e he hb
              by_cases hjk : j = k
              · subst hjk; rw [ho] at hq; injection hq with hq; subst hq
                exact getD_set_true (hpre e he hb)
              · rw [getD_set_ne false hjk] at hk; exact getD_set_true (hcl k hk q hq e he hb)
            · cases o.dst <;> simp [Act.put, hts]
            · cases o.dst <;> simp [Act.put, hdf]
            · intro k q d y hk hq hqd hy
              by_cases hjk : j = k
              · subst hjk
                rw [ho] at hq; injection hq with hq; subst hq
                rw [hxj] at hy; injection hy with hy; subst hy
                have hdn : d < a.tmps.size := by rw [hqd] at hdok; rw [hts]; simpa [z5m, Nat.blt_eq] using hdok
                exact ⟨v, by simp [Act.put, hqd, hdn], hv⟩
              · rw [getD_set_ne false hjk] at hk
                obtain ⟨u, h3, h4⟩ := hk1 k q d y hk hq hqd hy
                refine ⟨u, ?_, h4.mono hx'.le⟩
                cases hod : o.dst with
                | none => simpa [Act.put] using h3
                | some d' =>
                  have hne : d' ≠ d := fun e => hjk (hdist j k o q d ho hq (by rw [hod, e]) hqd)
                  simpa [Act.put, Array.getElem?_setIfInBounds_ne hne] using h3
            · intro t y hy hnw
              have hjt := hnw j o (by have : j < listed.size := by rw [hsz]; exact hjs
                                      simp [this]) ho
              obtain ⟨u, h3, h4⟩ := hk2 t y hy (fun k q hk hq => hnw k q (getD_set_true hk) hq)
              refine ⟨u, ?_, h4.mono hx'.le⟩
              cases hod : o.dst with
              | none => simpa [Act.put] using h3
              | some d' =>
                have hne : d' ≠ t := fun e => hjt (by rw [hod, e])
                simpa [Act.put, Array.getElem?_setIfInBounds_ne hne] using h3
          have hrelK : Rel P F ⟨z4u (o.looksAt ops) (z9f ops.toList xs s.env j), HS listed, s.n⟩ a w g := ⟨hrel, fun t y hy => let ⟨h3, h4⟩ := z8t hy; hlook t y h3 h4, hts, hdf⟩
          have hnot : ∀ {i : Nat} {want : Bool} {v : Value} {t : Nat}, o.guard = some (i, want) → (ops[i]?).bind (·.dst) = some t → get (z9f ops.toList xs s.env j) t = some (.v v) → noW v want = true → Region.wanted o (yielded ops a.tmps) = false := by
            intro i want v t hgd hdt hget hw
            obtain ⟨u, h3, h4⟩ := hlook t _ (by unfold Oper.looksAt; rw [hgd]; simp [hdt]) hget
            rw [vr_v.1 h4] at h3
            exact zbx hgd hdt h3 hw
          have hyield : ∀ {i : Nat} {want b : Bool} {t : Nat}, o.guard = some (i, want) → (ops[i]?).bind (·.dst) = some t → get (z9f ops.toList xs s.env j) t = some (.v (.bool b)) → yielded ops a.tmps i = some b := by
            intro i want b t hgd hdt hget
            obtain ⟨u, h3, h4⟩ := hlook t _ (by unfold Oper.looksAt; rw [hgd]; simp [hdt]) hget
            rw [vr_v.1 h4] at h3
            simp [yielded, hdt, h3]
          have hset : ∀ k, k ≠ j → (listed.setIfInBounds j true).getD k false = listed.getD k false := fun k hk => getD_set_ne false (fun e => hk e.symm)
          have hsetj : (listed.setIfInBounds j true).getD j false = true := by
            have : j < listed.size := by rw [hsz]; exact hjs
            simp [this]
          unfold wpOp
          rw [ho]
          simp only []
          have nextL : ∀ (H' : List AEnt), H' = HS (listed.setIfInBounds j true) → ∀ (v : Value) (w' : World) (g' : List (Option Nat)), VR (ctx P F H' g' w') x v → RelH P F H' g' w' → Ext P F (HS listed) g w H' g' w' → wpAny P .any ops (Post P F s.H g0 w0 K) fuel (listed.setIfInBounds j true) (a.put o.dst v) w' :=
            fun H' hH' v w' g' => next v w' g' H' hH'
          generalize hHn : HS (listed.setIfInBounds j true) = Hn at hstep nextL
          cases hstep with
          | go hgd h1 =>
            rw [if_pos (by simp [Region.wanted, hgd])]
            exact .inl (h1 F g a w hrelK _ _ (nextL _ rfl))
          | yes hgd hdt hget hb h1 =>
            rw [if_pos (by simp only [Region.wanted, hgd, hyield hgd hdt hget]; simpa using hb)]
            exact .inl (h1 F g a w hrelK _ _ (nextL _ rfl))
          | no hgd hdt hget hb =>
            rw [if_neg (by rw [hnot hgd hdt hget hb]; decide)]
            exact nextL _ rfl undef w g (vr_v.2 rfl) hrel .refl
  have hdrew : RelH P F s.H g0 { w0 with drawn := w0.drawn + 1 } := zmu hr0.rel rfl
  have hcd : ctx P F s.H g0 { w0 with drawn := w0.drawn + 1 } = ctx P F s.H g0 w0 := zd2 rfl
  refine main ops.size (Array.replicate ops.size false) a0 _ g0 (by simp) (fun k hk => ?_) ?_ (by rw [hS0]; exact hdrew) (by rw [hS0]; exact znu rfl rfl rfl rfl) hr0.size hr0.defers (fun k o d x hk => ?_) (fun t x hx _ => ?_)
  · simp [Array.getElem?_replicate] at hk; split at hk <;> cases hk
  · unfold left; refine Nat.le_trans (List.length_filter_le _ _) (by simp)
  · simp [Array.getElem?_replicate] at hk; split at hk <;> cases hk
  · rw [hS0, hcd]; exact hr0.env t x hx

end Go.Proofs.YtmoijodjgkfhgaaGreat.Aw

