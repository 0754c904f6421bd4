/- Aw: a region in any order, in which several variables are made without an order between them; what else writes stands in one chain behind them. -/
import Derived.Test.YtkmhecgagibgjaaAwF
namespace Go.Proofs.Ytkmhecgagibgjaa.Aw
open Go
set_option linter.unusedVariables false
set_option linter.unusedSimpArgs false
variable {P : Program} {F : Fr} {H H' : List AEnt} {g g' : List (Option Nat)} {w w' : World}
def FillOp (P : Program) (HF : List AEnt) (o : Oper) (i : Nat) : Prop := o.guard = none ∧ ∃ (t : TypeId) (z : Value) (k b : Nat), Inf P t z k b ∧ o.op = .alloc t ∧ HF[i]? = some (.box t (z.cells.toList.map .v))
def AD (P : Program) (ops : Array Oper) (fs : Nat → Option Nat) (ls I : List Nat) (H0 HF : List AEnt) (n : Nat) (K : AExit → ASt → Prop) : Nat → List Oper → List (Nat × PV) → List AEnt → Prop
  | _, [], env, H => K .normal ⟨env, H, n⟩
  | k, o :: r, env, H => dstOk o.dst n = true ∧ ∃ x H', ((ls.contains k = false ∧ H' = H ∧ ((fs k = none ∧ ∀ H, Pins I H0 H → QStep P ops o env H n x) ∨ ∃ i, fs k = some i ∧ x = .rf i 0 ∧ FillOp P HF o i)) ∨
      (ls.contains k = true ∧ fs k = none ∧ Pins I H0 H' ∧ LStep P ops o env H n x H')) ∧ AD P ops fs ls I H0 HF n K (k + 1) r (putE o.dst x env) H'
theorem ad_extract {ops : Array Oper} {fs : Nat → Option Nat} {ls I : List Nat} {H0 HF : List AEnt} {n : Nat} {K : AExit → ASt → Prop} : ∀ {l : List Oper} {k : Nat} {env : List (Nat × PV)} {H : List AEnt}, AD P ops fs ls I H0 HF n K k l env H → Pins I H0 H →
    ∃ (xs : List PV) (Hs : Nat → List AEnt), xs.length = l.length ∧ Hs 0 = H ∧ (∀ c, c ≤ rk ls k l.length → Pins I H0 (Hs c)) ∧
      (∀ (j : Nat) (o : Oper), l[j]? = some o → dstOk o.dst n = true ∧ ∃ x, xs[j]? = some x ∧
        ((ls.contains (k + j) = false ∧ ((fs (k + j) = none ∧ ∀ H, Pins I H0 H → QStep P ops o (envs l xs env j) H n x) ∨ ∃ i, fs (k + j) = some i ∧ x = .rf i 0 ∧ FillOp P HF o i)) ∨
          (ls.contains (k + j) = true ∧ fs (k + j) = none ∧ LStep P ops o (envs l xs env j) (Hs (rk ls k j)) n x (Hs (rk ls k j + 1))))) ∧
      K .normal ⟨envs l xs env l.length, Hs (rk ls k l.length), n⟩
  | [], k, env, H, h, hp => ⟨[], fun _ => H, rfl, rfl, fun _ _ => hp, by simp, h⟩
  | o :: r, k, env, H, ⟨hd, x, H', hs, h2⟩, hp => by
    have hp' : Pins I H0 H' := by
      rcases hs with ⟨_, rfl, _⟩ | ⟨_, _, h, _⟩
      · exact hp
      · exact h
    obtain ⟨xs, Hs, h3, h4, h5, h6, h7⟩ := ad_extract h2 hp'
    rcases hs with ⟨hq, rfl, hs⟩ | ⟨hq, hf, _, hs⟩
    · have hrk : ∀ j, rk ls k (j + 1) = rk ls (k + 1) j := fun j => by simp only [rk, hq, Bool.toNat_false, Nat.zero_add]
      refine ⟨x :: xs, Hs, by simp [h3], h4, fun c hc => h5 c (by rw [List.length_cons, hrk] at hc; exact hc), fun j q hj => ?_, ?_⟩
      · cases j with
        | zero => simp at hj; subst hj; exact ⟨hd, x, rfl, .inl ⟨hq, hs⟩⟩
        | succ j =>
          have := h6 j q (by simpa using hj)
          have e : k + 1 + j = k + (j + 1) := by omega
          rw [e] at this
          rw [hrk]
          exact this
      · rw [List.length_cons, hrk]; exact h7
    · have hrk : ∀ j, rk ls k (j + 1) = rk ls (k + 1) j + 1 := fun j => by simp only [rk, hq, Bool.toNat_true]; omega
      refine ⟨x :: xs, fun c => match c with | 0 => H | c + 1 => Hs c, by simp [h3], rfl, fun c hc => ?_, fun j q hj => ?_, ?_⟩
      · cases c with
        | zero => exact hp
        | succ c => exact h5 c (by rw [List.length_cons, hrk] at hc; omega)
      · cases j with
        | zero => simp at hj; subst hj; exact ⟨hd, x, rfl, .inr ⟨hq, hf, by rw [← h4] at hs; exact hs⟩⟩
        | succ j =>
          have := h6 j q (by simpa using hj)
          have e : k + 1 + j = k + (j + 1) := by omega
          rw [e] at this
          rw [hrk]
          exact this
      · show K .normal ⟨envs (o :: r) (x :: xs) env (r.length + 1), _, n⟩
        rw [List.length_cons, hrk]
        exact h7
def fillsL : List (Nat × Nat × AEnt) → Nat → Option Nat
  | [], _ => none
  | (k, i, _) :: r, j => bif Nat.beq k j then some i else fillsL r j
def fillH : List (Nat × Nat × AEnt) → List AEnt → List AEnt
  | [], H => H
  | (_, i, e) :: r, H => fillH r (H.set i e)
def placesL : List (Nat × Nat × AEnt) → List Nat
  | [] => []
  | (_, i, _) :: r => i :: placesL r
def noPlace (L : List (Nat × Nat × AEnt)) (i : Nat) : Bool := (placesL L).all fun k => !(Nat.beq k i)
def nodupN : List Nat → Bool
  | [] => true
  | i :: r => r.all (fun k => !(Nat.beq k i)) && nodupN r
def emptyAt (H : List AEnt) (i : Nat) : Bool := match H[i]? with
  | some (.arr _ 0) => true
  | _ => false
def fillOk (ops : Array Oper) (ls I : List Nat) (L : List (Nat × Nat × AEnt)) : Bool :=
  chainOk ops [] && chainOk ops ls && nodupN (L.map (·.1)) && nodupN (placesL L) && (I.all fun i => noPlace L i) && (L.all fun p => Nat.blt p.1 ops.toList.length && !(ls.contains p.1)) &&
    ls.all fun c => L.all fun p => ((masks ops.toList []).getD c 0).testBit p.1
theorem fillsL_mem : ∀ {L : List (Nat × Nat × AEnt)} {j i : Nat}, fillsL L j = some i → i ∈ placesL L ∧ ∃ p ∈ L, p.1 = j ∧ p.2.1 = i
  | [], j, i, h => by cases h
  | (k, q, e) :: r, j, i, h => by
    simp only [fillsL] at h
    cases hb : Nat.beq k j with
    | true => rw [hb] at h; simp at h; subst h; exact ⟨by simp [placesL], (k, q, e), by simp, beq_iff'.1 hb, rfl⟩
    | false =>
      rw [hb] at h
      obtain ⟨h1, p, h2, h3⟩ := fillsL_mem (L := r) h
      exact ⟨by simp [placesL, h1], p, by simp [h2], h3⟩
theorem fillsL_inj : ∀ {L : List (Nat × Nat × AEnt)} {j k i : Nat}, nodupN (placesL L) = true → fillsL L j = some i → fillsL L k = some i → j = k
  | [], j, k, i, _, h, _ => by cases h
  | (q, p, e) :: r, j, k, i, hn, h1, h2 => by
    simp only [placesL, nodupN, Bool.and_eq_true, List.all_eq_true] at hn
    simp only [fillsL] at h1 h2
    cases hb : Nat.beq q j with
    | true =>
      rw [hb] at h1; simp at h1; subst h1
      cases hc : Nat.beq q k with
      | true => rw [← beq_iff'.1 hb, ← beq_iff'.1 hc]
      | false =>
        rw [hc] at h2
        have := hn.1 p (fillsL_mem (L := r) h2).1
        rw [beq_iff'.2 rfl] at this; simp at this
    | false =>
      rw [hb] at h1
      cases hc : Nat.beq q k with
      | true =>
        rw [hc] at h2; simp at h2; subst h2
        have := hn.1 p (fillsL_mem (L := r) h1).1
        rw [beq_iff'.2 rfl] at this; simp at this
      | false => rw [hc] at h2; exact fillsL_inj hn.2 h1 h2
theorem fillH_len : ∀ {L : List (Nat × Nat × AEnt)} {H : List AEnt}, (fillH L H).length = H.length
  | [], _ => rfl
  | (_, i, e) :: r, H => by rw [fillH, fillH_len]; simp
theorem fillH_no : ∀ {L : List (Nat × Nat × AEnt)} {H : List AEnt} {i : Nat}, i ∉ placesL L → (fillH L H)[i]? = H[i]?
  | [], _, _, _ => rfl
  | (_, q, e) :: r, H, i, h => by
    simp only [placesL, List.mem_cons, not_or] at h
    rw [fillH, fillH_no h.2, set_get_ne (fun hq => h.1 hq.symm)]
theorem aw_fills {rid : Nat} {ops : Array Oper} {s : ASt} {K : AExit → ASt → Prop} (L : List (Nat × Nat × AEnt)) (ls I : List Nat) (hm : P.follows .mixedOrders = true) (hq : fillOk ops ls I L = true)
    (he : ∀ i, i ∈ placesL L → emptyAt s.H i = true) (h : AD P ops (fillsL L) ls I (fillH L s.H) (fillH L s.H) s.n K 0 ops.toList s.env (fillH L s.H)) : AW P (.region rid ops true) s K := by
  classical
  simp only [fillOk, Bool.and_eq_true, List.all_eq_true] at hq
  obtain ⟨⟨⟨⟨⟨⟨hq0, hq1⟩, hnk⟩, hnd⟩, hI⟩, hL⟩, hls⟩ := hq
  obtain ⟨xs, Hs, hxl, hH0, hpin, hst, hfin⟩ := ad_extract h Pins.refl
  simp only [Nat.zero_add, Array.length_toList] at hst hxl hpin hfin
  let C : Array Bool → Nat := fun listed => cnt (fun k => ls.contains k && listed.getD k false) ops.size
  let part : Array Bool → List AEnt := fun listed => (fillH L s.H).mapIdx fun i e => if ∃ j, fillsL L j = some i ∧ listed.getD j false = false then s.H.getD i .dead else e
  let HS : Array Bool → List AEnt := fun listed => match C listed with
    | 0 => part listed
    | c + 1 => Hs (c + 1)
  have hfull : ∀ listed : Array Bool, (∀ j i, fillsL L j = some i → listed.getD j false = true) → part listed = fillH L s.H := by
    intro listed hl
    apply List.ext_getElem?
    intro i
    simp only [part, List.getElem?_mapIdx]
    cases hv : (fillH L s.H)[i]? with
    | none => rfl
    | some e =>
      simp only [Option.map_some]
      rw [if_neg]
      rintro ⟨j, h1, h2⟩
      rw [hl j i h1] at h2; cases h2
  have hHS : ∀ listed : Array Bool, (∀ j i, fillsL L j = some i → listed.getD j false = true) → HS listed = Hs (C listed) := by
    intro listed hl
    simp only [HS]
    split
    · rename_i hc
      rw [hc, hH0]; exact hfull listed hl
    · rename_i c hc
      rw [hc]
  have masksof : ∀ (listed : Array Bool), Closed ops listed → ∀ i o, ops[i]? = some o → (∀ e, e ∈ o.after.toList → Region.binds .any e = true → listed.getD e.on false = true) → ∀ k, ((masks ops.toList []).getD i 0).testBit k = true → listed.getD k false = true := by
    intro listed hcl i o hi he k hk
    exact masks_sound (L := fun k => listed.getD k false = true) (all := ops.toList) (fun k hk o ho => hcl k hk o (by simpa using ho)) ops.toList [] [] rfl rfl (by simp) i o (by simpa using hi) he k hk
  have hmask : ∀ c, ls.contains c = true → ∀ j i, fillsL L j = some i → ((masks ops.toList []).getD c 0).testBit j = true := by
    intro c hc j i hji
    obtain ⟨_, p, hp, rfl, _⟩ := fillsL_mem hji
    exact hls c (by simpa using hc) p hp
  -- the chain has begun: all fills are done
  have hbegun : ∀ (listed : Array Bool), Closed ops listed → 0 < C listed → ∀ j i, fillsL L j = some i → listed.getD j false = true := by
    intro listed hcl hC j i hji
    obtain ⟨c, hc⟩ : ∃ c, c < ops.size ∧ (ls.contains c && listed.getD c false) = true := by
      refine Classical.byContradiction fun hn => ?_
      have : C listed = 0 := cnt_zero (fun k hk => by
        cases hv : (ls.contains k && listed.getD k false) with
        | false => rfl
        | true => exact absurd ⟨k, hk, hv⟩ hn)
      omega
    obtain ⟨hcs, hc⟩ := hc
    simp only [Bool.and_eq_true] at hc
    have ho : ops[c]? = some ops[c] := Array.getElem?_eq_getElem hcs
    exact masksof listed hcl c _ ho (hcl c hc.2 _ ho) j (hmask c hc.1 j i hji)
  simp only [chainOk, List.all_eq_true, List.mem_range, Array.length_toList] at hq1
  have hedges : ∀ (i : Nat) (o : Oper), ops[i]? = some o → ls.contains i = true → ∀ j, j < i → ls.contains j = true → ((masks ops.toList []).getD i 0).testBit j = true := by
    intro i o hi hli j hj hlj
    have h1 := hq1 i (lt_of_get hi)
    have hi' : ops.toList[i]? = some o := by simpa using hi
    rw [hi'] at h1
    simp only [Bool.and_eq_true, List.all_eq_true, List.mem_range] at h1
    have h3 := h1.1.2
    rw [hli] at h3
    simp only [Bool.not_true, Bool.false_or, List.all_eq_true, List.mem_range] at h3
    have := h3 j hj
    rw [hlj] at this
    simpa using this
  refine aw_chainS xs HS (Hs (rk ls 0 ops.size)) hm hq0 hxl ?_ ?_ ?_ hfin
  · -- at the outset
    have hC0 : C (Array.replicate ops.size false) = 0 := cnt_zero (fun k hk => by simp only [Array.getD_eq_getD_getElem?, Array.getElem?_replicate]; split <;> simp)
    simp only [HS, hC0]
    apply List.ext_getElem?
    intro i
    simp only [part, List.getElem?_mapIdx]
    by_cases hi : i ∈ placesL L
    · have hem := he i hi
      unfold emptyAt at hem
      have hsome : ∃ e, s.H[i]? = some e := by
        cases hv : s.H[i]? with
        | none => rw [hv] at hem; cases hem
        | some e => exact ⟨e, rfl⟩
      obtain ⟨e, hsi⟩ := hsome
      have hlt : i < (fillH L s.H).length := by rw [fillH_len]; exact lt_of_getL hsi
      rw [List.getElem?_eq_getElem hlt, Option.map_some, if_pos, hsi]
      · simp [List.getD_eq_getElem?_getD, hsi]
      · have key : ∀ (M : List (Nat × Nat × AEnt)), nodupN (M.map (·.1)) = true → i ∈ placesL M → ∃ j, fillsL M j = some i := by
          intro M
          induction M with
          | nil => intro _ hM; cases hM
          | cons a r ih =>
            obtain ⟨k, q, e'⟩ := a
            intro hk hM
            simp only [List.map_cons, nodupN, Bool.and_eq_true, List.all_eq_true] at hk
            simp only [placesL, List.mem_cons] at hM
            rcases hM with rfl | hM
            · exact ⟨k, by simp [fillsL]⟩
            · obtain ⟨j, hj⟩ := ih hk.2 hM
              refine ⟨j, ?_⟩
              obtain ⟨_, p, hp, rfl, _⟩ := fillsL_mem hj
              have h1 := hk.1 p.1 (List.mem_map.2 ⟨p, hp, rfl⟩)
              have : Nat.beq k p.1 = false := by
                cases hb : Nat.beq k p.1 with
                | false => rfl
                | true => rw [← beq_iff'.1 hb] at h1; simp at h1
              simp only [fillsL, this, cond_false]; exact hj
        obtain ⟨j, hj⟩ := key L hnk hi
        exact ⟨j, hj, by simp only [Array.getD_eq_getD_getElem?, Array.getElem?_replicate]; split <;> simp⟩
    · rw [fillH_no hi]
      cases hv : s.H[i]? with
      | none => rfl
      | some e =>
        rw [Option.map_some, if_neg]
        rintro ⟨j, h1, _⟩
        exact hi (fillsL_mem h1).1
  · intro listed hl
    rw [hHS listed (fun j i hji => by
      obtain ⟨_, p, hp, rfl, _⟩ := fillsL_mem hji
      have := (hL p hp).1
      simp [Nat.blt_eq] at this
      exact hl _ this)]
    congr 1
    rw [rk_cnt]
    exact cnt_congr (fun k hk => by rw [hl k hk]; simp)
  · intro listed hsz hcl j o ho hju hpre
    obtain ⟨hd, x, hx, hs⟩ := hst j o (by simpa using ho)
    refine ⟨hd, x, hx, ?_⟩
    have hjs := lt_of_get ho
    have hset : ∀ k, k ≠ j → (listed.setIfInBounds j true).getD k false = listed.getD k false := fun k hk => getD_set_ne false (fun e => hk e.symm)
    have hsetj : (listed.setIfInBounds j true).getD j false = true := by
      have : j < listed.size := by rw [hsz]; exact hjs
      simp [this]
    have hafter : ∀ (k : Nat) (q : Oper), ops[k]? = some q → ((masks ops.toList []).getD k 0).testBit j = true → listed.getD k false = false := by
      intro k q hq hbit
      cases hv : listed.getD k false with
      | false => rfl
      | true =>
        have := masksof listed hcl k q hq (hcl k hv q hq) j hbit
        rw [hju] at this; cases this
    rcases hs with ⟨hlq, hs⟩ | ⟨hll, hfn, hs⟩
    · have hCs : C (listed.setIfInBounds j true) = C listed := cnt_congr (fun k _ => by
        by_cases hkj : k = j
        · subst hkj; rw [hlq]; rfl
        · rw [hset k hkj])
      rcases hs with ⟨hfn, hs⟩ | ⟨i, hfi, rfl, hgd, t, z, k, b, hinf, hop, hHi⟩
      · -- it makes nothing
        have hsame : HS (listed.setIfInBounds j true) = HS listed := by
          have hp : part (listed.setIfInBounds j true) = part listed := by
            apply List.ext_getElem?
            intro i
            simp only [part, List.getElem?_mapIdx]
            have : (∃ k, fillsL L k = some i ∧ (listed.setIfInBounds j true).getD k false = false) ↔ ∃ k, fillsL L k = some i ∧ listed.getD k false = false := by
              constructor
              · rintro ⟨k, h1, h2⟩
                have hkj : k ≠ j := fun e => by subst e; rw [hfn] at h1; cases h1
                exact ⟨k, h1, by rw [← hset k hkj]; exact h2⟩
              · rintro ⟨k, h1, h2⟩
                have hkj : k ≠ j := fun e => by subst e; rw [hfn] at h1; cases h1
                exact ⟨k, h1, by rw [hset k hkj]; exact h2⟩
            simp only [this]
          simp only [HS, hCs, hp]
        rw [hsame]
        have hpins : Pins I (fillH L s.H) (HS listed) := by
          have hpart : Pins I (fillH L s.H) (part listed) := by
            have : ∀ (J : List Nat), (∀ i ∈ J, noPlace L i = true) → Pins J (fillH L s.H) (part listed) := by
              intro J
              induction J with
              | nil => intro _; trivial
              | cons i r ih =>
                intro hJ
                refine ⟨?_, ih (fun k hk => hJ k (by simp [hk]))⟩
                have hno := hJ i (by simp)
                simp only [noPlace, List.all_eq_true] at hno
                simp only [part, List.getElem?_mapIdx]
                cases hv : (fillH L s.H)[i]? with
                | none => rfl
                | some e =>
                  rw [Option.map_some, if_neg]
                  rintro ⟨k, h1, _⟩
                  have := hno i (fillsL_mem h1).1
                  rw [beq_iff'.2 rfl] at this; simp at this
            exact this I hI
          simp only [HS]
          split
          · exact hpart
          · rename_i c hc
            have hc' : c + 1 = C listed := hc.symm
            rw [hc']
            refine hpin _ ?_
            rw [rk_cnt]
            have hle : ∀ (L L' : Nat → Bool) (n : Nat), (∀ k, L k = true → L' k = true) → cnt L n ≤ cnt L' n := by
              intro L L' n hLL
              induction n with
              | zero => exact Nat.le_refl _
              | succ n ih =>
                simp only [cnt]
                cases hv : L n with
                | false => simp; omega
                | true => rw [hLL n hv]; simp; omega
            exact hle _ _ _ (fun k hk => by simp only [Bool.and_eq_true] at hk; exact hk.1)
        cases hs _ hpins with
        | go h1 h2 => exact .go h1 h2
        | yes h1 h2 h3 h4 h5 => exact .yes h1 h2 h3 h4 h5
        | no h1 h2 h3 h4 => exact .no h1 h2 h3 h4
      · -- it fills a place
        have hC0 : C listed = 0 := by
          rcases Nat.eq_zero_or_pos (C listed) with h0 | h0
          · exact h0
          · have := hbegun listed hcl h0 j i hfi
            rw [hju] at this; cases this
        have hi := (fillsL_mem hfi).1
        have hHSl : HS listed = part listed := by simp only [HS, hC0]
        have hHSl' : HS (listed.setIfInBounds j true) = part (listed.setIfInBounds j true) := by simp only [HS, hCs, hC0]
        rw [hHSl, hHSl']
        have hlt : i < (fillH L s.H).length := lt_of_getL hHi
        have hem := he i hi
        unfold emptyAt at hem
        obtain ⟨e0, hsi⟩ : ∃ e0, s.H[i]? = some (.arr e0 0) := by
          revert hem
          cases hv : s.H[i]? with
          | none => intro hem; cases hem
          | some e =>
            cases e with
            | arr e0 m =>
              cases m with
              | zero => intro _; exact ⟨e0, rfl⟩
              | succ m => intro hem; cases hem
            | box _ _ => intro hem; cases hem
            | reg => intro hem; cases hem
            | dead => intro hem; cases hem
        have hat : (part listed)[i]? = some (.arr e0 0) := by
          simp only [part, List.getElem?_mapIdx]
          rw [List.getElem?_eq_getElem hlt, Option.map_some, if_pos ⟨j, hfi, hju⟩]
          simp [List.getD_eq_getElem?_getD, hsi]
        have hnew : part (listed.setIfInBounds j true) = (part listed).set i (.box t (z.cells.toList.map .v)) := by
          apply List.ext_getElem?
          intro q
          by_cases hqi : i = q
          · subst hqi
            rw [set_get_eq hat]
            simp only [part, List.getElem?_mapIdx]
            rw [hHi, Option.map_some, if_neg]
            rintro ⟨k, h1, h2⟩
            have := fillsL_inj hnd h1 hfi
            subst this
            rw [hsetj] at h2; cases h2
          · rw [set_get_ne hqi]
            simp only [part, List.getElem?_mapIdx]
            have : (∃ k, fillsL L k = some q ∧ (listed.setIfInBounds j true).getD k false = false) ↔ ∃ k, fillsL L k = some q ∧ listed.getD k false = false := by
              constructor
              · rintro ⟨k, h1, h2⟩
                have hkj : k ≠ j := fun e => by subst e; rw [hfi] at h1; injection h1 with h1; exact hqi h1
                exact ⟨k, h1, by rw [← hset k hkj]; exact h2⟩
              · rintro ⟨k, h1, h2⟩
                have hkj : k ≠ j := fun e => by subst e; rw [hfi] at h1; injection h1 with h1; exact hqi h1
                exact ⟨k, h1, by rw [hset k hkj]; exact h2⟩
            simp only [this]
        rw [hnew]
        exact .go hgd (op1_fill hinf hop hat)
    · -- one of the chain
      have hfills : ∀ q i, fillsL L q = some i → listed.getD q false = true := fun q i hqi => masksof listed hcl j o ho hpre q (hmask j hll q i hqi)
      have hfills' : ∀ q i, fillsL L q = some i → (listed.setIfInBounds j true).getD q false = true := fun q i hqi => getD_set_true (hfills q i hqi)
      rw [hHS listed hfills, hHS _ hfills']
      have hCj : C listed = rk ls 0 j := by
        rw [rk_cnt, ← cnt_below (L := fun k => ls.contains k) (Nat.le_of_lt hjs)]
        refine cnt_congr (fun k hk => ?_)
        cases hlk : ls.contains k with
        | false => simp
        | true =>
          simp only [Bool.true_and]
          rcases Nat.lt_trichotomy k j with hlt | heq | hgt
          · rw [masksof listed hcl j o ho hpre k (hedges j o ho hll k hlt hlk)]; simp [hlt]
          · subst heq; rw [hju]; simp
          · have hok : ops[k]? = some (ops[k]'(by omega)) := Array.getElem?_eq_getElem (by omega)
            rw [hafter k _ hok (hedges k _ hok hlk j hgt hll)]
            have : ¬ k < j := by omega
            simp [this]
      have hCs : C (listed.setIfInBounds j true) = C listed + 1 := cnt_set hjs (by simp only [hju, Bool.and_false]) (by simp only [hll, hsetj, Bool.and_true]) (fun k hk => by simp only [hset k hk])
      rw [hCs, hCj]
      exact hs
section
variable {ops : Array Oper} {fs : Nat → Option Nat} {ls I : List Nat} {H0 HF : List AEnt} {n k : Nat} {K : AExit → ASt → Prop} {o : Oper} {r : List Oper} {env : List (Nat × PV)}
theorem ad_go {x : PV} {d : Nat} (hl : ls.contains k = false) (hf : fs k = none) (hg : o.guard = none) (hd : o.dst = some d) (hn : Nat.blt d n = true) (h1 : ∀ H, Pins I H0 H → Op1 P o (keepE (o.looksAt ops) env) H n x H) (h : AD P ops fs ls I H0 HF n K (k + 1) r ((d, x) :: env) H) : AD P ops fs ls I H0 HF n K k (o :: r) env H :=
  ⟨by rw [hd]; exact hn, x, H, .inl ⟨hl, rfl, .inl ⟨hf, fun H hp => .go hg (h1 H hp)⟩⟩, by rw [hd]; exact h⟩
theorem ad_lgo0 {x : PV} {H' : List AEnt} (hl : ls.contains k = true) (hf : fs k = none) (hg : o.guard = none) (hd : o.dst = none) (h1 : Op1 P o (keepE (o.looksAt ops) env) H n x H') (hp : Pins I H0 H') (h : AD P ops fs ls I H0 HF n K (k + 1) r env H') : AD P ops fs ls I H0 HF n K k (o :: r) env H :=
  ⟨by rw [hd]; rfl, x, H', .inr ⟨hl, hf, hp, .go hg h1⟩, by rw [hd]; exact h⟩
theorem ad_fill {i : Nat} {t : TypeId} {z : Value} {c b d : Nat} (hl : ls.contains k = false) (hf : fs k = some i) (hg : o.guard = none) (hd : o.dst = some d) (hn : Nat.blt d n = true) (hinf : Inf P t z c b) (ho : o.op = .alloc t) (hH : HF[i]? = some (.box t (z.cells.toList.map .v)))
    (h : AD P ops fs ls I H0 HF n K (k + 1) r ((d, .rf i 0) :: env) H) : AD P ops fs ls I H0 HF n K k (o :: r) env H :=
  ⟨by rw [hd]; exact hn, _, H, .inl ⟨hl, rfl, .inr ⟨i, hf, rfl, hg, t, z, c, b, hinf, ho, hH⟩⟩, by rw [hd]; exact h⟩
theorem ad_nil (h : K .normal ⟨env, H, n⟩) : AD P ops fs ls I H0 HF n K k [] env H := h
end
theorem bw_place {H0 : List AEnt} {c : Code} {env : List (Nat × PV)} {H : List AEnt} {n : Nat} {K : AExit → ASt → Prop} (e : Nat) (h : BW P H0 c ⟨env, H ++ [.arr e 0], n⟩ K) : BW P H0 c ⟨env, H, n⟩ K := by
  intro F g a w g0 w0 hl hr hx
  have hn : ∀ b, (none : Option Nat) = some b → b = w.heap.size := fun b hb => by cases hb
  have hrel := rel_snoc (w' := w) hr.rel (.arr e 0) none hn (Nat.le_refl _) (fun _ _ => rfl) (.inl ⟨rfl, trivial⟩)
  have hle := le_snoc (w' := w) hr.rel (.arr e 0) none hn (Nat.le_refl _) (fun _ _ => rfl)
  exact h F _ a w g0 w0 hl ⟨hrel, fun k y hy => let ⟨u, a1, a2⟩ := hr.env k y hy; ⟨u, a1, a2.mono hle⟩, hr.size, hr.defers⟩ (hx.trans (ext_snoc hr.rel (.arr e 0) none hn (Nat.le_refl _) (fun _ _ => rfl) rfl rfl rfl))
theorem bw_fills {H0 : List AEnt} {rid : Nat} {ops : Array Oper} {env : List (Nat × PV)} {H : List AEnt} {n : Nat} {K : AExit → ASt → Prop} (L : List (Nat × Nat × AEnt)) (ls I : List Nat) (hm : P.follows .mixedOrders = true) (hq : fillOk ops ls I L = true)
    (he : (placesL L).all (emptyAt H) = true) (h : AD P ops (fillsL L) ls I (fillH L H) (fillH L H) n K 0 ops.toList env (fillH L H)) : BW P H0 (.region rid ops true) ⟨env, H, n⟩ K :=
  bw_of (aw_fills (s := ⟨env, H, n⟩) L ls I hm hq (fun i hi => by simpa using List.all_eq_true.1 he i hi) h)
end Go.Proofs.Ytkmhecgagibgjaa.Aw
