/- tenonlaw01.spoil only changes the blocks in which its term stands. -/
import Derived.Test.YthfdpaboekoncaaPls
import Derived.Test.YthfdpaboekoncaaAwJ
import Derived.KernelRfl
namespace Go.Proofs.Ythfdpaboekoncaa
open Go Aw
set_option linter.unusedVariables false
set_option linter.unusedSimpArgs false
set_option maxRecDepth 8000
/-- What may stand where, by the block's type. -/
def tmFl (e : TypeId) (i : Nat) (v : Value) : Prop := (e = 5 ∧ ∃ k, v = .int .u8 k) ∨ (e = 29 ∧ (i % 11 = 5 ∨ i % 11 = 7 ∨ i % 11 = 8 → v = .slice none 0 0)) ∨ (e = 66 ∧ (i % 12 = 6 ∨ i % 12 = 8 ∨ i % 12 = 9 → v = .slice none 0 0))
/-- A row, by its elements' cells. -/
def rowC (S : Nat → Prop) (w : World) (e s : Nat) (E : (Nat → Option Value) → Prop) (x : Value) : Prop :=
  ∃ A l c, x = .slice A l c ∧ l ≤ c ∧ l ≤ 9223372036854775807 ∧ (memC S w).B A e s (c * s) ∧ ∀ i, i < l → ∃ b o, A = some ⟨b, o, none⟩ ∧ E (fun j => w.cell? ⟨b, o + (i * s + j), none⟩)
def byE (f : Nat → Option Value) : Prop := ∃ k, f 0 = some (.int .u8 k)
def TmA (S : Nat → Prop) : Nat → World → (Nat → Option Value) → Prop
  | 0, _, _ => False
  | n + 1, w, f => (∀ j, j < 11 → ∃ v, f j = some v) ∧ (∃ x, f 5 = some x ∧ rowC S w 5 1 byE x) ∧ (∃ x, f 7 = some x ∧ rowC S w 29 11 (TmA S n w) x) ∧ (∃ x, f 8 = some x ∧ rowC S w 66 12 (fun g => TmA S n w (fun j => g (j + 1))) x)
theorem tm_ext {S : Nat → Prop} : ∀ {n : Nat} {w : World} {f g : Nat → Option Value}, (∀ j, j < 11 → g j = f j) → TmA S n w f → TmA S n w g
  | 0, _, _, _, _, h => h.elim
  | n + 1, w, f, g, he, ⟨h0, h1, h2, h3⟩ => ⟨fun j hj => by rw [he j hj]; exact h0 j hj, by rw [he 5 (by omega)]; exact h1, by rw [he 7 (by omega)]; exact h2, by rw [he 8 (by omega)]; exact h3⟩
theorem rowC_nil {S : Nat → Prop} {w : World} {e s : Nat} {E : (Nat → Option Value) → Prop} : rowC S w e s E (.slice none 0 0) := ⟨none, 0, 0, rfl, Nat.le_refl _, by omega, .inl ⟨rfl, by omega⟩, fun i hi => by omega⟩
/-- An element of a row: its block, its place. -/
theorem rowC_at {S : Nat → Prop} {w : World} {e s l c i : Nat} {E : (Nat → Option Value) → Prop} {A : Option Addr} (h : rowC S w e s E (.slice A l c)) (hi : i < l) :
    ∃ b o cs z q, A = some ⟨b, o, none⟩ ∧ S b ∧ w.heap[b]? = some (.cells cs e z) ∧ o + (i * s + s) ≤ cs.size ∧ (z.2 ≤ z.1 ∨ cs.size ≤ z.1) ∧ o = q * s ∧ E (fun j => w.cell? ⟨b, o + (i * s + j), none⟩) := by
  obtain ⟨A', l', c', hx, h1, _, h3, h4⟩ := h
  injection hx with e1 e2 e3; subst e1; subst e2; subst e3
  obtain ⟨b, o, hA, h6⟩ := h4 i hi
  rcases h3 with ⟨h7, _⟩ | ⟨b', o', cs, z, q, h7, h8, h9, h10, h11, h12⟩
  · rw [hA] at h7; cases h7
  · rw [hA] at h7; injection h7 with h7; injection h7 with h7 h13; subst h7; subst h13
    have : (i + 1) * s ≤ c * s := Nat.mul_le_mul_right _ (by omega)
    rw [Nat.succ_mul] at this
    exact ⟨b, o, cs, z, q, hA, h8, h9, by omega, h11, h12, h6⟩
theorem rowC_go {S : Nat → Prop} {w w' : World} {e s : Nat} {E E' : (Nat → Option Value) → Prop} {x : Value} (hR : RR tmFl w w')
    (hE : ∀ (q : Nat) (f f' : Nat → Option Value), E f → (∀ j, j < s → ∃ v v', f j = some v ∧ f' j = some v' ∧ (v' = v ∨ tmFl e (q * s + j) v')) → E' f') (h : rowC S w e s E x) : rowC S w' e s E' x := by
  have h0 := h
  obtain ⟨A, l, c, hx, h1, h2, h3, h4⟩ := h
  subst hx
  refine ⟨A, l, c, rfl, h1, h2, ?_, fun i hi => ?_⟩
  · rcases h3 with h3 | ⟨b, o, cs, z, q, h5, h6, h7, h8, h9, h10⟩
    · exact .inl h3
    · obtain ⟨cs', h11, h12, _⟩ := hR b cs e z h7
      exact .inr ⟨b, o, cs', z, q, h5, h6, h11, by rw [h12]; exact h8, by rw [h12]; exact h9, h10⟩
  · obtain ⟨b, o, cs, z, q, hA, hS, hblk, hsz, _, ho, hel⟩ := rowC_at h0 hi
    refine ⟨b, o, hA, hE (q + i) _ _ hel (fun j hj => ?_)⟩
    obtain ⟨cs', h11, h12, h13⟩ := hR b cs e z hblk
    have hv : cs[o + (i * s + j)]? = some (cs[o + (i * s + j)]'(by omega)) := Array.getElem?_eq_getElem (by omega)
    obtain ⟨v', h14, h15⟩ := h13 _ _ hv
    refine ⟨_, v', by rw [cell_row hblk]; exact hv, by rw [cell_row h11]; exact h14, ?_⟩
    rcases h15 with h15 | h15
    · exact .inl h15
    · right
      rw [show (q + i) * s + j = o + (i * s + j) by rw [ho, Nat.add_mul]; omega]
      exact h15
theorem by_go {S : Nat → Prop} {w w' : World} (hR : RR tmFl w w') {x : Value} (h : rowC S w 5 1 byE x) : rowC S w' 5 1 byE x := rowC_go hR (fun q f f' ⟨k, hk⟩ hc => by
  obtain ⟨v, v', h1, h2, h3⟩ := hc 0 (by omega)
  rw [hk] at h1; injection h1 with h1; subst h1
  rcases h3 with rfl | ⟨_, k', rfl⟩ | ⟨h4, _⟩ | ⟨h4, _⟩
  · exact ⟨k, h2⟩
  · exact ⟨k', h2⟩
  · cases h4
  · cases h4) h
theorem tm_go {S : Nat → Prop} {w w' : World} (hR : RR tmFl w w') : ∀ (n : Nat) (f f' : Nat → Option Value), TmA S n w f → (∀ j, j < 11 → ∃ v v', f j = some v ∧ f' j = some v' ∧ (v' = v ∨ (j = 5 ∨ j = 7 ∨ j = 8 → v' = .slice none 0 0))) → TmA S n w' f'
  | 0, f, f', h, _ => h.elim
  | n + 1, f, f', ⟨h0, ⟨x5, h5, r5⟩, ⟨x7, h7, r7⟩, ⟨x8, h8, r8⟩⟩, hc => by
    have el : ∀ (j : Nat) (x : Value), j < 11 → f j = some x → ∃ x', f' j = some x' ∧ (x' = x ∨ (j = 5 ∨ j = 7 ∨ j = 8 → x' = .slice none 0 0)) := fun j x hj hx => by
      obtain ⟨v, v', h1, h2, h3⟩ := hc j hj
      rw [hx] at h1; injection h1 with h1; subst h1
      exact ⟨v', h2, h3⟩
    refine ⟨fun j hj => let ⟨_, v', _, h2, _⟩ := hc j hj; ⟨v', h2⟩, ?_, ?_, ?_⟩
    · obtain ⟨x', hx', hd⟩ := el 5 x5 (by omega) h5
      refine ⟨x', hx', ?_⟩
      rcases hd with rfl | hd
      · exact by_go hR r5
      · rw [hd (.inl rfl)]; exact rowC_nil
    · obtain ⟨x', hx', hd⟩ := el 7 x7 (by omega) h7
      refine ⟨x', hx', ?_⟩
      rcases hd with rfl | hd
      · refine rowC_go hR (fun q g g' hg hcc => tm_go hR n g g' hg (fun j hj => ?_)) r7
        obtain ⟨v, v', h1, h2, h3⟩ := hcc j hj
        refine ⟨v, v', h1, h2, ?_⟩
        rcases h3 with h3 | ⟨h4, _⟩ | ⟨_, h4⟩ | ⟨h4, _⟩
        · exact .inl h3
        · cases h4
        · exact .inr fun hj3 => h4 (by omega)
        · cases h4
      · rw [hd (.inr (.inl rfl))]; exact rowC_nil
    · obtain ⟨x', hx', hd⟩ := el 8 x8 (by omega) h8
      refine ⟨x', hx', ?_⟩
      rcases hd with rfl | hd
      · refine rowC_go hR (fun q g g' hg hcc => tm_go hR n _ _ hg (fun j hj => ?_)) r8
        obtain ⟨v, v', h1, h2, h3⟩ := hcc (j + 1) (by omega)
        refine ⟨v, v', h1, h2, ?_⟩
        rcases h3 with h3 | ⟨h4, _⟩ | ⟨h4, _⟩ | ⟨_, h4⟩
        · exact .inl h3
        · cases h4
        · cases h4
        · exact .inr fun hj3 => h4 (by omega)
      · rw [hd (.inr (.inr rfl))]; exact rowC_nil
theorem tm_same {S : Nat → Prop} {w w' : World} (hR : RR tmFl w w') {n : Nat} {f : Nat → Option Value} (h : TmA S n w f) : TmA S n w' f := by
  have h11 : ∀ j, j < 11 → ∃ v, f j = some v := by
    cases n with
    | zero => exact h.elim
    | succ n => exact h.1
  exact tm_go hR n f f h (fun j hj => let ⟨v, hv⟩ := h11 j hj; ⟨v, v, hv, hv, .inl rfl⟩)
theorem tl_go {S : Nat → Prop} {w w' : World} (hR : RR tmFl w w') {n : Nat} {x : Value} (h : rowC S w 29 11 (TmA S n w) x) : rowC S w' 29 11 (TmA S n w') x := rowC_go hR (fun q g g' hg hcc => tm_go hR n g g' hg (fun j hj => by
  obtain ⟨v, v', h1, h2, h3⟩ := hcc j hj
  refine ⟨v, v', h1, h2, ?_⟩
  rcases h3 with h3 | ⟨h4, _⟩ | ⟨_, h4⟩ | ⟨h4, _⟩
  · exact .inl h3
  · cases h4
  · exact .inr fun hj3 => h4 (by omega)
  · cases h4)) h
theorem te_go {S : Nat → Prop} {w w' : World} (hR : RR tmFl w w') {n : Nat} {x : Value} (h : rowC S w 66 12 (fun g => TmA S n w (fun j => g (j + 1))) x) : rowC S w' 66 12 (fun g => TmA S n w' (fun j => g (j + 1))) x := rowC_go hR (fun q g g' hg hcc => tm_go hR n _ _ hg (fun j hj => by
  obtain ⟨v, v', h1, h2, h3⟩ := hcc (j + 1) (by omega)
  refine ⟨v, v', h1, h2, ?_⟩
  rcases h3 with h3 | ⟨h4, _⟩ | ⟨h4, _⟩ | ⟨_, h4⟩
  · exact .inl h3
  · cases h4
  · cases h4
  · exact .inr fun hj3 => h4 (by omega))) h
theorem cells_list {f : Nat → Option Value} : ∀ (n : Nat), (∀ j, j < n → ∃ v, f j = some v) → ∃ l : List Value, l.length = n ∧ ∀ j, j < n → l[j]? = f j
  | 0, _ => ⟨[], rfl, fun j hj => by omega⟩
  | n + 1, h => by
    obtain ⟨l, h1, h2⟩ := cells_list n (fun j hj => h j (by omega))
    obtain ⟨v, hv⟩ := h n (by omega)
    refine ⟨l ++ [v], by simp [h1], fun j hj => ?_⟩
    by_cases hjn : j < n
    · rw [List.getElem?_append_left (by omega)]; exact h2 j hjn
    · have : j = n := by omega
      subst this
      rw [List.getElem?_append_right (by omega), h1, hv]; simp
section
variable {N : Nat} {ds : List Deferred} {env : VE} {w w' : World} {o : Oper}
theorem xr_box {P : Program} {t : TypeId} {x : Operand} {v : Value} (ho : o.op = .box t x) (hx : vev env x = some v) (a : Act) (ha : AR N ds env a) : (execOp a.eval o).run P w = .ok (.value (.pointer (some ⟨w.heap.size, 0, none⟩))) (w.alloc (.cells v.cells t)) := by
  simp [execOp, ho, ha.ev hx, Instr.box, newVar, newRow]
theorem xr_ldA {P : Program} {x : Operand} {t : TypeId} {d : TypeDesc} {b off : Nat} {cs : List Value} (hd : P.underlying t = some d) (hs : aggD d = true) (hn : P.cellsOf t = cs.length) (ho : o.op = .load t x) (hx : vev env x = some (.pointer (some ⟨b, off, none⟩)))
    (hc : ∀ (j : Nat) (v : Value), cs[j]? = some v → w.cell? ⟨b, off + j, none⟩ = some v) (a : Act) (ha : AR N ds env a) : (execOp a.eval o).run P w = .ok (.value (.agg cs.toArray)) w := by
  simp [execOp, ho, ha.ev hx, run_loadA hd hs hn hc]
end
namespace Aw
theorem Wrs.comp {S : Nat → Prop} {w0 w1 w2 : World} (h : Wrs S w0 w1) (k : Wrs S w1 w2) : Wrs S w0 w2 :=
  ⟨k.os.trans h.os, k.tape.trans h.tape, k.output.trans h.output, Nat.le_trans h.size k.size, fun b hb hn => (k.keep b (Nat.lt_of_lt_of_le hb h.size) hn).trans (h.keep b hb hn), h.kp.trans k.kp⟩
end Aw
def SpT (S : Nat → Prop) (n : Nat) : Prop := ∀ (w : World) (cs : List Value), (∀ b, S b → b < w.heap.size) → TmA S n w (fun j => cs[j]?) → cs.length = 11 → Calls Try.prog 25 #[.agg cs.toArray] w fun e w' => ∃ r, e = .returned r ∧ r = .tuple #[] ∧ Wrs S w w' ∧ RR tmFl w w'
theorem spT {S : Nat → Prop} {n : Nat} (hn : SpT S n) : SpT S (n + 1) := by
  intro w cs hS hty hlen
  obtain ⟨_, ⟨x5, h5, r5⟩, ⟨x7, h7, r7⟩, ⟨x8, h8, r8⟩⟩ := hty
  -- what stays true on the way
  let J : World → Prop := fun w1 => Wrs S w w1 ∧ RR tmFl w w1 ∧ w1.heap[w.heap.size]? = some (.cells cs.toArray 29 (0, 0))
  have step : ∀ {w1 w2 : World}, J w1 → Wrs S w1 w2 → RR tmFl w1 w2 → J w2 := fun {w1 w2} h1 h2 h3 =>
    ⟨h1.1.comp h2, h1.2.1.trans h3, by rw [h2.keep _ (lt_of_get h1.2.2) (fun hb => Nat.lt_irrefl _ (hS _ hb))]; exact h1.2.2⟩
  have hS1 : ∀ {w1 : World}, J w1 → ∀ b, S b → b < w1.heap.size := fun h1 b hb => Nat.lt_of_lt_of_le (hS b hb) h1.1.size
  have fld : ∀ {w1 : World}, J w1 → ∀ (j : Nat) (x : Value), cs[j]? = some x → w1.cell? ⟨w.heap.size, 0 + j, none⟩ = some x := fun h1 j x hx => by rw [cell_row h1.2.2]; simpa using hx
  refine calls_of_xw (args := [.agg cs.toArray]) Try.func25 rfl Try.ntmps25 rfl rfl ?_
  refine xw_seq (xw_region (xl_val rfl rfl (xr_box rfl rfl) (xl_nil ?_)))
  change XW _ _ _ _ _ _ _
  have hJ0 : J (w.alloc (.cells (Value.agg cs.toArray).cells 29)) := ⟨Wrs.refl.grow rfl rfl rfl (by simp) (fun k hk => alloc_old hk), .of (fun k hk => alloc_old hk), alloc_new⟩
  generalize w.alloc (.cells (Value.agg cs.toArray).cells 29) = wb at hJ0
  refine xw_seq ?_
  change XW _ _ _ _ _ _ _
  -- the bytes
  obtain ⟨A5, l5, c5, rfl, _, hl5, _, _⟩ := id r5
  obtain ⟨A7, l7, c7, rfl, _, hl7, _, _⟩ := id r7
  obtain ⟨A8, l8, c8, rfl, _, hl8, _, _⟩ := id r8
  refine xw_seq (xw_region (xl_val rfl rfl (xr_assign rfl rfl) (xl_nil ?_)))
  change XW _ _ _ _ _ _ _
  refine xw_block ?_
  refine xw_loop (fun n env w1 => ∃ i : Nat, i + n = l5 ∧ vget env 2 = some (.int .i64 (i : Nat)) ∧ vget env 1 = some (.pointer (some ⟨w.heap.size, 0, none⟩)) ∧ J w1) (n := l5) ⟨0, by omega, rfl, rfl, hJ0⟩ ?_
  clear hJ0
  rintro m env w1 ⟨i, hin, hctr, h1, hJ⟩
  refine xw_seq (xw_seq (xw_region (xl_val rfl rfl (xr_move rfl hctr) (xl_val rfl rfl (xr_fa st_29 (i := 5) rfl rfl h1) (xl_val rfl rfl (xr_ld Try.underlying23 rfl rfl rfl (fld hJ 5 _ h5)) (xl_val rfl rfl (xr_len Try.underlying23 rfl rfl) (xl_val rfl rfl (xr_lss rfl rfl rfl) (xl_nil ?_))))))))
  change XW _ _ _ _ _ _ _
  refine xw_cond rfl (fun hc => xw_skip ?_) (fun hc => xw_exit ?_)
  · have hil : i < l5 := by have := of_decide_eq_true hc; omega
    change XW _ _ _ _ _ _ _
    refine xw_seq (xw_block ?_)
    obtain ⟨b, o, bs, z, q, rfl, hSb, hblk, hsz, hfz, hal, k, hk⟩ := rowC_at (by_go hJ.2.1 r5) hil
    refine xw_weak (env' := [(1, .pointer (some ⟨w.heap.size, 0, none⟩)), (2, .int .i64 (i : Nat))]) (fun t v hv => ?_) ?_
    · simp only [vget] at hv
      cases hb1 : Nat.beq 1 t with
      | true => rw [hb1] at hv; rw [← beq_iff'.1 hb1]; simp only [cond_true] at hv; rw [← hv]; exact h1
      | false =>
        cases hb2 : Nat.beq 2 t with
        | true => rw [hb1, hb2] at hv; rw [← beq_iff'.1 hb2]; simp only [cond_true, cond_false] at hv; rw [← hv]; exact hctr
        | false => rw [hb1, hb2] at hv; cases hv
    have hW1 : Wrs S w1 { w1 with drawn := w1.drawn + 1 } := Wrs.refl.grow rfl rfl rfl (Nat.le_refl _) (fun _ _ => rfl)
    have hR1 : RR tmFl w1 { w1 with drawn := w1.drawn + 1 } := .of (fun _ _ => rfl)
    have hJ1 := step hJ hW1 hR1
    have hk1 : (World.cell? { w1 with drawn := w1.drawn + 1 } ⟨b, o + i * 1, none⟩) = some (.int .u8 k) := by
      have : o + i * 1 = o + (i * 1 + 0) := rfl
      rw [this]; exact hk
    have hblk1 : ({ w1 with drawn := w1.drawn + 1 } : World).heap[b]? = some (.cells bs 5 z) := hblk
    refine xw_draw 10 mo (by kernel_rfl) ?_
    generalize ({ w1 with drawn := w1.drawn + 1 } : World) = w2 at hW1 hR1 hJ1 hk1 hblk1 ⊢
    refine xd_val rfl rfl (xr_fa st_29 (i := 5) rfl rfl rfl) (xd_val rfl rfl (xr_ld Try.underlying23 rfl rfl rfl (fld hJ1 5 _ h5)) (xd_val rfl rfl (xr_move rfl rfl) (xd_val rfl rfl (xr_fa st_29 (i := 5) rfl rfl rfl) (xd_val rfl rfl (xr_ld Try.underlying23 rfl rfl rfl (fld hJ1 5 _ h5)) (xd_val rfl rfl (xr_move rfl rfl)
      (xd_val rfl rfl (xr_idx Try.underlying23 inf_5 rfl rfl rfl hil) (xd_val rfl rfl (xr_ld Try.underlying5 rfl rfl rfl hk1) (xd_val rfl rfl (xr_addW rfl rfl rfl) (xd_val rfl rfl (xr_idx Try.underlying23 inf_5 rfl rfl rfl hil) (xd_nil ?_))))))))))
    refine xl_store (Fl := tmFl) (S := S) (w0 := w2) rfl rfl inf_5 rfl rfl rfl (by intro v hv; simp [Value.cells] at hv; subst hv; rfl) rfl hblk1 (by omega) hfz (by
      intro j v hj
      match j, hj with
      | 0, hj => simp [Value.cells] at hj; subst hj; exact .inl ⟨rfl, _, rfl⟩) (.inl hSb) (fun w3 hG3 => xl_nil ?_)
    change XW _ _ _ _ _ _ _
    have hJ3 := step hJ1 (hG3.wr .refl) hG3.rr
    refine xw_region (xl_val rfl rfl (xr_move rfl rfl) (xl_val rfl rfl (xr_add rfl rfl rfl (by omega)) (xl_val rfl rfl (xr_assign rfl rfl) (xl_nil ?_))))
    exact ⟨m - 1, by omega, i + 1, by omega, rfl, rfl, hJ3⟩
  show XW _ _ _ _ _ _ _
  clear hin hctr hc
  refine xw_seq ?_
  change XW _ _ _ _ _ _ _
  refine xw_seq (xw_region (xl_val rfl rfl (xr_assign rfl rfl) (xl_nil ?_)))
  change XW _ _ _ _ _ _ _
  refine xw_block ?_
  refine xw_loop (fun n env w1 => ∃ i : Nat, i + n = l7 ∧ vget env 3 = some (.int .i64 (i : Nat)) ∧ vget env 1 = some (.pointer (some ⟨w.heap.size, 0, none⟩)) ∧ J w1) (n := l7) ⟨0, by omega, rfl, h1, hJ⟩ ?_
  clear hJ h1
  rintro m env w1 ⟨i, hin, hctr, h1, hJ⟩
  refine xw_seq (xw_seq (xw_region (xl_val rfl rfl (xr_move rfl hctr) (xl_val rfl rfl (xr_fa st_29 (i := 7) rfl rfl h1) (xl_val rfl rfl (xr_ld Try.underlying26 rfl rfl rfl (fld hJ 7 _ h7)) (xl_val rfl rfl (xr_len Try.underlying26 rfl rfl) (xl_val rfl rfl (xr_lss rfl rfl rfl) (xl_nil ?_))))))))
  change XW _ _ _ _ _ _ _
  refine xw_cond rfl (fun hc => xw_skip ?_) (fun hc => xw_exit ?_)
  · have hil : i < l7 := by have := of_decide_eq_true hc; omega
    change XW _ _ _ _ _ _ _
    refine xw_seq (xw_block (xw_seq ?_))
    obtain ⟨b, o, bs, z, q, rfl, hSb, hblk, hsz, hfz, hal, hel⟩ := rowC_at (tl_go hJ.2.1 r7) hil
    obtain ⟨cs1, hl1, hc1⟩ := cells_list (f := fun j => w1.cell? ⟨b, o + (i * 11 + j), none⟩) 11 (by
      cases n with
      | zero => exact hel.elim
      | succ n => exact hel.1)
    have hty1 : TmA S n w1 (fun j => cs1[j]?) := tm_ext (fun j hj => hc1 j hj) hel
    refine xw_region (xl_val rfl rfl (xr_fa st_29 (i := 7) rfl rfl h1) (xl_val rfl rfl (xr_ld Try.underlying26 rfl rfl rfl (fld hJ 7 _ h7)) (xl_val rfl rfl (xr_move rfl hctr) (xl_val rfl rfl (xr_idx Try.underlying26 inf_29 rfl rfl rfl hil)
      (xl_val rfl rfl (xr_ldA (cs := cs1) Try.underlying29 rfl ((Inf.cells inf_29).trans hl1.symm) rfl rfl (fun j v hj => by
        have := hc1 j (by have := lt_of_getL hj; omega)
        rw [hj] at this; rw [Nat.add_assoc]; exact this.symm))
      (xl_call (args := [.tmp 33]) (vs := #[.agg cs1.toArray]) (R := fun r w' => r = .tuple #[] ∧ Wrs S w1 w' ∧ RR tmFl w1 w') rfl rfl rfl en_25 (fun a ha => by simp [ha.ev (o := .tmp 33) (v := .agg cs1.toArray) rfl]) (hn w1 cs1 (hS1 hJ) hty1 hl1) ?_))))))
    rintro r w2 ⟨rfl, hW2, hR2⟩
    refine xl_nil ?_
    change XW _ _ _ _ _ _ _
    have hJ2 := step hJ hW2 hR2
    obtain ⟨b', o', bs', z', q', hA', hSb', hblk', hsz', hfz', hal', _⟩ := rowC_at (tl_go hJ2.2.1 r7) hil
    injection hA' with hA'; injection hA' with hA1 hA2; subst hA1; subst hA2
    refine xw_region (xl_val rfl rfl (xr_fa st_29 (i := 7) rfl rfl h1) (xl_val rfl rfl (xr_ld Try.underlying26 rfl rfl rfl (fld hJ2 7 _ h7)) (xl_val rfl rfl (xr_move rfl hctr)
      (xl_val rfl rfl (xr_build (parts := [(0, .const (.int .i64 99))]) (vs := [(0, .int .i64 99)]) (c := #[.int .i64 99, .bool false, .int .i64 0, .float .f64 0, .string ⟨#[]⟩, .slice none 0 0, .int .u64 0, .slice none 0 0, .slice none 0 0, .string ⟨#[]⟩, .int .i64 0]) st_29 inf_29 rfl (fun a ha => rfl) rfl)
      (xl_val rfl rfl (xr_idx Try.underlying26 inf_29 rfl rfl rfl hil) (xl_store (Fl := tmFl) (S := S) (w0 := w2) rfl rfl inf_29 rfl rfl rfl (by intro v hv; simp [Value.cells] at hv; rcases hv with rfl | rfl | rfl | rfl | rfl | rfl | rfl | rfl | rfl | rfl | rfl <;> rfl) rfl hblk' (by omega) hfz' (by
        intro j v hj
        have hlt := lt_of_getL hj
        refine .inr (.inl ⟨rfl, fun hm => ?_⟩)
        have hj3 : j = 5 ∨ j = 7 ∨ j = 8 := by simp [Value.cells] at hlt; omega
        rcases hj3 with rfl | rfl | rfl <;> simp [Value.cells] at hj <;> exact hj.symm) (.inl hSb') (fun w3 hG3 => xl_nil ?_)))))))
    change XW _ _ _ _ _ _ _
    have hJ3 := step hJ2 (hG3.wr .refl) hG3.rr
    refine xw_region (xl_val rfl rfl (xr_move rfl hctr) (xl_val rfl rfl (xr_add rfl rfl rfl (by omega)) (xl_val rfl rfl (xr_assign rfl rfl) (xl_nil ?_))))
    exact ⟨m - 1, by omega, i + 1, by omega, rfl, h1, hJ3⟩
  show XW _ _ _ _ _ _ _
  clear hin hctr hc
  refine xw_seq (xw_region (xl_val rfl rfl (xr_assign rfl rfl) (xl_nil ?_)))
  change XW _ _ _ _ _ _ _
  refine xw_block ?_
  refine xw_loop (fun n env w1 => ∃ i : Nat, i + n = l8 ∧ vget env 4 = some (.int .i64 (i : Nat)) ∧ vget env 1 = some (.pointer (some ⟨w.heap.size, 0, none⟩)) ∧ J w1) (n := l8) ⟨0, by omega, rfl, h1, hJ⟩ ?_
  clear hJ h1
  rintro m env w1 ⟨i, hin, hctr, h1, hJ⟩
  refine xw_seq (xw_seq (xw_region (xl_val rfl rfl (xr_move rfl hctr) (xl_val rfl rfl (xr_fa st_29 (i := 8) rfl rfl h1) (xl_val rfl rfl (xr_ld Try.underlying27 rfl rfl rfl (fld hJ 8 _ h8)) (xl_val rfl rfl (xr_len Try.underlying27 rfl rfl) (xl_val rfl rfl (xr_lss rfl rfl rfl) (xl_nil ?_))))))))
  change XW _ _ _ _ _ _ _
  refine xw_cond rfl (fun hc => xw_skip ?_) (fun hc => xw_exit ⟨_, rfl, rfl, hJ.1, hJ.2.1⟩)
  have hil : i < l8 := by have := of_decide_eq_true hc; omega
  change XW _ _ _ _ _ _ _
  refine xw_seq (xw_block (xw_seq ?_))
  obtain ⟨b, o, bs, z, q, rfl, hSb, hblk, hsz, hfz, hal, hel⟩ := rowC_at (te_go hJ.2.1 r8) hil
  obtain ⟨cs1, hl1, hc1⟩ := cells_list (f := fun j => w1.cell? ⟨b, o + (i * 12 + (j + 1)), none⟩) 11 (by
    cases n with
    | zero => exact hel.elim
    | succ n => exact hel.1)
  have hty1 : TmA S n w1 (fun j => cs1[j]?) := tm_ext (fun j hj => hc1 j hj) hel
  refine xw_region (xl_val rfl rfl (xr_fa st_29 (i := 8) rfl rfl h1) (xl_val rfl rfl (xr_ld Try.underlying27 rfl rfl rfl (fld hJ 8 _ h8)) (xl_val rfl rfl (xr_move rfl hctr) (xl_val rfl rfl (xr_idx Try.underlying27 inf_66 rfl rfl rfl hil)
    (xl_val rfl rfl (xr_fa st_66 (i := 1) rfl rfl rfl)
    (xl_val rfl rfl (xr_ldA (cs := cs1) Try.underlying29 rfl ((Inf.cells inf_29).trans hl1.symm) rfl rfl (fun j v hj => by
      have := hc1 j (by have := lt_of_getL hj; omega)
      rw [hj] at this
      rw [show o + i * 12 + 1 + j = o + (i * 12 + (j + 1)) by omega]; exact this.symm))
    (xl_call (args := [.tmp 52]) (vs := #[.agg cs1.toArray]) (R := fun r w' => r = .tuple #[] ∧ Wrs S w1 w' ∧ RR tmFl w1 w') rfl rfl rfl en_25 (fun a ha => by simp [ha.ev (o := .tmp 52) (v := .agg cs1.toArray) rfl]) (hn w1 cs1 (hS1 hJ) hty1 hl1) ?_)))))))
  rintro r w2 ⟨rfl, hW2, hR2⟩
  refine xl_nil ?_
  change XW _ _ _ _ _ _ _
  have hJ2 := step hJ hW2 hR2
  obtain ⟨b', o', bs', z', q', hA', hSb', hblk', hsz', hfz', hal', _⟩ := rowC_at (te_go hJ2.2.1 r8) hil
  injection hA' with hA'; injection hA' with hA1 hA2; subst hA1; subst hA2
  refine xw_region (xl_val rfl rfl (xr_fa st_29 (i := 8) rfl rfl h1) (xl_val rfl rfl (xr_ld Try.underlying27 rfl rfl rfl (fld hJ2 8 _ h8)) (xl_val rfl rfl (xr_move rfl hctr)
    (xl_val rfl rfl (xr_build (parts := [(0, .const (.string ⟨#[115, 112, 111, 105, 108, 116]⟩))]) (vs := [(0, .string ⟨#[115, 112, 111, 105, 108, 116]⟩)]) (c := #[.string ⟨#[115, 112, 111, 105, 108, 116]⟩, .int .i64 0, .bool false, .int .i64 0, .float .f64 0, .string ⟨#[]⟩, .slice none 0 0, .int .u64 0, .slice none 0 0, .slice none 0 0, .string ⟨#[]⟩, .int .i64 0]) st_66 inf_66 rfl (fun a ha => rfl) rfl)
    (xl_val rfl rfl (xr_idx Try.underlying27 inf_66 rfl rfl rfl hil) (xl_store (Fl := tmFl) (S := S) (w0 := w2) rfl rfl inf_66 rfl rfl rfl (by intro v hv; simp [Value.cells] at hv; rcases hv with rfl | rfl | rfl | rfl | rfl | rfl | rfl | rfl | rfl | rfl | rfl | rfl <;> rfl) rfl hblk' (by omega) hfz' (by
      intro j v hj
      have hlt := lt_of_getL hj
      refine .inr (.inr ⟨rfl, fun hm => ?_⟩)
      have hj3 : j = 6 ∨ j = 8 ∨ j = 9 := by simp [Value.cells] at hlt; omega
      rcases hj3 with rfl | rfl | rfl <;> simp [Value.cells] at hj <;> exact hj.symm) (.inl hSb') (fun w3 hG3 => xl_nil ?_)))))))
  change XW _ _ _ _ _ _ _
  have hJ3 := step hJ2 (hG3.wr .refl) hG3.rr
  refine xw_region (xl_val rfl rfl (xr_move rfl hctr) (xl_val rfl rfl (xr_add rfl rfl rfl (by omega)) (xl_val rfl rfl (xr_assign rfl rfl) (xl_nil ?_))))
  exact ⟨m - 1, by omega, i + 1, by omega, rfl, h1, hJ3⟩
theorem spTAll {S : Nat → Prop} : ∀ n, SpT S n
  | 0 => fun w cs _ h _ => h.elim
  | n + 1 => spT (spTAll n)
mutual
def tmSz : Term → Nat
  | .mk _ _ _ _ _ _ _ l d _ _ => tmSzL l + tmSzE d + 1
def tmSzL : List Term → Nat
  | [] => 0
  | x :: r => tmSz x + tmSzL r
def tmSzE : List (Str × Term) → Nat
  | [] => 0
  | (_, x) :: r => tmSz x + tmSzE r
end
theorem tmSzL_mem : ∀ {l : List Term} {x : Term}, x ∈ l → tmSz x ≤ tmSzL l
  | y :: r, x, h => by
    simp only [tmSzL]
    rcases List.mem_cons.1 h with rfl | h
    · omega
    · have := tmSzL_mem h; omega
theorem tmSzE_mem : ∀ {l : List (Str × Term)} {p : Str × Term}, p ∈ l → tmSz p.2 ≤ tmSzE l
  | (s, y) :: r, p, h => by
    simp only [tmSzE]
    rcases List.mem_cons.1 h with rfl | h
    · simp only; omega
    · have := tmSzE_mem h; omega
theorem vr_tm {S S' : Nat → Prop} {w : World} (hS' : ∀ b, S b → b < w.heap.size → S' b) : ∀ (n : Nat) (t : Term) (f : Nat → Option Value), tmSz t < n → (∀ (j : Nat) (y : PV), (ofTerm t).cells[j]? = some y → ∃ u, f j = some u ∧ VR (memC S w) y u) → TmA S' n w f
  | 0, t, f, h, _ => by omega
  | n + 1, .mk k b i fl t y r l d c v, f, h, hv => by
    simp only [tmSz] at h
    rw [ofTerm, ofTerms_map, ofEntries_map] at hv
    have hB : ∀ {A : Option Addr} {e s m : Nat}, (memC S w).B A e s m → (memC S' w).B A e s m := fun hb => by
      rcases hb with hb | ⟨b, o, cs, z, q, h1, h2, h3, h4⟩
      · exact .inl hb
      · exact .inr ⟨b, o, cs, z, q, h1, hS' b h2 (lt_of_get h3), h3, h4⟩
    refine ⟨fun j hj => ?_, ?_, ?_, ?_⟩
    · match j, hj with
      | 0, _ => exact let ⟨u, h1, _⟩ := hv 0 _ rfl; ⟨u, h1⟩
      | 1, _ => exact let ⟨u, h1, _⟩ := hv 1 _ rfl; ⟨u, h1⟩
      | 2, _ => exact let ⟨u, h1, _⟩ := hv 2 _ rfl; ⟨u, h1⟩
      | 3, _ => exact let ⟨u, h1, _⟩ := hv 3 _ rfl; ⟨u, h1⟩
      | 4, _ => exact let ⟨u, h1, _⟩ := hv 4 _ rfl; ⟨u, h1⟩
      | 5, _ => exact let ⟨u, h1, _⟩ := hv 5 _ rfl; ⟨u, h1⟩
      | 6, _ => exact let ⟨u, h1, _⟩ := hv 6 _ rfl; ⟨u, h1⟩
      | 7, _ => exact let ⟨u, h1, _⟩ := hv 7 _ rfl; ⟨u, h1⟩
      | 8, _ => exact let ⟨u, h1, _⟩ := hv 8 _ rfl; ⟨u, h1⟩
      | 9, _ => exact let ⟨u, h1, _⟩ := hv 9 _ rfl; ⟨u, h1⟩
      | 10, _ => exact let ⟨u, h1, _⟩ := hv 10 _ rfl; ⟨u, h1⟩
      | j + 11, hj => omega
    · obtain ⟨u, h1, h2⟩ := hv 5 _ rfl
      obtain ⟨A, cp, hx, ⟨h3, h4⟩, _, h5⟩ := vr_sl.1 h2
      refine ⟨u, h1, A, _, cp, hx, h3.1, h3.2, hB h4, fun i hi => ?_⟩
      rw [List.length_map] at hi
      obtain ⟨_, b, o, hA, h6⟩ := h5 i (ofB y[i]) (by simp [hi])
      obtain ⟨u', ⟨_, h7⟩, h8⟩ := h6 0 _ rfl
      exact ⟨b, o, hA, _, h7.trans (congrArg some (vr_v.1 h8))⟩
    · obtain ⟨u, h1, h2⟩ := hv 7 _ rfl
      obtain ⟨A, cp, hx, ⟨h3, h4⟩, _, h5⟩ := vr_sl.1 h2
      refine ⟨u, h1, A, _, cp, hx, h3.1, h3.2, hB h4, fun i hi => ?_⟩
      rw [List.length_map] at hi
      obtain ⟨_, b, o, hA, h6⟩ := h5 i (ofTerm l[i]) (by simp [hi])
      have := tmSzL_mem (List.getElem_mem hi)
      exact ⟨b, o, hA, vr_tm hS' n _ _ (by omega) (fun j y hy => let ⟨u', ⟨_, h7⟩, h8⟩ := h6 j y hy; ⟨u', h7, h8⟩)⟩
    · obtain ⟨u, h1, h2⟩ := hv 8 _ rfl
      obtain ⟨A, cp, hx, ⟨h3, h4⟩, _, h5⟩ := vr_sl.1 h2
      refine ⟨u, h1, A, _, cp, hx, h3.1, h3.2, hB h4, fun i hi => ?_⟩
      rw [List.length_map] at hi
      obtain ⟨_, b, o, hA, h6⟩ := h5 i (ofEntry d[i]) (by simp [hi])
      have := tmSzE_mem (List.getElem_mem hi)
      exact ⟨b, o, hA, vr_tm hS' n d[i].2 _ (by omega) (fun j y hy => let ⟨u', ⟨_, h7⟩, h8⟩ := h6 (j + 1) y (by simpa [ofEntry, PV.cells] using hy); ⟨u', h7, h8⟩)⟩
def spoilTO (t : Term) : Option Unit := some ()
theorem sp_spoilT (t : Term) {u : Unit} (h : spoilTO t = some u) : Spoils Try.prog 25 [ofTermX t] (.tup []) := by
  rw [← ofTerm_eq]
  intro S us w hv
  obtain ⟨x, hx, hvx⟩ := hv.2 0 _ rfl
  have hus : us = #[x] := by
    refine Array.ext (by simpa using hv.1) fun i h1 h2 => ?_
    have : i = 0 := by simpa using h2
    subst this
    simpa [Array.getElem?_eq_getElem h1] using hx
  obtain ⟨cs, hcs⟩ : ∃ cs, ofTerm t = .agg cs ∧ cs.length = 11 := by cases t; exact ⟨_, rfl, rfl⟩
  rw [hcs.1] at hvx
  obtain ⟨vs, rfl, hl, hel⟩ := vr_agg.1 hvx
  have hty := vr_tm (S := S) (S' := fun b => S b ∧ b < w.heap.size) (fun b h1 h2 => ⟨h1, h2⟩) (tmSz t + 1) t (fun j => vs[j]?) (Nat.lt_succ_self _) (fun j y hy => by
    rw [hcs.1] at hy
    exact hel j y hy)
  rw [hus]
  refine Calls.mono (spTAll (S := fun b => S b ∧ b < w.heap.size) (tmSz t + 1) w vs (fun b hb => hb.2) hty (by rw [hl, hcs.2])) ?_
  rintro e w' ⟨r, rfl, rfl, hW, _⟩
  exact ⟨_, rfl, vr_tup.2 ⟨[], rfl, rfl, by simp⟩, hW.os, hW.tape, hW.output, hW.size, fun b hb hn => hW.keep b hb (fun h => hn h.1), hW.kp⟩
end Go.Proofs.Ythfdpaboekoncaa
