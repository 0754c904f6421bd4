/- Rows nobody writes again, made at any time; a row against nil. -/
import Derived.Test.YthidgpcbnieleaaGreatDoorA0
namespace Go.Proofs.YthidgpcbnieleaaGreatDoor
namespace Aw
open Go
set_option linter.unusedVariables false
set_option linter.unusedSimpArgs false
set_option maxRecDepth 4000
section Grow
variable {P : Program} {F : Lo} {H H' : List AEnt} {g g' : List (Option Nat)} {w w' : World}
theorem zif (h : RelH P F H g w) (hs : w.heap.size ≤ w'.heap.size) (ho : ∀ k, k < w.heap.size → w'.heap[k]? = w.heap[k]?) : (ctx P F H g w).Le (ctx P F H g w') := by
 have hG := zxp (P := P) (F := F) (F' := F) (H := H) (H' := H) (g := g) (g' := g) (w := w) (w' := w') (fun k hk => hk) (fun k _ h1 => ⟨h1, rfl⟩) (fun k b _ hl => ho b (h.fr k b hl).2)
 refine zcq rfl ?_ ?_ ?_ hG ((Keeps.of ho).B rfl) (Keeps.of ho).K
 ·rintro b off u ⟨h1, h2⟩
  have hb := zf3 h2
  exact ⟨h1, by rw [z4k (ho b hb)]; exact h2⟩
 ·exact fun i b h => h
 ·rintro j m A c sz ⟨h1, h2⟩
  refine ⟨h1, fun e' k he => ?_⟩
  obtain ⟨h3, h4⟩ := h2 e' k he
  refine ⟨h3, fun hm => ?_⟩
  obtain ⟨h5, h6⟩ := h4 hm
  refine ⟨h5, ?_⟩
  rcases h6 with h6 | ⟨b, cells, h6, h7, h8, h9⟩
  ·exact .inl h6
  ·exact .inr ⟨b, cells, h6, h7, by rw [ho b (z18 h8)]; exact h8, h9⟩
theorem zam (h : RelH P F H g w) (hs : w.heap.size ≤ w'.heap.size) (ho : ∀ k, k < w.heap.size → w'.heap[k]? = w.heap[k]?) : RelH P F H g w' := by
 have hle := zif h hs ho
 refine z31 h.len h.inj (fun i b hi => ⟨(h.fr i b hi).1, Nat.lt_of_lt_of_le (h.fr i b hi).2 hs⟩) (fun b k hb => Nat.lt_of_lt_of_le (h.fb b k hb) hs) ⟨Nat.le_trans h.bs.1 hs, h.bs.2⟩ ?_
 intro i e' hi
 obtain ⟨n', h1, h2⟩ := z6e h hi
 refine ⟨n', h1, ?_⟩
 cases e' with
 | dead => trivial
 | reg => trivial
 | _ => exact h2.mono hle (fun b hb => ho b (z2n h2 (by simp) hb))
theorem zaq (h : RelH P F H g w) (hs : w.heap.size ≤ w'.heap.size) (ho : ∀ k, k < w.heap.size → w'.heap[k]? = w.heap[k]?)
 (h1 : w'.os = w.os) (h2 : w'.tape = w.tape) (h3 : w'.output = w.output) : Ext P F H g w H g w' :=
 ⟨h1, h2, h3, hs, fun b hb hl => ⟨ho b hb, hl⟩, zif h hs ho, Nat.le_refl _⟩
end Grow
variable {P : Program} {F : Fr} {H H' : List AEnt} {env : List (Nat × PV)} {n : Nat} {o : Oper}
theorem zrn {e : TypeId} {x : PV} (mk : ∀ F g a w, Rel P F ⟨env, H, n⟩ a w g → ∃ (c : Array Value) (w1 : World) (u : Value), w1.heap = w.heap ∧ w1.os = w.os ∧ w1.tape = w.tape ∧ w1.output = w.output ∧
 (execOp a.eval o).run P w = .ok (.value u) (w1.alloc (.cells c e)) ∧
 (∀ C : Ctx, (ctx P F H g w).Le C → (∀ j v, c[j]? = some v → C.M w.heap.size j v) → (∀ s n, n ≤ c.size → C.B (some ⟨w.heap.size, 0, none⟩) e s n) → VR C x u)) :
 Op1 P o env H n x H := by
 intro F g a w hr Kn Q hK
 obtain ⟨c, w1, u, e1, e2, e3, e4, h2, h3⟩ := mk F g a w hr
 unfold Oper.wp
 rw [h2]
 have hsz : w1.heap.size = w.heap.size := by rw [e1]
 have hs : w.heap.size ≤ (w1.alloc (.cells c e)).heap.size := by simp [hsz]
 have ho : ∀ k, k < w.heap.size → (w1.alloc (.cells c e)).heap[k]? = w.heap[k]? := fun k hk => by rw [z2a (by rw [hsz]; exact hk), e1]
 have hnew : (w1.alloc (.cells c e)).heap[w.heap.size]? = some (.cells c e (0, 0)) := by rw [← hsz]; exact z35
 refine hK _ _ g (h3 _ (zif hr.rel hs ho) ?_ (fun s k hk _ => .inr ⟨_, 0, c, _, 0, rfl, hr.rel.bs.1, hnew, by omega, .inl (Nat.le_refl _), by simp⟩)) (zam hr.rel hs ho) (zaq hr.rel hs ho e2 e3 e4)
 intro j v hv
 refine ⟨⟨.inl ⟨fun i hi => ?_, fun k hk => ?_⟩, fun _ => hr.rel.bs.1⟩, ?_⟩
 ·have := (hr.rel.fr i _ hi).2; omega
 ·have := hr.rel.fb _ k hk; omega
 ·rw [z1o hnew]; exact hv
theorem zid {t e : TypeId} {len : Nat} {parts : List (Nat × Operand)} {z : Value} {sz b : Nat} {xs : List PV} (ht : P.underlying t = some (.slice e)) (hi : Inf P e z sz b)
 (ho : o.op = .buildSlice t len parts.toArray) (hp : evp env parts = some (z9d 0 xs)) (hlen : xs.length = len) (hcB : xs.all cok = true) (hszB : xs.all (fun x => Nat.beq x.cells.length sz) = true) (hz : z.cells.size = sz) (hsmall : len * sz ≤ 16777216 ∧ len ≤ 16777216)
 (hf : z3p (fun i => some (i * sz, sz)) ((List.range (len * sz)).map fun i => .v (z.cells[i % sz]!)) (z9d 0 xs) = some (xs.flatMap PV.cells)) : Op1 P o env H n (.sl none e sz xs) H := by
 have hc : ∀ x, x ∈ xs → cok x = true := List.all_eq_true.1 hcB
 have hsz : ∀ x, x ∈ xs → x.cells.length = sz := fun x hx => beq_iff'.1 (List.all_eq_true.1 hszB x hx)
 subst hlen
 refine zrn (e := e) (fun F g a w hr => ?_)
 have hc' : ∀ q, q ∈ z9d 0 xs → cok q.2 = true := by
  have : ∀ k (ys : List PV), (∀ x, x ∈ ys → cok x = true) → ∀ q, q ∈ z9d k ys → cok q.2 = true := by
   intro k ys
   induction ys generalizing k with
   | nil => intro _ q hq; cases hq
   | cons y r ih =>
    intro h q hq
    simp only [z9d, List.mem_cons] at hq
    rcases hq with rfl | hq
    ·exact h y (by simp)
    ·exact ih (k + 1) (fun x hx => h x (by simp [hx])) q hq
  exact this 0 xs hc
 obtain ⟨h1, h2⟩ := z8u hr hp hc'
 have hz0 : RC (ctx P F H g w) ((List.range (xs.length * sz)).map fun i => .v (z.cells[i % sz]!)) ((Array.range (xs.length * sz)).map (fun i => z.cells[i % sz]!)) := by
  refine ⟨by simp, fun j y hy => ?_⟩
  rw [List.getElem?_map, Option.map_eq_some_iff] at hy
  obtain ⟨i, h3, rfl⟩ := hy
  have hj := z07 h3
  simp at hj
  rw [List.getElem?_range hj] at h3
  injection h3 with h3; subst h3
  refine ⟨z.cells[j % sz]!, ?_, vr_v.2 rfl⟩
  rw [Array.getElem?_map, Array.getElem?_range]; simp [hj]
 obtain ⟨c', h3, h4⟩ := z3o hz0 hf h1 h2
 have hl : c'.size = xs.length * sz := by rw [h4.1, z2f hsz]
 refine ⟨c', w, .slice (some ⟨w.heap.size, 0, none⟩) xs.length xs.length, rfl, rfl, rfl, rfl, ?_, ?_⟩
 ·have hpow : ¬ (xs.length * sz > 2 ^ 24) := by simpa using hsmall.1
  simp only [execOp, ho, Instr.buildSlice, Sem.run_bind, z10 ht, Result.andThen_ok, hi.run_size]
  rw [if_neg hpow]
  by_cases h0 : xs.length * sz = 0
  ·have hx0 : Array.range (xs.length * sz) = #[] := by rw [h0]; rfl
   simp only [h0, if_true, Sem.run_bind, Sem.run_pure, Result.andThen_ok, List.map_toArray]
   rw [hx0] at h3
   have he : (Array.range 0) = #[] := rfl
   rw [he]
   simp only [Array.map_empty] at h3 ⊢
   rw [h3]
   simp [newRow]
  ·simp only [h0, if_false, Sem.run_bind, Sem.run_pure, Result.andThen_ok, hi.run_zero, List.map_toArray, hz]
   rw [h3]
   simp [newRow]
 ·intro C hle hM hB
  refine z8c hsz ⟨Nat.le_refl _, by omega⟩ (hB _ _ (by rw [hl]; exact Nat.le_refl _)) (fun j hj => nomatch hj) (fun j y hy => ?_)
  obtain ⟨u, h5, h6⟩ := h4.2 j y hy
  refine ⟨u, ?_, h6.mono hle⟩
  rw [Nat.zero_add]
  exact hM j u h5
theorem zvi {t e : TypeId} (ht : P.underlying t = some (.slice e)) (A : Option Addr) (l c : Nat) (w : World) : (Op.equal t (.slice A l c) (.slice none 0 0)).run P w = .ok A.isNone w := by
 obtain ⟨d, hd⟩ := zpv t (.slice A l c) (.slice none 0 0)
 rw [hd]; cases A <;> simp [Op.equalIn, z10 ht]
theorem zcf {ops : Array Oper} {rest : List Oper} {K : AExit → ASt → Prop} {t t2 e : TypeId} {x : Operand} {tk : Option Nat} {sz d : Nat} {xs : List PV} (hg : o.guard = none) (hd : o.dst = some d) (hn : Nat.blt d n = true)
 (ht : P.underlying t = some (.slice e)) (ho : o.op = .binOp .eql t x (.const (.slice none 0 0)) t2) (hx : ev env x = some (.sl tk e sz xs))
 (h : ∀ b : Bool, (b = true → xs = []) → AO P ops rest ⟨(d, .v (.bool b)) :: env, H, n⟩ K) : AO P ops (o :: rest) ⟨env, H, n⟩ K := by
 intro F g a w hr
 obtain ⟨A, c, hu, hc, _, hxs⟩ := vr_sl.1 (hr.opd hx)
 have hb : A.isNone = true → xs = [] := fun hA => by
  cases xs with
  | nil => rfl
  | cons y r =>
   obtain ⟨_, b, off, h1, _⟩ := hxs 0 y rfl
   rw [h1] at hA; cases hA
 refine wpList_plain hg (fun K' hK' => ?_)
 unfold Oper.wp
 have hrun : (execOp a.eval o).run P w = .ok (.value (.bool A.isNone)) w := by
  have h2 := zvi ht A xs.length c w
  simp [execOp, ho, hu, z7m, eqGuard, binOp, h2]
 rw [hrun]
 refine hK' _ _ ?_
 rw [hd]
 exact h A.isNone hb F g _ w (hr.put (d := some d) (x := .v (.bool A.isNone)) hn (vr_v.2 rfl) hr.rel .refl)
end Aw
end Go.Proofs.YthidgpcbnieleaaGreatDoor
