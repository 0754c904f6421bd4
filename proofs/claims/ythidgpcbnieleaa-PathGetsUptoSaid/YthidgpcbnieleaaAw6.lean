/- Aw: the operations that make or write memory: variables, stores, literals, append, cuts, conversions. -/
import Derived.Test.YthidgpcbnieleaaAw5
import Derived.Deep.AppendSrc
import Derived.Laws.Tables
import Derived.Laws.CopyRow
import Derived.Laws.Slices
import Derived.Laws.BytesString
import Derived.Lib.ConvBytes
namespace Go.Proofs.Ythidgpcbnieleaa.Aw
open Go
set_option linter.unusedVariables false
set_option linter.unusedSimpArgs false
variable {P : Program} {F : Fr} {H H' : List AEnt} {g g' : List (Option Nat)} {w w' : World} {env : List (Nat × PV)} {n : Nat} {o : Oper}

def z6w : PV → Bool
 | .agg _ => false
 | .tup _ => false
 | .junk => false
 | .v x => x.oneCell'
 | .old x => z6w x
 | .hid _ x => z6w x
 | _ => true
def cok : PV → Bool
 | .v (.agg _) => false
 | .old x => z6w x
 | .hid _ x => z6w x
 | .junk => false
 | _ => true
theorem zc1 : ∀ {C : Ctx} (p : PV) {u : Value}, z6w p = true → VR C p u → u.oneCell' = true
 | C, .v x, u, h1, h => by rw [vr_v.1 h]; exact h1
 | C, .sl o e sz xs, u, h1, h => by obtain ⟨A, c, rfl, _⟩ := vr_sl.1 h; rfl
 | C, .pt e x off, u, h1, h => by obtain ⟨b, o0, ⟨rfl, _⟩, _⟩ := vr_pt.1 h; rfl
 | C, .rf i off, u, h1, h => by obtain ⟨b, rfl, _⟩ := vr_rf.1 h; rfl
 | C, .rs i o n e sz, u, h1, h => by obtain ⟨A, c, rfl, _⟩ := vr_rs.1 h; rfl
 | C, .iface t x, u, h1, h => by obtain ⟨u', rfl, _⟩ := vr_iface.1 h; rfl
 | C, .agg cs, u, h1, h => by cases h1
 | C, .tup vs, u, h1, h => by cases h1
 | C, .fn f a b, u, h1, h => by obtain ⟨us, vs, rfl, _⟩ := vr_fn.1 h; rfl
 | C, .old x, u, h1, h => zc1 x (by simpa only [z6w] using h1) (vr_old.1 h)
 | C, .hid k x, u, h1, h => zc1 x (by simpa only [z6w] using h1) (vr_hid.1 h)
 | C, .junk, u, h1, h => by cases h1
theorem zfi {C : Ctx} {p : PV} {u : Value} (hc : cok p = true) (h : VR C p u) : u.cells.size = p.cells.length ∧ ∀ (j : Nat) (y : PV), p.cells[j]? = some y → ∃ v, u.cells[j]? = some v ∧ VR C y v := by
 have single : ∀ {q : PV}, q.cells = [q] → (∀ us, u ≠ .agg us) → VR C q u → u.cells.size = q.cells.length ∧ ∀ (j : Nat) (y : PV), q.cells[j]? = some y → ∃ v, u.cells[j]? = some v ∧ VR C y v := by
  intro q hq hu hv
  have : u.cells = #[u] := by cases u <;> first | rfl | exact absurd rfl (hu _)
  rw [hq, this]
  refine ⟨rfl, fun j y hy => ?_⟩
  cases j with
  | zero => simp at hy; subst hy; exact ⟨u, by simp, hv⟩
  | succ j => simp at hy
 cases p with
 | agg cs =>
  obtain ⟨us, rfl, h1, h2⟩ := vr_agg.1 h
  exact ⟨by simpa [Value.cells, PV.cells] using h1, fun j y hy => by simpa [Value.cells] using h2 j y hy⟩
 | v x => exact single rfl (fun us hu => by rw [vr_v.1 h] at hu; subst hu; cases hc) h
 | sl o e sz xs => exact single rfl (fun us hu => by obtain ⟨A, c, rfl, _⟩ := vr_sl.1 h; cases hu) h
 | pt e x off => exact single rfl (fun us hu => by obtain ⟨b, o0, ⟨rfl, _⟩, _⟩ := vr_pt.1 h; cases hu) h
 | rf i off => exact single rfl (fun us hu => by obtain ⟨b, rfl, _⟩ := vr_rf.1 h; cases hu) h
 | rs i o n e sz => exact single rfl (fun us hu => by obtain ⟨A, c, rfl, _⟩ := vr_rs.1 h; cases hu) h
 | iface t x => exact single rfl (fun us hu => by obtain ⟨u', rfl, _⟩ := vr_iface.1 h; cases hu) h
 | tup vs => exact single rfl (fun us hu => by obtain ⟨us', rfl, _⟩ := vr_tup.1 h; cases hu) h
 | fn f a b => exact single rfl (fun us hu => by obtain ⟨us', vs, rfl, _⟩ := vr_fn.1 h; cases hu) h
 | old x => exact single rfl (fun us hu => by have := zc1 (.old x) (by simpa only [cok, z6w] using hc) h; rw [hu] at this; cases this) h
 | hid k x => exact single rfl (fun us hu => by have := zc1 (.hid k x) (by simpa only [cok, z6w] using hc) h; rw [hu] at this; cases this) h
 | junk => cases hc

theorem zqx {t : TypeId} {cs : List PV} (cells : ∀ F g a w, Rel P F ⟨env, H, n⟩ a w g → ∃ c : Array Value, cs.length ≤ c.size ∧ (∀ (j : Nat) (y : PV), cs[j]? = some y → ∃ v, c[j]? = some v ∧ VR (ctx P F H g w) y v) ∧
 (execOp a.eval o).run P w = .ok (.value (.pointer (some ⟨w.heap.size, 0, none⟩))) (w.alloc (.cells c t))) : Op1 P o env H n (.rf H.length 0) (H ++ [.box t cs]) := by
 intro F g a w hr Kn Q hK
 obtain ⟨c, h1, h2, h3⟩ := cells F g a w hr
 unfold Oper.wp
 rw [h3]
 have hs : w.heap.size ≤ (w.alloc (.cells c t)).heap.size := by simp
 have ho : ∀ k, k < w.heap.size → (w.alloc (.cells c t)).heap[k]? = w.heap[k]? := fun k hk => z2k hk
 have hn : ∀ b, some w.heap.size = some b → b = w.heap.size := fun b hb => by injection hb with hb; exact hb.symm
 have hle := z7e hr.rel (.box t cs) (some w.heap.size) hn hs ho
 refine hK _ _ (g ++ [some w.heap.size]) ?_ (z40 hr.rel (.box t cs) (some w.heap.size) hn hs ho ?_) (z43 hr.rel (.box t cs) (some w.heap.size) hn hs ho rfl rfl rfl)
 ·refine vr_rf.2 ⟨w.heap.size, rfl, ?_, fun e k he => ?_⟩
  ·rw [← hr.rel.len]; simp
  ·simp at he
 ·exact ⟨w.heap.size, c, rfl, z2o, h1, fun j y hy => let ⟨v, a1, a2⟩ := h2 j y hy; ⟨v, a1, a2.mono hle⟩⟩
theorem zfy {t : TypeId} {x : Operand} {p : PV} (ho : o.op = .box t x) (hx : ev env x = some p) (hc : cok p = true) : Op1 P o env H n (.rf H.length 0) (H ++ [.box t p.cells]) :=
 zqx fun F g a w hr => by
  obtain ⟨h1, h2⟩ := zfi hc (hr.opd hx)
  exact ⟨_, Nat.le_of_eq h1.symm, h2, by simp [execOp, ho, Instr.box, newVar, newRow]⟩
theorem z1b {t : TypeId} {z : Value} {k b : Nat} (hi : Inf P t z k b) (ho : o.op = .alloc t) : Op1 P o env H n (.rf H.length 0) (H ++ [.box t (z.cells.toList.map .v)]) :=
 zqx fun F g a w hr => by
  refine ⟨z.cells, by simp, fun j y hy => ?_, by simp [execOp, ho, Instr.alloc, hi.run_zero, newVar, newRow]⟩
  rw [List.getElem?_map, Option.map_eq_some_iff] at hy
  obtain ⟨v, h1, rfl⟩ := hy
  exact ⟨v, by simpa using h1, vr_v.2 rfl⟩

theorem Wr.row {b : Nat} {c c' : Array Value} {t : TypeId} (h : w.heap[b]? = some (.cells c t (0, 0))) (hs : c'.size = c.size) : Wr b c c' t w (w.setRow b c') := by
 refine ⟨rfl, rfl, rfl, by simp, fun k hk => setRow_other w b k c' hk, h, setRow_heap w b c c' t (0, 0) h, hs⟩
def setL (cs : List PV) (off : Nat) (ps : List PV) : List PV := cs.take off ++ ps ++ cs.drop (off + ps.length)
theorem z4a {α : Type} {a : List α} {off m j : Nat} {ps : List α} (hm : ps.length = m) (hl : off + m ≤ a.length) : (a.take off ++ ps ++ a.drop (off + m))[j]? = if j < off then a[j]? else if j < off + m then ps[j - off]? else a[j]? := by
 have h1 : (a.take off).length = off := by simp; omega
 by_cases h2 : j < off
 ·rw [if_pos h2, List.append_assoc, List.getElem?_append_left (by omega), List.getElem?_take, if_pos h2]
 ·rw [if_neg h2]
  by_cases h3 : j < off + m
  ·rw [if_pos h3, List.getElem?_append_left (by simp; omega), List.getElem?_append_right (by omega), h1]
  ·rw [if_neg h3, List.getElem?_append_right (by simp; omega), List.getElem?_drop]
   congr 1
   simp only [List.length_append, h1, hm]
   omega
theorem z0g {t ty : TypeId} {x y : Operand} {z : Value} {k b_ i off : Nat} {cs : List PV} {p : PV} (hinf : Inf P t z k b_) (ho : o.op = .store t x y) (hx : ev env x = some (.rf i off)) (hy : ev env y = some p) (hi : H[i]? = some (.box ty cs))
 (hc : cok p = true) (hl : p.cells.length = k) (hfit : off + k ≤ cs.length) (h1' : p.cells.all z6w = true) : Op1 P o env H n (.v undef) (H.set i (.box ty (setL cs off p.cells))) := by
 have h1 : ∀ q, q ∈ p.cells → z6w q = true := List.all_eq_true.1 h1'
 intro F g a w hr Kn Q hK
 obtain ⟨b, hu, hR⟩ := vr_rf.1 (hr.opd hx)
 obtain ⟨b', cells, h2, h3, h4, h5⟩ := hr.rel.box i ty cs hi
 have hg := hR.1
 rw [hg] at h2; injection h2 with h2; injection h2 with h2; subst h2
 obtain ⟨h6, h7⟩ := zfi hc (hr.opd hy)
 have hone : ∀ v ∈ (a.eval y).cells.toList, v.oneCell' = true := by
  intro v hv
  obtain ⟨j, hj, rfl⟩ := List.getElem_of_mem hv
  have hj' : j < p.cells.length := by rw [← h6]; simpa using hj
  obtain ⟨v', h8, h9⟩ := h7 j _ (List.getElem?_eq_getElem hj')
  have : (a.eval y).cells.toList[j] = v' := by
   have := Array.getElem?_eq_some_iff.1 h8; simpa using this.2
  rw [this]; exact zc1 _ (h1 _ (List.getElem_mem hj')) h9
 have hst := run_storeCells_at P b off ty (a.eval y).cells.toList 0 cells w h3 (by simp [h6, hl]; omega) hone
 unfold Oper.wp
 have hrun : (execOp a.eval o).run P w = .ok .skip (w.setRow b (cells.toList.take off ++ (a.eval y).cells.toList ++ cells.toList.drop (off + (a.eval y).cells.toList.length)).toArray) := by
  have hk : (a.eval y).cells.size = k := by rw [h6, hl]
  simp only [Nat.add_zero] at hst
  simp only [execOp, ho, hu, Instr.storeAt, Instr.sureAddr, storeVar, Sem.run_bind, Sem.run_pure, Result.andThen_ok, hinf.run_size]
  rw [if_neg (by simp [hk])]
  simp [hst]
 rw [hrun]
 have hlen : (a.eval y).cells.toList.length = p.cells.length := by simpa using h6
 have hw : Wr b cells (cells.toList.take off ++ (a.eval y).cells.toList ++ cells.toList.drop (off + (a.eval y).cells.toList.length)).toArray ty w _ := Wr.row h3 (by
  simp only [List.size_toArray, List.length_append, List.length_take, List.length_drop, Array.length_toList, hlen, hl]
  rw [Nat.min_eq_left (by omega)]; omega)
 have hsz : (setL cs off p.cells).length = cs.length := by
  simp only [setL, List.length_append, List.length_take, List.length_drop, hl]; omega
 refine hK _ _ g (vr_v.2 rfl) (zjp hr.rel hi hg hw (by rw [hsz, hw.sz]; exact h4) ?_) (zk8 hr.rel hi hg hw)
 intro j q hq
 unfold setL at hq
 rw [hl] at hq
 rw [z4a hl hfit] at hq
 have hget : (cells.toList.take off ++ (a.eval y).cells.toList ++ cells.toList.drop (off + (a.eval y).cells.toList.length)).toArray[j]? = if j < off then cells[j]? else if j < off + k then (a.eval y).cells[j - off]? else cells[j]? := by
  rw [List.getElem?_toArray, hlen, hl, z4a (by rw [hlen, hl]) (by rw [Array.length_toList]; omega)]
  simp
 rw [hget]
 by_cases c1 : j < off
 ·rw [if_pos c1] at hq ⊢; exact h5 j q hq
 ·rw [if_neg c1] at hq ⊢
  by_cases c2 : j < off + k
  ·rw [if_pos c2] at hq ⊢; exact h7 _ q hq
  ·rw [if_neg c2] at hq ⊢; exact h5 j q hq

def z6y (place : Nat → Option (Nat × Nat)) (cells : List PV) : List (Nat × PV) → Option (List PV)
 | [] => some cells
 | (i, p) :: rest =>
  match place i with
  | none => none
  | some (off, size) => bif Nat.beq p.cells.length size && Nat.ble (off + size) cells.length then z6y place (setL cells off p.cells) rest else none
theorem zuf (vs : List Value) : ∀ (k off : Nat) (c : Array Value), off + k + vs.length ≤ c.size → ((vs.zipIdx k).foldl (fun cs (x : Value × Nat) => cs.setIfInBounds (off + x.2) x.1) c).toList = c.toList.take (off + k) ++ vs ++ c.toList.drop (off + k + vs.length) := by
 induction vs with
 | nil => intro k off c h; simp
 | cons v r ih =>
  intro k off c h
  simp only [List.zipIdx_cons, List.foldl_cons]
  rw [ih (k + 1) off _ (by simp at h ⊢; omega)]
  simp at h
  have e1 : (c.setIfInBounds (off + k) v).toList.take (off + (k + 1)) = c.toList.take (off + k) ++ [v] := by
   rw [Array.toList_setIfInBounds]
   apply List.ext_getElem?
   intro j
   rw [List.getElem?_take, List.getElem?_set]
   rcases Nat.lt_trichotomy j (off + k) with hj | hj | hj
   ·rw [List.getElem?_append_left (by simp; omega), List.getElem?_take, if_pos hj, if_pos (by omega), if_neg (by omega)]
   ·subst hj
    rw [List.getElem?_append_right (by simp; omega)]
    have : (c.toList.take (off + k)).length = off + k := by simp; omega
    rw [if_pos (by omega), if_pos rfl, this]
    have hlt : off + k < c.size := by omega
    simp [hlt]
   ·rw [if_neg (by omega), List.getElem?_eq_none]
    simp; omega
  have e2 : (c.setIfInBounds (off + k) v).toList.drop (off + (k + 1) + r.length) = c.toList.drop (off + k + (r.length + 1)) := by
   rw [Array.toList_setIfInBounds, List.drop_set_of_lt (by omega)]
   congr 1; omega
  rw [e1, e2]
  simp
def RC (C : Ctx) (cs : List PV) (c : Array Value) : Prop := c.size = cs.length ∧ ∀ (j : Nat) (y : PV), cs[j]? = some y → ∃ v, c[j]? = some v ∧ VR C y v
theorem RC.set {C : Ctx} {cs ps : List PV} {c vs : Array Value} {off : Nat} (h : RC C cs c) (hp : RC C ps vs) (hl : off + ps.length ≤ cs.length) : RC C (setL cs off ps) ((vs.zipIdx.foldl (fun cs (x : Value × Nat) => cs.setIfInBounds (off + x.2) x.1) c)) := by
 have hfold : (vs.zipIdx.foldl (fun cs (x : Value × Nat) => cs.setIfInBounds (off + x.2) x.1) c).toList = c.toList.take off ++ vs.toList ++ c.toList.drop (off + vs.toList.length) := by
  have := zuf vs.toList 0 off c (by simp [hp.1, h.1]; exact hl)
  simp only [Nat.add_zero] at this
  rw [← this, ← Array.foldl_toList]
  simp
 have hlen : vs.toList.length = ps.length := by simpa using hp.1
 refine ⟨?_, fun j y hy => ?_⟩
 ·rw [← Array.length_toList, hfold]
  simp only [setL, List.length_append, List.length_take, List.length_drop, Array.length_toList, h.1]
  rw [hp.1]
 ·unfold setL at hy
  rw [z4a rfl hl] at hy
  have hcl : c.toList.length = cs.length := by rw [Array.length_toList]; exact h.1
  rw [← Array.getElem?_toList, hfold, hlen, z4a hlen (by rw [hcl]; exact hl)]
  by_cases c1 : j < off
  ·rw [if_pos c1] at hy ⊢; simpa using h.2 j y hy
  ·rw [if_neg c1] at hy ⊢
   by_cases c2 : j < off + ps.length
   ·rw [if_pos c2] at hy ⊢; simpa using hp.2 _ y hy
   ·rw [if_neg c2] at hy ⊢; simpa using h.2 j y hy
theorem z4r {C : Ctx} {place : Nat → Option (Nat × Nat)} : ∀ {ps : List (Nat × PV)} {vs : List (Nat × Value)} {cs cs' : List PV} {c : Array Value}, RC C cs c → z6y place cs ps = some cs' → vs.length = ps.length →
 (∀ (j : Nat) (i : Nat) (p : PV), ps[j]? = some (i, p) → ∃ v, vs[j]? = some (i, v) ∧ RC C p.cells v.cells) → ∃ c', Instr.fill place c vs = some c' ∧ RC C cs' c'
 | [], vs, cs, cs', c, h, hf, hl, _ => by
  have : vs = [] := List.eq_nil_of_length_eq_zero hl
  subst this
  simp only [z6y] at hf; injection hf with hf; subst hf
  exact ⟨c, rfl, h⟩
 | (i, p) :: rest, vs, cs, cs', c, h, hf, hl, hv => by
  match vs, hl with
  | v0 :: vs', hl =>
   obtain ⟨v, h1, h2⟩ := hv 0 i p rfl
   simp at h1; subst h1
   simp only [z6y] at hf
   cases hpl : place i with
   | none => rw [hpl] at hf; cases hf
   | some os =>
    obtain ⟨off, size⟩ := os
    rw [hpl] at hf
    dsimp only at hf
    cases hb : (Nat.beq p.cells.length size && Nat.ble (off + size) cs.length) with
    | false => rw [hb] at hf; cases hf
    | true =>
     rw [hb] at hf
     simp only [cond_true] at hf
     simp only [Bool.and_eq_true] at hb
     have hb1 := beq_iff'.1 hb.1
     have hb2 := Nat.le_of_ble_eq_true hb.2
     have hset := h.set h2 (off := off) (by omega)
     obtain ⟨c', h3, h4⟩ := z4r (vs := vs') hset hf (by simpa using hl) (fun j i p hj => by simpa using hv (j + 1) i p (by simpa using hj))
     refine ⟨c', ?_, h4⟩
     simp only [Instr.fill, hpl]
     rw [if_neg (by simp [h2.1, hb1, h.1]; omega)]
     exact h3
def evp (env : List (Nat × PV)) : List (Nat × Operand) → Option (List (Nat × PV))
 | [] => some []
 | (i, x) :: r => match ev env x, evp env r with
  | some p, some ps => some ((i, p) :: ps)
  | _, _ => none
theorem zs3 {env : List (Nat × PV)} : ∀ {os : List (Nat × Operand)} {ps : List (Nat × PV)}, evp env os = some ps → ps.length = os.length ∧ ∀ (j i : Nat) (p : PV), ps[j]? = some (i, p) → ∃ x, os[j]? = some (i, x) ∧ ev env x = some p
 | [], ps, h => by simp only [evp] at h; injection h with h; subst h; simp
 | (i, x) :: r, ps, h => by
  simp only [evp] at h
  split at h
  ·rename_i p ps' hx hr
   injection h with h; subst h
   obtain ⟨h1, h2⟩ := zs3 hr
   refine ⟨by simp [h1], fun j k q hj => ?_⟩
   cases j with
   | zero => simp at hj; obtain ⟨rfl, rfl⟩ := hj; exact ⟨x, by simp, hx⟩
   | succ j => simpa using h2 j k q (by simpa using hj)
  ·cases h
theorem zbp {s : ASt} {a : Act} (hr : Rel P F s a w g) {os : List (Nat × Operand)} {ps : List (Nat × PV)} (h : evp s.env os = some ps) (hc : ∀ q, q ∈ ps → cok q.2 = true) :
 (os.map fun x => (x.1, a.eval x.2)).length = ps.length ∧ ∀ (j i : Nat) (p : PV), ps[j]? = some (i, p) → ∃ v, (os.map fun x => (x.1, a.eval x.2))[j]? = some (i, v) ∧ RC (ctx P F s.H g w) p.cells v.cells := by
 obtain ⟨h1, h2⟩ := zs3 h
 refine ⟨by simp [h1], fun j i p hj => ?_⟩
 obtain ⟨x, h3, h4⟩ := h2 j i p hj
 obtain ⟨h5, h6⟩ := zfi (hc _ (List.mem_of_getElem? hj)) (hr.opd h4)
 exact ⟨a.eval x, by simp [h3], h5, h6⟩
theorem ze9 {fs : Array Field} (hok : fs.toList.all (fun f => (P.info? f.type).isSome && P.cellsOf f.type != 0) = true) (w : World) :
 (fs.mapM (fun f => do pure (f.offset, ← Go.sizeOf f.type)) : Sem (Array (Nat × Nat))).run P w = .ok (fs.toList.map (fun f => (f.offset, P.cellsOf f.type))).toArray w := by
 obtain ⟨l⟩ := fs
 rw [List.mapM_toArray]
 simp only [Sem.run_map]
 have key : ∀ l : List Field, l.all (fun f => (P.info? f.type).isSome && P.cellsOf f.type != 0) = true → (l.mapM (fun f => do pure (f.offset, ← Go.sizeOf f.type)) : Sem (List (Nat × Nat))).run P w = .ok (l.map (fun f => (f.offset, P.cellsOf f.type))) w := by
  intro l
  induction l with
  | nil => intro _; rfl
  | cons f r ih =>
   intro h
   simp only [List.all_cons, Bool.and_eq_true] at h
   obtain ⟨inf, h1⟩ := Option.isSome_iff_exists.1 h.1.1
   have hsz : (Go.sizeOf f.type).run P w = .ok (P.cellsOf f.type) w := by simp [Go.sizeOf, typeInfo, h1, Program.cellsOf]
   have := ih h.2
   simp only [List.mapM_cons, Sem.run_bind, hsz, Result.andThen_ok, Sem.run_pure, this, List.map_cons]
 rw [key l hok]
 rfl
theorem z1a {t : TypeId} {parts : List (Nat × Operand)} {ps : List (Nat × PV)} {fs : Array Field} {pl : List (Nat × Nat)} {z : Value} {k b : Nat} {cs : List PV} (hs : IsStruct P t fs pl) (hi : Inf P t z k b)
 (ho : o.op = .build t parts.toArray) (hp : evp env parts = some ps) (hc' : ps.all (fun q => cok q.2) = true) (hf : z6y (fun i => pl[i]?) (z.cells.toList.map .v) ps = some cs) : Op1 P o env H n (.agg cs) H :=
 z17 fun F g a w hr => by
  have hc : ∀ q, q ∈ ps → cok q.2 = true := List.all_eq_true.1 hc'
  obtain ⟨h1, h2⟩ := zbp hr hp hc
  have hz : RC (ctx P F H g w) (z.cells.toList.map .v) z.cells := ⟨by simp, fun j y hy => by
   rw [List.getElem?_map, Option.map_eq_some_iff] at hy
   obtain ⟨v, h3, rfl⟩ := hy
   exact ⟨v, by simpa using h3, vr_v.2 rfl⟩⟩
  obtain ⟨c', h3, h4⟩ := z4r hz hf h1 h2
  refine ⟨.agg c', vr_agg.2 ⟨c'.toList, by simp, by simpa using h4.1, fun j y hy => by simpa using h4.2 j y hy⟩, ?_⟩
  have hpl := ze9 hs.ok w
  rw [hs.pl] at hpl
  have hplf : (fun i : Nat => pl.toArray[i]?) = (fun i : Nat => pl[i]?) := by funext i; simp
  simp only [execOp, ho, Instr.build, Sem.run_bind, hi.run_zero, Result.andThen_ok, z13 hs.und, hpl, List.map_toArray]
  rw [hplf, h3]
  rfl
theorem zqu {e : TypeId} {m : Nat} {x : PV} (mk : ∀ F g a w, Rel P F ⟨env, H, n⟩ a w g → ∃ (c : Array Value) (w1 : World) (u : Value), w1.heap = w.heap ∧ w1.os = w.os ∧ w1.tape = w.tape ∧ w1.output = w.output ∧ m * P.cellsOf e ≤ c.size ∧
 (execOp a.eval o).run P w = .ok (.value u) (w1.alloc (.cells c e)) ∧
 (∀ C : Ctx, (ctx P F H g w).Le C → (∀ j v, j < m * P.cellsOf e → c[j]? = some v → C.M w.heap.size j v) → (∀ n A cp sz, n ≤ m → (n = m → sz = P.cellsOf e ∧ A = some ⟨w.heap.size, 0, none⟩ ∧ c.size = cp * P.cellsOf e) → C.T H.length n A cp sz) → (∀ s n, n ≤ c.size → C.B (some ⟨w.heap.size, 0, none⟩) e s n) → VR C x u)) :
 Op1 P o env H n x (H ++ [.arr e m]) := by
 intro F g a w hr Kn Q hK
 obtain ⟨c, w1, u, e1, e2, e3, e4, h1, h2, h3⟩ := mk F g a w hr
 unfold Oper.wp
 rw [h2]
 have hsz : w1.heap.size = w.heap.size := by rw [e1]
 have hs : w.heap.size ≤ (w1.alloc (.cells c e)).heap.size := by simp [hsz]
 have ho : ∀ k, k < w.heap.size → (w1.alloc (.cells c e)).heap[k]? = w.heap[k]? := fun k hk => by rw [z2k (by rw [hsz]; exact hk), e1]
 have hnew : (w1.alloc (.cells c e)).heap[w.heap.size]? = some (.cells c e (0, 0)) := by rw [← hsz]; exact z2o
 have hn : ∀ b, some w.heap.size = some b → b = w.heap.size := fun b hb => by injection hb with hb; exact hb.symm
 have hle := z7e hr.rel (.arr e m) (some w.heap.size) hn hs ho
 have hrel := z40 hr.rel (.arr e m) (some w.heap.size) hn hs ho (.inr ⟨_, c, rfl, hnew, h1⟩)
 have hgl := hr.rel.len
 refine hK _ _ (g ++ [some w.heap.size]) (h3 _ hle ?_ ?_ (fun s k hk _ => .inr ⟨_, 0, c, _, 0, rfl, hr.rel.bs.1, hnew, by omega, .inl (Nat.le_refl _), by simp⟩)) hrel (z43 hr.rel (.arr e m) (some w.heap.size) hn hs ho e2 e3 e4)
 ·intro j v hj hv
  refine ⟨⟨.inr ⟨H.length, e, m, by simp, by rw [← hgl]; simp, hj⟩, fun _ => hr.rel.bs.1⟩, ?_⟩
  rw [z1p hnew]; exact hv
 ·intro n' A cp sz h4 h5
  refine ⟨by simp, fun e' k he => ?_⟩
  simp at he
  obtain ⟨rfl, rfl⟩ := he
  refine ⟨h4, fun hk => ?_⟩
  obtain ⟨h6, h7, h8⟩ := h5 hk
  exact ⟨h6, .inr ⟨w.heap.size, c, by rw [← hgl]; simp, h7, hnew, h8⟩⟩

theorem z7v {sz : Nat} : ∀ {xs : List PV}, (∀ x, x ∈ xs → x.cells.length = sz) → ∀ (i j : Nat) (x y : PV), xs[i]? = some x → x.cells[j]? = some y → (xs.flatMap PV.cells)[i * sz + j]? = some y
 | [], _, i, j, x, y, h, _ => by simp at h
 | x0 :: r, hs, i, j, x, y, hx, hy => by
  have h0 := hs x0 (by simp)
  have hj := z0a hy
  rw [List.flatMap_cons]
  cases i with
  | zero =>
   simp at hx; subst hx
   rw [List.getElem?_append_left (by omega)]
   simpa using hy
  | succ i =>
   rw [List.getElem?_append_right (by rw [h0, Nat.succ_mul]; omega), h0]
   have := z7v (xs := r) (fun x hx => hs x (by simp [hx])) i j x y (by simpa using hx) hy
   rw [← this]; congr 1; rw [Nat.succ_mul]; omega
theorem z2r {sz : Nat} : ∀ {xs : List PV}, (∀ x, x ∈ xs → x.cells.length = sz) → (xs.flatMap PV.cells).length = xs.length * sz
 | [], _ => by simp
 | x :: r, hs => by
  rw [List.flatMap_cons, List.length_append, hs x (by simp), z2r (fun y hy => hs y (by simp [hy])), List.length_cons, Nat.succ_mul]; omega
theorem zbn {C : Ctx} {tk : Option Nat} {e : TypeId} {sz : Nat} {xs : List PV} {b off cap : Nat} (hs : ∀ x, x ∈ xs → x.cells.length = sz) (hc : xs.length ≤ cap ∧ xs.length ≤ 9223372036854775807) (hB : C.B (some ⟨b, off, none⟩) e sz (cap * sz)) (ht : ∀ j, tk = some j → C.T j xs.length (some ⟨b, off, none⟩) cap sz)
 (hm : ∀ (j : Nat) (y : PV), (xs.flatMap PV.cells)[j]? = some y → ∃ u, C.M b (off + j) u ∧ VR C y u) : VR C (.sl tk e sz xs) (.slice (some ⟨b, off, none⟩) xs.length cap) := by
 refine vr_sl.2 ⟨_, cap, rfl, ⟨hc, hB⟩, ht, fun i x hx => ⟨hs x (List.mem_of_getElem? hx), b, off, rfl, fun j y hy => hm _ y (z7v hs i j x y hx hy)⟩⟩
def zgl : Nat → List PV → List (Nat × PV)
 | _, [] => []
 | k, x :: r => (k, x) :: zgl (k + 1) r
theorem z16 {t e : TypeId} {len : Nat} {parts : List (Nat × Operand)} {z : Value} {sz b : Nat} {xs : List PV} (ht : P.underlying t = some (.slice e)) (hi : Inf P e z sz b)
 (ho : o.op = .buildSlice t len parts.toArray) (hp : evp env parts = some (zgl 0 xs)) (hlen : xs.length = len) (hcB : xs.all cok = true) (hszB : xs.all (fun x => Nat.beq x.cells.length sz) = true) (hz : z.cells.size = sz) (hsmall : len * sz ≤ 16777216 ∧ len ≤ 16777216)
 (hf : z6y (fun i => some (i * sz, sz)) ((List.range (len * sz)).map fun i => .v (z.cells[i % sz]!)) (zgl 0 xs) = some (xs.flatMap PV.cells)) : Op1 P o env H n (.sl (some H.length) e sz xs) (H ++ [.arr e len]) := by
 have hc : ∀ x, x ∈ xs → cok x = true := List.all_eq_true.1 hcB
 have hsz : ∀ x, x ∈ xs → x.cells.length = sz := fun x hx => beq_iff'.1 (List.all_eq_true.1 hszB x hx)
 subst hlen
 refine zqu (fun F g a w hr => ?_)
 have hc' : ∀ q, q ∈ zgl 0 xs → cok q.2 = true := by
  have : ∀ k (ys : List PV), (∀ x, x ∈ ys → cok x = true) → ∀ q, q ∈ zgl k ys → cok q.2 = true := by
   intro k ys
   induction ys generalizing k with
   | nil => intro _ q hq; cases hq
   | cons y r ih =>
    intro h q hq
    simp only [zgl, List.mem_cons] at hq
    rcases hq with rfl | hq
    ·exact h y (by simp)
    ·exact ih (k + 1) (fun x hx => h x (by simp [hx])) q hq
  exact this 0 xs hc
 obtain ⟨h1, h2⟩ := zbp hr hp hc'
 have hz0 : RC (ctx P F H g w) ((List.range (xs.length * sz)).map fun i => .v (z.cells[i % sz]!)) ((Array.range (xs.length * sz)).map (fun i => z.cells[i % sz]!)) := by
  refine ⟨by simp, fun j y hy => ?_⟩
  rw [List.getElem?_map, Option.map_eq_some_iff] at hy
  obtain ⟨i, h3, rfl⟩ := hy
  have hj := z0a h3
  simp at hj
  rw [List.getElem?_range hj] at h3
  injection h3 with h3; subst h3
  refine ⟨z.cells[j % sz]!, ?_, vr_v.2 rfl⟩
  rw [Array.getElem?_map, Array.getElem?_range]; simp [hj]
 obtain ⟨c', h3, h4⟩ := z4r hz0 hf h1 h2
 have hcells := hi.cells
 have hl : c'.size = xs.length * sz := by rw [h4.1, z2r hsz]
 refine ⟨c', w, .slice (some ⟨w.heap.size, 0, none⟩) xs.length xs.length, rfl, rfl, rfl, rfl, by rw [hcells, hl]; exact Nat.le_refl _, ?_, ?_⟩
 ·have hpow : ¬ (xs.length * sz > 2 ^ 24) := by simpa using hsmall.1
  simp only [execOp, ho, Instr.buildSlice, Sem.run_bind, z13 ht, Result.andThen_ok, hi.run_size]
  rw [if_neg hpow]
  by_cases h0 : xs.length * sz = 0
  ·have hx0 : Array.range (xs.length * sz) = #[] := by rw [h0]; rfl
   simp only [h0, if_true, Sem.run_bind, Sem.run_pure, Result.andThen_ok, List.map_toArray]
   rw [hx0] at h3
   have he : (Array.range 0) = #[] := rfl
   rw [he]
   simp only [Array.map_empty] at h3 ⊢
   rw [h3]
   simp [newRow]
  ·simp only [h0, if_false, Sem.run_bind, Sem.run_pure, Result.andThen_ok, hi.run_zero, List.map_toArray, hz]
   rw [h3]
   simp [newRow]
 ·intro C hle hM hT hB
  refine zbn hsz ⟨Nat.le_refl _, by omega⟩ (hB _ _ (by rw [hl]; exact Nat.le_refl _)) (fun j hj => ?_) (fun j y hy => ?_)
  ·injection hj with hj; subst hj
   exact hT _ _ _ _ (Nat.le_refl _) (fun _ => ⟨hcells.symm, rfl, by rw [hcells]; exact hl⟩)
  ·obtain ⟨u, h5, h6⟩ := h4.2 j y hy
   refine ⟨u, ?_, h6.mono hle⟩
   rw [Nat.zero_add]
   exact hM j u (by rw [hcells, ← z2r hsz]; exact z0a hy) h5

theorem zvn {C : Ctx} {v : Value} (hM : ∀ b o u, C.M b o u → w.cell? ⟨b, o, none⟩ = some u) {tk : Option Nat} {e : TypeId} {sz : Nat} {ys : List PV} (hv : VR C (.sl tk e sz ys) v) {tx e' : TypeId} (hk : P.underlying tx = some (.slice e'))
 (h1B : ys.all (fun y => y.cells.all z6w) = true) : ∃ news : List Value, Src P sz tx v ys.length news w ∧ RC C (ys.flatMap PV.cells) news.toArray := by
 have h1 : ∀ y, y ∈ ys → ∀ q, q ∈ y.cells → z6w q = true := fun y hy => List.all_eq_true.1 (List.all_eq_true.1 h1B y hy)
 obtain ⟨A, c, hu, hc, _, hxs⟩ := vr_sl.1 hv
 have hsz : ∀ y, y ∈ ys → y.cells.length = sz := fun y hy => by
  obtain ⟨i, hi, rfl⟩ := List.getElem_of_mem hy
  exact (hxs i _ (List.getElem?_eq_getElem hi)).1
 cases ys with
 | nil =>
  refine ⟨[], ?_, rfl, fun j y hy => by simp at hy⟩
  rw [hu]
  cases A with
  | none => exact ⟨.inl ⟨e', hk⟩, fun _ => rfl, by simp [Builtin.firstCells], by simp [Builtin.firstCells], by simp, by simp⟩
  | some ad => exact ⟨.inl ⟨e', hk⟩, fun _ => rfl, by simp [Builtin.firstCells, loadCells, loadCellsFrom], by simp [Builtin.firstCells, loadCells, loadCellsFrom], by simp, by simp⟩
 | cons y0 r =>
  obtain ⟨_, b, off, hA, _⟩ := hxs 0 y0 rfl
  subst hA
  have hpt : ∀ (j : Nat) (y : PV), ((y0 :: r).flatMap PV.cells)[j]? = some y → ∃ u, (w.cell? ⟨b, off + j, none⟩ = some u ∧ u.oneCell' = true) ∧ VR C y u := by
   intro j y hy
   have hj := z0a hy
   rw [z2r hsz] at hj
   by_cases hz : sz = 0
   ·rw [hz] at hj; simp at hj
   ·have hi : j / sz < (y0 :: r).length := Nat.div_lt_of_lt_mul (by rw [Nat.mul_comm]; exact hj)
    have hm : j % sz < sz := Nat.mod_lt _ (by omega)
    have hxi := List.getElem?_eq_getElem hi
    have hyl : ((y0 :: r)[j / sz]).cells.length = sz := hsz _ (List.getElem_mem hi)
    have hyj : ((y0 :: r)[j / sz]).cells[j % sz]? = some (((y0 :: r)[j / sz]).cells[j % sz]'(by omega)) := List.getElem?_eq_getElem _
    have hfl := z7v hsz _ _ _ _ hxi hyj
    have hdm : j / sz * sz + j % sz = j := by rw [Nat.mul_comm]; exact Nat.div_add_mod j sz
    rw [hdm, hy] at hfl
    injection hfl with hfl
    obtain ⟨_, b', off', hA', h3⟩ := hxs _ _ hxi
    injection hA' with hA'; injection hA' with hb ho
    subst hb; subst ho
    obtain ⟨u, h4, h5⟩ := h3 _ _ hyj
    rw [hdm] at h4
    rw [← hfl] at h5
    exact ⟨u, ⟨hM _ _ _ h4, zc1 _ (h1 _ (List.getElem_mem hi) _ (hfl ▸ List.getElem_mem _)) h5⟩, h5⟩
  obtain ⟨us, h3, h4, h5⟩ := z8s hpt
  refine ⟨us, ?_, by simpa using h3, fun j y hy => by simpa using h5 j y hy⟩
  rw [hu]
  refine Src.ofSlice w hk _ _ c us (by rw [h3, z2r hsz]) (fun j u hj => by rw [z1m]; exact (h4 j u hj).1) (fun u hu => ?_)
  obtain ⟨j, hj, rfl⟩ := List.getElem_of_mem hu
  exact (h4 j _ (List.getElem?_eq_getElem hj)).2
theorem zvo {s : ASt} {a : Act} (hr : Rel P F s a w g) {x : Operand} {tk : Option Nat} {e : TypeId} {sz : Nat} {ys : List PV} (hx : ev s.env x = some (.sl tk e sz ys)) {tx e' : TypeId} (hk : P.underlying tx = some (.slice e'))
 (h1B : ys.all (fun y => y.cells.all z6w) = true) : ∃ news : List Value, Src P sz tx (a.eval x) ys.length news w ∧ RC (ctx P F s.H g w) (ys.flatMap PV.cells) news.toArray :=
 zvn (C := ctx P F s.H g w) (fun _ _ _ hm => hm.2) (hr.opd hx) hk h1B
def z6s (bs : List UInt8) : List PV := bs.map fun b => .v (.int .u8 b.toNat)
theorem z3l {xs ys : List PV} : (xs ++ ys).flatMap PV.cells = xs.flatMap PV.cells ++ ys.flatMap PV.cells := by simp

theorem Z2i {g : List (Option Nat)} {a : Act} {w : World} (hrr : RelH P F.fr H g w) {Kn : Act → World → Prop} {Q : Exit → Act → World → Prop} {t tx e : TypeId} {x y : Operand} {j : Nat} {sz b_ : Nat} {z : Value} {xs ys : List PV} (ht : P.underlying t = some (.slice e)) (hi : Inf P e z sz b_) (hz : z.cells.size = sz)
 (ho : o.op = .call { callee := .builtin .append, args := #[x, y], argTypes := #[t, tx] }) (hv : VR (ctx P F.fr H g w) (.sl (some j) e sz xs) (a.eval x)) (hj : H[j]? = some (.arr e xs.length))
 (hsrc : ∃ news : List Value, Src P sz tx (a.eval y) ys.length news w ∧ RC (ctx P F.fr H g w) (ys.flatMap PV.cells) news.toArray) (hysB : ys.all (fun y => Nat.beq y.cells.length sz) = true)
 (hb : (xs.length + ys.length) * b_ ≤ 140737488355328) (hl : xs.length + ys.length ≤ 9223372036854775807)
 (hK : ∀ v w' g', VR (ctx P F.fr (H.set j (.arr e (xs.length + ys.length))) g' w') (.sl (some j) e sz (xs ++ ys)) v → RelH P F.fr (H.set j (.arr e (xs.length + ys.length))) g' w' → Ext P F.fr H g w (H.set j (.arr e (xs.length + ys.length))) g' w' → Kn (a.put o.dst v) w') : o.wp P a w Kn Q := by
 have hys : ∀ y, y ∈ ys → y.cells.length = sz := fun y hy => beq_iff'.1 (List.all_eq_true.1 hysB y hy)
 obtain ⟨inf, hinf, hzz, hss, hbb⟩ := hi.spec
 have hcells := hi.cells
 obtain ⟨news, hs, hrc⟩ := hsrc
 obtain ⟨A, c, hu, ⟨hc, hcB⟩, htok, hxs⟩ := vr_sl.1 hv
 have hxz : ∀ x, x ∈ xs → x.cells.length = sz := fun x hx => by
  obtain ⟨i, hi', rfl⟩ := List.getElem_of_mem hx
  exact (hxs i _ (List.getElem?_eq_getElem hi')).1
 obtain ⟨hjl, htk1⟩ := htok j rfl
 obtain ⟨_, htk2⟩ := htk1 e xs.length hj
 obtain ⟨_, htk⟩ := htk2 rfl
 clear htk1 htk2 htok
 have hnl : news.length = ys.length * sz := hs.newsLen
 have hall : ∀ q, q ∈ xs ++ ys → q.cells.length = sz := fun q hq => by
  rcases List.mem_append.1 hq with hq | hq
  ·exact hxz q hq
  ·exact hys q hq
 have hexec : ∀ r, (Builtin.append_ #[t, tx] o.type #[a.eval x, a.eval y]).run P w = r → (execOp a.eval o).run P w = r.andThen fun v w' => .ok (.value v) w' := by
  intro r hr'
  simp [execOp, ho, resolve, invoke, builtin, hr']
 subst hss
 by_cases hm0 : ys = []
 ·subst hm0
  have hn0 : news = [] := List.eq_nil_of_length_eq_zero (by simpa using hnl)
  subst hn0
  have hrun : (Builtin.append_ #[t, tx] o.type #[a.eval x, a.eval y]).run P w = .ok (.slice A xs.length c) w := by
   rw [hu]
   have hlen := hs.len w
   have hcl := hs.cells
   simp only [List.length_nil] at hlen hcl
   rcases hs.kind with ⟨e', hk⟩ | hk <;> cases A <;> simp [Builtin.append_, z13 ht, z13 hk, Go.sizeOf, typeInfo, hinf, hlen, hc, hcl, storeCells]
  unfold Oper.wp
  rw [hexec _ hrun]
  have hset : H.set j (.arr e (xs.length + ([] : List PV).length)) = H := by
   apply List.ext_getElem?
   intro i
   by_cases hij : j = i
   ·subst hij; rw [z1n hj, hj]; rfl
   ·rw [z0z hij]
  rw [hset, List.append_nil] at hK
  exact hK _ _ g (by rw [← hu]; exact hv) hrr .refl
 ·have hm : 0 < ys.length := by cases ys with | nil => exact absurd rfl hm0 | cons _ _ => simp
  have fin : ∀ (u : Value) (w1 : World) (nb : Nat) (cells : Array Value) (cap : Nat), (Builtin.append_ #[t, tx] o.type #[a.eval x, a.eval y]).run P w = .ok u w1 → u = .slice (some ⟨nb, 0, none⟩) (xs.length + ys.length) cap → xs.length + ys.length ≤ cap →
   w1.os = w.os → w1.tape = w.tape → w1.output = w.output → w.heap.size ≤ w1.heap.size → (∀ b, b < w.heap.size → g[j]? ≠ some (some b) → w1.heap[b]? = w.heap[b]?) →
   (∀ b, g[j]? = some (some b) → ∀ off, off < xs.length * inf.size → w1.cell? ⟨b, off, none⟩ = w.cell? ⟨b, off, none⟩) → (g[j]? = some (some nb) ∨ w.heap.size ≤ nb) → w1.heap[nb]? = some (.cells cells e (0, 0)) → cells.size = cap * inf.size → Keeps w w1 →
   (∀ k, k < xs.length * inf.size → ∀ v, (∃ b off, A = some ⟨b, off, none⟩ ∧ w.cell? ⟨b, off + k, none⟩ = some v) → cells[k]? = some v) → (∀ k v, news[k]? = some v → cells[xs.length * inf.size + k]? = some v) →
   o.upon P a Kn Q ((execOp a.eval o).run P w) := by
   intro u w1 nb cells cap hrun hu' hcap e1 e2 e3 hsz hk hold hnb hcl hcsz hkp hc1 hc2
   rw [hexec _ hrun]
   rw [← hcells] at hold hcsz
   have hle := zrl hrr hj hm hsz hk hold hnb hkp
   have hrel := zxe hrr hj hm hsz hk hold hnb hkp hcl (by rw [hcsz]; exact Nat.mul_le_mul_right _ hcap)
   have hgj : (g.set j (some nb))[j]? = some (some nb) := by
    have : j < g.length := by rw [hrr.len]; exact z0a hj
    simp [this]
   refine hK _ _ _ ?_ hrel (zya hrr hj hm hsz hk hold hnb hkp e1 e2 e3)
   subst hu'
   have hl2 : (xs ++ ys).length = xs.length + ys.length := by simp
   have hval : Value.slice (some ⟨nb, 0, none⟩) (xs.length + ys.length) cap = Value.slice (some ⟨nb, 0, none⟩) (xs ++ ys).length cap := by rw [hl2]
   rw [hval]
   have hbase : F.fr.bf.1 ≤ nb := hrel.bs.2 j nb ⟨_, hgj, _, z1n hj, rfl⟩
   refine zbn hall (by rw [hl2]; exact ⟨hcap, hl⟩) (fun _ => .inr ⟨nb, 0, cells, _, 0, rfl, hbase, hcl, by rw [hcsz, hcells]; omega, .inl (Nat.le_refl _), by simp⟩) (fun i hi' => ?_) (fun k q hq => ?_)
   ·injection hi' with hi'; subst hi'
    refine ⟨by simpa using z0a hj, fun e' k' he => ?_⟩
    rw [z1n hj] at he
    injection he with he; injection he with he1 he2; subst he1; subst he2
    exact ⟨by rw [hl2]; exact Nat.le_refl _, fun _ => ⟨hcells.symm, .inr ⟨nb, cells, hgj, rfl, hcl, hcsz⟩⟩⟩
   ·rw [Nat.zero_add]
    have hkl := z0a hq
    have hst : zmu P F (H.set j (.arr e (xs.length + ys.length))) (g.set j (some nb)) nb k := by
     refine .inr ⟨j, e, xs.length + ys.length, z1n hj, hgj, ?_⟩
     rw [hcells, ← hl2, ← z2r hall]; exact hkl
    have hcell : ∀ {v : Value}, cells[k]? = some v → w1.cell? ⟨nb, k, none⟩ = some v := fun hv => by rw [z1p hcl]; exact hv
    rw [z3l] at hq
    by_cases hkx : k < (xs.flatMap PV.cells).length
    ·rw [List.getElem?_append_left hkx] at hq
     rw [z2r hxz] at hkx
     by_cases hz0 : inf.size = 0
     ·rw [hz0] at hkx; simp at hkx
     ·have hi2 : k / inf.size < xs.length := Nat.div_lt_of_lt_mul (by rw [Nat.mul_comm]; exact hkx)
      have hm2 : k % inf.size < inf.size := Nat.mod_lt _ (by omega)
      have hxi := List.getElem?_eq_getElem hi2
      have hyl : (xs[k / inf.size]).cells.length = inf.size := hxz _ (List.getElem_mem hi2)
      have hyj : (xs[k / inf.size]).cells[k % inf.size]? = some ((xs[k / inf.size]).cells[k % inf.size]'(by omega)) := List.getElem?_eq_getElem _
      have hfl := z7v hxz _ _ _ _ hxi hyj
      have hdm : k / inf.size * inf.size + k % inf.size = k := by rw [Nat.mul_comm]; exact Nat.div_add_mod k inf.size
      rw [hdm, hq] at hfl
      injection hfl with hfl
      obtain ⟨_, b', off', hA', h3⟩ := hxs _ _ hxi
      obtain ⟨v, h4, h5⟩ := h3 _ _ hyj
      rw [hdm] at h4
      rw [← hfl] at h5
      exact ⟨v, ⟨⟨hst, fun _ => hbase⟩, hcell (hc1 k hkx v ⟨b', off', hA', h4.2⟩)⟩, h5.mono hle⟩
    ·rw [List.getElem?_append_right (by omega)] at hq
     obtain ⟨v, h4, h5⟩ := hrc.2 _ q hq
     rw [z2r hxz] at h4 hkx
     rw [List.getElem?_toArray] at h4
     have := hc2 _ v h4
     rw [show xs.length * inf.size + (k - xs.length * inf.size) = k by omega] at this
     exact ⟨v, ⟨⟨hst, fun _ => hbase⟩, hcell this⟩, h5.mono hle⟩
  unfold Oper.wp
  rcases htk with ⟨hgn, _, hc0⟩ | ⟨b, cur, hgb, hA, hcur, hcsz⟩
  ·-- the row has no room
   subst hc0
   obtain ⟨olds, hol, hfc, hov⟩ : ∃ olds : List Value, olds.length = xs.length * inf.size ∧ (Builtin.firstCells inf.size xs.length (.slice A xs.length xs.length)).run P w.drew = .ok olds.toArray w.drew ∧
    ∀ k, k < xs.length * inf.size → ∀ v, (∃ b off, A = some ⟨b, off, none⟩ ∧ w.cell? ⟨b, off + k, none⟩ = some v) → olds[k]? = some v := by
    by_cases hx0 : xs = []
    ·subst hx0
     refine ⟨[], by simp, ?_, fun k hk => by simp at hk⟩
     cases A <;> simp [Builtin.firstCells, loadCells, loadCellsFrom]
    ·obtain ⟨x0, hx0⟩ : ∃ x0, xs[0]? = some x0 := by cases xs with | nil => exact absurd rfl hx0 | cons y r => exact ⟨y, rfl⟩
     obtain ⟨_, b, off, hA, _⟩ := hxs 0 x0 hx0
     subst hA
     have hcell : ∀ k, k < xs.length * inf.size → ∃ v, w.cell? ⟨b, off + k, none⟩ = some v := by
      intro k hk
      have hz0 : 0 < inf.size := by
       rcases Nat.eq_zero_or_pos inf.size with h | h
       ·rw [h] at hk; simp at hk
       ·exact h
      have hi2 : k / inf.size < xs.length := Nat.div_lt_of_lt_mul (by rw [Nat.mul_comm]; exact hk)
      have hm2 : k % inf.size < inf.size := Nat.mod_lt _ hz0
      have hxi := List.getElem?_eq_getElem hi2
      have hyl : (xs[k / inf.size]).cells.length = inf.size := hxz _ (List.getElem_mem hi2)
      obtain ⟨_, b', off', hA', h3⟩ := hxs _ _ hxi
      obtain ⟨v, h4, _⟩ := h3 (k % inf.size) _ (List.getElem?_eq_getElem (by omega))
      injection hA' with hA'; injection hA' with hA1 hA2
      subst hA1; subst hA2
      have hdm : k / inf.size * inf.size + k % inf.size = k := by rw [Nat.mul_comm]; exact Nat.div_add_mod k inf.size
      rw [hdm] at h4
      exact ⟨v, h4.2⟩
     have hget : ∀ k, k < xs.length * inf.size → ((List.range (xs.length * inf.size)).map fun k => (w.cell? ⟨b, off + k, none⟩).getD undef)[k]? = w.cell? ⟨b, off + k, none⟩ := by
      intro k hk
      obtain ⟨v, hv⟩ := hcell k hk
      rw [List.getElem?_map, List.getElem?_range hk, Option.map_some, hv]; rfl
     refine ⟨(List.range (xs.length * inf.size)).map fun k => (w.cell? ⟨b, off + k, none⟩).getD undef, by simp, ?_, ?_⟩
     ·refine run_firstCells_some w.drew inf.size xs.length ⟨b, off, none⟩ xs.length xs.length _ (by simp) ?_
      intro k v hk
      have hkl := z0a hk
      rw [List.length_map, List.length_range] at hkl
      rw [hget k hkl] at hk
      rw [z1m, World.cell?_drew]; exact hk
     ·rintro k hk v ⟨b', off', hA', hv⟩
      injection hA' with hA'; injection hA' with hA1 hA2
      subst hA1; subst hA2
      rw [hget k hk]; exact hv
   have hrun := run_append_grow_src (P := P) w t tx o.type e inf z ht hinf hzz A xs.length xs.length olds hfc (a.eval y) ys.length news hs (by omega) (by omega) (growslice_fits (by omega) (by simpa [hbb] using hb))
   rw [← hu] at hrun
   have hge := grownCap_ge w (xs.length + ys.length) xs.length e
   have hzc : (Builtin.zeroCells z.cells (grownCap w (xs.length + ys.length) xs.length e - (xs.length + ys.length))).size = (grownCap w (xs.length + ys.length) xs.length e - (xs.length + ys.length)) * inf.size := by rw [size_zeroCells, hz]
   refine fin _ _ w.heap.size ((olds ++ news).toArray ++ Builtin.zeroCells z.cells (grownCap w (xs.length + ys.length) xs.length e - (xs.length + ys.length))) (grownCap w (xs.length + ys.length) xs.length e) hrun rfl hge rfl rfl rfl (by simp) (fun b hb _ => by rw [z2k (by exact hb)]; rfl) (fun b hb => by rw [hgn] at hb; cases hb) (.inr (Nat.le_refl _)) ?_ ?_ (Keeps.of fun k hk => by rw [z2k (by exact hk)]; rfl) ?_ ?_
   ·exact z2o (w := w.drew)
   ·simp only [Array.size_append, List.size_toArray, List.length_append, hnl, hol, hzc, ← Nat.add_mul]; congr 1; omega
   ·intro k hk v hv
    rw [Array.getElem?_append_left (by simp [hol]; omega), List.getElem?_toArray, List.getElem?_append_left (by rw [hol]; exact hk)]
    exact hov k hk v hv
   ·intro k v hk
    have hkl := z0a hk
    rw [Array.getElem?_append_left (by simp [hol]; omega), List.getElem?_toArray, List.getElem?_append_right (by omega), hol]
    rw [show xs.length * inf.size + k - xs.length * inf.size = k by omega]; exact hk
  ·subst hA
   have hold0 : ∀ (k : Nat), k < xs.length * inf.size → k < cur.size := fun k hk => by
    rw [hcsz, hcells]; exact Nat.lt_of_lt_of_le hk (Nat.mul_le_mul_right _ hc.1)
   by_cases hroom : xs.length + ys.length ≤ c
   ·-- there is room
    have hfit : xs.length * inf.size + news.length ≤ cur.size := by rw [hnl, hcsz, hcells, ← Nat.add_mul]; exact Nat.mul_le_mul_right _ hroom
    have hblk : w.heap[b]? = some (.cells cur e (0, 0)) := hcur
    have hst := run_storeCells_at P b (xs.length * inf.size) e news 0 cur w hblk (by simpa using hfit) hs.one
    simp only [Nat.add_zero] at hst
    have hrun : (Builtin.append_ #[t, tx] o.type #[a.eval x, a.eval y]).run P w = .ok (.slice (some ⟨b, 0, none⟩) (xs.length + ys.length) c) (w.setRow b (cur.toList.take (xs.length * inf.size) ++ news ++ cur.toList.drop (xs.length * inf.size + news.length)).toArray) := by
     rw [hu]
     rcases hs.kind with ⟨e', hk⟩ | hk <;> simp [Builtin.append_, z13 ht, z13 hk, Go.sizeOf, typeInfo, hinf, hs.len, hroom, hs.cells, z1m, hst]
    have hget : ∀ k, (cur.toList.take (xs.length * inf.size) ++ news ++ cur.toList.drop (xs.length * inf.size + news.length)).toArray[k]? = if k < xs.length * inf.size then cur[k]? else if k < xs.length * inf.size + news.length then news[k - xs.length * inf.size]? else cur[k]? := by
     intro k
     rw [List.getElem?_toArray, z4a rfl (by simpa using hfit)]; simp
    have hw : Wr b cur _ e w (w.setRow b (cur.toList.take (xs.length * inf.size) ++ news ++ cur.toList.drop (xs.length * inf.size + news.length)).toArray) := Wr.row hblk (by
     simp only [List.size_toArray, List.length_append, List.length_take, List.length_drop, Array.length_toList]; omega)
    refine fin _ _ b _ c hrun rfl hroom rfl rfl rfl (by rw [hw.size]; exact Nat.le_refl _) (fun b' _ hne => hw.other b' (fun he => hne (by rw [he]; exact hgb))) ?_ (.inl hgb) hw.there ?_ hw.keeps ?_ ?_
    ·intro b' hb' off hoff
     rw [hgb] at hb'; injection hb' with hb'; injection hb' with hb'; subst hb'
     rw [z1p hw.there, z1p hblk, hget, if_pos hoff]
    ·rw [hw.sz, hcsz, hcells]
    ·rintro k hk v ⟨b', off', hb', hv'⟩
     injection hb' with hb'; injection hb' with hb' hb2; subst hb'; subst hb2
     rw [hget, if_pos hk]
     rw [z1p hblk, Nat.zero_add] at hv'; exact hv'
    ·intro k v hk
     have hkl := z0a hk
     rw [hget, if_neg (by omega), if_pos (by omega)]
     rw [show xs.length * inf.size + k - xs.length * inf.size = k by omega]; exact hk
   ·-- there is none
    have holds : ∀ (k : Nat) (v : Value), (cur.toList.take (xs.length * inf.size))[k]? = some v → w.drew.cell? ((⟨b, 0, none⟩ : Addr).add k) = some v := by
     intro k v hk
     rw [z1m, World.cell?_drew, z1p hcur, Nat.zero_add]
     rw [List.getElem?_take] at hk
     split at hk
     ·simpa using hk
     ·cases hk
    have hol : (cur.toList.take (xs.length * inf.size)).length = xs.length * inf.size := by
     have hcl : cur.toList.length = c * inf.size := by rw [Array.length_toList, hcsz, hcells]
     rw [List.length_take, hcl]
     exact Nat.min_eq_left (Nat.mul_le_mul_right _ hc.1)
    have hrun := run_append_grow_src (P := P) w t tx o.type e inf z ht hinf hzz (some ⟨b, 0, none⟩) xs.length c (cur.toList.take (xs.length * inf.size)) (run_firstCells_some w.drew inf.size xs.length ⟨b, 0, none⟩ xs.length c _ hol holds) (a.eval y) ys.length news hs (by omega) (by omega) (growslice_fits (by omega) (by simpa [hbb] using hb))
    rw [← hu] at hrun
    have hge := grownCap_ge w (xs.length + ys.length) c e
    have hzc : (Builtin.zeroCells z.cells (grownCap w (xs.length + ys.length) c e - (xs.length + ys.length))).size = (grownCap w (xs.length + ys.length) c e - (xs.length + ys.length)) * inf.size := by rw [size_zeroCells, hz]
    refine fin _ _ w.heap.size ((cur.toList.take (xs.length * inf.size) ++ news).toArray ++ Builtin.zeroCells z.cells (grownCap w (xs.length + ys.length) c e - (xs.length + ys.length))) (grownCap w (xs.length + ys.length) c e) hrun rfl hge rfl rfl rfl (by simp) (fun b' hb' _ => by rw [z2k (by exact hb')]; rfl) ?_ (.inr (Nat.le_refl _)) ?_ ?_ (Keeps.of fun k hk => by rw [z2k (by exact hk)]; rfl) ?_ ?_
    ·intro b' hb' off hoff
     have : b' < w.heap.size := by
      rw [hgb] at hb'; injection hb' with hb'; injection hb' with hb'; subst hb'; exact z1e hcur
     exact z3q (by rw [z2k (by exact this)]; rfl)
    ·exact z2o (w := w.drew)
    ·simp only [Array.size_append, List.size_toArray, List.length_append, hnl, hol, hzc, ← Nat.add_mul]; congr 1; omega
    ·rintro k hk v ⟨b', off', hb', hv'⟩
     injection hb' with hb'; injection hb' with hb' hb2; subst hb'; subst hb2
     rw [z1p hcur, Nat.zero_add] at hv'
     rw [Array.getElem?_append_left (by simp [hol]; omega), List.getElem?_toArray, List.getElem?_append_left (by rw [hol]; exact hk), List.getElem?_take, if_pos hk]
     simpa using hv'
    ·intro k v hk
     have hkl := z0a hk
     rw [Array.getElem?_append_left (by simp [hol]; omega), List.getElem?_toArray, List.getElem?_append_right (by omega), hol]
     rw [show xs.length * inf.size + k - xs.length * inf.size = k by omega]; exact hk

theorem zr5 {t tx e : TypeId} {x y : Operand} {j : Nat} {sz b_ : Nat} {z : Value} {xs ys : List PV} (ht : P.underlying t = some (.slice e)) (hi : Inf P e z sz b_) (hz : z.cells.size = sz)
 (ho : o.op = .call { callee := .builtin .append, args := #[x, y], argTypes := #[t, tx] }) (hx : ev env x = some (.sl (some j) e sz xs)) (hj : H[j]? = some (.arr e xs.length))
 (hsrc : ∀ F g a w, Rel P F ⟨env, H, n⟩ a w g → ∃ news : List Value, Src P sz tx (a.eval y) ys.length news w ∧ RC (ctx P F H g w) (ys.flatMap PV.cells) news.toArray) (hysB : ys.all (fun y => Nat.beq y.cells.length sz) = true)
 (hb : (xs.length + ys.length) * b_ ≤ 140737488355328) (hl : xs.length + ys.length ≤ 9223372036854775807) : Op1 P o env H n (.sl (some j) e sz (xs ++ ys)) (H.set j (.arr e (xs.length + ys.length))) :=
 fun F g a w hr Kn Q hK => Z2i (F := F) hr.rel ht hi hz ho (hr.opd hx) hj (hsrc F g a w hr) hysB hb hl hK
end Go.Proofs.Ythidgpcbnieleaa.Aw
