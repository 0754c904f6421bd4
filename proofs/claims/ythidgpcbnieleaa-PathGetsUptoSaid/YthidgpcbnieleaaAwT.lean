/- Aw: operations over typed trees: a slice is a list's image, a text is a list of bytes. -/
import Derived.Test.YthidgpcbnieleaaAwZ
import Derived.Laws.Strings
namespace Go.Proofs.Ythidgpcbnieleaa.Aw
open Go
set_option linter.unusedVariables false
set_option linter.unusedSimpArgs false
set_option linter.unusedSectionVars false
variable {P : Program} {H H' : List AEnt} {env : List (Nat × PV)} {n : Nat} {o : Oper}
abbrev Str := List UInt8
def z0k (s : Str) : PV := .v (.string ⟨s.toArray⟩)
def ofB (b : UInt8) : PV := .v (.int .u8 b.toNat)
theorem z71 (s : Str) : (ByteArray.mk s.toArray).toList = s := by rw [Go.ByteArray.toList_eq]
theorem z5l (s : Str) : (ByteArray.mk s.toArray).size = s.length := by simp [ByteArray.size]
theorem z36 {α : Type} {f : α → PV} (h : ∀ a, (f a).ids = []) (l : List α) : PV.ids.idsL (l.map f) = [] := zud (fun x hx => by obtain ⟨a, _, rfl⟩ := List.mem_map.1 hx; exact h a)
theorem z0f {α : Type} {f : α → PV} {e : TypeId} {sz : Nat} (h : ∀ a, (f a).ids = []) (l : List α) : (PV.sl none e sz (l.map f)).ids = [] := by simp [PV.ids, z36 h l]
theorem z28 {x : PV} {r : List PV} (h : x.ids = []) (hr : (PV.agg r).ids = []) : (PV.agg (x :: r)).ids = [] := by
 simp only [PV.ids, PV.ids.idsL] at hr ⊢; rw [h, hr]; rfl
theorem zde : (PV.agg []).ids = [] := rfl
theorem z00 {x : PV} {r : List PV} (h : x.ids = []) (hr : (PV.tup r).ids = []) : (PV.tup (x :: r)).ids = [] := by
 simp only [PV.ids, PV.ids.idsL] at hr ⊢; rw [h, hr]; rfl
theorem z05 : (PV.tup []).ids = [] := rfl
theorem z0w {x : PV} {r : List PV} (h : x.ids = []) (hr : PV.ids.idsL r = []) : PV.ids.idsL (x :: r) = [] := by simp only [PV.ids.idsL]; rw [h, hr]; rfl
theorem Op1.cast {x y : PV} {H'' : List AEnt} (h : Op1 P o env H n x H') (hx : x = y) (hH : H' = H'') : Op1 P o env H n y H'' := by subst hx hH; exact h
def ofI (k : IntKind) (i : Int) : PV := .v (.int k i)
def Z0t (b : Bool) : PV := .v (.bool b)
def ofF (f : Nat) : PV := .v (.float .f64 f)
def Z6i {α : Type} (e : TypeId) (sz : Nat) (f : α → PV) (l : List α) : PV := .sl none e sz (l.map f)
theorem Wk.eq {x y : PV} (h : x = y) : Wk x y := by subst h; exact Wk.refl _
theorem Wk.junk {x : PV} : Wk x .junk := fun _ _ _ => z70
inductive WkLL : List PV → List PV → Prop
 | nil : WkLL [] []
 | cons {x y : PV} {xs ys : List PV} : WkL x.cells y.cells → WkLL xs ys → WkLL (x :: xs) (y :: ys)
theorem WkLL.len : ∀ {xs ys : List PV}, WkLL xs ys → xs.length = ys.length
 | _, _, .nil => rfl
 | _, _, .cons _ h => by simp [h.len]
theorem WkLL.get : ∀ {xs ys : List PV}, WkLL xs ys → ∀ (i : Nat) (y : PV), ys[i]? = some y → ∃ x, xs[i]? = some x ∧ WkL x.cells y.cells
 | _, _, .nil, i, y, h => by simp at h
 | _, _, .cons (x := x) hw h, 0, y, hy => by simp at hy; subst hy; exact ⟨x, by simp, hw⟩
 | _, _, .cons hw h, i + 1, y, hy => by simpa using h.get i y (by simpa using hy)
theorem Wk.sl {o : Option Nat} {e : TypeId} {sz : Nat} {xs ys : List PV} (h : WkLL xs ys) : Wk (.sl o e sz xs) (.sl o e sz ys) := by
 intro C u hu
 obtain ⟨A, c, h1, h2, h3, h4⟩ := vr_sl.1 hu
 refine vr_sl.2 ⟨A, c, by rw [← h.len]; exact h1, ⟨by rw [← h.len]; exact h2.1, h2.2⟩, by rw [← h.len]; exact h3, fun i y hy => ?_⟩
 obtain ⟨x, h5, h6⟩ := h.get i y hy
 obtain ⟨h7, b, off, h8, h9⟩ := h4 i x h5
 refine ⟨by rw [← h6.len]; exact h7, b, off, h8, fun j z hz => ?_⟩
 obtain ⟨q, h10, h11⟩ := h6.get j z hz
 obtain ⟨u', h12, h13⟩ := h9 j q h10
 exact ⟨u', h12, h11 _ _ h13⟩
theorem Op1.junk {x : PV} (h : Op1 P o env H n x H') : Op1 P o env H n .junk H' := h.wk Wk.junk
def orK (k : IntKind) (a b : Int) : Int := k.wrap ((BitVec.ofInt k.bits a ||| BitVec.ofInt k.bits b).toNat : Int)
def Z6j (k : IntKind) (i : Int) : Int := k.wrap ((BitVec.ofInt k.bits (if k.signed then -1 else k.max) ^^^ BitVec.ofInt k.bits i).toNat : Int)
def zt7 (k : IntKind) (a b : Int) : Int := a.fdiv (2 ^ (min b.toNat k.bits))
theorem zim {t e len : Nat} {parts : List (Nat × Operand)} {ps : List (Nat × PV)} {z ze : Value} {k b ke be : Nat} {cs : List PV} (hd : P.underlying t = some (.array len e)) (hi : Inf P t z k b) (he : Inf P e ze ke be)
 (ho : o.op = .build t parts.toArray) (hp : evp env parts = some ps) (hc' : ps.all (fun q => cok q.2) = true) (hf : z6y (fun i => some (i * ke, ke)) (z.cells.toList.map .v) ps = some cs) : Op1 P o env H n (.agg cs) H :=
 z17 fun F g a w hr => by
  have hc : ∀ q, q ∈ ps → cok q.2 = true := List.all_eq_true.1 hc'
  obtain ⟨h1, h2⟩ := zbp hr hp hc
  have hz : RC (ctx P F H g w) (z.cells.toList.map .v) z.cells := ⟨by simp, fun j y hy => by
   rw [List.getElem?_map, Option.map_eq_some_iff] at hy
   obtain ⟨v, h3, rfl⟩ := hy
   exact ⟨v, by simpa using h3, vr_v.2 rfl⟩⟩
  obtain ⟨c', h3, h4⟩ := z4r hz hf h1 h2
  refine ⟨.agg c', vr_agg.2 ⟨c'.toList, by simp, by simpa using h4.1, fun j y hy => by simpa using h4.2 j y hy⟩, ?_⟩
  simp only [execOp, ho, Instr.build, Sem.run_bind, hi.run_zero, Result.andThen_ok, z13 hd, he.run_size, List.map_toArray]
  rw [h3]
  rfl
theorem zjb {H0 : List AEnt} {c : Code} {s : ASt} {K : AExit → ASt → Prop} (j i e : Nat) {sz : Nat} {ty : TypeId} {cs : List PV} (hj : s.H[j]? = some (.box ty cs)) (hi : cs[i]? = some (.v (.slice none 0 0))) (hsz : P.cellsOf e = sz)
 (h : BW P H0 c ⟨s.env, (s.H ++ [AEnt.arr e 0]).set j (.box ty (cs.set i (.sl (some s.H.length) e sz []))), s.n⟩ K) : BW P H0 c s K := by
 intro F g a w g0 w0 hl hr hx'
 have hr1 := z40 hr.rel (.arr e 0) none (by simp) (Nat.le_refl _) (fun _ _ => rfl) (.inl ⟨rfl, trivial⟩)
 have hx1 := z43 hr.rel (.arr e 0) none (by simp) (Nat.le_refl _) (fun _ _ => rfl) rfl rfl rfl
 have hj1 : (s.H ++ [AEnt.arr e 0])[j]? = some (.box ty cs) := by rw [z1k (z0a hj)]; exact hj
 obtain ⟨b, cells, h1, h2, h3, h4⟩ := hr1.box j ty cs hj1
 have hv : ∀ (k : Nat) (y : PV), (cs.set i (.sl (some s.H.length) e sz []))[k]? = some y → ∃ u, cells[k]? = some u ∧ VR (ctx P F (s.H ++ [.arr e 0]) (g ++ [none]) w) y u := by
  intro k y hy
  by_cases hk : i = k
  ·subst hk
   have hlt := z0a hi
   simp [hlt] at hy; subst hy
   obtain ⟨u, h5, h6⟩ := h4 i _ hi
   rw [vr_v.1 h6] at h5
   refine ⟨_, h5, vr_sl.2 ⟨none, 0, rfl, ⟨⟨Nat.le_refl _, by simp⟩, by rw [Nat.zero_mul]; exact Ctx.b0 _ _ _⟩, fun m hm => ?_, by simp⟩⟩
   injection hm with hm; subst hm
   refine ⟨by simp, fun e' k he => ?_⟩
   simp at he
   obtain ⟨rfl, rfl⟩ := he
   exact ⟨Nat.le_refl _, fun _ => ⟨hsz.symm, .inl ⟨by rw [← hr.rel.len]; simp, trivial, rfl⟩⟩⟩
  ·rw [List.getElem?_set_ne hk] at hy
   exact h4 k y hy
 have hr2 := zjp (cs' := cs.set i (.sl (some s.H.length) e sz [])) hr1 hj1 h1 (Wr.refl h2) (by simpa using h3) hv
 have hx2 := zk8 (cs' := cs.set i (.sl (some s.H.length) e sz [])) hr1 hj1 h1 (Wr.refl h2)
 refine h F _ a w g0 w0 hl ⟨hr2, fun t x hx => ?_, hr.size, hr.defers⟩ (hx'.trans (hx1.trans hx2))
 obtain ⟨u, h5, h6⟩ := hr.env t x hx
 exact ⟨u, h5, (h6.mono hx1.le).mono hx2.le⟩
theorem zao {f : FuncId} {args : List Operand} {types : Array TypeId} {xs fargs : List PV} {X : PV} {t : Tmp}
 (ho : o.op = .call { callee := .value (.tmp t), args := args.toArray, argTypes := types }) (hf : get env t = some (.fn (.func f) [] [])) (hen : z0x P f)
 (hx : evs env args = some xs) (hw : WkL xs fargs) (hai : IdsNil fargs) (hc : z0o P f fargs X) (hX : X.ids = []) : Op1 P o env H n X H := by
 intro F g a w hr Kn Q hK
 obtain ⟨us, vs, hu, hl1, hl2, _, _⟩ := vr_fn.1 (hr.slot hf)
 have h1 : us = [] := List.eq_nil_of_length_eq_zero hl1
 have h2 : vs = [] := List.eq_nil_of_length_eq_zero hl2
 subst h1 h2
 have hexec : (execOp a.eval o).run P w = (execOp a.eval { o with op := .call { callee := .value (.func f), args := args.toArray, argTypes := types } }).run P w := by
  have he : a.eval (.func f) = .func (.func f) #[] #[] := rfl
  simp only [execOp, ho, resolve, hu, he]
 have h := z03 (P := P) (o := { o with op := .call { callee := .value (.func f), args := args.toArray, argTypes := types } }) (env := env) (H := H) (n := n) rfl hen hx hw hai hc hX F g a w hr Kn Q hK
 unfold Oper.wp at h ⊢
 rw [hexec]
 exact h
def z8x {α : Type} (l : List α) (i : Int) : Option α := bif decide (0 ≤ i) then l[i.toNat]? else none
theorem z7g {α : Type} {l : List α} {i : Int} {a : α} (h : z8x l i = some a) : 0 ≤ i ∧ l[i.toNat]? = some a := by
 unfold z8x at h
 cases hb : decide (0 ≤ i) with
 | true => rw [hb] at h; exact ⟨of_decide_eq_true hb, h⟩
 | false => rw [hb] at h; cases h
def z6x {α : Type} (b : Nat) (l m : List α) : Option (List α) := bif Nat.ble ((l.length + m.length) * b) 140737488355328 then some (l ++ m) else none
theorem zdu {α : Type} {b : Nat} {l m x : List α} (h : z6x b l m = some x) : (l.length + m.length) * b ≤ 140737488355328 ∧ x = l ++ m := by
 unfold z6x at h
 cases hb : Nat.ble ((l.length + m.length) * b) 140737488355328 with
 | true => rw [hb] at h; exact ⟨Nat.le_of_ble_eq_true hb, by simpa using h.symm⟩
 | false => rw [hb] at h; cases h
def zjo (n b : Nat) : Option Unit := bif Nat.ble (n * b) 140737488355328 && Nat.ble n 9223372036854775807 then some () else none
theorem zmw {n b : Nat} {u : Unit} (h : zjo n b = some u) : n * b ≤ 140737488355328 ∧ n ≤ 9223372036854775807 := by
 unfold zjo at h
 cases hb : Nat.ble (n * b) 140737488355328 && Nat.ble n 9223372036854775807 with
 | true => rw [Bool.and_eq_true] at hb; exact ⟨Nat.le_of_ble_eq_true hb.1, Nat.le_of_ble_eq_true hb.2⟩
 | false => rw [hb] at h; cases h
def z83 {α : Type} (l : List α) (lo hi : Int) : Option (List α) := bif decide (0 ≤ lo) && decide (lo ≤ hi) && decide (hi ≤ (l.length : Int)) then some ((l.take hi.toNat).drop lo.toNat) else none
theorem zj9 {α : Type} {l x : List α} {lo hi : Int} (h : z83 l lo hi = some x) : (0 ≤ lo ∧ lo ≤ hi ∧ hi ≤ (l.length : Int)) ∧ x = (l.take hi.toNat).drop lo.toNat := by
 unfold z83 at h
 cases hb : decide (0 ≤ lo) && decide (lo ≤ hi) && decide (hi ≤ (l.length : Int)) with
 | true =>
  rw [hb] at h
  simp only [Bool.and_eq_true, decide_eq_true_eq] at hb
  exact ⟨⟨hb.1.1, hb.1.2, hb.2⟩, by simpa using h.symm⟩
 | false => rw [hb] at h; cases h
def ze8 (n : Nat) : Option Unit := bif Nat.ble n 9223372036854775807 then some () else none
theorem zjj {n : Nat} {u : Unit} (h : ze8 n = some u) : n ≤ 9223372036854775807 := by
 unfold ze8 at h
 cases hb : Nat.ble n 9223372036854775807 with
 | true => exact Nat.le_of_ble_eq_true hb
 | false => rw [hb] at h; cases h
theorem z20 {t t2 : TypeId} {x y : Operand} {k : Nat} {c : Nat} (ho : o.op = .binOp .add t x y t2) (hx : ev env x = some (.v (.int .i64 (k : Nat)))) (hy : ev env y = some (.v (.int .i64 (c : Nat)))) (h : k + c ≤ 9223372036854775807) :
 Op1 P o env H n (.v (.int .i64 ((k + c : Nat) : Int))) H := (zxq ho hx hy (by omega)).cast (by rw [Int.natCast_add]) rfl
theorem zok (i : Int) : IntKind.u8.wrap i = ((UInt8.ofInt i).toNat : Int) := by
 have h : IntKind.u8.wrap i = i % 256 := by
  show Int.emod i _ = _
  rfl
 rw [h]
 simp [UInt8.ofInt, UInt8.toNat_ofNat']
 omega
def Z67 : BinOp → Str → Str → Option Bool
 | .eql, a, b => some (a == b)
 | .neq, a, b => some (!(a == b))
 | .lss, a, b => some (Op.bytesLess a b)
 | .leq, a, b => some (Op.bytesLess a b || a == b)
 | .gtr, a, b => some (!(Op.bytesLess a b || a == b))
 | .geq, a, b => some (!(Op.bytesLess a b))
 | _, _, _ => none
theorem z2p {op : BinOp} {t t2 : TypeId} {x y : Operand} {a b : Str} {r : Bool} (ho : o.op = .binOp op t x y t2) (hx : ev env x = some (z0k a)) (hy : ev env y = some (z0k b)) (hop : Z67 op a b = some r) : Op1 P o env H n (.v (.bool r)) H := by
 refine zu7 ho hx hy ?_
 rw [← hop]
 cases op <;> simp only [cmpS, Z67, z71]
theorem z4w {x : Operand} {t : TypeId} {s : Str} (ht : P.underlying t = some .string) (ho : o.op = .call { callee := .builtin .len, args := #[x], argTypes := #[t] }) (hx : ev env x = some (z0k s)) :
 Op1 P o env H n (.v (.int .i64 s.length)) H := (ztz ht ho hx).cast (by rw [z5l]) rfl
theorem z6k {t : TypeId} {x y : Operand} {k : IntKind} {s : Str} {i : Int} {b : UInt8} (ht : P.underlying t = some .string) (ho : o.op = .index t x y) (hx : ev env x = some (z0k s)) (hy : ev env y = some (.v (.int k i))) (hb : z8x s i = some b) :
 Op1 P o env H n (ofB b) H := by
 obtain ⟨h0, h1⟩ := z7g hb
 refine zu0 ht ho hx hy h0 (b := b) ?_
 obtain ⟨hlt, h2⟩ := List.getElem?_eq_some_iff.1 h1
 rw [getElem?_pos _ _ (by rw [z5l]; exact hlt)]
 rw [← h2]; rfl
theorem zd3 {t : TypeId} {x y : Operand} {k : IntKind} {s : Str} {i : Nat} {b : UInt8} (ht : P.underlying t = some .string) (ho : o.op = .index t x y) (hx : ev env x = some (z0k s)) (hy : ev env y = some (.v (.int k (i : Nat)))) (hb : s[i]? = some b) :
 Op1 P o env H n (ofB b) H := z6k ht ho hx hy (by simp only [z8x]; rw [decide_eq_true (by omega : (0 : Int) ≤ (i : Nat))]; exact hb)
theorem zqr {s d e : TypeId} {x : Operand} {tk : Option Nat} {l : Str} (hs : P.underlying s = some (.slice e)) (hd : P.underlying d = some .string) (he : P.underlying e = some (.int .u8)) (ho : o.op = .convert s d x) (hx : ev env x = some (.sl tk e 1 (l.map ofB))) :
 Op1 P o env H n (z0k l) H := zxi hs hd he ho hx
theorem zr1 {src dst e : TypeId} {ds : TypeDesc} {x : Operand} {s : Str} {u : Unit} (hs : P.underlying src = some ds) (hd : P.underlying dst = some (.slice e)) (he : P.underlying e = some (.int .u8)) (ho : o.op = .convert src dst x) (hx : ev env x = some (z0k s)) (hu : ze8 s.length = some u) :
 Op1 P o env H n (.sl none e 1 (s.map ofB)) (H ++ [.dead]) := (zr2 hs hd he ho hx (by rw [z5l]; exact zjj hu)).cast rfl rfl
theorem zgc {lv : Option (IntKind × Int)} {d : Nat} {i : Int} (h : lv.elim (d : Int) (·.2) = i) (h0 : 0 ≤ i) : i.toNat = zwh lv d := by
 cases lv with
 | none => simp at h; subst h; simp [zwh]
 | some x => simp at h; subst h; rfl
theorem zgb {lv : Option (IntKind × Int)} {d : Nat} {i : Int} (h : lv.elim (d : Int) (·.2) = i) (h0 : 0 ≤ i) : ∀ k j, lv = some (k, j) → 0 ≤ j := by
 rintro k j rfl; simp at h; subst h; exact h0
theorem zgr (s : Str) (l h : Nat) (hl : h ≤ s.length) : (ByteArray.mk s.toArray).extract l h = ByteArray.mk ((s.take h).drop l).toArray := by
 apply ByteArray.ext
 simp [ByteArray.data_extract, List.extract_toArray, List.extract_eq_take_drop, List.drop_take]
theorem zu5 {t : TypeId} {x : Operand} {lo hi : Option Operand} {s m : Str} {lv hv : Option (IntKind × Int)} {l h : Int} (ht : P.underlying t = some .string)
 (ho : o.op = .slice t x lo hi none) (hx : ev env x = some (z0k s)) (hlo : zsc env lo = some lv) (hhi : zsc env hi = some hv) (hl : lv.elim ((0 : Nat) : Int) (·.2) = l) (hh : hv.elim (s.length : Int) (·.2) = h) (hc : z83 s l h = some m) :
 Op1 P o env H n (z0k m) H := by
 obtain ⟨⟨h0, h1, h2⟩, rfl⟩ := zj9 hc
 exact (zu6 l.toNat h.toNat ht ho hx hlo hhi (zgc hl h0) (by rw [z5l]; exact zgc hh (by omega)) (zgb hl h0) (zgb hh (by omega)) (by omega) (by rw [z5l]; omega)).cast (by rw [zgr _ _ _ (by omega)]; rfl) rfl
section
variable {α : Type} {f : α → PV}
theorem z6i {x : Operand} {t e : TypeId} {tk : Option Nat} {sz : Nat} {l : List α} (ht : P.underlying t = some (.slice e)) (ho : o.op = .call { callee := .builtin .len, args := #[x], argTypes := #[t] }) (hx : ev env x = some (.sl tk e sz (l.map f))) :
 Op1 P o env H n (.v (.int .i64 l.length)) H := (zxl ht ho hx).cast (by rw [List.length_map]) rfl
theorem z41 {x y : Operand} {t e : TypeId} {tk : Option Nat} {sz by_ : Nat} {z : Value} {l : List α} {i : Int} {a : α} {k : IntKind} {p : PV} (ht : P.underlying t = some (.slice e)) (hi : Inf P e z sz by_) (ho : o.op = .indexAddr t x y)
 (hx : ev env x = some (.sl tk e sz (l.map f))) (hy : ev env y = some (.v (.int k i))) (ha : z8x l i = some a) (hp : f a = p) : Op1 P o env H n (.pt e p 0) H := by
 obtain ⟨h0, h1⟩ := z7g ha
 exact zqz ht hi ho hx hy h0 (by rw [List.getElem?_map, h1, ← hp]; rfl)
theorem z1d {x y : Operand} {t e : TypeId} {tk : Option Nat} {sz by_ : Nat} {z : Value} {l : List α} {i : Nat} {a : α} {k : IntKind} {p : PV} (ht : P.underlying t = some (.slice e)) (hi : Inf P e z sz by_) (ho : o.op = .indexAddr t x y)
 (hx : ev env x = some (.sl tk e sz (l.map f))) (hy : ev env y = some (.v (.int k (i : Nat)))) (ha : l[i]? = some a) (hp : f a = p) : Op1 P o env H n (.pt e p 0) H :=
 zqz ht hi ho hx hy (by omega) (by rw [List.getElem?_map, Int.toNat_natCast, ha, ← hp]; rfl)
theorem z21 {t tx e e' : TypeId} {x y : Operand} {j : Nat} {sz b_ : Nat} {z : Value} {l m r : List α} {tk : Option Nat} (ht : P.underlying t = some (.slice e)) (hi : Inf P e z sz b_) (hz : z.cells.size = sz) (htx : P.underlying tx = some (.slice e'))
 (ho : o.op = .call { callee := .builtin .append, args := #[x, y], argTypes := #[t, tx] }) (hx : ev env x = some (.sl (some j) e sz (l.map f))) (hj : H[j]? = some (.arr e l.length)) (hy : ev env y = some (.sl tk e sz (m.map f)))
 (hsz : ∀ a, (f a).cells.length = sz) (h1 : ∀ a, (f a).cells.all z6w = true) (hr : z6x b_ l m = some r) (hb1 : Nat.ble 1 b_ = true) : Op1 P o env H n (.sl (some j) e sz (r.map f)) (H.set j (.arr e r.length)) := by
 obtain ⟨hb, rfl⟩ := zdu hr
 have hb1' := Nat.le_of_ble_eq_true hb1
 refine (zr5 (xs := l.map f) (ys := m.map f) ht hi hz ho hx (by rw [List.length_map]; exact hj) (fun F g a w hr => zvo hr hy htx (List.all_eq_true.2 fun p hp => by obtain ⟨a, _, rfl⟩ := List.mem_map.1 hp; exact h1 a))
  (List.all_eq_true.2 fun p hp => by obtain ⟨a, _, rfl⟩ := List.mem_map.1 hp; rw [hsz]; exact Nat.beq_refl _) (by simpa only [List.length_map] using hb) ?_).cast (by rw [List.map_append]) (by rw [List.length_map, List.length_map, List.length_append])
 simp only [List.length_map]
 have : l.length + m.length ≤ (l.length + m.length) * b_ := Nat.le_mul_of_pos_right _ hb1'
 omega
theorem zqy {t e : TypeId} {x y : Operand} {z : Value} {sz b_ : Nat} {k1 k2 : IntKind} {c : Nat} {u : Unit} (ht : P.underlying t = some (.slice e)) (hi : Inf P e z sz b_) (hz : z.cells.size = sz) (ho : o.op = .makeSlice t x y)
 (hx : ev env x = some (.v (.int k1 ((0 : Nat) : Int)))) (hy : ev env y = some (.v (.int k2 (c : Nat)))) (hu : zjo c b_ = some u) {p : PV} (hp : p.cells = z.cells.toList.map .v) :
 Op1 P o env H n (.sl (some H.length) e sz (([] : List α).map f)) (H ++ [.arr e ([] : List α).length]) := by
 obtain ⟨h1, h2⟩ := zmw hu
 exact (zk0 ht hi hz ho hx hy (Nat.zero_le _) h1 h2 hp).cast rfl rfl
theorem z3j {t e : TypeId} {x : Operand} {lo hi : Option Operand} {tk : Option Nat} {z : Value} {sz b_ : Nat} {l m : List α} {lv hv : Option (IntKind × Int)} {a b : Int} (ht : P.underlying t = some (.slice e)) (hi' : Inf P e z sz b_)
 (ho : o.op = .slice t x lo hi none) (hx : ev env x = some (.sl tk e sz (l.map f))) (hlo : zsc env lo = some lv) (hhi : zsc env hi = some hv) (hl : lv.elim ((0 : Nat) : Int) (·.2) = a) (hh : hv.elim (l.length : Int) (·.2) = b) (hc : z83 l a b = some m) :
 Op1 P o env H n (.sl none e sz (m.map f)) H := by
 obtain ⟨⟨h0, h1, h2⟩, rfl⟩ := zj9 hc
 have hlen : (l.map f).length = l.length := List.length_map _
 exact (zxp a.toNat b.toNat ht hi' ho hx hlo hhi (zgc hl h0) (by rw [hlen]; exact zgc hh (by omega)) (zgb hl h0) (zgb hh (by omega)) (by omega) (by rw [hlen]; omega)).cast (by rw [← List.map_take, ← List.map_drop]) rfl
end
end Go.Proofs.Ythidgpcbnieleaa.Aw
