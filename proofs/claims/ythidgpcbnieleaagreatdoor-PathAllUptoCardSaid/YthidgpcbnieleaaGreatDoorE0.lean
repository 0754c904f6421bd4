/- Plain laws, one behind the other. -/
import Derived.Test.YthidgpcbnieleaaGreatDoorAwI
import Derived.Test.YthidgpcbnieleaaGreatDoorC0
import Derived.Test.YthidgpcbnieleaaGreatDoorD0
import Derived.Test.YthidgpcbnieleaaGreatDoorAwS
namespace Go.Proofs.YthidgpcbnieleaaGreatDoor.Aw
open Go
set_option linter.unusedVariables false
set_option linter.unusedSimpArgs false
variable {P : Program} {H : List AEnt} {env : List (Nat × PV)} {n : Nat} {o : Oper}
def zn4 (k : Nat) (l : List PV) : Prop := ∀ i, i ∈ PV.ids.idsL l → i < k
theorem z24 {k : Nat} : zn4 k [] := fun i hi => by cases hi
theorem z0s {k : Nat} {x : PV} {r : List PV} (h : zdt k x) (hr : zn4 k r) : zn4 k (x :: r) := fun i hi => by
 rw [zb8, List.mem_append] at hi
 rcases hi with hi | hi
 ·exact h i hi
 ·exact hr i hi
theorem il_fn {k : Nat} {f : Fn} {l : List PV} (h : zn4 k l) : zdt k (.fn f [] l) := fun i hi => h i (by simpa only [PV.ids, PV.ids.idsL, List.nil_append] using hi)
theorem zix {f : FuncId} {fn : Func} {c : Code} {args : List PV} {Hp : List AEnt} {Q : List AEnt → Prop} {N : Nat} (hf : P.funcs[f]? = some fn) (hb : fn.body = some c) (hN : fn.ntmps = N) (hres : fn.results = #[]) (hlen : Nat.ble args.length N = true)
 (h : AW P c ⟨z6z 0 args, Hp, N⟩ (Z93 P [] Hp.length (fun r H' => r = .ret (.tup []) ∧ Q H'))) : DCalls P f args Hp .ret Q := by
 intro F g vargs w u0 hrel hargs hu
 refine callsD_of_wpS hf hb ?_
 intro c0 cs hc0
 have hlen' := Nat.le_of_ble_eq_true hlen
 have hr : Rel P ⟨F, []⟩ ⟨z6z 0 args, Hp, N⟩ { tmps := vargs ++ Array.replicate (fn.ntmps - vargs.size) undef, defers := [] } w g := by
  refine ⟨hrel, fun t x hx => ?_, ?_, rfl⟩
  ·obtain ⟨_, h1⟩ := z6y hx
   obtain ⟨u, h2, h3⟩ := hargs.2 _ _ h1
   refine ⟨u, ?_, h3⟩
   have : t < vargs.size := by simpa using z1j h2
   show (vargs ++ _)[t]? = some u
   rw [Array.getElem?_append_left this]
   simpa using h2
  ·show (vargs ++ _).size = N
   simp [hargs.1, hN]; omega
 cases u0 with
 | returning =>
  have e0 : ({ c0 with mode := FrameMode.returning } : Frame) = c0 := by rw [← hc0]
  refine wpS_of_wp (wp_mono (h ⟨F, []⟩ g _ w hr) ?_)
  rintro e a' w' ⟨x, s', g', h1, h2, h3, h4⟩
  have fin : ∀ xs, z7o P s'.env s'.H [] = some xs → EndOk s'.H Hp.length (zca xs) (fun x H' => (ARes.ret x = .ret (.tup []) ∧ Q H')) → bodyPostS P fn c0 cs (fun e u' w' => ∃ v H' g', e = .returned v ∧ settle u' = .returning ∧ RelH P F H' g' w' ∧ Ext P F Hp g w H' g' w' ∧ Q H') .ret a' (c0 :: cs) w' := by
   rintro xs hx ⟨σ, y, e1, e2, e3, e4, e5, e6, e7⟩
   obtain ⟨v', h5, h6⟩ := z8o (fn := fn) (rs := []) (by simpa using hres) h2 hx
   refine ⟨h2.defers, .returning, by rw [e0], v', h5, v', _, _, rfl, rfl, z4k h2.rel e1 (za7 h2.rel σ) e2 e6, zgd h3 hrel h2.rel rfl e1 e2 e3, e7.2⟩
  cases x <;> cases e <;> first
   | exact h1.elim
   | exact h4.elim
   | (obtain ⟨xs, hx, hend⟩ := h4; exact fin xs hx hend)
   | skip
  obtain ⟨_, _, _, _, _, _, _, _, e7⟩ := (show EndOk s'.H Hp.length _ (fun x H' => (ARes.pan x = .ret (.tup []) ∧ Q H')) from h4)
  cases e7.1
 | _ => exact hu.elim
end Go.Proofs.YthidgpcbnieleaaGreatDoor.Aw

namespace Go.Proofs.YthidgpcbnieleaaGreatDoor
namespace Aw
open Go
set_option linter.unusedVariables false
set_option linter.unusedSimpArgs false
set_option maxRecDepth 4000
variable {P : Program} {N : Nat} {ds : List Deferred}
abbrev VE := List (Nat × Value)
def zfe : VE → Nat → Option Value
 | [], _ => none
 | (k, x) :: r, t => bif Nat.beq k t then some x else zfe r t
structure AR (N : Nat) (ds : List Deferred) (env : VE) (a : Act) : Prop where
 env : ∀ (t : Nat) (v : Value), zfe env t = some v → a.tmps[t]? = some v
 size : a.tmps.size = N
 ds : a.defers = ds
def vev (env : VE) : Operand → Option Value
 | .tmp t => zfe env t
 | .const v => some v
 | _ => none
theorem AR.ev {env : VE} {a : Act} (h : AR N ds env a) {o : Operand} {v : Value} (ho : vev env o = some v) : a.eval o = v := by
 cases o with
 | tmp t => simp [Act.eval, h.env t v ho]
 | const x => simp only [vev] at ho; injection ho
 | func f => cases ho
 | global g => cases ho
def Z1e (d : Option Tmp) (v : Value) (env : VE) : VE :=
 match d with
 | some d => (d, v) :: env
 | none => env
theorem AR.put {env : VE} {a : Act} (h : AR N ds env a) {d : Option Tmp} (hd : z80 d N = true) {v : Value} : AR N ds (Z1e d v env) (a.put d v) := by
 cases d with
 | none => exact h
 | some d =>
  have hlt : d < a.tmps.size := by rw [h.size]; simpa [z80, Nat.blt_eq] using hd
  refine ⟨fun t x hx => ?_, by simp [Act.put, h.size], h.ds⟩
  simp only [Z1e, zfe] at hx
  cases hb : Nat.beq d t with
  | true =>
   rw [hb] at hx; simp at hx; subst hx
   have := beq_iff'.1 hb; subst this
   simp [Act.put, hlt]
  | false =>
   rw [hb] at hx
   have hne : d ≠ t := fun e => by subst e; simp at hb
   simpa [Act.put, Array.getElem?_setIfInBounds_ne hne] using h.env t x hx
def XP (N : Nat) (ds : List Deferred) (K : Exit → VE → World → Prop) : Exit → Act → World → Prop := fun e a w => ∃ env, AR N ds env a ∧ K e env w
def XW (P : Program) (N : Nat) (ds : List Deferred) (c : Code) (env : VE) (w : World) (K : Exit → VE → World → Prop) : Prop := ∀ a, AR N ds env a → c.wp P (XP N ds K) a w
def XL (P : Program) (N : Nat) (ds : List Deferred) (ops : Array Oper) (l : List Oper) (env : VE) (w : World) (K : Exit → VE → World → Prop) : Prop := ∀ a, AR N ds env a → wpList P ops (XP N ds K) l a w
section
variable {env : VE} {w w' : World} {K : Exit → VE → World → Prop}
def Z9g (P : Program) (N : Nat) (ds : List Deferred) (y : Code) (K : Exit → VE → World → Prop) : Exit → VE → World → Prop
 | .normal, env, w => XW P N ds y env w K
 | e, env, w => K e env w
theorem z1x {x y : Code} (h : XW P N ds x env w (Z9g P N ds y K)) : XW P N ds (.seq x y) env w K := fun a ha => by
 refine wp_seq (wp_mono (h a ha) ?_)
 rintro e a' w' ⟨env', h1, h2⟩
 cases e <;> first
  | exact h2 a' h1
  | exact ⟨env', h1, h2⟩
theorem zac {c : Operand} {x y : Code} {b : Bool} (hc : vev env c = some (.bool b)) (ht : b = true → XW P N ds x env w K) (hf : b = false → XW P N ds y env w K) : XW P N ds (.cond c x y) env w K := fun a ha =>
 wp_cond_split (ha.ev hc) (fun hb => ht hb a ha) (fun hb => hf hb a ha)
theorem zc4 (h : K .normal env w) : XW P N ds .skip env w K := fun a ha => wp_skip ⟨env, ha, h⟩
theorem ze2 (h : K .ret env w) : XW P N ds .ret env w K := fun a ha => wp_ret ⟨env, ha, h⟩
theorem z1i {id : Nat} {l : List Oper} (h : XL P N ds l.toArray l env w K) : XW P N ds (.region id l.toArray false) env w K := fun a ha => wp_region_lit (h a ha)
variable {ops : Array Oper} {o : Oper} {rest : List Oper}
theorem z2d (h : K .normal env w) : XL P N ds ops [] env w K := fun a ha => wpList_nil ⟨env, ha, h⟩
theorem z0n {v : Value} (hg : o.guard = none) (hd : z80 o.dst N = true) (hrun : ∀ a, AR N ds env a → (execOp a.eval o).run P w = .ok (.value v) w') (h : XL P N ds ops rest (Z1e o.dst v env) w' K) : XL P N ds ops (o :: rest) env w K := fun a ha => by
 refine wpList_plain hg (fun K' hK' => ?_)
 unfold Oper.wp
 rw [hrun a ha]
 exact hK' _ _ (h _ (ha.put hd))
theorem z0w {x : Operand} {v : Value} (ho : o.op = .move x) (hx : vev env x = some v) (a : Act) (ha : AR N ds env a) : (execOp a.eval o).run P w = .ok (.value v) w := by simp [execOp, ho, ha.ev hx]
theorem z2a {x : Operand} {v : Value} (ho : o.op = .assign x) (hx : vev env x = some v) (a : Act) (ha : AR N ds env a) : (execOp a.eval o).run P w = .ok (.value v) w := by simp [execOp, ho, ha.ev hx]
theorem zbc {x : Operand} {t e : TypeId} {A : Option Addr} {l c : Nat} (ht : P.underlying t = some (.slice e)) (ho : o.op = .call { callee := .builtin .len, args := #[x], argTypes := #[t] }) (hx : vev env x = some (.slice A l c)) (a : Act) (ha : AR N ds env a) :
 (execOp a.eval o).run P w = .ok (.value (.int .i64 l)) w := by simp [execOp, ho, resolve, invoke, builtin, ha.ev hx, Builtin.len_, z1d ht, goInt]
theorem Z19 {t t2 : TypeId} {x y : Operand} {i j : Int} (ho : o.op = .binOp .add t x y t2) (hx : vev env x = some (.int .i64 i)) (hy : vev env y = some (.int .i64 j)) (h1 : -9223372036854775808 ≤ i + j ∧ i + j ≤ 9223372036854775807) (a : Act) (ha : AR N ds env a) :
 (execOp a.eval o).run P w = .ok (.value (.int .i64 (i + j))) w := by simp [execOp, ho, ha.ev hx, ha.ev hy, eqGuard, binOp, Op.intArith, zae h1.1 h1.2]
end
structure Wrs (S : Nat → Prop) (w0 w : World) : Prop where
 os : w.os = w0.os
 tape : w.tape = w0.tape
 output : w.output = w0.output
 size : w0.heap.size ≤ w.heap.size
 keep : ∀ b, b < w0.heap.size → ¬ S b → w.heap[b]? = w0.heap[b]?
 kp : Keeps w0 w
theorem Keeps.trans {w w' w'' : World} (h : Keeps w w') (k : Keeps w' w'') : Keeps w w'' := fun b c t z hb => by
 obtain ⟨c1, h1, h2⟩ := h b c t z hb
 obtain ⟨c2, h3, h4⟩ := k b c1 t z h1
 exact ⟨c2, h3, h4.trans h2⟩
section
variable {S : Nat → Prop} {w0 w w' : World}
theorem Wrs.refl : Wrs S w w := ⟨rfl, rfl, rfl, Nat.le_refl _, fun _ _ _ => rfl, Keeps.refl w⟩
theorem Wrs.grow (h : Wrs S w0 w) (h1 : w'.os = w.os) (h2 : w'.tape = w.tape) (h3 : w'.output = w.output) (hs : w.heap.size ≤ w'.heap.size) (ho : ∀ k, k < w.heap.size → w'.heap[k]? = w.heap[k]?) : Wrs S w0 w' :=
 ⟨h1.trans h.os, h2.trans h.tape, h3.trans h.output, Nat.le_trans h.size hs, fun b hb hn => (ho b (Nat.lt_of_lt_of_le hb h.size)).trans (h.keep b hb hn), h.kp.trans (Keeps.of ho)⟩
theorem Wrs.write (h : Wrs S w0 w) {b : Nat} (hb : S b ∨ w0.heap.size ≤ b) (h1 : w'.os = w.os) (h2 : w'.tape = w.tape) (h3 : w'.output = w.output) (hs : w'.heap.size = w.heap.size) (ho : ∀ k, k ≠ b → w'.heap[k]? = w.heap[k]?) (hk : Keeps w w') : Wrs S w0 w' :=
 ⟨h1.trans h.os, h2.trans h.tape, h3.trans h.output, by rw [hs]; exact h.size, fun k hk hn => (ho k (by rintro rfl; rcases hb with hb | hb; exact hn hb; omega)).trans (h.keep k hk hn), h.kp.trans hk⟩
def Room (S : Nat → Prop) (n0 : Nat) (w : World) (A : Option Addr) (e s n : Nat) : Prop :=
 (A = none ∧ n = 0) ∨ ∃ (b o : Nat) (c : Array Value) (z : Nat × Nat) (q : Nat), A = some ⟨b, o, none⟩ ∧ (S b ∨ n0 ≤ b) ∧ w.heap[b]? = some (.cells c e z) ∧ o + n ≤ c.size ∧ (z.2 ≤ z.1 ∨ c.size ≤ z.1) ∧ o = q * s
theorem Room.keeps {n0 : Nat} {A : Option Addr} {e s n : Nat} (h : Room S n0 w A e s n) (hk : Keeps w w') : Room S n0 w' A e s n := by
 rcases h with h | ⟨b, o, c, z, q, h1, h2, h3, h4, h5, h8⟩
 ·exact .inl h
 ·obtain ⟨c', h6, h7⟩ := hk b c e z h3
  exact .inr ⟨b, o, c', z, q, h1, h2, h6, by rw [h7]; exact h4, by rw [h7]; exact h5, h8⟩
theorem Room.of {A : Option Addr} {e s n : Nat} (h : (Z9i S w).B A e s n) (n0 : Nat) : Room S n0 w A e s n := by
 rcases h with h | ⟨b, o, c, z, q, h1, h2, h3, h4⟩
 ·exact .inl h
 ·exact .inr ⟨b, o, c, z, q, h1, .inl h2, h3, h4⟩
theorem zga {b o : Nat} {c : Array Value} {t : TypeId} {z : Nat × Nat} {v : Value} (hb : w.heap[b]? = some (.cells c t z)) : (w.setCell ⟨b, o, none⟩ v).heap[b]? = some (.cells (c.setIfInBounds o v) t z) := by
 simp only [World.setCell, Array.getElem?_modify, if_true, hb, Option.map_some]; simp
theorem keeps_set {b o : Nat} {v : Value} : Keeps w (w.setCell ⟨b, o, none⟩ v) := by
 intro k c t z hk
 by_cases hb : k = b
 ·subst hb; exact ⟨_, zga hk, by simp⟩
 ·exact ⟨c, by rw [Go.RowKit.Below.heap_setCell w ⟨b, o, none⟩ v k hb]; exact hk, rfl⟩
theorem Wrs.set (h : Wrs S w0 w) {b o : Nat} {v : Value} (hb : S b ∨ w0.heap.size ≤ b) : Wrs S w0 (w.setCell ⟨b, o, none⟩ v) :=
 h.write hb rfl rfl rfl (by simp [World.setCell]) (fun k hk => Go.RowKit.Below.heap_setCell w ⟨b, o, none⟩ v k hk) keeps_set
theorem zyi {b o : Nat} {c : Array Value} {t : TypeId} {z : Nat × Nat} {v : Value} (hb : w.heap[b]? = some (.cells c t z)) (ho : o < c.size) (hz : z.2 ≤ z.1 ∨ c.size ≤ z.1) (h1 : v.oneCell' = true) :
 (store ⟨b, o, none⟩ v).run P w = .ok () (w.setCell ⟨b, o, none⟩ v) := by
 rw [run_store P w _ v .plain h1]
 have hc : w.cell? ⟨b, o, none⟩ = some c[o] := by simp [World.cell?, hb, ho]
 have hf : w.frozen? ⟨b, o, none⟩ = false := by
  simp only [World.frozen?, hb]
  cases hd : (decide (z.1 ≤ o) && decide (o < z.2)) with
  | false => rfl
  | true => simp at hd; omega
 rw [hc, hf]; rfl
end
section
variable {env : VE} {w w' : World} {o : Oper}
end
end Aw
end Go.Proofs.YthidgpcbnieleaaGreatDoor

namespace Go.Proofs.YthidgpcbnieleaaGreatDoor
namespace Aw
open Go
set_option linter.unusedVariables false
set_option linter.unusedSimpArgs false
set_option maxRecDepth 4000
variable {P : Program} {N : Nat} {ds : List Deferred} {Fl : TypeId → Nat → Value → Prop} {S : Nat → Prop} {w0 w w' w'' : World}
def RR (Fl : TypeId → Nat → Value → Prop) (w w' : World) : Prop := ∀ (b : Nat) (c : Array Value) (e : TypeId) (z : Nat × Nat), w.heap[b]? = some (.cells c e z) →
 ∃ c', w'.heap[b]? = some (.cells c' e z) ∧ c'.size = c.size ∧ ∀ (i : Nat) (v : Value), c[i]? = some v → ∃ v', c'[i]? = some v' ∧ (v' = v ∨ Fl e i v')
theorem RR.refl : RR Fl w w := fun b c e z h => ⟨c, h, rfl, fun i v hv => ⟨v, hv, .inl rfl⟩⟩
theorem RR.trans (h : RR Fl w w') (k : RR Fl w' w'') : RR Fl w w'' := fun b c e z hb => by
 obtain ⟨c1, h1, h2, h3⟩ := h b c e z hb
 obtain ⟨c2, h4, h5, h6⟩ := k b c1 e z h1
 refine ⟨c2, h4, h5.trans h2, fun i v hv => ?_⟩
 obtain ⟨v1, h7, h8⟩ := h3 i v hv
 obtain ⟨v2, h9, h10⟩ := h6 i v1 h7
 refine ⟨v2, h9, ?_⟩
 rcases h10 with rfl | h10
 ·exact h8
 ·exact .inr h10
theorem RR.keeps (h : RR Fl w w') : Keeps w w' := fun b c t z hb => let ⟨c', h1, h2, _⟩ := h b c t z hb; ⟨c', h1, h2⟩
theorem RR.of (h : ∀ k, k < w.heap.size → w'.heap[k]? = w.heap[k]?) : RR Fl w w' := fun b c e z hb => ⟨c, by rw [h b (z1j hb)]; exact hb, rfl, fun i v hv => ⟨v, hv, .inl rfl⟩⟩
theorem RR.set {b o : Nat} {c : Array Value} {e : TypeId} {z : Nat × Nat} {v : Value} (hb : w.heap[b]? = some (.cells c e z)) (hf : Fl e o v) : RR Fl w (w.setCell ⟨b, o, none⟩ v) := by
 intro k c' e' z' hk
 by_cases hkb : k = b
 ·subst hkb
  rw [hb] at hk; injection hk with hk; injection hk with h1 h2 h3
  subst h1; subst h2; subst h3
  refine ⟨_, zga hb, by simp, fun i u hu => ?_⟩
  by_cases hi : o = i
  ·subst hi
   exact ⟨v, by simp [z1j hu], .inr hf⟩
  ·exact ⟨u, by rw [Array.getElem?_setIfInBounds_ne hi]; exact hu, .inl rfl⟩
 ·exact ⟨c', by rw [Go.RowKit.Below.heap_setCell w ⟨b, o, none⟩ v k hkb]; exact hk, rfl, fun i u hu => ⟨u, hu, .inl rfl⟩⟩
structure Goes (S : Nat → Prop) (w0 : World) (Fl : TypeId → Nat → Value → Prop) (w w' : World) : Prop where
 wr : Wrs S w0 w → Wrs S w0 w'
 rr : RR Fl w w'
theorem Goes.refl : Goes S w0 Fl w w := ⟨fun h => h, .refl⟩
theorem Goes.trans (h : Goes S w0 Fl w w') (k : Goes S w0 Fl w' w'') : Goes S w0 Fl w w'' := ⟨fun x => k.wr (h.wr x), h.rr.trans k.rr⟩
theorem Goes.set {b o : Nat} {c : Array Value} {e : TypeId} {z : Nat × Nat} {v : Value} (hb : w.heap[b]? = some (.cells c e z)) (hS : S b ∨ w0.heap.size ≤ b) (hf : Fl e o v) : Goes S w0 Fl w (w.setCell ⟨b, o, none⟩ v) := ⟨fun h => h.set hS, .set hb hf⟩
theorem Goes.grow (h1 : w'.os = w.os) (h2 : w'.tape = w.tape) (h3 : w'.output = w.output) (hs : w.heap.size ≤ w'.heap.size) (ho : ∀ k, k < w.heap.size → w'.heap[k]? = w.heap[k]?) : Goes S w0 Fl w w' := ⟨fun h => h.grow h1 h2 h3 hs ho, .of ho⟩
theorem Goes.alloc {ob : Obj} : Goes S w0 Fl w (w.alloc ob) := .grow rfl rfl rfl (by simp) (fun k hk => z2n hk)
section
variable {env : VE} {o : Oper} {ops : Array Oper} {rest : List Oper} {K : Exit → VE → World → Prop}
end
end Aw
end Go.Proofs.YthidgpcbnieleaaGreatDoor

