/- tenonlaw07.spoil only changes the blocks in which its type stands. -/
import Derived.Test.YtiapdjdhaclmnaaPls
import Derived.Test.YtiapdjdhaclmnaaAwJ
import Derived.KernelRfl
namespace Go.Proofs.Ytiapdjdhaclmnaa
open Go Aw
set_option linter.unusedVariables false
set_option linter.unusedSimpArgs false
set_option maxRecDepth 8000
mutual
theorem Z31 : ∀ (t : Typ), Pl (ofTyp t)
 | .mk k o y p n l q c => by
  rw [ofTyp]
  exact .agg (.cons .v (.cons .v (.cons .v (.cons .v (.cons .v (.cons .v (.cons (z8o _) (.cons (zn7 Zbo _) (.cons .v (.cons (zn7 zf7 _) (.cons (zn7 zz0 _) (.cons (z8o _) (.cons .v (.cons (.sl (zvi p)) (.cons (zn7 z8o _) (.cons (zn7 (fun _ => Pl.v) _) (.cons .v (.cons (z8o c) .nil))))))))))))))))))
theorem zvi : ∀ (l : List Typ), PlL (z8a l)
 | [] => by rw [z8a]; exact .nil
 | x :: r => by rw [z8a]; exact .cons (Z31 x) (zvi r)
end
theorem zvj (t : Typ) : Pl (z02 t) := by rw [← z1c]; exact Z31 t
def tyFl (e : TypeId) (i : Nat) (v : Value) : Prop := (e = 4 ∧ ∃ k, v = .bool k) ∨ (e = 34 ∧ (i % 18 = 9 ∨ i % 18 = 13 ∨ i % 18 = 14 ∨ i % 18 = 15 → v = .slice none 0 0)) ∨ e = 9 ∨ e = 29
def zpb (S : Nat → Prop) (w : World) (e s : Nat) (E : (Nat → Option Value) → Prop) (x : Value) : Prop :=
 ∃ A l c, x = .slice A l c ∧ l ≤ c ∧ l ≤ 9223372036854775807 ∧ (Z37 S w).B A e s (c * s) ∧ ∀ i, i < l → ∃ b o, A = some ⟨b, o, none⟩ ∧ E (fun j => w.cell? ⟨b, o + (i * s + j), none⟩)
def boE (f : Nat → Option Value) : Prop := ∃ k, f 0 = some (.bool k)
def anE (f : Nat → Option Value) : Prop := True
def TyA (S : Nat → Prop) : Nat → World → (Nat → Option Value) → Prop
 | 0, _, _ => False
 | n + 1, w, f => (∀ j, j < 18 → ∃ v, f j = some v) ∧ (∃ x, f 9 = some x ∧ zpb S w 29 11 anE x) ∧ (∃ x, f 13 = some x ∧ zpb S w 34 18 (TyA S n w) x) ∧ (∃ x, f 14 = some x ∧ zpb S w 9 1 anE x) ∧ (∃ x, f 15 = some x ∧ zpb S w 4 1 boE x)
theorem Z6v {S : Nat → Prop} : ∀ {n : Nat} {w : World} {f g : Nat → Option Value}, (∀ j, j < 18 → g j = f j) → TyA S n w f → TyA S n w g
 | 0, _, _, _, _, h => h.elim
 | n + 1, w, f, g, he, ⟨h0, h1, h2, h3, h4⟩ => ⟨fun j hj => by rw [he j hj]; exact h0 j hj, by rw [he 9 (by omega)]; exact h1, by rw [he 13 (by omega)]; exact h2, by rw [he 14 (by omega)]; exact h3, by rw [he 15 (by omega)]; exact h4⟩
theorem zdw {S : Nat → Prop} {w : World} {e s : Nat} {E : (Nat → Option Value) → Prop} : zpb S w e s E (.slice none 0 0) := ⟨none, 0, 0, rfl, Nat.le_refl _, by omega, .inl ⟨rfl, by omega⟩, fun i hi => by omega⟩
theorem zbu {S : Nat → Prop} {w : World} {e s l c i : Nat} {E : (Nat → Option Value) → Prop} {A : Option Addr} (h : zpb S w e s E (.slice A l c)) (hi : i < l) :
 ∃ b o cs z q, A = some ⟨b, o, none⟩ ∧ S b ∧ w.heap[b]? = some (.cells cs e z) ∧ o + (i * s + s) ≤ cs.size ∧ (z.2 ≤ z.1 ∨ cs.size ≤ z.1) ∧ o = q * s ∧ E (fun j => w.cell? ⟨b, o + (i * s + j), none⟩) := by
 obtain ⟨A', l', c', hx, h1, _, h3, h4⟩ := h
 injection hx with e1 e2 e3; subst e1; subst e2; subst e3
 obtain ⟨b, o, hA, h6⟩ := h4 i hi
 rcases h3 with ⟨h7, _⟩ | ⟨b', o', cs, z, q, h7, h8, h9, h10, h11, h12⟩
 ·rw [hA] at h7; cases h7
 ·rw [hA] at h7; injection h7 with h7; injection h7 with h7 h13; subst h7; subst h13
  have : (i + 1) * s ≤ c * s := Nat.mul_le_mul_right _ (by omega)
  rw [Nat.succ_mul] at this
  exact ⟨b, o, cs, z, q, hA, h8, h9, by omega, h11, h12, h6⟩
theorem zj1 {S : Nat → Prop} {w w' : World} {e s : Nat} {E E' : (Nat → Option Value) → Prop} {x : Value} (hR : RR tyFl w w')
 (hE : ∀ (q : Nat) (f f' : Nat → Option Value), E f → (∀ j, j < s → ∃ v v', f j = some v ∧ f' j = some v' ∧ (v' = v ∨ tyFl e (q * s + j) v')) → E' f') (h : zpb S w e s E x) : zpb S w' e s E' x := by
 have h0 := h
 obtain ⟨A, l, c, hx, h1, h2, h3, h4⟩ := h
 subst hx
 refine ⟨A, l, c, rfl, h1, h2, ?_, fun i hi => ?_⟩
 ·rcases h3 with h3 | ⟨b, o, cs, z, q, h5, h6, h7, h8, h9, h10⟩
  ·exact .inl h3
  ·obtain ⟨cs', h11, h12, _⟩ := hR b cs e z h7
   exact .inr ⟨b, o, cs', z, q, h5, h6, h11, by rw [h12]; exact h8, by rw [h12]; exact h9, h10⟩
 ·obtain ⟨b, o, cs, z, q, hA, hS, hblk, hsz, _, ho, hel⟩ := zbu h0 hi
  refine ⟨b, o, hA, hE (q + i) _ _ hel (fun j hj => ?_)⟩
  obtain ⟨cs', h11, h12, h13⟩ := hR b cs e z hblk
  have hv : cs[o + (i * s + j)]? = some (cs[o + (i * s + j)]'(by omega)) := Array.getElem?_eq_getElem (by omega)
  obtain ⟨v', h14, h15⟩ := h13 _ _ hv
  refine ⟨_, v', by rw [z31 hblk]; exact hv, by rw [z31 h11]; exact h14, ?_⟩
  rcases h15 with h15 | h15
  ·exact .inl h15
  ·right
   rw [show (q + i) * s + j = o + (i * s + j) by rw [ho, Nat.add_mul]; omega]
   exact h15
theorem bo_go {S : Nat → Prop} {w w' : World} (hR : RR tyFl w w') {x : Value} (h : zpb S w 4 1 boE x) : zpb S w' 4 1 boE x := zj1 hR (fun q f f' ⟨k, hk⟩ hc => by
 obtain ⟨v, v', h1, h2, h3⟩ := hc 0 (by omega)
 rw [hk] at h1; injection h1 with h1; subst h1
 rcases h3 with rfl | ⟨_, k', rfl⟩ | ⟨h4, _⟩ | h4 | h4
 ·exact ⟨k, h2⟩
 ·exact ⟨k', h2⟩
 ·cases h4
 ·cases h4
 ·cases h4) h
theorem an_go {S : Nat → Prop} {w w' : World} (hR : RR tyFl w w') {e s : Nat} {x : Value} (h : zpb S w e s anE x) : zpb S w' e s anE x := zj1 hR (fun q f f' _ _ => trivial) h
theorem Z6u {S : Nat → Prop} {w w' : World} (hR : RR tyFl w w') : ∀ (n : Nat) (f f' : Nat → Option Value), TyA S n w f → (∀ j, j < 18 → ∃ v v', f j = some v ∧ f' j = some v' ∧ (v' = v ∨ (j = 9 ∨ j = 13 ∨ j = 14 ∨ j = 15 → v' = .slice none 0 0))) → TyA S n w' f'
 | 0, f, f', h, _ => h.elim
 | n + 1, f, f', ⟨h0, ⟨x9, h9, r9⟩, ⟨x13, h13, r13⟩, ⟨x14, h14, r14⟩, ⟨x15, h15, r15⟩⟩, hc => by
  have el : ∀ (j : Nat) (x : Value), j < 18 → f j = some x → ∃ x', f' j = some x' ∧ (x' = x ∨ (j = 9 ∨ j = 13 ∨ j = 14 ∨ j = 15 → x' = .slice none 0 0)) := fun j x hj hx => by
   obtain ⟨v, v', h1, h2, h3⟩ := hc j hj
   rw [hx] at h1; injection h1 with h1; subst h1
   exact ⟨v', h2, h3⟩
  refine ⟨fun j hj => let ⟨_, v', _, h2, _⟩ := hc j hj; ⟨v', h2⟩, ?_, ?_, ?_, ?_⟩
  ·obtain ⟨x', hx', hd⟩ := el 9 x9 (by omega) h9
   refine ⟨x', hx', ?_⟩
   rcases hd with rfl | hd
   ·exact an_go hR r9
   ·rw [hd (.inl rfl)]; exact zdw
  ·obtain ⟨x', hx', hd⟩ := el 13 x13 (by omega) h13
   refine ⟨x', hx', ?_⟩
   rcases hd with rfl | hd
   ·refine zj1 hR (fun q g g' hg hcc => Z6u hR n g g' hg (fun j hj => ?_)) r13
    obtain ⟨v, v', h1, h2, h3⟩ := hcc j hj
    refine ⟨v, v', h1, h2, ?_⟩
    rcases h3 with h3 | ⟨h4, _⟩ | ⟨_, h4⟩ | h4 | h4
    ·exact .inl h3
    ·cases h4
    ·exact .inr fun hj3 => h4 (by omega)
    ·cases h4
    ·cases h4
   ·rw [hd (.inr (.inl rfl))]; exact zdw
  ·obtain ⟨x', hx', hd⟩ := el 14 x14 (by omega) h14
   refine ⟨x', hx', ?_⟩
   rcases hd with rfl | hd
   ·exact an_go hR r14
   ·rw [hd (.inr (.inr (.inl rfl)))]; exact zdw
  ·obtain ⟨x', hx', hd⟩ := el 15 x15 (by omega) h15
   refine ⟨x', hx', ?_⟩
   rcases hd with rfl | hd
   ·exact bo_go hR r15
   ·rw [hd (.inr (.inr (.inr rfl)))]; exact zdw
theorem tp_go {S : Nat → Prop} {w w' : World} (hR : RR tyFl w w') {n : Nat} {x : Value} (h : zpb S w 34 18 (TyA S n w) x) : zpb S w' 34 18 (TyA S n w') x := zj1 hR (fun q g g' hg hcc => Z6u hR n g g' hg (fun j hj => by
 obtain ⟨v, v', h1, h2, h3⟩ := hcc j hj
 refine ⟨v, v', h1, h2, ?_⟩
 rcases h3 with h3 | ⟨h4, _⟩ | ⟨_, h4⟩ | h4 | h4
 ·exact .inl h3
 ·cases h4
 ·exact .inr fun hj3 => h4 (by omega)
 ·cases h4
 ·cases h4)) h
theorem zib {f : Nat → Option Value} : ∀ (n : Nat), (∀ j, j < n → ∃ v, f j = some v) → ∃ l : List Value, l.length = n ∧ ∀ j, j < n → l[j]? = f j
 | 0, _ => ⟨[], rfl, fun j hj => by omega⟩
 | n + 1, h => by
  obtain ⟨l, h1, h2⟩ := zib n (fun j hj => h j (by omega))
  obtain ⟨v, hv⟩ := h n (by omega)
  refine ⟨l ++ [v], by simp [h1], fun j hj => ?_⟩
  by_cases hjn : j < n
  ·rw [List.getElem?_append_left (by omega)]; exact h2 j hjn
  ·have : j = n := by omega
   subst this
   rw [List.getElem?_append_right (by omega), h1, hv]; simp
section
variable {N : Nat} {ds : List Deferred} {env : VE} {w w' : World} {o : Oper}
theorem Z47 {P : Program} {t : TypeId} {x : Operand} {b : Bool} (ho : o.op = .unOp .not t x) (hx : vev env x = some (.bool b)) (a : Act) (ha : AR N ds env a) : (execOp a.eval o).run P w = .ok (.value (.bool (!b))) w := by
 simp [execOp, ho, ha.ev hx, Op.unary]
theorem Z6p {P : Program} {t : TypeId} {x : Operand} {v : Value} (ho : o.op = .box t x) (hx : vev env x = some v) (a : Act) (ha : AR N ds env a) : (execOp a.eval o).run P w = .ok (.value (.pointer (some ⟨w.heap.size, 0, none⟩))) (w.alloc (.cells v.cells t)) := by
 simp [execOp, ho, ha.ev hx, Instr.box, newVar, newRow]
theorem Z6n {P : Program} {x : Operand} {t : TypeId} {d : TypeDesc} {b off : Nat} {cs : List Value} (hd : P.underlying t = some d) (hs : zmu d = true) (hn : P.cellsOf t = cs.length) (ho : o.op = .load t x) (hx : vev env x = some (.pointer (some ⟨b, off, none⟩)))
 (hc : ∀ (j : Nat) (v : Value), cs[j]? = some v → w.cell? ⟨b, off + j, none⟩ = some v) (a : Act) (ha : AR N ds env a) : (execOp a.eval o).run P w = .ok (.value (.agg cs.toArray)) w := by
 simp [execOp, ho, ha.ev hx, zem hd hs hn hc]
end
namespace Aw
theorem Wrs.comp {S : Nat → Prop} {w0 w1 w2 : World} (h : Wrs S w0 w1) (k : Wrs S w1 w2) : Wrs S w0 w2 :=
 ⟨k.os.trans h.os, k.tape.trans h.tape, k.output.trans h.output, Nat.le_trans h.size k.size, fun b hb hn => (k.keep b (Nat.lt_of_lt_of_le hb h.size) hn).trans (h.keep b hb hn), h.kp.trans k.kp⟩
end Aw
def SpT (S : Nat → Prop) (n : Nat) : Prop := ∀ (w : World) (cs : List Value), (∀ b, S b → b < w.heap.size) → TyA S n w (fun j => cs[j]?) → cs.length = 18 → Calls Try.prog 25 #[.agg cs.toArray] w fun e w' => ∃ r, e = .returned r ∧ r = .tuple #[] ∧ Wrs S w w' ∧ RR tyFl w w'
theorem spT {S : Nat → Prop} {n : Nat} (hn : SpT S n) : SpT S (n + 1) := by
 intro w cs hS hty hlen
 obtain ⟨_, ⟨x9, h9, r9⟩, ⟨x13, h13, r13⟩, ⟨x14, h14, r14⟩, ⟨x15, h15, r15⟩⟩ := hty
 -- what stays true on the way
 let J : World → Prop := fun w1 => Wrs S w w1 ∧ RR tyFl w w1 ∧ w1.heap[w.heap.size]? = some (.cells cs.toArray 34 (0, 0))
 have step : ∀ {w1 w2 : World}, J w1 → Wrs S w1 w2 → RR tyFl w1 w2 → J w2 := fun {w1 w2} h1 h2 h3 =>
  ⟨h1.1.comp h2, h1.2.1.trans h3, by rw [h2.keep _ (z1d h1.2.2) (fun hb => Nat.lt_irrefl _ (hS _ hb))]; exact h1.2.2⟩
 have hS1 : ∀ {w1 : World}, J w1 → ∀ b, S b → b < w1.heap.size := fun h1 b hb => Nat.lt_of_lt_of_le (hS b hb) h1.1.size
 have fld : ∀ {w1 : World}, J w1 → ∀ (j : Nat) (x : Value), cs[j]? = some x → w1.cell? ⟨w.heap.size, 0 + j, none⟩ = some x := fun h1 j x hx => by rw [z31 h1.2.2]; simpa using hx
 refine znw (args := [.agg cs.toArray]) Try.func25 rfl Try.ntmps25 rfl rfl ?_
 refine z2x (z1t (z12 rfl rfl (Z6p rfl rfl) (z3d ?_)))
 change XW _ _ _ _ _ _ _
 have hJ0 : J (w.alloc (.cells (Value.agg cs.toArray).cells 34)) := ⟨Wrs.refl.grow rfl rfl rfl (by simp) (fun k hk => z32 hk), .of (fun k hk => z32 hk), z4n⟩
 generalize w.alloc (.cells (Value.agg cs.toArray).cells 34) = wb at hJ0
 obtain ⟨A9, l9, c9, rfl, _, hl9, _, _⟩ := id r9
 obtain ⟨A13, l13, c13, rfl, _, hl13, _, _⟩ := id r13
 obtain ⟨A14, l14, c14, rfl, _, hl14, _, _⟩ := id r14
 obtain ⟨A15, l15, c15, rfl, _, hl15, _, _⟩ := id r15
 -- the parts
 refine z2x ?_
 change XW _ _ _ _ _ _ _
 refine z2x (z1t (z12 rfl rfl (z38 rfl rfl) (z3d ?_)))
 change XW _ _ _ _ _ _ _
 refine z5h ?_
 refine zih (fun n env w1 => ∃ i : Nat, i + n = l13 ∧ zgc env 2 = some (.int .i64 (i : Nat)) ∧ zgc env 1 = some (.pointer (some ⟨w.heap.size, 0, none⟩)) ∧ J w1) (n := l13) ⟨0, by omega, rfl, rfl, hJ0⟩ ?_
 clear hJ0
 rintro m env w1 ⟨i, hin, hctr, h1, hJ⟩
 refine z2x (z2x (z1t (z12 rfl rfl (z2m rfl hctr) (z12 rfl rfl (zdo z5e (i := 3) rfl rfl h1) (z12 rfl rfl (zeb Try.underlying30 rfl rfl rfl (fld hJ 13 _ h13)) (z12 rfl rfl (zgo Try.underlying30 rfl rfl) (z12 rfl rfl (zjs rfl rfl rfl) (z3d ?_))))))))
 change XW _ _ _ _ _ _ _
 refine zbo rfl (fun hc => zea ?_) (fun hc => zii ?_)
 ·have hil : i < l13 := by have := of_decide_eq_true hc; omega
  change XW _ _ _ _ _ _ _
  refine z2x (z5h (z2x ?_))
  obtain ⟨b, o, bs, z, q, rfl, hSb, hblk, hsz, hfz, hal, hel⟩ := zbu (tp_go hJ.2.1 r13) hil
  obtain ⟨cs1, hl1, hc1⟩ := zib (f := fun j => w1.cell? ⟨b, o + (i * 18 + j), none⟩) 18 (by
   cases n with
   | zero => exact hel.elim
   | succ n => exact hel.1)
  have hty1 : TyA S n w1 (fun j => cs1[j]?) := Z6v (fun j hj => hc1 j hj) hel
  refine z1t (z12 rfl rfl (zdo z5e (i := 3) rfl rfl h1) (z12 rfl rfl (zeb Try.underlying30 rfl rfl rfl (fld hJ 13 _ h13)) (z12 rfl rfl (z2m rfl hctr) (z12 rfl rfl (zgp Try.underlying30 z0u rfl rfl rfl hil)
   (z12 rfl rfl (Z6n (cs := cs1) Try.underlying34 rfl ((Inf.cells z0u).trans hl1.symm) rfl rfl (fun j v hj => by
    have := hc1 j (by have := z0p hj; omega)
    rw [hj] at this; rw [Nat.add_assoc]; exact this.symm))
   (Z4a (args := [.tmp 17]) (vs := #[.agg cs1.toArray]) (R := fun r w' => r = .tuple #[] ∧ Wrs S w1 w' ∧ RR tyFl w1 w') rfl rfl rfl Z9j (fun a ha => by simp [ha.ev (o := .tmp 17) (v := .agg cs1.toArray) rfl]) (hn w1 cs1 (hS1 hJ) hty1 hl1) ?_))))))
  rintro r w2 ⟨rfl, hW2, hR2⟩
  refine z3d ?_
  change XW _ _ _ _ _ _ _
  have hJ2 := step hJ hW2 hR2
  obtain ⟨b', o', bs', z', q', hA', hSb', hblk', hsz', hfz', hal', _⟩ := zbu (tp_go hJ2.2.1 r13) hil
  injection hA' with hA'; injection hA' with hA1 hA2; subst hA1; subst hA2
  refine z1t (z12 rfl rfl (zdo z5e (i := 3) rfl rfl h1) (z12 rfl rfl (zeb Try.underlying30 rfl rfl rfl (fld hJ2 13 _ h13)) (z12 rfl rfl (z2m rfl hctr)
   (z12 rfl rfl (zp7 (parts := [(0, .const (.int .i64 99))]) (vs := [(0, .int .i64 99)]) (c := #[.int .i64 99, .int .i64 0, .int .i64 0, .bool false, .int .i64 0, .float .f64 0, .string ⟨#[]⟩, .slice none 0 0, .int .u64 0, .slice none 0 0, .slice none 0 0, .string ⟨#[]⟩, .int .i64 0, .slice none 0 0, .slice none 0 0, .slice none 0 0, .bool false, .string ⟨#[]⟩]) z5e z0u rfl (fun a ha => rfl) rfl)
   (z12 rfl rfl (zgp Try.underlying30 z0u rfl rfl rfl hil) (zdu (Fl := tyFl) (S := S) (w0 := w2) rfl rfl z0u rfl rfl rfl (by intro v hv; simp [Value.cells] at hv; rcases hv with rfl | rfl | rfl | rfl | rfl | rfl | rfl | rfl | rfl | rfl | rfl | rfl | rfl | rfl | rfl | rfl | rfl | rfl <;> rfl) rfl hblk' (by omega) hfz' (by
    intro j v hj
    have hlt := z0p hj
    refine .inr (.inl ⟨rfl, fun hm => ?_⟩)
    have hj3 : j = 9 ∨ j = 13 ∨ j = 14 ∨ j = 15 := by simp [Value.cells] at hlt; omega
    rcases hj3 with rfl | rfl | rfl | rfl <;> simp [Value.cells] at hj <;> exact hj.symm) (.inl hSb') (fun w3 hG3 => z3d ?_)))))))
  change XW _ _ _ _ _ _ _
  have hJ3 := step hJ2 (hG3.wr .refl) hG3.rr
  refine z1t (z12 rfl rfl (z2m rfl hctr) (z12 rfl rfl (zp8 rfl rfl rfl (by omega)) (z12 rfl rfl (z38 rfl rfl) (z3d ?_))))
  exact ⟨m - 1, by omega, i + 1, by omega, rfl, h1, hJ3⟩
 show XW _ _ _ _ _ _ _
 clear hin hctr hc
 -- the names
 refine z2x ?_
 change XW _ _ _ _ _ _ _
 refine z2x (z1t (z12 rfl rfl (z38 rfl rfl) (z3d ?_)))
 change XW _ _ _ _ _ _ _
 refine z5h ?_
 refine zih (fun n env w1 => ∃ i : Nat, i + n = l14 ∧ zgc env 3 = some (.int .i64 (i : Nat)) ∧ zgc env 1 = some (.pointer (some ⟨w.heap.size, 0, none⟩)) ∧ J w1) (n := l14) ⟨0, by omega, rfl, h1, hJ⟩ ?_
 clear hJ h1
 rintro m env w1 ⟨i, hin, hctr, h1, hJ⟩
 refine z2x (z2x (z1t (z12 rfl rfl (z2m rfl hctr) (z12 rfl rfl (zdo z5e (i := 4) rfl rfl h1) (z12 rfl rfl (zeb Try.underlying31 rfl rfl rfl (fld hJ 14 _ h14)) (z12 rfl rfl (zgo Try.underlying31 rfl rfl) (z12 rfl rfl (zjs rfl rfl rfl) (z3d ?_))))))))
 change XW _ _ _ _ _ _ _
 refine zbo rfl (fun hc => zea ?_) (fun hc => zii ?_)
 ·have hil : i < l14 := by have := of_decide_eq_true hc; omega
  change XW _ _ _ _ _ _ _
  refine z2x (z5h ?_)
  obtain ⟨b, o, bs, z, q, rfl, hSb, hblk, hsz, hfz, hal, _⟩ := zbu (an_go hJ.2.1 r14) hil
  refine z1t (z12 rfl rfl (zdo z5e (i := 4) rfl rfl h1) (z12 rfl rfl (zeb Try.underlying31 rfl rfl rfl (fld hJ 14 _ h14)) (z12 rfl rfl (z2m rfl hctr)
   (z12 rfl rfl (zgp Try.underlying31 inf_9 rfl rfl rfl hil) (zdu (Fl := tyFl) (S := S) (w0 := w1) (v := .string ⟨#[115, 112, 111, 105, 108, 116]⟩) rfl rfl inf_9 rfl rfl rfl (by intro v hv; simp [Value.cells] at hv; subst hv; rfl) rfl hblk (by omega) hfz (by
    intro j v hj
    exact .inr (.inr (.inl rfl))) (.inl hSb) (fun w3 hG3 => z3d ?_))))))
  change XW _ _ _ _ _ _ _
  have hJ3 := step hJ (hG3.wr .refl) hG3.rr
  refine z1t (z12 rfl rfl (z2m rfl hctr) (z12 rfl rfl (zp8 rfl rfl rfl (by omega)) (z12 rfl rfl (z38 rfl rfl) (z3d ?_))))
  exact ⟨m - 1, by omega, i + 1, by omega, rfl, h1, hJ3⟩
 show XW _ _ _ _ _ _ _
 clear hin hctr hc
 -- the marks
 refine z2x ?_
 change XW _ _ _ _ _ _ _
 refine z2x (z1t (z12 rfl rfl (z38 rfl rfl) (z3d ?_)))
 change XW _ _ _ _ _ _ _
 refine z5h ?_
 refine zih (fun n env w1 => ∃ i : Nat, i + n = l15 ∧ zgc env 4 = some (.int .i64 (i : Nat)) ∧ zgc env 1 = some (.pointer (some ⟨w.heap.size, 0, none⟩)) ∧ J w1) (n := l15) ⟨0, by omega, rfl, h1, hJ⟩ ?_
 clear hJ h1
 rintro m env w1 ⟨i, hin, hctr, h1, hJ⟩
 refine z2x (z2x (z1t (z12 rfl rfl (z2m rfl hctr) (z12 rfl rfl (zdo z5e (i := 5) rfl rfl h1) (z12 rfl rfl (zeb Try.underlying32 rfl rfl rfl (fld hJ 15 _ h15)) (z12 rfl rfl (zgo Try.underlying32 rfl rfl) (z12 rfl rfl (zjs rfl rfl rfl) (z3d ?_))))))))
 change XW _ _ _ _ _ _ _
 refine zbo rfl (fun hc => zea ?_) (fun hc => zii ?_)
 ·have hil : i < l15 := by have := of_decide_eq_true hc; omega
  change XW _ _ _ _ _ _ _
  refine z2x (z5h ?_)
  obtain ⟨b, o, bs, z, q, rfl, hSb, hblk, hsz, hfz, hal, k, hk⟩ := zbu (bo_go hJ.2.1 r15) hil
  refine Z45 (env' := [(1, .pointer (some ⟨w.heap.size, 0, none⟩)), (4, .int .i64 (i : Nat))]) (fun t v hv => ?_) ?_
  ·simp only [zgc] at hv
   cases hb1 : Nat.beq 1 t with
   | true => rw [hb1] at hv; rw [← beq_iff'.1 hb1]; simp only [cond_true] at hv; rw [← hv]; exact h1
   | false =>
    cases hb2 : Nat.beq 4 t with
    | true => rw [hb1, hb2] at hv; rw [← beq_iff'.1 hb2]; simp only [cond_true, cond_false] at hv; rw [← hv]; exact hctr
    | false => rw [hb1, hb2] at hv; cases hv
  have hW1 : Wrs S w1 { w1 with drawn := w1.drawn + 1 } := Wrs.refl.grow rfl rfl rfl (Nat.le_refl _) (fun _ _ => rfl)
  have hR1 : RR tyFl w1 { w1 with drawn := w1.drawn + 1 } := .of (fun _ _ => rfl)
  have hJ1 := step hJ hW1 hR1
  have hk1 : (World.cell? { w1 with drawn := w1.drawn + 1 } ⟨b, o + i * 1, none⟩) = some (.bool k) := by
   have : o + i * 1 = o + (i * 1 + 0) := rfl
   rw [this]; exact hk
  have hblk1 : ({ w1 with drawn := w1.drawn + 1 } : World).heap[b]? = some (.cells bs 4 z) := hblk
  refine Z46 10 mo (by kernel_rfl) ?_
  generalize ({ w1 with drawn := w1.drawn + 1 } : World) = w2 at hW1 hR1 hJ1 hk1 hblk1 ⊢
  refine z9h rfl rfl (zdo z5e (i := 5) rfl rfl rfl) (z9h rfl rfl (zeb Try.underlying32 rfl rfl rfl (fld hJ1 15 _ h15)) (z9h rfl rfl (z2m rfl rfl) (z9h rfl rfl (zdo z5e (i := 5) rfl rfl rfl) (z9h rfl rfl (zeb Try.underlying32 rfl rfl rfl (fld hJ1 15 _ h15)) (z9h rfl rfl (z2m rfl rfl)
   (z9h rfl rfl (zgp Try.underlying32 inf_4 rfl rfl rfl hil) (z9h rfl rfl (zeb Try.underlying4 rfl rfl rfl hk1) (z9h rfl rfl (Z47 rfl rfl) (z9h rfl rfl (zgp Try.underlying32 inf_4 rfl rfl rfl hil) (Z6r ?_))))))))))
  refine zdu (Fl := tyFl) (S := S) (w0 := w2) rfl rfl inf_4 rfl rfl rfl (by intro v hv; simp [Value.cells] at hv; subst hv; rfl) rfl hblk1 (by omega) hfz (by
   intro j v hj
   match j, hj with
   | 0, hj => simp [Value.cells] at hj; subst hj; exact .inl ⟨rfl, _, rfl⟩) (.inl hSb) (fun w3 hG3 => z3d ?_)
  change XW _ _ _ _ _ _ _
  have hJ3 := step hJ1 (hG3.wr .refl) hG3.rr
  refine z1t (z12 rfl rfl (z2m rfl rfl) (z12 rfl rfl (zp8 rfl rfl rfl (by omega)) (z12 rfl rfl (z38 rfl rfl) (z3d ?_))))
  exact ⟨m - 1, by omega, i + 1, by omega, rfl, rfl, hJ3⟩
 show XW _ _ _ _ _ _ _
 clear hin hctr hc
 -- the terms of the value alone
 refine z2x (z1t (z12 rfl rfl (z38 rfl rfl) (z3d ?_)))
 change XW _ _ _ _ _ _ _
 refine z5h ?_
 refine zih (fun n env w1 => ∃ i : Nat, i + n = l9 ∧ zgc env 5 = some (.int .i64 (i : Nat)) ∧ zgc env 1 = some (.pointer (some ⟨w.heap.size, 0, none⟩)) ∧ J w1) (n := l9) ⟨0, by omega, rfl, h1, hJ⟩ ?_
 clear hJ h1
 rintro m env w1 ⟨i, hin, hctr, h1, hJ⟩
 refine z2x (z2x (z1t (z12 rfl rfl (z2m rfl hctr) (z12 rfl rfl (zdo z5e (i := 2) rfl rfl h1) (z12 rfl rfl (zdo zmy (i := 7) rfl rfl rfl) (z12 rfl rfl (zeb Try.underlying26 rfl rfl rfl (fld hJ 9 _ h9)) (z12 rfl rfl (zgo Try.underlying26 rfl rfl) (z12 rfl rfl (zjs rfl rfl rfl) (z3d ?_)))))))))
 change XW _ _ _ _ _ _ _
 refine zbo rfl (fun hc => zea ?_) (fun hc => zii ⟨_, rfl, rfl, hJ.1, hJ.2.1⟩)
 have hil : i < l9 := by have := of_decide_eq_true hc; omega
 change XW _ _ _ _ _ _ _
 refine z2x (z5h ?_)
 obtain ⟨b, o, bs, z, q, rfl, hSb, hblk, hsz, hfz, hal, _⟩ := zbu (an_go hJ.2.1 r9) hil
 refine z1t (z12 rfl rfl (zdo z5e (i := 2) rfl rfl h1) (z12 rfl rfl (zdo zmy (i := 7) rfl rfl rfl) (z12 rfl rfl (zeb Try.underlying26 rfl rfl rfl (fld hJ 9 _ h9)) (z12 rfl rfl (z2m rfl hctr)
  (z12 rfl rfl (zp7 (parts := [(0, .const (.int .i64 99))]) (vs := [(0, .int .i64 99)]) (c := #[.int .i64 99, .bool false, .int .i64 0, .float .f64 0, .string ⟨#[]⟩, .slice none 0 0, .int .u64 0, .slice none 0 0, .slice none 0 0, .string ⟨#[]⟩, .int .i64 0]) zmy z20 rfl (fun a ha => rfl) rfl)
  (z12 rfl rfl (zgp Try.underlying26 z20 rfl rfl rfl hil) (zdu (Fl := tyFl) (S := S) (w0 := w1) rfl rfl z20 rfl rfl rfl (by intro v hv; simp [Value.cells] at hv; rcases hv with rfl | rfl | rfl | rfl | rfl | rfl | rfl | rfl | rfl | rfl | rfl <;> rfl) rfl hblk (by omega) hfz (by
   intro j v hj
   exact .inr (.inr (.inr rfl))) (.inl hSb) (fun w3 hG3 => z3d ?_))))))))
 change XW _ _ _ _ _ _ _
 have hJ3 := step hJ (hG3.wr .refl) hG3.rr
 refine z1t (z12 rfl rfl (z2m rfl hctr) (z12 rfl rfl (zp8 rfl rfl rfl (by omega)) (z12 rfl rfl (z38 rfl rfl) (z3d ?_))))
 exact ⟨m - 1, by omega, i + 1, by omega, rfl, h1, hJ3⟩
theorem Z2o {S : Nat → Prop} : ∀ n, SpT S n
 | 0 => fun w cs _ h _ => h.elim
 | n + 1 => spT (Z2o n)
mutual
def Z6e : Typ → Nat
 | .mk _ _ _ p _ _ _ _ => zyo p + 1
def zyo : List Typ → Nat
 | [] => 0
 | x :: r => Z6e x + zyo r
end
theorem zju : ∀ {l : List Typ} {x : Typ}, x ∈ l → Z6e x ≤ zyo l
 | y :: r, x, h => by
  simp only [zyo]
  rcases List.mem_cons.1 h with rfl | h
  ·omega
  ·have := zju h; omega
theorem Z6s {S S' : Nat → Prop} {w : World} (hS' : ∀ b, S b → b < w.heap.size → S' b) : ∀ (n : Nat) (t : Typ) (f : Nat → Option Value), Z6e t < n → (∀ (j : Nat) (y : PV), (ofTyp t).cells[j]? = some y → ∃ u, f j = some u ∧ VR (Z37 S w) y u) → TyA S' n w f
 | 0, t, f, h, _ => by omega
 | n + 1, .mk k o y p nm l q c, f, h, hv => by
  simp only [Z6e] at h
  rw [ofTyp, zcy] at hv
  have hB : ∀ {A : Option Addr} {e s m : Nat}, (Z37 S w).B A e s m → (Z37 S' w).B A e s m := fun hb => by
   rcases hb with hb | ⟨b, o, cs, z, q, h1, h2, h3, h4⟩
   ·exact .inl hb
   ·exact .inr ⟨b, o, cs, z, q, h1, hS' b h2 (z1d h3), h3, h4⟩
  refine ⟨fun j hj => ?_, ?_, ?_, ?_, ?_⟩
  ·match j, hj with
   | 0, _ => exact let ⟨u, h1, _⟩ := hv 0 _ rfl; ⟨u, h1⟩
   | 1, _ => exact let ⟨u, h1, _⟩ := hv 1 _ rfl; ⟨u, h1⟩
   | 2, _ => exact let ⟨u, h1, _⟩ := hv 2 _ rfl; ⟨u, h1⟩
   | 3, _ => exact let ⟨u, h1, _⟩ := hv 3 _ rfl; ⟨u, h1⟩
   | 4, _ => exact let ⟨u, h1, _⟩ := hv 4 _ rfl; ⟨u, h1⟩
   | 5, _ => exact let ⟨u, h1, _⟩ := hv 5 _ rfl; ⟨u, h1⟩
   | 6, _ => exact let ⟨u, h1, _⟩ := hv 6 _ rfl; ⟨u, h1⟩
   | 7, _ => exact let ⟨u, h1, _⟩ := hv 7 _ rfl; ⟨u, h1⟩
   | 8, _ => exact let ⟨u, h1, _⟩ := hv 8 _ rfl; ⟨u, h1⟩
   | 9, _ => exact let ⟨u, h1, _⟩ := hv 9 _ rfl; ⟨u, h1⟩
   | 10, _ => exact let ⟨u, h1, _⟩ := hv 10 _ rfl; ⟨u, h1⟩
   | 11, _ => exact let ⟨u, h1, _⟩ := hv 11 _ rfl; ⟨u, h1⟩
   | 12, _ => exact let ⟨u, h1, _⟩ := hv 12 _ rfl; ⟨u, h1⟩
   | 13, _ => exact let ⟨u, h1, _⟩ := hv 13 _ rfl; ⟨u, h1⟩
   | 14, _ => exact let ⟨u, h1, _⟩ := hv 14 _ rfl; ⟨u, h1⟩
   | 15, _ => exact let ⟨u, h1, _⟩ := hv 15 _ rfl; ⟨u, h1⟩
   | 16, _ => exact let ⟨u, h1, _⟩ := hv 16 _ rfl; ⟨u, h1⟩
   | 17, _ => exact let ⟨u, h1, _⟩ := hv 17 _ rfl; ⟨u, h1⟩
   | j + 18, hj => omega
  ·obtain ⟨u, h1, h2⟩ := hv 9 _ rfl
   obtain ⟨A, cp, hx, ⟨h3, h4⟩, _, h5⟩ := vr_sl.1 h2
   refine ⟨u, h1, A, _, cp, hx, h3.1, h3.2, hB h4, fun i hi => ?_⟩
   obtain ⟨_, b, o, hA, _⟩ := h5 i _ (List.getElem?_eq_getElem hi)
   exact ⟨b, o, hA, trivial⟩
  ·obtain ⟨u, h1, h2⟩ := hv 13 _ rfl
   obtain ⟨A, cp, hx, ⟨h3, h4⟩, _, h5⟩ := vr_sl.1 h2
   refine ⟨u, h1, A, _, cp, hx, h3.1, h3.2, hB h4, fun i hi => ?_⟩
   rw [List.length_map] at hi
   obtain ⟨_, b, o, hA, h6⟩ := h5 i (ofTyp p[i]) (by simp [hi])
   have := zju (List.getElem_mem hi)
   exact ⟨b, o, hA, Z6s hS' n _ _ (by omega) (fun j y hy => let ⟨u', ⟨_, h7⟩, h8⟩ := h6 j y hy; ⟨u', h7, h8⟩)⟩
  ·obtain ⟨u, h1, h2⟩ := hv 14 _ rfl
   obtain ⟨A, cp, hx, ⟨h3, h4⟩, _, h5⟩ := vr_sl.1 h2
   refine ⟨u, h1, A, _, cp, hx, h3.1, h3.2, hB h4, fun i hi => ?_⟩
   obtain ⟨_, b, o, hA, _⟩ := h5 i _ (List.getElem?_eq_getElem hi)
   exact ⟨b, o, hA, trivial⟩
  ·obtain ⟨u, h1, h2⟩ := hv 15 _ rfl
   obtain ⟨A, cp, hx, ⟨h3, h4⟩, _, h5⟩ := vr_sl.1 h2
   refine ⟨u, h1, A, _, cp, hx, h3.1, h3.2, hB h4, fun i hi => ?_⟩
   rw [List.length_map] at hi
   obtain ⟨_, b, o, hA, h6⟩ := h5 i (z17 l[i]) (by simp [hi])
   obtain ⟨u', ⟨_, h7⟩, h8⟩ := h6 0 _ rfl
   exact ⟨b, o, hA, _, h7.trans (congrArg some (vr_v.1 h8))⟩
def zj0 (t : Typ) : Option Unit := some ()
theorem zr3 (t : Typ) {u : Unit} (h : zj0 t = some u) : Z40 Try.prog 25 [z02 t] (.tup []) := by
 rw [← z1c]
 intro S us w hv
 obtain ⟨x, hx, hvx⟩ := hv.2 0 _ rfl
 have hus : us = #[x] := by
  refine Array.ext (by simpa using hv.1) fun i h1 h2 => ?_
  have : i = 0 := by simpa using h2
  subst this
  simpa [Array.getElem?_eq_getElem h1] using hx
 obtain ⟨cs, hcs⟩ : ∃ cs, ofTyp t = .agg cs ∧ cs.length = 18 := by cases t; exact ⟨_, rfl, rfl⟩
 rw [hcs.1] at hvx
 obtain ⟨vs, rfl, hl, hel⟩ := vr_agg.1 hvx
 have hty := Z6s (S := S) (S' := fun b => S b ∧ b < w.heap.size) (fun b h1 h2 => ⟨h1, h2⟩) (Z6e t + 1) t (fun j => vs[j]?) (Nat.lt_succ_self _) (fun j y hy => by
  rw [hcs.1] at hy
  exact hel j y hy)
 rw [hus]
 refine Calls.mono (Z2o (S := fun b => S b ∧ b < w.heap.size) (Z6e t + 1) w vs (fun b hb => hb.2) hty (by rw [hl, hcs.2])) ?_
 rintro e w' ⟨r, rfl, rfl, hW, _⟩
 exact ⟨_, rfl, vr_tup.2 ⟨[], rfl, rfl, by simp⟩, hW.os, hW.tape, hW.output, hW.size, fun b hb hn => hW.keep b hb (fun h => hn h.1), hW.kp⟩
end Go.Proofs.Ytiapdjdhaclmnaa
