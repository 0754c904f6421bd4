/- Aw: a call whose answer is an empty row with room of its own (slices.Grow of nothing). -/
import Derived.Test.YthidgpcbnieleaaE0
namespace Go.Proofs.Ythidgpcbnieleaa
namespace Aw
open Go
set_option linter.unusedVariables false
set_option linter.unusedSimpArgs false
set_option maxRecDepth 4000
variable {P : Program} {H : List AEnt} {env : List (Nat × PV)} {n : Nat} {o : Oper}
section
variable {N : Nat} {ds : List Deferred} {env : VE} {w w' : World}
theorem zzm {x : Operand} {t e : TypeId} {A : Option Addr} {l c : Nat} (ht : P.underlying t = some (.slice e)) (ho : o.op = .call { callee := .builtin .cap, args := #[x], argTypes := #[t] }) (hx : vev env x = some (.slice A l c)) (a : Act) (ha : AR N ds env a) :
 (execOp a.eval o).run P w = .ok (.value (.int .i64 c)) w := by simp [execOp, ho, resolve, invoke, builtin, ha.ev hx, Builtin.cap_, z13 ht, goInt]
theorem zzk {t t2 : TypeId} {x y : Operand} {i j : Int} (ho : o.op = .binOp .sub t x y t2) (hx : vev env x = some (.int .i64 i)) (hy : vev env y = some (.int .i64 j)) (h1 : -9223372036854775808 ≤ i - j ∧ i - j ≤ 9223372036854775807) (a : Act) (ha : AR N ds env a) :
 (execOp a.eval o).run P w = .ok (.value (.int .i64 (i - j))) w := by simp [execOp, ho, ha.ev hx, ha.ev hy, eqGuard, binOp, Op.intArith, za3 h1.1 h1.2]
theorem z7k {f : FuncId} {fn : Func} {c : Code} {args : List Value} {w : World} {R : Ending → World → Prop} {M r : Nat} (hf : P.funcs[f]? = some fn) (hb : fn.body = some c) (hN : fn.ntmps = M) (hres : fn.results = #[.tmp r]) (hlen : Nat.ble args.length M = true)
 (h : XW P M [] c (args.zipIdx.map fun p => (p.2, p.1)) w (fun e env w' => match e with | .ret => ∃ v, z80 env r = some v ∧ R (.returned v) w' | _ => False)) : Calls P f args.toArray w R := by
 refine calls_of_wp hf hb ?_
 have hlen' := Nat.le_of_ble_eq_true hlen
 have hget : ∀ (l : List Value) (k t : Nat) (v : Value), z80 ((l.zipIdx k).map fun p => (p.2, p.1)) t = some v → k ≤ t ∧ l[t - k]? = some v := by
  intro l
  induction l with
  | nil => intro k t v hv; cases hv
  | cons x r ih =>
   intro k t v hv
   simp only [List.zipIdx_cons, List.map_cons, z80] at hv
   cases hb : Nat.beq k t with
   | true =>
    rw [hb] at hv; simp at hv; subst hv
    have := beq_iff'.1 hb; subst this
    exact ⟨Nat.le_refl _, by simp⟩
   | false =>
    rw [hb] at hv
    obtain ⟨h1, h2⟩ := ih (k + 1) t v hv
    refine ⟨by omega, ?_⟩
    rw [show t - k = (t - (k + 1)) + 1 by omega]; simpa using h2
 have ha : AR M [] (args.zipIdx.map fun p => (p.2, p.1)) { tmps := args.toArray ++ Array.replicate (fn.ntmps - args.toArray.size) undef, defers := [] } := by
  refine ⟨fun t v hv => ?_, ?_, rfl⟩
  ·obtain ⟨_, h1⟩ := hget args 0 t v hv
   rw [Nat.sub_zero] at h1
   have hlt := z0a h1
   show (args.toArray ++ _)[t]? = some v
   rw [Array.getElem?_append_left (by simpa using hlt)]; simpa using h1
  ·show (args.toArray ++ _).size = M
   simp [hN]; omega
 refine wp_mono (h _ ha) ?_
 rintro e a' w' ⟨env', h1, h2⟩
 cases e <;> first
  | exact h2.elim
  | skip
 obtain ⟨v, h3, h4⟩ := h2
 have hr : (results fn a'.tmps).run P w' = .ok v w' := by
  rw [za9 (rs := [.tmp r]) hres]
  have h5 := h1.env r v h3
  simp [zea, Array.getD_eq_getD_getElem?, h5]
 exact ⟨h1.ds, v, hr, h4⟩
end
end Aw
end Go.Proofs.Ythidgpcbnieleaa
