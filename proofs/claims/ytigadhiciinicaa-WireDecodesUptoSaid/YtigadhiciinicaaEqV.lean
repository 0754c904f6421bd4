/- A value against a text or a truth. -/
import Derived.Test.YtigadhiciinicaaTy
import Derived.Test.YtigadhiciinicaaAwS
import Derived.KernelRfl
import Derived.Laws.StructEq
namespace Go.Proofs.Ytigadhiciinicaa
open Go Aw
set_option linter.unusedVariables false
set_option linter.unusedSimpArgs false
set_option maxRecDepth 8000
theorem cmp_bool : (Try.prog.info? 4).map (·.comparable) = some true := by kernel_rfl
theorem eq_unf2 (t : TypeId) (x y : Value) : ∃ d, Op.equal t x y = Op.equalIn (d + 2) t x y := ⟨9998, rfl⟩
theorem run_eqI {t ty : TypeId} {ms : Array (String × TypeId)} (ht : Try.prog.underlying t = some (.interface ms)) (x c : Value) (w : World) (hx : x = .nilIface ∨ ∃ u v, x = .iface u v ∧ u ≠ ty) : (Op.equal t x (.iface ty c)).run Try.prog w = .ok false w := by
  obtain ⟨d, hd⟩ := eq_unf2 t x (.iface ty c)
  rw [hd]
  rcases hx with rfl | ⟨u, v, rfl, hu⟩
  · simp [Op.equalIn, run_und ht]
  · simp [Op.equalIn, run_und ht, hu]
theorem run_eqII {t ty : TypeId} {ms : Array (String × TypeId)} (ht : Try.prog.underlying t = some (.interface ms)) (hc : (Try.prog.info? ty).map (·.comparable) = some true) (x c : Value) (w : World) {r : Bool} (hr : ∀ d, (Op.equalIn (d + 1) ty x c).run Try.prog w = .ok r w) : (Op.equal t (.iface ty x) (.iface ty c)).run Try.prog w = .ok r w := by
  obtain ⟨d, hd⟩ := eq_unf2 t (.iface ty x) (.iface ty c)
  rw [hd]
  obtain ⟨info, hi, hcm⟩ := Option.map_eq_some_iff.1 hc
  have h := hr d
  rw [Op.equalIn]
  simp [run_und ht, typeInfo, hi, hcm, h]
abbrev V.eqBool (v : V) (s : Bool) : Bool := match v with
  | .bool q => q == s
  | _ => false
section
variable {H : List AEnt} {env : List (Nat × PV)} {n : Nat} {o : Oper}
theorem op1_eqI {x y : Operand} {t t2 ty : TypeId} {v : V} {c : Value} {r : Bool} (ho : o.op = .binOp .eql t x y t2) (hx : ev env x = some (ofV v)) (hy : ev env y = some (.iface ty (.v c)))
    (hr : ∀ C u, VR C (ofV v) u → ∀ w, (Op.equal t u (.iface ty c)).run Try.prog w = .ok r w) : Op1 Try.prog o env H n (.v (.bool r)) H :=
  op1_same fun F g a w hr' => by
    refine ⟨_, vr_v.2 rfl, ?_⟩
    obtain ⟨u', hu, hc⟩ := vr_iface.1 (hr'.opd hy)
    rw [vr_v.1 hc] at hu
    have h2 := hr _ (a.eval x) (hr'.opd hx) w
    have hg : (eqGuard .eql t x y (a.eval x) (.iface ty c)).run Try.prog w = .ok () w := by
      cases a.eval x <;> simp [eqGuard]
    simp [execOp, ho, hu, hg, binOp, h2]
theorem op1_vEqBool {x y : Operand} {t t2 : TypeId} {ms : Array (String × TypeId)} {v : V} {s : Bool} (ht : Try.prog.underlying t = some (.interface ms)) (ho : o.op = .binOp .eql t x y t2) (hx : ev env x = some (ofV v)) (hy : ev env y = some (ofV (.bool s))) :
    Op1 Try.prog o env H n (.v (.bool (v.eqBool s))) H := by
  rw [ofV] at hy
  refine op1_eqI (r := v.eqBool s) ho hx hy (fun C u hv w => ?_)
  cases v with
  | nil => rw [ofV] at hv; exact run_eqI ht _ _ w (.inl (vr_v.1 hv))
  | bool q =>
    rw [ofV] at hv; obtain ⟨u', hu, hq⟩ := vr_iface.1 hv
    rw [hu, vr_v.1 hq]
    exact run_eqII ht cmp_bool _ _ w (fun d => by simp [Op.equalIn, run_und Try.underlying4])
  | alien q => rw [ofV] at hv; obtain ⟨u', hu, _⟩ := vr_iface.1 hv; exact run_eqI ht _ _ w (.inr ⟨_, _, hu, fun e => by have := alien_ne q (k := 4) (by decide); rw [e] at this; simp at this⟩)
  | _ => rw [ofV] at hv; obtain ⟨u', hu, _⟩ := vr_iface.1 hv; exact run_eqI ht _ _ w (.inr ⟨_, _, hu, by decide⟩)
end
end Go.Proofs.Ytigadhiciinicaa
