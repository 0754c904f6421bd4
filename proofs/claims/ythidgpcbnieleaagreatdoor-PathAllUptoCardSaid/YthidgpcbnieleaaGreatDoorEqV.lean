/- A value against a text or a truth. -/
import Derived.Test.YthidgpcbnieleaaGreatDoorTy
import Derived.Test.YthidgpcbnieleaaGreatDoorAwS
import Derived.KernelRfl
import Derived.Laws.StructEq
namespace Go.Proofs.YthidgpcbnieleaaGreatDoor
open Go Aw
set_option linter.unusedVariables false
set_option linter.unusedSimpArgs false
set_option maxRecDepth 8000
theorem zsb (t : TypeId) (x y : Value) : ∃ d, Op.equal t x y = Op.equalIn (d + 2) t x y := ⟨9998, rfl⟩
theorem zjk {t ty : TypeId} {ms : Array (String × TypeId)} (ht : Tryz.prog.underlying t = some (.interface ms)) (x c : Value) (w : World) (hx : x = .nilIface ∨ ∃ u v, x = .iface u v ∧ u ≠ ty) : (Op.equal t x (.iface ty c)).run Tryz.prog w = .ok false w := by
 obtain ⟨d, hd⟩ := zsb t x (.iface ty c)
 rw [hd]
 rcases hx with rfl | ⟨u, v, rfl, hu⟩
 ·simp [Op.equalIn, z1d ht]
 ·simp [Op.equalIn, z1d ht, hu]
theorem ztj {t ty : TypeId} {ms : Array (String × TypeId)} (ht : Tryz.prog.underlying t = some (.interface ms)) (hc : (Tryz.prog.info? ty).map (·.comparable) = some true) (x c : Value) (w : World) {r : Bool} (hr : ∀ d, (Op.equalIn (d + 1) ty x c).run Tryz.prog w = .ok r w) : (Op.equal t (.iface ty x) (.iface ty c)).run Tryz.prog w = .ok r w := by
 obtain ⟨d, hd⟩ := zsb t (.iface ty x) (.iface ty c)
 rw [hd]
 obtain ⟨info, hi, hcm⟩ := Option.map_eq_some_iff.1 hc
 have h := hr d
 rw [Op.equalIn]
 simp [z1d ht, typeInfo, hi, hcm, h]
section
variable {H : List AEnt} {env : List (Nat × PV)} {n : Nat} {o : Oper}
theorem zz7 {x y : Operand} {t t2 ty : TypeId} {v : V} {c : Value} {r : Bool} (ho : o.op = .binOp .eql t x y t2) (hx : ev env x = some (ofV v)) (hy : ev env y = some (.iface ty (.v c)))
 (hr : ∀ C u, VR C (ofV v) u → ∀ w, (Op.equal t u (.iface ty c)).run Tryz.prog w = .ok r w) : Op1 Tryz.prog o env H n (.v (.bool r)) H :=
 z1a fun F g a w hr' => by
  refine ⟨_, vr_v.2 rfl, ?_⟩
  obtain ⟨u', hu, hc⟩ := vr_iface.1 (hr'.opd hy)
  rw [vr_v.1 hc] at hu
  have h2 := hr _ (a.eval x) (hr'.opd hx) w
  have hg : (eqGuard .eql t x y (a.eval x) (.iface ty c)).run Tryz.prog w = .ok () w := by
   cases a.eval x <;> simp [eqGuard]
  simp [execOp, ho, hu, hg, binOp, h2]
end
end Go.Proofs.YthidgpcbnieleaaGreatDoor
