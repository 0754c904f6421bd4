/- A value against a number. -/
import Derived.Test.YthidgpcbnieleaaGreatDoorEqV
namespace Go.Proofs.YthidgpcbnieleaaGreatDoor
open Go Aw
set_option linter.unusedVariables false
set_option linter.unusedSimpArgs false
set_option maxRecDepth 8000
theorem Z0e : (Tryz.prog.info? 2).map (·.comparable) = some true := by kernel_rfl
abbrev V.eqInt (v : V) (s : Int) : Bool := match v with
 | .int q => q == s
 | _ => false
section
variable {H : List AEnt} {env : List (Nat × PV)} {n : Nat} {o : Oper}
theorem zoc {x y : Operand} {t t2 : TypeId} {ms : Array (String × TypeId)} {v : V} {s : Int} (ht : Tryz.prog.underlying t = some (.interface ms)) (ho : o.op = .binOp .eql t x y t2) (hx : ev env x = some (ofV v)) (hy : ev env y = some (ofV (.int s))) :
 Op1 Tryz.prog o env H n (.v (.bool (v.eqInt s))) H := by
 rw [ofV] at hy
 refine zz7 (r := v.eqInt s) ho hx hy (fun C u hv w => ?_)
 cases v with
 | nil => rw [ofV] at hv; exact zjk ht _ _ w (.inl (vr_v.1 hv))
 | int q =>
  rw [ofV] at hv; obtain ⟨u', hu, hq⟩ := vr_iface.1 hv
  rw [hu, vr_v.1 hq]
  exact ztj ht Z0e _ _ w (fun d => by simp [Op.equalIn, z1d Tryz.underlying2])
 | alien q => rw [ofV] at hv; obtain ⟨u', hu, _⟩ := vr_iface.1 hv; exact zjk ht _ _ w (.inr ⟨_, _, hu, fun e => by have := z48 q (k := 2) (by decide); rw [e] at this; simp at this⟩)
 | _ => rw [ofV] at hv; obtain ⟨u', hu, _⟩ := vr_iface.1 hv; exact zjk ht _ _ w (.inr ⟨_, _, hu, by decide⟩)
end
end Go.Proofs.YthidgpcbnieleaaGreatDoor
