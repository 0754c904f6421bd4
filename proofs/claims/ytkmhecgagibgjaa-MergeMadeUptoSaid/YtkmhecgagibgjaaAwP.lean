/- Aw: functions that may panic, as pure functions. -/
import Derived.Test.YtkmhecgagibgjaaAwM
namespace Go.Proofs.Ytkmhecgagibgjaa.Aw
open Go
set_option linter.unusedVariables false
set_option linter.unusedSimpArgs false
variable {P : Program} {H : List AEnt} {env : List (Nat × PV)} {n : Nat} {o : Oper} {σ : List Nat}
inductive Xr (S A : Type) where
  | ret (a : A)
  | pan (s : S)
section
variable {ι : Type} {ρ : ι → Type} {S T A B : Type}
end
theorem handB_mem {es Hp : List AEnt} : HandB σ es Hp → ∀ e, e ∈ es → ∀ k, k ∈ e.ids → k ∈ σ
  | .nil, e, he => by cases he
  | .cons h hr, e, he => by
    rcases List.mem_cons.1 he with rfl | he
    · exact h.ids
    · exact handB_mem hr e he
theorem endR {x y : PV} {Hp' : List AEnt} {R : PV → List AEnt → Prop} (m : Nat) (hw : Wk x y) (hH : H.take m = Hp') (hm : Nat.ble m H.length = true) (hy : RnS (List.range m) y y) (hB : HandB (List.range m) Hp' Hp') (hR : R y Hp') : EndOk H m x R :=
  endOkM m hw hH hm (fun k hk => List.mem_range.1 (hy.ids k hk)) (fun e he k hk => List.mem_range.1 (handB_mem hB e he k hk)) hR
section
variable {H0 : List AEnt} {K : AExit → ASt → Prop} {y : Code} {p : PV} {s : ASt} {id : Nat} {I : ASt → Prop}
end
end Go.Proofs.Ytkmhecgagibgjaa.Aw
