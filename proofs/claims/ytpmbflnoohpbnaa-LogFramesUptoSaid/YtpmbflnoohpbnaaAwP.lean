/- Aw: functions that may panic, as pure functions. -/
import Derived.Test.YtpmbflnoohpbnaaAwM
namespace Go.Proofs.Ytpmbflnoohpbnaa.Aw
open Go
set_option linter.unusedVariables false
set_option linter.unusedSimpArgs false
variable {P : Program} {H : List AEnt} {env : List (Nat × PV)} {n : Nat} {o : Oper} {σ : List Nat}
inductive Xr (S A : Type) where
  | ret (a : A)
  | pan (s : S)
def xbind {S T A B : Type} (o : Option (Xr S A)) (m : S → T) (f : A → Option (Xr T B)) : Option (Xr T B) := o.bind fun x => match x with
  | .ret a => f a
  | .pan s => some (.pan (m s))
theorem xbind_some {S T A B : Type} {o : Option (Xr S A)} {m : S → T} {f : A → Option (Xr T B)} {r : Xr T B} (h : xbind o m f = some r) : (∃ s, o = some (.pan s) ∧ r = .pan (m s)) ∨ (∃ a, o = some (.ret a) ∧ f a = some r) := by
  unfold xbind at h
  obtain ⟨x, h1, h2⟩ := Option.bind_eq_some_iff.1 h
  cases x with
  | ret a => exact .inr ⟨a, h1, h2⟩
  | pan s => injection h2 with h2; exact .inl ⟨s, h1, h2.symm⟩
theorem xbind_ret {S T A B : Type} {a : A} {m : S → T} {f : A → Option (Xr T B)} : xbind (some (.ret a)) m f = f a := rfl
theorem xbind_pan {S T A B : Type} {s : S} {m : S → T} {f : A → Option (Xr T B)} : xbind (some (.pan s)) m f = some (.pan (m s)) := rfl
section
variable {ι : Type} {ρ : ι → Type} {S T A B : Type}
theorem cm_xbind {φ : (∀ i, Option (ρ i)) → Option (Xr S A)} {m : S → T} {ψ : (∀ i, Option (ρ i)) → A → Option (Xr T B)} (h1 : CM φ) (h2 : ∀ x, CM (fun g => ψ g x)) : CM (fun g => xbind (φ g) m (fun x => ψ g x)) := by
  refine cm_bind h1 (fun x => ?_)
  cases x with
  | ret a => exact h2 a
  | pan s => exact cm_const
end
abbrev XQ {S A : Type} (r : Xr S A) (X : A → PV) (E : A → List AEnt) (Y : S → PV) (K : S → List AEnt) : ARes → List AEnt → Prop := fun q H' => match r with
  | .ret a => q = .ret (X a) ∧ H' = E a
  | .pan s => q = .pan (Y s) ∧ H' = K s
theorem xq_ret {S A : Type} {a : A} {X : A → PV} {E : A → List AEnt} {Y : S → PV} {K : S → List AEnt} {q : ARes} {H' : List AEnt} (h1 : q = .ret (X a)) (h2 : H' = E a) : XQ (.ret a) X E Y K q H' := ⟨h1, h2⟩
theorem xq_pan {S A : Type} {s : S} {X : A → PV} {E : A → List AEnt} {Y : S → PV} {K : S → List AEnt} {q : ARes} {H' : List AEnt} (h1 : q = .pan (Y s)) (h2 : H' = K s) : XQ (.pan s) X E Y K q H' := ⟨h1, h2⟩
theorem wfH_ids {k : Nat} : ∀ {H : List AEnt}, WfH k H → ∀ e, e ∈ H → ∀ i, i ∈ e.ids → i < k
  | [], _, e, he => by cases he
  | .box t cs :: r, hw, e, he => by
    rcases List.mem_cons.1 he with rfl | he
    · intro i hi
      obtain ⟨p, hp, hi⟩ := mem_idsL.1 (by simpa only [AEnt.ids] using hi)
      obtain ⟨j, hj⟩ := List.getElem?_of_mem hp
      exact hw.1.get hj i hi
    · exact wfH_ids hw.2 e he
  | .arr _ _ :: r, hw, e, he => by
    rcases List.mem_cons.1 he with rfl | he
    · intro i hi; cases hi
    · exact wfH_ids (H := r) hw e he
  | .reg :: r, hw, e, he => by
    rcases List.mem_cons.1 he with rfl | he
    · intro i hi; cases hi
    · exact wfH_ids (H := r) hw e he
  | .dead :: r, hw, e, he => by
    rcases List.mem_cons.1 he with rfl | he
    · intro i hi; cases hi
    · exact wfH_ids (H := r) hw e he
theorem endM {x y : PV} {Hp' : List AEnt} {R : PV → List AEnt → Prop} (m : Nat) (hw : Wk x y) (hH : H.take m = Hp') (hm : Nat.ble m H.length = true) (hy : IdsLt m y) (hW : WfH m Hp') (hR : R y Hp') : EndOk H m x R := endOkM m hw hH hm hy (wfH_ids hW) hR
theorem handB_mem {es Hp : List AEnt} : HandB σ es Hp → ∀ e, e ∈ es → ∀ k, k ∈ e.ids → k ∈ σ
  | .nil, e, he => by cases he
  | .cons h hr, e, he => by
    rcases List.mem_cons.1 he with rfl | he
    · exact h.ids
    · exact handB_mem hr e he
theorem endR {x y : PV} {Hp' : List AEnt} {R : PV → List AEnt → Prop} (m : Nat) (hw : Wk x y) (hH : H.take m = Hp') (hm : Nat.ble m H.length = true) (hy : RnS (List.range m) y y) (hB : HandB (List.range m) Hp' Hp') (hR : R y Hp') : EndOk H m x R :=
  endOkM m hw hH hm (fun k hk => List.mem_range.1 (hy.ids k hk)) (fun e he k hk => List.mem_range.1 (handB_mem hB e he k hk)) hR
theorem endK_pan {res : List ResultVar} {m : Nat} {R : ARes → List AEnt → Prop} {p : PV} {s : ASt} (h : EndOk s.H m p (fun x H' => R (.pan x) H')) : endK P res m R (.panic p) s := h
section
variable {H0 : List AEnt} {K : AExit → ASt → Prop} {y : Code} {p : PV} {s : ASt} {id : Nat} {I : ASt → Prop}
theorem seqB_pan (h : K (.panic p) s) : seqB P H0 y K (.panic p) s := h
theorem blockK_pan (h : K (.panic p) s) : blockK id K (.panic p) s := h
theorem jumpK_pan (h : K (.panic p) s) : jumpK I K (.panic p) s := h
end
theorem ao_panic {x : Operand} {t : TypeId} {p : PV} {ops : Array Oper} {rest : List Oper} {K : AExit → ASt → Prop} (ho : o.op = .panic x) (hg : o.guard = none) (hx : ev env x = some (.iface t p)) (h : K (.panic (.iface t p)) ⟨env, H, n⟩) : AO P ops (o :: rest) ⟨env, H, n⟩ K := by
  intro F g a w hr
  refine wpList_plain hg (fun K' hK' => ?_)
  obtain ⟨u, hu, hv⟩ := vr_iface.1 (hr.opd hx)
  have hrun : (execOp a.eval o).run P w = .halt (.panic (.iface t u)) w := by
    simp only [execOp, ho, hu]
    simp [Instr.panic, goPanic]
  unfold Oper.wp
  rw [hrun]
  exact ⟨.panic (.iface t p), ⟨env, H, n⟩, g, ⟨_, rfl, vr_iface.2 ⟨u, rfl, hv⟩⟩, hr, .refl, h⟩
theorem remB (x : UInt8) (y : Int) : Int.tmod (x.toNat : Int) y = ((UInt8.ofInt (Int.tmod (x.toNat : Int) y)).toNat : Int) := by
  have h0 := x.toNat_lt
  have h1 : 0 ≤ Int.tmod (x.toNat : Int) y := Int.tmod_nonneg _ (by omega)
  have h2 : Int.tmod (x.toNat : Int) y ≤ x.toNat := by
    rcases Int.natAbs_eq y with h | h
    · rw [h, ← Int.ofNat_tmod]; exact Int.ofNat_le.2 (Nat.mod_le _ _)
    · rw [h, Int.tmod_neg, ← Int.ofNat_tmod]; exact Int.ofNat_le.2 (Nat.mod_le _ _)
  have h3 := toU8_wrap (Int.tmod (x.toNat : Int) y)
  have h4 : IntKind.u8.wrap (Int.tmod (x.toNat : Int) y) = (Int.tmod (x.toNat : Int) y) % 256 := rfl
  rw [← h3, h4]; omega
def natO (i : Int) : Option Nat := bif decide (0 ≤ i) then some i.toNat else none
theorem natO_some {i : Int} {c : Nat} (h : natO i = some c) : i = (c : Nat) := by
  unfold natO at h
  by_cases hi : 0 ≤ i
  · rw [decide_eq_true hi] at h; simp at h; omega
  · rw [decide_eq_false hi] at h; cases h
theorem op1_mkMI {α : Type} {f : α → PV} {t e : TypeId} {x y : Operand} {z : Value} {sz b_ : Nat} {k1 k2 : IntKind} {c : Nat} {i : Int} {u : Unit} (hi0 : natO i = some c) (ht : P.underlying t = some (.slice e)) (hi : Inf P e z sz b_) (hz : z.cells.size = sz) (ho : o.op = .makeSlice t x y)
    (hx : ev env x = some (.v (.int k1 ((0 : Nat) : Int)))) (hy : ev env y = some (.v (.int k2 i))) (hu : roomO c b_ = some u) {p : PV} (hp : p.cells = z.cells.toList.map .v) :
    Op1 P o env H n (.sl (some H.length) e sz (([] : List α).map f)) (H ++ [.arr e ([] : List α).length]) := op1_mkM ht hi hz ho hx (by rw [hy, natO_some hi0]) hu hp
end Go.Proofs.Ytpmbflnoohpbnaa.Aw
