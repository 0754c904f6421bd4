/- Aw: functions that hold variables, handed over; deferred closures where nothing panics. -/
import Derived.Test.YtkmhecgagibgjaaAwI
import Derived.Test.YtkmhecgagibgjaaAwM
import Derived.Test.YtkmhecgagibgjaaAwH
namespace Go.Proofs.Ytkmhecgagibgjaa.Aw
open Go
set_option linter.unusedVariables false
set_option linter.unusedSimpArgs false
variable {P : Program} {H : List AEnt} {env : List (Nat × PV)} {n : Nat} {o : Oper}
def IdsLtL (k : Nat) (l : List PV) : Prop := ∀ i, i ∈ PV.ids.idsL l → i < k
theorem ill_nil {k : Nat} : IdsLtL k [] := fun i hi => by cases hi
theorem ill_cons {k : Nat} {x : PV} {r : List PV} (h : IdsLt k x) (hr : IdsLtL k r) : IdsLtL k (x :: r) := fun i hi => by
  rw [idsL_cons', List.mem_append] at hi
  rcases hi with hi | hi
  · exact h i hi
  · exact hr i hi
theorem il_fn {k : Nat} {f : Fn} {l : List PV} (h : IdsLtL k l) : IdsLt k (.fn f [] l) := fun i hi => h i (by simpa only [PV.ids, PV.ids.idsL, List.nil_append] using hi)
theorem dcalls_plain {f : FuncId} {fn : Func} {c : Code} {args : List PV} {Hp : List AEnt} {Q : List AEnt → Prop} {N : Nat} (hf : P.funcs[f]? = some fn) (hb : fn.body = some c) (hN : fn.ntmps = N) (hres : fn.results = #[]) (hlen : Nat.ble args.length N = true)
    (h : AW P c ⟨paramsE 0 args, Hp, N⟩ (endK P [] Hp.length (fun r H' => r = .ret (.tup []) ∧ Q H'))) : DCalls P f args Hp .ret Q := by
  intro F g vargs w u0 hrel hargs hu
  refine callsD_of_wpS hf hb ?_
  intro c0 cs hc0
  have hlen' := Nat.le_of_ble_eq_true hlen
  have hr : Rel P ⟨F, []⟩ ⟨paramsE 0 args, Hp, N⟩ { tmps := vargs ++ Array.replicate (fn.ntmps - vargs.size) undef, defers := [] } w g := by
    refine ⟨hrel, fun t x hx => ?_, ?_, rfl⟩
    · obtain ⟨_, h1⟩ := paramsE_get hx
      obtain ⟨u, h2, h3⟩ := hargs.2 _ _ h1
      refine ⟨u, ?_, h3⟩
      have : t < vargs.size := by simpa using lt_of_get h2
      show (vargs ++ _)[t]? = some u
      rw [Array.getElem?_append_left this]
      simpa using h2
    · show (vargs ++ _).size = N
      simp [hargs.1, hN]; omega
  cases u0 with
  | returning =>
    have e0 : ({ c0 with mode := FrameMode.returning } : Frame) = c0 := by rw [← hc0]
    refine wpS_of_wp (wp_mono (h ⟨F, []⟩ g _ w hr) ?_)
    rintro e a' w' ⟨x, s', g', h1, h2, h3, h4⟩
    have fin : ∀ xs, resPVs P s'.env s'.H [] = some xs → EndOk s'.H Hp.length (tupPV xs) (fun x H' => (ARes.ret x = .ret (.tup []) ∧ Q H')) → bodyPostS P fn c0 cs (fun e u' w' => ∃ v H' g', e = .returned v ∧ settle u' = .returning ∧ RelH P F H' g' w' ∧ Ext P F Hp g w H' g' w' ∧ Q H') .ret a' (c0 :: cs) w' := by
      rintro xs hx ⟨σ, y, e1, e2, e3, e4, e5, e6, e7⟩
      obtain ⟨v', h5, h6⟩ := run_results (fn := fn) (rs := []) (by simpa using hres) h2 hx
      refine ⟨h2.defers, .returning, by rw [e0], v', h5, v', _, _, rfl, rfl, pick_rel h2.rel e1 (drop_fits h2.rel σ) e2 e6, drop_ext h3 hrel h2.rel rfl e1 e2 e3, e7.2⟩
    cases x <;> cases e <;> first
      | exact h1.elim
      | exact h4.elim
      | (obtain ⟨xs, hx, hend⟩ := h4; exact fin xs hx hend)
      | skip
    obtain ⟨_, _, _, _, _, _, _, _, e7⟩ := (show EndOk s'.H Hp.length _ (fun x H' => (ARes.pan x = .ret (.tup []) ∧ Q H')) from h4)
    cases e7.1
  | _ => exact hu.elim
end Go.Proofs.Ytkmhecgagibgjaa.Aw
