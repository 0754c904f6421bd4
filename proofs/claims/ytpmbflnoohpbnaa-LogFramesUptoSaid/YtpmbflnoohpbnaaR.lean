/- The law LogFrames: its row, out of the plain law on its pure function: it answers true at every input of bulk at most 1048576, and leaves what came in as it was. -/
import Derived.Test.YtpmbflnoohpbnaaD4
namespace Go.Proofs.Ytpmbflnoohpbnaa
open Go Aw Go.ChangeShapes Go.WideShapes Go.ChangeAt Go.RowKit
set_option linter.unusedVariables false
set_option linter.unusedSimpArgs false
set_option maxRecDepth 8000
namespace LogFrames
def bk_S_api_Frame (p : S_api_Frame) : Nat := 1 + (p.f_Body.length + 1)
def ok_S_api_Frame (p : S_api_Frame) : Prop := (inI .i64) p.f_Kind ∧ (fun l => ∀ a, a ∈ l → (fun _ => True) a) p.f_Body
theorem rd_S_api_Frame {H : Type} {enc : TypeId × Value → H} {w : World} {base : Nat} {spare : Nat → Bool} {held : Bool} {n : Nat} : RD enc Try.prog w base spare held n 33 of_api_Frame bk_S_api_Frame ok_S_api_Frame := by
  intro cs x h
  obtain ⟨xs, m, rfl, rfl, hl, hlen, hf⟩ := DataW.trod_struct Try.underlying33 h
  match xs, hlen with
  | [x0, x1], _ =>
  obtain ⟨a0, t0, b0, o0⟩ := (rd_int Try.underlying3) _ _ (hf 0 _ rfl)
  obtain ⟨a1, t1, b1, o1⟩ := (rd_slice Try.underlying23 (Inf.cells inf_5) rfl (fun _ _ => (rd_u8 Try.underlying5))) _ _ (hf 1 _ rfl)
  refine ⟨⟨a0, a1⟩, tv_of_at (tvat_app (tvat_of t0) (k := 1) rfl (tvat_app (tvat_of t1) (k := 1) rfl tvat_nil)) (by rw [hl, Inf.cells inf_33]; rfl), ?_, ⟨o0, o1⟩⟩
  (try dsimp only at b0); (try dsimp only at b1)
  have s1 : ∀ {α : Type} (l : List α), (l.map fun _ => 1).sum = l.length := fun l => by induction l with | nil => rfl | cons x r ih => rw [List.map_cons, List.sum_cons, ih, List.length_cons]; omega
  try simp only [s1] at *
  simp only [Rows.uptoBulk, Rows.uptoBulkAll, List.map_cons, List.map_nil, bk_S_api_Frame]; omega
theorem contract (H : Type) (enc : TypeId × Value → H) (W : World) (base : Nat) (args : Array Value) (ds gs : List (DataW H)) (before : List MemPlace)
    (hval : ∀ (j : Nat) t v, Try.f5.params[j]? = some t → args[j]? = some v → Value.okWide Try.prog W .any base t v)
    (hk : Rows.uptoSmall H (ds ++ gs) = true)
    (hW : DataW.Whole enc Try.prog Try.f5.params.toList Rows.logFramesSpec.vars false W args.toList ds gs before) :
    Calls Try.prog 5 args W fun e W' => ∃ v, e = .returned v ∧ Rows.logFramesSpec.post enc Try.prog Try.f5 false true false false W args v W' := by
  have hW' := hW
  obtain ⟨p, q, hA0, hV, rfl, hfz, hnd⟩ := hW
  have hA : DataW.TrodAll enc Try.prog W 0 (fun _ => true) true Try.f5.params.toList args.toList ds p := hA0
  rw [Try.params5] at hA hval
  obtain ⟨v0, vs0, d0, ds0, p0, q0, hargs, rfl, rfl, h0, r0⟩ := trodAll_cons hA
  obtain ⟨v1, vs1, d1, ds1, p1, q1, hargs1, rfl, rfl, h1, r1⟩ := trodAll_cons r0
  obtain ⟨rfl, rfl, rfl⟩ := trodAll_nil r1
  obtain rfl : args = #[v0, v1] := by cases args; simp_all
  obtain ⟨rfl, rfl⟩ := trodVars_none hV
  clear hA0
  obtain ⟨c0, rfl, hz0⟩ := okWide_struct Try.underlying33 (hval 0 33 v0 rfl rfl)
  obtain ⟨fu0, hf0⟩ := h0
  obtain ⟨a0, tv0, bk0, ok0⟩ := (rd_S_api_Frame) _ _ hf0
  (try dsimp only at bk0)
  obtain ⟨sa1, sl1, sc1, rfl⟩ := okWide_slice Try.underlying23 (hval 1 23 v1 rfl rfl)
  obtain ⟨fu1, hf1⟩ := h1
  obtain ⟨a1, tv1, bk1, ok1⟩ := (rd_slice Try.underlying23 (Inf.cells inf_5) rfl (fun _ _ => (rd_u8 Try.underlying5))) _ _ hf1
  (try dsimp only at bk1)
  simp only [List.append_nil] at hk
  have hbulk : Rows.uptoBulkAll [d0, d1] ≤ 1048576 := of_decide_eq_true hk
  simp only [Rows.uptoBulkAll] at hbulk
  have hp := plain_LogFrames a0 a1 (by (try dsimp only); simp only [show bk_S_api_Frame = (fun p => 1 + (p.f_Body.length + 1)) from rfl] at *; omega) 
  refine (calls0 (v := .bool true) (s_law19_LogFrames a0 a1 true hp) (args := #[.agg c0, .slice sa1 sl1 sc1]) ⟨rfl, fun i x hx => ?_⟩).mono fun e W' ⟨he, hg⟩ => ?_
  · match i with
    | 0 => simp only [List.getElem?_cons_succ, List.getElem?_cons_zero, Option.some.injEq] at hx; subst hx; exact ⟨_, rfl, (show VR (ctx0 Try.prog W) (of_api_Frame a0) _ from tv_agg tv0)⟩
    | 1 => simp only [List.getElem?_cons_succ, List.getElem?_cons_zero, Option.some.injEq] at hx; subst hx; exact ⟨_, rfl, (show VR (ctx0 Try.prog W) (PV.sl none 5 1 (List.map ofB a1)) _ from tv_one' rfl tv1)⟩
    | i + 2 => simp at hx
  · subst he
    exact ⟨_, rfl, row_post (tb := 4) hW' hg laidOut (by kernel_rfl) Try.underlying4 (by kernel_rfl) rfl rfl rfl rfl⟩
set_option maxRecDepth 100000 in
theorem lifted (os : Os) (started : os.Started) (H : Type) (enc : TypeId × Value → H) (F : Stop.Interp) :
    ReturnsInHanded {} Try.checked os 5 .any ((Rows.OpenSpec.upto Rows.logFramesSpec).pre6 enc Try.prog Try.f5 Rows.logFramesUptoRow.domain false) (((Rows.OpenSpec.upto Rows.logFramesSpec).at F).post enc Try.prog Try.f5 false true false false) := by
  refine returnsInHanded_of_cond (C := Try.checked) (s := Rows.OpenSpec.upto Rows.logFramesSpec) (k := Rows.uptoSmall) rfl own started (by kernel_rfl) Try.func5
    (OpenSpec.witness (enc := enc) (C := Try.checked) (s := Rows.OpenSpec.upto Rows.logFramesSpec) (k := Rows.uptoSmall) rfl false ⟨#[], #[.agg #[.int .i64 0, .slice none 0 0], .slice none 0 0], []⟩ 8 (by kernel_rfl) (by kernel_rfl) (by kernel_rfl)
      (x := ([.agg [.lit (.int .i64 0), .nil], .nil], [], [])) (by kernel_rfl) rfl (by kernel_rfl)) ?_
  intro W base args ds gs before hval hW _ hk _
  exact contract H enc W base args ds gs before hval hk hW
theorem said : Rows.LogFramesUptoSaid :=
  OpenClaim.holds_of_cond 5 Try.f5 rfl rfl rfl rfl rfl rfl rfl ⟨rfl, rfl, rfl, rfl, rfl⟩ rfl rfl rfl rfl rfl (by kernel_rfl) Try.func5 (by kernel_rfl)
    (of_decide_eq_true (by kernel_rfl)) (by unfold Func.isWrapper; first | (rw [if_pos (by decide +kernel)]; kernel_rfl) | (rw [if_neg (by decide +kernel)]; exact ⟨rfl, rfl⟩))
    (fun os started H enc _ F => lifted os started H enc F)
end LogFrames
end Go.Proofs.Ytpmbflnoohpbnaa
#print axioms Go.Proofs.Ytpmbflnoohpbnaa.LogFrames.said
