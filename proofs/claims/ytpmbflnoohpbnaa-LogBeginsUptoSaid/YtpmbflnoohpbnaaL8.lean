/- Chapter 19: LogBegins' row. -/
import Derived.Test.YtpmbflnoohpbnaaL7
import Derived.Test.YtpmbflnoohpbnaaAw10
namespace Go.Proofs.Ytpmbflnoohpbnaa
open Go Aw Go.ChangeShapes Go.WideShapes Go.ChangeAt Go.RowKit
set_option linter.unusedVariables false
set_option linter.unusedSimpArgs false
set_option maxRecDepth 8000

theorem own : ownKnob Try.prog.godebug = none := by kernel_rfl
theorem laidOut : laidOutB Try.prog = true := by kernel_rfl
theorem cells_u8 : Try.prog.cellsOf 5 = 1 := by kernel_rfl
theorem cells_fr : Try.prog.cellsOf 33 = 2 := by kernel_rfl
section
variable {H : Type} {enc : TypeId × Value → H} {w : World} {base : Nat} {spare : Nat → Bool} {held : Bool}
theorem wf_u8 {n : Int} (h : (Lit.int .u8 n).wf = true) : 0 ≤ n ∧ n < 256 := by
  simp only [Lit.wf, Bool.and_eq_true, decide_eq_true_eq] at h
  have h1 : IntKind.u8.min = 0 := rfl
  have h2 : IntKind.u8.max = 255 := rfl
  omega
theorem wf_i64 {n : Int} (h : (Lit.int .i64 n).wf = true) : isI64 n := by
  simp only [Lit.wf, Bool.and_eq_true, decide_eq_true_eq] at h
  have h1 : IntKind.i64.min = -9223372036854775808 := rfl
  have h2 : IntKind.i64.max = 9223372036854775807 := rfl
  unfold isI64; omega
theorem sum_ones : ∀ (l : List UInt8), (l.map fun _ => 1).sum = l.length
  | [] => rfl
  | x :: r => by have := sum_ones r; rw [List.map_cons, List.sum_cons, List.length_cons]; omega
theorem bytes_rd {fuel : Nat} {cs : List Value} {x : DataW H × List MemPlace} (h : DataW.trod enc Try.prog w base spare held fuel 23 cs = some x) :
    ∃ v bs, cs = [v] ∧ VR (ctx0 Try.prog w) (bsl bs) v ∧ bs.length + 1 ≤ Rows.uptoBulk x.1 := by
  obtain ⟨v, bs, h1, h2, h3, _⟩ := slice_rd (fun b : UInt8 => .v (.int .u8 b.toNat)) (fun _ => 1) 1 (fun _ => True) Try.underlying23 (by rw [cells_u8]; decide) (fun n cs' y hy hl => by
    obtain ⟨k, rfl, hk, hb⟩ := int_rd Try.underlying5 hy
    have := wf_u8 hk
    refine ⟨u8 k, ⟨rfl, fun j z hz => ?_⟩, by omega, trivial⟩
    cases j with
    | zero => simp only [PV.cells, List.getElem?_cons_zero, Option.some.injEq] at hz; subst hz; exact ⟨_, rfl, vr_v.2 (by rw [u8_nat]; unfold IntKind.wrap; simp only [IntKind.bits, IntKind.signed, Bool.false_and, if_false, Bool.false_eq_true]; congr 1; show k = k % 256; omega)⟩
    | succ j => simp [PV.cells] at hz) h
  refine ⟨v, bs, h1, by rw [cells_u8] at h2; exact h2, ?_⟩
  have := sum_ones bs
  omega
theorem frames_rd {fuel : Nat} {cs : List Value} {x : DataW H × List MemPlace} (h : DataW.trod enc Try.prog w base spare held fuel 22 cs = some x) :
    ∃ v l, cs = [v] ∧ VR (ctx0 Try.prog w) (frsl l) v ∧ sizeF l + 5 ≤ 5 * Rows.uptoBulk x.1 := by
  obtain ⟨v, l, h1, h2, h3, _⟩ := slice_rd frPV (fun f => 13 + f.2.length) 5 (fun _ => True) Try.underlying22 (by rw [cells_fr]; decide) (fun n cs' y hy hl => by
    obtain ⟨y0, y1, m, rfl, hl, hy0, hy1⟩ := trod_struct2 Try.underlying33 hy
    obtain ⟨k, e0, hk, hb⟩ := int_rd Try.underlying3 hy0
    obtain ⟨v, bs, e1, hv, hbb⟩ := bytes_rd hy1
    rw [cells_fr] at hl
    match cs', hl with
    | [c0, c1], _ =>
      have hc0 : c0 = .int .i64 k := by simpa [show Try.prog.cellsOf 3 = 1 from by kernel_rfl] using e0
      have hc1 : c1 = v := by simpa [show Try.prog.cellsOf 23 = 1 from by kernel_rfl] using e1
      subst hc0; subst hc1
      refine ⟨(k, bs), ⟨rfl, fun j z hz => ?_⟩, ?_, trivial⟩
      · match j with
        | 0 => simp only [frPV, PV.cells, List.getElem?_cons_zero, Option.some.injEq] at hz; subst hz; exact ⟨_, rfl, vr_v.2 rfl⟩
        | 1 => simp only [frPV, PV.cells, List.getElem?_cons_succ, List.getElem?_cons_zero, Option.some.injEq] at hz; subst hz; exact ⟨_, rfl, hv⟩
        | j + 2 => simp [frPV, PV.cells] at hz
      · simp only [Rows.uptoBulk, Rows.uptoBulkAll]; omega) h
  refine ⟨v, l, h1, by rw [cells_fr] at h2; exact h2, ?_⟩
  have : (l.map fun f => 13 + f.2.length).sum = sizeF l := by
    clear h1 h2 h3 h
    rename_i hgood; clear hgood
    induction l with
    | nil => rfl
    | cons f r ih => simp only [List.map_cons, List.sum_cons, sizeF, List.foldr_cons] at ih ⊢; rw [ih]
  omega
end

namespace LogBegins
theorem contract (H : Type) (enc : TypeId × Value → H) (W : World) (base : Nat) (args : Array Value) (ds gs : List (DataW H)) (before : List MemPlace)
    (hval : ∀ (j : Nat) t v, Try.f3.params[j]? = some t → args[j]? = some v → Value.okWide Try.prog W .any base t v)
    (hk : Rows.uptoSmall H (ds ++ gs) = true)
    (hW : DataW.Whole enc Try.prog Try.f3.params.toList Rows.logBeginsSpec.vars false W args.toList ds gs before) :
    Calls Try.prog 3 args W fun e W' => ∃ v, e = .returned v ∧ Rows.logBeginsSpec.post enc Try.prog Try.f3 false true false false W args v W' := by
  have hW' := hW
  obtain ⟨p, q, hA0, hV, rfl, hfz, hnd⟩ := hW
  have hA : DataW.TrodAll enc Try.prog W 0 (fun _ => true) true Try.f3.params.toList args.toList ds p := hA0
  rw [Try.params3] at hA hval
  obtain ⟨v0, vs0, d0, ds0, p0, q0, hargs, rfl, rfl, h0, r0⟩ := trodAll_cons hA
  obtain ⟨v1, vs1, d1, ds1, p1, q1, hargs1, rfl, rfl, h1, r1⟩ := trodAll_cons r0
  obtain ⟨rfl, rfl, rfl⟩ := trodAll_nil r1
  obtain rfl : args = #[v0, v1] := by cases args; simp_all
  obtain ⟨rfl, rfl⟩ := trodVars_none hV
  clear hA0
  obtain ⟨c, rfl, rfl, rfl, hc⟩ := open_int Try.underlying3 (hval 1 3 v1 rfl rfl) h1
  obtain ⟨a0, n0, k0, rfl⟩ := okWide_slice Try.underlying22 (hval 0 22 v0 rfl rfl)
  obtain ⟨fuel, h0f⟩ := h0
  obtain ⟨v, l, e0, hv, hb⟩ := frames_rd h0f
  obtain rfl : Value.slice a0 n0 k0 = v := by simpa [Value.cells] using e0
  simp only [List.append_nil] at hk
  have hbulk : Rows.uptoBulkAll [d0, .lit (.int .i64 c)] ≤ 1048576 := of_decide_eq_true hk
  simp only [Rows.uptoBulkAll, Rows.uptoBulk] at hbulk
  refine (calls0 (LogBegins_c l c (by simp only at hb; omega) (wf_i64 hc)) (args := #[.slice a0 n0 k0, .int .i64 c]) ⟨rfl, fun i x hx => ?_⟩).mono fun e W' ⟨he, hg⟩ => ?_
  · match i with
    | 0 => simp only [List.getElem?_cons_zero, Option.some.injEq] at hx; subst hx; exact ⟨_, rfl, hv⟩
    | 1 => simp only [List.getElem?_cons_succ, List.getElem?_cons_zero, Option.some.injEq] at hx; subst hx; exact ⟨_, rfl, vr_v.2 rfl⟩
    | i + 2 => simp at hx
  · subst he
    exact ⟨_, rfl, row_post (tb := 4) hW' hg laidOut (by kernel_rfl) Try.underlying4 (by kernel_rfl) rfl rfl rfl rfl⟩
set_option maxRecDepth 100000 in
theorem lifted (os : Os) (started : os.Started) (H : Type) (enc : TypeId × Value → H) (F : Stop.Interp) :
    ReturnsInHanded {} Try.checked os 3 .any ((Rows.OpenSpec.upto Rows.logBeginsSpec).pre6 enc Try.prog Try.f3 Rows.logBeginsUptoRow.domain false) (((Rows.OpenSpec.upto Rows.logBeginsSpec).at F).post enc Try.prog Try.f3 false true false false) := by
  refine returnsInHanded_of_cond (C := Try.checked) (s := Rows.OpenSpec.upto Rows.logBeginsSpec) (k := Rows.uptoSmall) rfl own started (by kernel_rfl) Try.func3
    (OpenSpec.witness (enc := enc) (C := Try.checked) (s := Rows.OpenSpec.upto Rows.logBeginsSpec) (k := Rows.uptoSmall) rfl false ⟨#[], #[.slice none 0 0, .int .i64 0], []⟩ 8 (by kernel_rfl) (by kernel_rfl) (by kernel_rfl)
      (x := ([.nil, .lit (.int .i64 0)], [], [])) (by kernel_rfl) rfl (by kernel_rfl)) ?_
  intro W base args ds gs before hval hW _ hk _
  exact contract H enc W base args ds gs before hval hk hW
theorem said : Rows.LogBeginsUptoSaid :=
  OpenClaim.holds_of_cond 3 Try.f3 rfl rfl rfl rfl rfl rfl rfl ⟨rfl, rfl, rfl, rfl, rfl⟩ rfl rfl rfl rfl rfl (by kernel_rfl) Try.func3 (by kernel_rfl)
    (of_decide_eq_true (by kernel_rfl)) (by unfold Func.isWrapper; first | (rw [if_pos (by decide +kernel)]; kernel_rfl) | (rw [if_neg (by decide +kernel)]; exact ⟨rfl, rfl⟩))
    (fun os started H enc _ F => lifted os started H enc F)
end LogBegins
end Go.Proofs.Ytpmbflnoohpbnaa
#print axioms Go.Proofs.Ytpmbflnoohpbnaa.LogBegins.said
