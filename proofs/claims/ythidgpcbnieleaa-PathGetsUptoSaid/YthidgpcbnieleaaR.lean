/- The law PathGets: its row, out of the plain law on its pure function: it answers true at every input of bulk at most 1048576, and leaves what came in as it was. -/
import Derived.Test.YthidgpcbnieleaaM1
namespace Go.Proofs.Ythidgpcbnieleaa
open Go Aw Go.ChangeShapes Go.WideShapes Go.ChangeAt Go.RowKit
set_option linter.unusedVariables false
set_option linter.unusedSimpArgs false
set_option maxRecDepth 8000
namespace PathGets
def z6t (p : S_api_Step) : Nat := (p.f_Name.length + 1) + 1 + 1
def zfz (p : S_api_Step) : Prop := (fun _ => True) p.f_Name ∧ (fun _ => True) p.f_At ∧ (inI .i64) p.f_Index
theorem zfu {H : Type} {enc : TypeId × Value → H} {w : World} {base : Nat} {spare : Nat → Bool} {held : Bool} {n : Nat} : RD enc Try.prog w base spare held n 76 z01 z6t zfz := by
  intro cs x h
  obtain ⟨xs, m, rfl, rfl, hl, hlen, hf⟩ := DataW.trod_struct Try.underlying76 h
  match xs, hlen with
  | [x0, x1, x2], _ =>
  obtain ⟨a0, t0, b0, o0⟩ := (zl8 Try.underlying9) _ _ (hf 0 _ rfl)
  obtain ⟨a1, t1, b1, o1⟩ := (zp0 Try.underlying4) _ _ (hf 1 _ rfl)
  obtain ⟨a2, t2, b2, o2⟩ := (zh6 Try.underlying3) _ _ (hf 2 _ rfl)
  refine ⟨⟨a0, a1, a2⟩, zfk (z2n (z39 t0) (k := 1) rfl (z2n (z39 t1) (k := 1) rfl (z2n (z39 t2) (k := 1) rfl zfj))) (by rw [hl, Inf.cells z1w]; rfl), ?_, ⟨o0, o1, o2⟩⟩
  (try dsimp only at b0); (try dsimp only at b1); (try dsimp only at b2)
  have s1 : ∀ {α : Type} (l : List α), (l.map fun _ => 1).sum = l.length := fun l => by induction l with | nil => rfl | cons x r ih => rw [List.map_cons, List.sum_cons, ih, List.length_cons]; omega
  try simp only [s1] at *
  simp only [Rows.uptoBulk, Rows.uptoBulkAll, List.map_cons, List.map_nil, z6t]; omega
theorem contract (H : Type) (enc : TypeId × Value → H) (W : World) (base : Nat) (args : Array Value) (ds gs : List (DataW H)) (before : List MemPlace)
    (hval : ∀ (j : Nat) t v, Try.f5.params[j]? = some t → args[j]? = some v → Value.okWide Try.prog W .any base t v)
    (hk : Rows.uptoSmall H (ds ++ gs) = true)
    (hW : DataW.Whole enc Try.prog Try.f5.params.toList Rows.pathGetsSpec.vars false W args.toList ds gs before) :
    Calls Try.prog 5 args W fun e W' => ∃ v, e = .returned v ∧ Rows.pathGetsSpec.post enc Try.prog Try.f5 false true false false W args v W' := by
  have hW' := hW
  obtain ⟨p, q, hA0, hV, rfl, hfz, hnd⟩ := hW
  have hA : DataW.TrodAll enc Try.prog W 0 (fun _ => true) true Try.f5.params.toList args.toList ds p := hA0
  rw [Try.params5] at hA hval
  obtain ⟨v0, vs0, d0, ds0, p0, q0, hargs, rfl, rfl, h0, r0⟩ := trodAll_cons hA
  obtain ⟨v1, vs1, d1, ds1, p1, q1, hargs1, rfl, rfl, h1, r1⟩ := trodAll_cons r0
  obtain ⟨v2, vs2, d2, ds2, p2, q2, hargs2, rfl, rfl, h2, r2⟩ := trodAll_cons r1
  obtain ⟨rfl, rfl, rfl⟩ := trodAll_nil r2
  obtain rfl : args = #[v0, v1, v2] := by cases args; simp_all
  obtain ⟨rfl, rfl⟩ := trodVars_none hV
  clear hA0
  obtain ⟨c0, rfl, hz0⟩ := okWide_struct Try.underlying29 (hval 0 29 v0 rfl rfl)
  obtain ⟨fu0, hf0⟩ := h0
  obtain ⟨a0, tv0, bk0, ok0⟩ := (zp1 _) _ _ hf0
  (try dsimp only at bk0)
  obtain ⟨sa1, sl1, sc1, rfl⟩ := okWide_slice Try.underlying37 (hval 1 37 v1 rfl rfl)
  obtain ⟨fu1, hf1⟩ := h1
  obtain ⟨a1, tv1, bk1, ok1⟩ := (zbo Try.underlying37 (Inf.cells z1w) rfl (fun _ _ => (zfu))) _ _ hf1
  (try dsimp only at bk1)
  obtain ⟨c2, rfl, hz2⟩ := okWide_struct Try.underlying29 (hval 2 29 v2 rfl rfl)
  obtain ⟨fu2, hf2⟩ := h2
  obtain ⟨a2, tv2, bk2, ok2⟩ := (zp1 _) _ _ hf2
  (try dsimp only at bk2)
  simp only [List.append_nil] at hk
  have hbulk : Rows.uptoBulkAll [d0, d1, d2] ≤ 1048576 := of_decide_eq_true hk
  simp only [Rows.uptoBulkAll] at hbulk
  have hp := zdx a0 a1 a2 (by (try dsimp only); simp only [show z6t = (fun p => (p.f_Name.length + 1) + 1 + 1) from rfl] at *; omega) ok0 ok1 ok2
  refine (Z2e (v := .bool true) (Z3i a0 a1 a2 true hp) (args := #[.agg c0, .slice sa1 sl1 sc1, .agg c2]) ⟨rfl, fun i x hx => ?_⟩).mono fun e W' ⟨he, hg⟩ => ?_
  · match i with
    | 0 => simp only [List.getElem?_cons_succ, List.getElem?_cons_zero, Option.some.injEq] at hx; subst hx; exact ⟨_, rfl, (show VR (ctx0 Try.prog W) (z0b a0) _ from zvk tv0)⟩
    | 1 => simp only [List.getElem?_cons_succ, List.getElem?_cons_zero, Option.some.injEq] at hx; subst hx; exact ⟨_, rfl, (show VR (ctx0 Try.prog W) (PV.sl none 76 3 (List.map z01 a1)) _ from zwu rfl tv1)⟩
    | 2 => simp only [List.getElem?_cons_succ, List.getElem?_cons_zero, Option.some.injEq] at hx; subst hx; exact ⟨_, rfl, (show VR (ctx0 Try.prog W) (z0b a2) _ from zvk tv2)⟩
    | i + 3 => simp at hx
  · subst he
    exact ⟨_, rfl, ztd (tb := 4) hW' hg laidOut (by kernel_rfl) Try.underlying4 (by kernel_rfl) rfl rfl rfl rfl⟩
set_option maxRecDepth 100000 in
theorem lifted (os : Os) (started : os.Started) (H : Type) (enc : TypeId × Value → H) (F : Stop.Interp) :
    ReturnsInHanded {} Try.checked os 5 .any ((Rows.OpenSpec.upto Rows.pathGetsSpec).pre6 enc Try.prog Try.f5 Rows.pathGetsUptoRow.domain false) (((Rows.OpenSpec.upto Rows.pathGetsSpec).at F).post enc Try.prog Try.f5 false true false false) := by
  refine returnsInHanded_of_cond (C := Try.checked) (s := Rows.OpenSpec.upto Rows.pathGetsSpec) (k := Rows.uptoSmall) rfl own started (by kernel_rfl) Try.func5
    (OpenSpec.witness (enc := enc) (C := Try.checked) (s := Rows.OpenSpec.upto Rows.pathGetsSpec) (k := Rows.uptoSmall) rfl false ⟨#[], #[.agg #[.int .i64 0, .bool false, .int .i64 0, .float .f64 0, .string ⟨#[]⟩, .slice none 0 0, .int .u64 0, .slice none 0 0, .slice none 0 0, .string ⟨#[]⟩, .int .i64 0], .slice none 0 0, .agg #[.int .i64 0, .bool false, .int .i64 0, .float .f64 0, .string ⟨#[]⟩, .slice none 0 0, .int .u64 0, .slice none 0 0, .slice none 0 0, .string ⟨#[]⟩, .int .i64 0]], []⟩ 8 (by kernel_rfl) (by kernel_rfl) (by kernel_rfl)
      (x := ([.agg [.lit (.int .i64 0), .lit (.bool false), .lit (.int .i64 0), .lit (.float .f64 0), .lit (.string []), .nil, .lit (.int .u64 0), .nil, .nil, .lit (.string []), .lit (.int .i64 0)], .nil, .agg [.lit (.int .i64 0), .lit (.bool false), .lit (.int .i64 0), .lit (.float .f64 0), .lit (.string []), .nil, .lit (.int .u64 0), .nil, .nil, .lit (.string []), .lit (.int .i64 0)]], [], [])) (by kernel_rfl) rfl (by kernel_rfl)) ?_
  intro W base args ds gs before hval hW _ hk _
  exact contract H enc W base args ds gs before hval hk hW
theorem said : Rows.PathGetsUptoSaid :=
  OpenClaim.holds_of_cond 5 Try.f5 rfl rfl rfl rfl rfl rfl rfl ⟨rfl, rfl, rfl, rfl, rfl⟩ rfl rfl rfl rfl rfl (by kernel_rfl) Try.func5 (by kernel_rfl)
    (of_decide_eq_true (by kernel_rfl)) (by unfold Func.isWrapper; first | (rw [if_pos (by decide +kernel)]; kernel_rfl) | (rw [if_neg (by decide +kernel)]; exact ⟨rfl, rfl⟩))
    (fun os started H enc _ F => lifted os started H enc F)
end PathGets
end Go.Proofs.Ythidgpcbnieleaa
#print axioms Go.Proofs.Ythidgpcbnieleaa.PathGets.said
