/- The law PathPut: its row, out of the plain law on its pure function: it answers true at every input of bulk at most 1048576, and leaves what came in as it was. -/
import Derived.Test.YthidgpcbnieleaaGreatDoorM1
import Derived.Test.YthidgpcbnieleaaGreatDoorCards
import Derived.Test.YthidgpcbnieleaaGreatDoorTie
import Derived.Deep.DeepHandedRow
import Derived.Lib.LaidTab
namespace Go.Proofs.YthidgpcbnieleaaGreatDoor
open Go Aw Go.ChangeShapes Go.WideShapes Go.ChangeAt Go.RowKit
set_option linter.unusedVariables false
set_option linter.unusedSimpArgs false
set_option maxRecDepth 8000
namespace PathPut
def z6b (p : S_api_Step) : Nat := (p.f_Name.length + 1) + 1 + 1
def zep (p : S_api_Step) : Prop := (fun _ => True) p.f_Name ∧ (fun _ => True) p.f_At ∧ (inI .i64) p.f_Index
theorem z8j {H : Type} {enc : TypeId × Value → H} {w : World} {base : Nat} {spare : Nat → Bool} {held : Bool} {n : Nat} : RD enc Tryz.prog w base spare held n 83 z02 z6b zep := by
  intro cs x h
  obtain ⟨xs, m, rfl, rfl, hl, hlen, hf⟩ := DataW.trod_struct Tryz.underlying83 h
  match xs, hlen with
  | [x0, x1, x2], _ =>
  obtain ⟨a0, t0, b0, o0⟩ := (zji Tryz.underlying9) _ _ (hf 0 _ rfl)
  obtain ⟨a1, t1, b1, o1⟩ := (zne Tryz.underlying4) _ _ (hf 1 _ rfl)
  obtain ⟨a2, t2, b2, o2⟩ := (zfl Tryz.underlying3) _ _ (hf 2 _ rfl)
  refine ⟨⟨a0, a1, a2⟩, ze7 (z2d (z2x t0) (k := 1) rfl (z2d (z2x t1) (k := 1) rfl (z2d (z2x t2) (k := 1) rfl ze6))) (by rw [hl, Inf.cells z19]; rfl), ?_, ⟨o0, o1, o2⟩⟩
  (try dsimp only at b0); (try dsimp only at b1); (try dsimp only at b2)
  have s1 : ∀ {α : Type} (l : List α), (l.map fun _ => 1).sum = l.length := fun l => by induction l with | nil => rfl | cons x r ih => rw [List.map_cons, List.sum_cons, ih, List.length_cons]; omega
  try simp only [s1] at *
  simp only [Rows.uptoBulk, Rows.uptoBulkAll, List.map_cons, List.map_nil, z6b]; omega
theorem contract (H : Type) (enc : TypeId × Value → H) (W : World) (base : Nat) (args : Array Value) (ds gs : List (DataW H)) (before : List MemPlace)
    (hval : ∀ (j : Nat) t v, Tryz.f3.params[j]? = some t → args[j]? = some v → Value.okWide Tryz.prog W .any base t v)
    (hk : Rows.uptoSmall H (ds ++ gs) = true)
    (hW : DataW.Whole enc Tryz.prog Tryz.f3.params.toList Rows.pathPutSpec.vars false W args.toList ds gs before) :
    Calls Tryz.prog 3 args W fun e W' => ∃ v, e = .returned v ∧ Rows.pathPutSpec.post enc Tryz.prog Tryz.f3 false true false false W args v W' := by
  have hW' := hW
  obtain ⟨p, q, hA0, hV, rfl, hfz, hnd⟩ := hW
  have hA : DataW.TrodAll enc Tryz.prog W 0 (fun _ => true) true Tryz.f3.params.toList args.toList ds p := hA0
  rw [Tryz.params3] at hA hval
  obtain ⟨v0, vs0, d0, ds0, p0, q0, hargs, rfl, rfl, h0, r0⟩ := trodAll_cons hA
  obtain ⟨v1, vs1, d1, ds1, p1, q1, hargs1, rfl, rfl, h1, r1⟩ := trodAll_cons r0
  obtain ⟨v2, vs2, d2, ds2, p2, q2, hargs2, rfl, rfl, h2, r2⟩ := trodAll_cons r1
  obtain ⟨v3, vs3, d3, ds3, p3, q3, hargs3, rfl, rfl, h3, r3⟩ := trodAll_cons r2
  obtain ⟨v4, vs4, d4, ds4, p4, q4, hargs4, rfl, rfl, h4, r4⟩ := trodAll_cons r3
  obtain ⟨rfl, rfl, rfl⟩ := trodAll_nil r4
  obtain rfl : args = #[v0, v1, v2, v3, v4] := by cases args; simp_all
  obtain ⟨rfl, rfl⟩ := trodVars_none hV
  clear hA0
  obtain ⟨c0, rfl, hz0⟩ := okWide_struct Tryz.underlying29 (hval 0 29 v0 rfl rfl)
  obtain ⟨fu0, hf0⟩ := h0
  obtain ⟨a0, tv0, bk0, ok0⟩ := (zhy _) _ _ hf0
  (try dsimp only at bk0)
  obtain ⟨sa1, sl1, sc1, rfl⟩ := okWide_slice Tryz.underlying30 (hval 1 30 v1 rfl rfl)
  obtain ⟨fu1, hf1⟩ := h1
  obtain ⟨a1, tv1, bk1, ok1⟩ := (z8i Tryz.underlying30 (Inf.cells z19) rfl (fun _ _ => (z8j))) _ _ hf1
  (try dsimp only at bk1)
  obtain ⟨sa2, sl2, sc2, rfl⟩ := okWide_slice Tryz.underlying30 (hval 2 30 v2 rfl rfl)
  obtain ⟨fu2, hf2⟩ := h2
  obtain ⟨a2, tv2, bk2, ok2⟩ := (z8i Tryz.underlying30 (Inf.cells z19) rfl (fun _ _ => (z8j))) _ _ hf2
  (try dsimp only at bk2)
  obtain ⟨c3, rfl, hz3⟩ := okWide_struct Tryz.underlying29 (hval 3 29 v3 rfl rfl)
  obtain ⟨fu3, hf3⟩ := h3
  obtain ⟨a3, tv3, bk3, ok3⟩ := (zhy _) _ _ hf3
  (try dsimp only at bk3)
  obtain ⟨c4, rfl, hz4⟩ := okWide_struct Tryz.underlying29 (hval 4 29 v4 rfl rfl)
  obtain ⟨fu4, hf4⟩ := h4
  obtain ⟨a4, tv4, bk4, ok4⟩ := (zhy _) _ _ hf4
  (try dsimp only at bk4)
  simp only [List.append_nil] at hk
  have hbulk : Rows.uptoBulkAll [d0, d1, d2, d3, d4] ≤ 1048576 := of_decide_eq_true hk
  simp only [Rows.uptoBulkAll] at hbulk
  have hp := zeg a0 a1 a2 a3 a4 (by (try dsimp only); simp only [show z6b = (fun p => (p.f_Name.length + 1) + 1 + 1) from rfl] at *; omega) ok0 ok1 ok2 ok3 ok4
  refine (Z0g (v := .bool true) (Z17 a0 a1 a2 a3 a4 true hp) (args := #[.agg c0, .slice sa1 sl1 sc1, .slice sa2 sl2 sc2, .agg c3, .agg c4]) ⟨rfl, fun i x hx => ?_⟩).mono fun e W' ⟨he, hg⟩ => ?_
  · match i with
    | 0 => simp only [List.getElem?_cons_succ, List.getElem?_cons_zero, Option.some.injEq] at hx; subst hx; exact ⟨_, rfl, (show VR (ctx0 Tryz.prog W) (z2g a0) _ from zmy tv0)⟩
    | 1 => simp only [List.getElem?_cons_succ, List.getElem?_cons_zero, Option.some.injEq] at hx; subst hx; exact ⟨_, rfl, (show VR (ctx0 Tryz.prog W) (PV.sl none 83 3 (List.map z02 a1)) _ from zmx rfl tv1)⟩
    | 2 => simp only [List.getElem?_cons_succ, List.getElem?_cons_zero, Option.some.injEq] at hx; subst hx; exact ⟨_, rfl, (show VR (ctx0 Tryz.prog W) (PV.sl none 83 3 (List.map z02 a2)) _ from zmx rfl tv2)⟩
    | 3 => simp only [List.getElem?_cons_succ, List.getElem?_cons_zero, Option.some.injEq] at hx; subst hx; exact ⟨_, rfl, (show VR (ctx0 Tryz.prog W) (z2g a3) _ from zmy tv3)⟩
    | 4 => simp only [List.getElem?_cons_succ, List.getElem?_cons_zero, Option.some.injEq] at hx; subst hx; exact ⟨_, rfl, (show VR (ctx0 Tryz.prog W) (z2g a4) _ from zmy tv4)⟩
    | i + 5 => simp at hx
  · subst he
    exact ⟨_, rfl, zqx (tb := 4) hW' hg laidOut (by kernel_rfl) Tryz.underlying4 (by kernel_rfl) rfl rfl rfl rfl⟩
noncomputable def low : Nat := (World.holding Tryz.prog default ⟨#[], #[], []⟩).heap.size
noncomputable def zc6 (os : Os) : World :=
  let w0 := World.holding Tryz.prog os ⟨#[.cells #[.string ⟨#[118, 97, 108, 117, 101, 32, 111, 117, 116, 32, 111, 102, 32, 114, 97, 110, 103, 101]⟩] 203, .cells #[.string ⟨#[105, 110, 118, 97, 108, 105, 100, 32, 115, 121, 110, 116, 97, 120]⟩] 203], #[], []⟩
  { w0 with heap := (((((w0.heap).modify 5 (fun | .cells _ t fz => .cells #[.int .u8 0, .int .u8 1, .int .u8 28, .int .u8 2, .int .u8 29, .int .u8 14, .int .u8 24, .int .u8 3, .int .u8 30, .int .u8 22, .int .u8 20, .int .u8 15, .int .u8 25, .int .u8 17, .int .u8 4, .int .u8 8, .int .u8 31, .int .u8 27, .int .u8 13, .int .u8 23, .int .u8 21, .int .u8 19, .int .u8 16, .int .u8 7, .int .u8 26, .int .u8 12, .int .u8 18, .int .u8 6, .int .u8 11, .int .u8 5, .int .u8 10, .int .u8 9] t fz | o => o)).modify 6 (fun | .cells _ t fz => .cells #[.int .u8 0, .int .u8 1, .int .u8 56, .int .u8 2, .int .u8 57, .int .u8 49, .int .u8 28, .int .u8 3, .int .u8 61, .int .u8 58, .int .u8 42, .int .u8 50, .int .u8 38, .int .u8 29, .int .u8 17, .int .u8 4, .int .u8 62, .int .u8 47, .int .u8 59, .int .u8 36, .int .u8 45, .int .u8 43, .int .u8 51, .int .u8 22, .int .u8 53, .int .u8 39, .int .u8 33, .int .u8 30, .int .u8 24, .int .u8 18, .int .u8 12, .int .u8 5, .int .u8 63, .int .u8 55, .int .u8 48, .int .u8 27, .int .u8 60, .int .u8 41, .int .u8 37, .int .u8 16, .int .u8 46, .int .u8 35, .int .u8 44, .int .u8 21, .int .u8 52, .int .u8 32, .int .u8 23, .int .u8 11, .int .u8 54, .int .u8 26, .int .u8 40, .int .u8 15, .int .u8 34, .int .u8 20, .int .u8 31, .int .u8 10, .int .u8 25, .int .u8 14, .int .u8 19, .int .u8 9, .int .u8 13, .int .u8 8, .int .u8 7, .int .u8 6] t fz | o => o)).modify 1 (fun | .cells _ t fz => .cells #[.int .u64 1, .int .u64 10, .int .u64 100, .int .u64 1000, .int .u64 10000, .int .u64 100000, .int .u64 1000000, .int .u64 10000000, .int .u64 100000000, .int .u64 1000000000, .int .u64 10000000000, .int .u64 100000000000, .int .u64 1000000000000, .int .u64 10000000000000, .int .u64 100000000000000, .int .u64 1000000000000000, .int .u64 10000000000000000, .int .u64 100000000000000000, .int .u64 1000000000000000000, .int .u64 10000000000000000000] t fz | o => o)).modify 3 (fun | .cells _ t fz => .cells #[.iface 201 (.pointer (some ⟨low + 0, 0, none⟩))] t fz | o => o)).modify 2 (fun | .cells _ t fz => .cells #[.iface 201 (.pointer (some ⟨low + 1, 0, none⟩))] t fz | o => o) }
set_option maxRecDepth 100000 in
theorem zsh (os : Os) : laidMet Tryz.prog Rows.pathPutUptoRow.laid ((zc6 os).forCall (fun _ _ => 0) ⟨#[], #[.agg #[.int .i64 0, .bool false, .int .i64 0, .float .f64 0, .string ⟨#[]⟩, .slice none 0 0, .int .u64 0, .slice none 0 0, .slice none 0 0, .string ⟨#[]⟩, .int .i64 0], .slice none 0 0, .slice none 0 0, .agg #[.int .i64 0, .bool false, .int .i64 0, .float .f64 0, .string ⟨#[]⟩, .slice none 0 0, .int .u64 0, .slice none 0 0, .slice none 0 0, .string ⟨#[]⟩, .int .i64 0], .agg #[.int .i64 0, .bool false, .int .i64 0, .float .f64 0, .string ⟨#[]⟩, .slice none 0 0, .int .u64 0, .slice none 0 0, .slice none 0 0, .string ⟨#[]⟩, .int .i64 0]], []⟩).memory :=
  laidMet_of_run' 8 (by kernel_rfl) (by kernel_rfl)
set_option maxRecDepth 100000 in
theorem reads (os : Os) {H : Type} (enc : TypeId × Value → H) : ∃ places, DataW.whole enc Tryz.prog ((zc6 os).forCall (fun _ _ => 0) ⟨#[], #[.agg #[.int .i64 0, .bool false, .int .i64 0, .float .f64 0, .string ⟨#[]⟩, .slice none 0 0, .int .u64 0, .slice none 0 0, .slice none 0 0, .string ⟨#[]⟩, .int .i64 0], .slice none 0 0, .slice none 0 0, .agg #[.int .i64 0, .bool false, .int .i64 0, .float .f64 0, .string ⟨#[]⟩, .slice none 0 0, .int .u64 0, .slice none 0 0, .slice none 0 0, .string ⟨#[]⟩, .int .i64 0], .agg #[.int .i64 0, .bool false, .int .i64 0, .float .f64 0, .string ⟨#[]⟩, .slice none 0 0, .int .u64 0, .slice none 0 0, .slice none 0 0, .string ⟨#[]⟩, .int .i64 0]], []⟩).memory Tryz.f3.params.toList Rows.pathPutSpec.vars false #[Value.agg #[.int .i64 0, .bool false, .int .i64 0, .float .f64 0, .string ⟨#[]⟩, .slice none 0 0, .int .u64 0, .slice none 0 0, .slice none 0 0, .string ⟨#[]⟩, .int .i64 0], .slice none 0 0, .slice none 0 0, .agg #[.int .i64 0, .bool false, .int .i64 0, .float .f64 0, .string ⟨#[]⟩, .slice none 0 0, .int .u64 0, .slice none 0 0, .slice none 0 0, .string ⟨#[]⟩, .int .i64 0], .agg #[.int .i64 0, .bool false, .int .i64 0, .float .f64 0, .string ⟨#[]⟩, .slice none 0 0, .int .u64 0, .slice none 0 0, .slice none 0 0, .string ⟨#[]⟩, .int .i64 0]].toList 8 = some ([.agg [.lit (.int .i64 0), .lit (.bool false), .lit (.int .i64 0), .lit (.float .f64 0), .lit (.string []), .nil, .lit (.int .u64 0), .nil, .nil, .lit (.string []), .lit (.int .i64 0)], .nil, .nil, .agg [.lit (.int .i64 0), .lit (.bool false), .lit (.int .i64 0), .lit (.float .f64 0), .lit (.string []), .nil, .lit (.int .u64 0), .nil, .nil, .lit (.string []), .lit (.int .i64 0)], .agg [.lit (.int .i64 0), .lit (.bool false), .lit (.int .i64 0), .lit (.float .f64 0), .lit (.string []), .nil, .lit (.int .u64 0), .nil, .nil, .lit (.string []), .lit (.int .i64 0)]], [], places) :=
  ⟨[], by kernel_rfl⟩
set_option maxRecDepth 100000 in
theorem lifted (os : Os) (started : os.Started) (H : Type) (enc : TypeId × Value → H) (F : Stop.Interp) :
    ReturnsInHanded {} Tryz.checked os 3 .any ((Rows.OpenSpec.upto Rows.pathPutSpec).preRow enc Tryz.prog Tryz.f3 Rows.pathPutUptoRow.domain false Rows.pathPutUptoRow.laid) (((Rows.OpenSpec.upto Rows.pathPutSpec).at F).post enc Tryz.prog Tryz.f3 false true false false) := by
  obtain ⟨places, hx⟩ := reads os enc
  refine returnsInHanded_of_row (C := Tryz.checked) (s := Rows.OpenSpec.upto Rows.pathPutSpec) own started (by kernel_rfl) Tryz.func3
    (witness_row_at (enc := enc) (C := Tryz.checked) false (zc6 os) #[.agg #[.int .i64 0, .bool false, .int .i64 0, .float .f64 0, .string ⟨#[]⟩, .slice none 0 0, .int .u64 0, .slice none 0 0, .slice none 0 0, .string ⟨#[]⟩, .int .i64 0], .slice none 0 0, .slice none 0 0, .agg #[.int .i64 0, .bool false, .int .i64 0, .float .f64 0, .string ⟨#[]⟩, .slice none 0 0, .int .u64 0, .slice none 0 0, .slice none 0 0, .string ⟨#[]⟩, .int .i64 0], .agg #[.int .i64 0, .bool false, .int .i64 0, .float .f64 0, .string ⟨#[]⟩, .slice none 0 0, .int .u64 0, .slice none 0 0, .slice none 0 0, .string ⟨#[]⟩, .int .i64 0]] rfl (by kernel_rfl) (by kernel_rfl) (by kernel_rfl)
      (OpenSpec.preRow_of_cond 8 hx (by kernel_rfl) (fun k hk => by cases hk; kernel_rfl) (by kernel_rfl) (zsh os))) ?_
  intro W base args ds gs before hval hW _ hk _ _ _ _
  exact contract H enc W base args ds gs before hval (hk _ rfl) hW
theorem row : Rows.PathPutUptoSaid :=
  OpenClaim.holds_of_cond 3 Tryz.f3 rfl rfl rfl rfl rfl rfl rfl ⟨rfl, rfl, rfl, rfl, rfl⟩ rfl rfl rfl rfl rfl (by kernel_rfl) Tryz.func3 (by kernel_rfl)
    (of_decide_eq_true (by kernel_rfl)) (by unfold Func.isWrapper; first | (rw [if_pos (by decide +kernel)]; kernel_rfl) | (rw [if_neg (by decide +kernel)]; exact ⟨rfl, rfl⟩))
    (fun os started H enc _ F => by rw [OpenClaim.pre_eq_preRow]; exact lifted os started H enc F)
theorem plain (f : FuncId) (fn : Func) (hf : Tryz.pinned.checked.prog.funcNamed "tenon/tenonlaw04.PathPut" = some f) (hfn : Tryz.pinned.checked.prog.funcs[f]? = some fn) :
    true = Tryz.pinned.checked.prog.looks [] ∧ ∀ (j : Nat) t, fn.params[j]? = some t → Tryz.pinned.checked.prog.wantsStandIn t = false := by
  obtain rfl : f = 3 := Option.some.inj ((show Tryz.prog.funcNamed "tenon/tenonlaw04.PathPut" = some 3 by kernel_rfl).symm.trans hf) |>.symm
  obtain rfl : fn = Tryz.f3 := (Option.some.inj (Tryz.func3.symm.trans hfn)).symm
  refine ⟨by kernel_rfl, fun j t ht => ?_⟩
  have hm : t ∈ Tryz.f3.params.toList := Array.mem_toList_iff.2 (Array.mem_of_getElem? ht)
  rw [Tryz.params3] at hm
  have h2 : ([29, 30, 30, 29, 29] : List TypeId).all (fun t => !Tryz.prog.wantsStandIn t) = true := by kernel_rfl
  have h3 := List.all_eq_true.1 h2 t (by simpa using hm)
  exact (by simpa using h3 : Tryz.prog.wantsStandIn t = false)
theorem said : Rows.PathPutUptoCardSaid :=
  Claim7.holds_tied_plain_at .later [] _ _ _ _ row (fun _ h => by cases h) (by kernel_rfl) (fun _ h => by cases h) pathPutUpto_row_tie rfl ⟨rfl, rfl⟩ (by kernel_rfl) rfl plain (by kernel_rfl)
end PathPut
end Go.Proofs.YthidgpcbnieleaaGreatDoor
#print axioms Go.Proofs.YthidgpcbnieleaaGreatDoor.PathPut.said
