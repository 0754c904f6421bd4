/- Functions that spoil what they are told of. -/
import Derived.Test.YtigadhiciinicaaTy
import Derived.Test.YtigadhiciinicaaAwK
namespace Go.Proofs.Ytigadhiciinicaa
open Go Aw
set_option linter.unusedVariables false
set_option linter.unusedSimpArgs false
set_option maxRecDepth 8000
def fullO (b : Str) (c : UInt8) : Option Unit := bif Nat.ble (b.length + 90) 140737488355328 then some () else none
theorem sp_full (b : Str) (c : UInt8) {u : Unit} (h : fullO b c = some u) : Spoils Try.prog 16 [.sl none 5 1 (b.map ofB), ofB c] (.tup []) := by
  have hbnd : b.length + 90 ≤ 140737488355328 := by
    unfold fullO at h
    cases hb : Nat.ble (b.length + 90) 140737488355328 with
    | true => exact Nat.le_of_ble_eq_true hb
    | false => rw [hb] at h; cases h
  intro S us w hv
  obtain ⟨hs2, hget⟩ := hv
  obtain ⟨u0, hu0, hv0⟩ := hget 0 _ rfl
  obtain ⟨u1, hu1, hv1⟩ := hget 1 _ rfl
  obtain ⟨A, cp, rfl, ⟨⟨hlc, _⟩, hB⟩, _, _⟩ := vr_sl.1 hv0
  have hv1' : u1 = .int .u8 c.toNat := vr_v.1 hv1
  subst hv1'
  have hus : us = [Value.slice A (b.map ofB).length cp, .int .u8 c.toNat].toArray := by
    refine Array.ext (by simpa using hs2) fun i h1 h2 => ?_
    match i, h1, h2 with
    | 0, h1, h2 => simpa [Array.getElem?_eq_getElem h1] using hu0
    | 1, h1, h2 => simpa [Array.getElem?_eq_getElem h1] using hu1
    | i + 2, h1, h2 => exact absurd (by simpa using h2 : i + 2 < 2) (by omega)
  have hroom := Room.of hB w.heap.size
  rw [hus]
  rw [List.length_map] at hlc ⊢
  refine calls_of_xw Try.func16 rfl Try.ntmps16 rfl rfl ?_
  have fin : ∀ {w' : World}, Wrs S w w' → ∃ v, Ending.returned (.tuple #[]) = .returned v ∧ VR (memC S w') (.tup []) v ∧ w'.os = w.os ∧ w'.tape = w.tape ∧ w'.output = w.output ∧ w.heap.size ≤ w'.heap.size ∧ (∀ b, b < w.heap.size → ¬ S b → w'.heap[b]? = w.heap[b]?) ∧ Keeps w w' := fun hW =>
    ⟨_, rfl, vr_tup.2 ⟨[], rfl, rfl, by simp⟩, hW.os, hW.tape, hW.output, hW.size, hW.keep, hW.kp⟩
  refine xw_seq ?_
  change XW _ _ _ _ _ _ _
  refine xw_seq ?_
  change XW _ _ _ _ _ _ _
  refine xw_region (xl_val rfl rfl (xr_assign rfl rfl) (xl_nil ?_))
  change XW _ _ _ _ _ _ _
  refine xw_block ?_
  refine xw_loop (fun n env w1 => ∃ i : Nat, i + n = b.length ∧ vget env 4 = some (.int .i64 (i : Nat)) ∧ vget env 0 = some (.slice A b.length cp) ∧ vget env 1 = some (.int .u8 c.toNat) ∧ Wrs S w w1) (n := b.length) ⟨0, by omega, rfl, rfl, rfl, Wrs.refl⟩ ?_
  rintro n env w1 ⟨i, hin, h4, h0, h1, hW⟩
  refine xw_seq (xw_seq (xw_region (xl_val rfl rfl (xr_move rfl h4) (xl_val rfl rfl (xr_move rfl h0) (xl_val rfl rfl (xr_len Try.underlying23 rfl rfl) (xl_val rfl rfl (xr_lss rfl rfl rfl) (xl_nil ?_)))))))
  change XW _ _ _ _ _ _ _
  refine xw_cond rfl (fun hc => xw_skip ?_) (fun hc => xw_exit ?_)
  · have hil : i < b.length := by have := of_decide_eq_true hc; omega
    change XW _ _ _ _ _ _ _
    refine xw_seq (xw_block ?_)
    -- the place is there
    have hr1 := hroom.keeps hW.kp
    rcases hr1 with ⟨rfl, hz⟩ | ⟨bb, off, cells, z, q, rfl, hS, hblk, hsz, hfz, _⟩
    · omega
    refine xw_region (xl_val rfl rfl (xr_move rfl h0) (xl_val rfl rfl (xr_move rfl h4) (xl_val rfl rfl (xr_move rfl h1) (xl_val rfl rfl (xr_idx Try.underlying23 inf_5 rfl rfl rfl hil) (xl_skip rfl rfl (xr_store1 inf_5 rfl rfl rfl rfl hblk (by omega) hfz) (xl_nil ?_))))))
    change XW _ _ _ _ _ _ _
    refine xw_region (xl_val rfl rfl (xr_move rfl h4) (xl_val rfl rfl (xr_add rfl rfl rfl (by omega)) (xl_val rfl rfl (xr_assign rfl rfl) (xl_nil ?_))))
    exact ⟨n - 1, by omega, i + 1, by omega, rfl, h0, h1, hW.set hS⟩
  · show XW _ _ _ _ _ _ _
    refine xw_seq ?_
    refine xw_region (xl_val rfl rfl (xr_assign rfl rfl) (xl_nil ?_))
    change XW _ _ _ _ _ _ _
    refine xw_block ?_
    refine xw_loop (fun n env w1 => ∃ (i cp' : Nat) (A' : Option Addr), i + n = 90 ∧ vget env 5 = some (.int .i64 (i : Nat)) ∧ vget env 0 = some (.slice A' (b.length + i) cp') ∧ vget env 1 = some (.int .u8 c.toNat) ∧ Wrs S w w1 ∧ b.length + i ≤ cp' ∧ Room S w.heap.size w1 A' 5 1 (cp' * 1)) (n := 90) ⟨0, cp, A, by omega, rfl, h0, h1, hW, hlc, hroom.keeps hW.kp⟩ ?_
    clear hin h4 h0 h1 hW
    rintro n env w1 ⟨i, cp', A', hin, h5, h0, h1, hW, hle, hr⟩
    refine xw_seq (xw_seq (xw_region (xl_val rfl rfl (xr_move rfl h5) (xl_val rfl rfl (xr_lss rfl rfl rfl) (xl_nil ?_)))))
    change XW _ _ _ _ _ _ _
    refine xw_cond rfl (fun hc => xw_skip ?_) (fun hc => xw_exit (fin hW))
    have hil : i < 90 := by have := of_decide_eq_true hc; omega
    change XW _ _ _ _ _ _ _
    refine xw_seq (xw_block ?_)
    have hW2 : Wrs S w (w1.alloc (.cells #[Value.int .u8 c.toNat] 5)) := hW.grow rfl rfl rfl (by simp) (fun k hk => alloc_old hk)
    have hr2 := hr.keeps (w' := w1.alloc (.cells #[Value.int .u8 c.toNat] 5)) (Keeps.of fun k hk => alloc_old hk)
    have hsrc : Src Try.prog 1 23 (.slice (some ⟨w1.heap.size, 0, none⟩) 1 1) 1 [Value.int .u8 c.toNat] (w1.alloc (.cells #[Value.int .u8 c.toNat] 5)) :=
      Src.ofSlice _ Try.underlying23 _ 1 1 _ rfl (fun j v hj => by
        cases j with
        | zero => simp at hj; subst hj; rw [addr_add, cell_row alloc_new]; rfl
        | succ j => simp at hj) (fun v hv => by simp at hv; subst hv; rfl)
    obtain ⟨A2, cp2, w2, hrun, hle2, hW3, _, hr3⟩ := run_app (ty := 23) hW2 Try.underlying23 inf_5 rfl hle hr2 hsrc (by omega) (by omega)
    refine xw_region (xl_val rfl rfl (xr_move rfl h0) (xl_val rfl rfl (xr_move rfl h1) (xl_val rfl rfl (xr_bslice1 Try.underlying23 inf_5 rfl rfl rfl rfl) (xl_val (v := .slice A2 (b.length + i + 1) cp2) (w' := w2) rfl rfl (fun a ha => ?_) (xl_val rfl rfl (xr_assign rfl rfl) (xl_nil ?_))))))
    · have e1 : a.eval (.tmp 20) = .slice A' (b.length + i) cp' := ha.ev rfl
      have e2 : a.eval (.tmp 22) = .slice (some ⟨w1.heap.size, 0, none⟩) 1 1 := ha.ev rfl
      simp [execOp, resolve, invoke, builtin, e1, e2, hrun]
    change XW _ _ _ _ _ _ _
    refine xw_region (xl_val rfl rfl (xr_move rfl h5) (xl_val rfl rfl (xr_add rfl rfl rfl (by omega)) (xl_val rfl rfl (xr_assign rfl rfl) (xl_nil ?_))))
    exact ⟨n - 1, by omega, i + 1, cp2, A2, by omega, rfl, rfl, h1, hW3, hle2, hr3⟩
end Go.Proofs.Ytigadhiciinicaa
