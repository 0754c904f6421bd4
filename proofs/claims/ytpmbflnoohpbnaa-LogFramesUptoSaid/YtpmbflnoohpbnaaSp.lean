/- Functions that spoil what they are told of. -/
import Derived.Test.YtpmbflnoohpbnaaTy
import Derived.Test.YtpmbflnoohpbnaaAwN
namespace Go.Proofs.Ytpmbflnoohpbnaa
open Go Aw
set_option linter.unusedVariables false
set_option linter.unusedSimpArgs false
set_option maxRecDepth 8000
/-- full, of a row of which the room is known. -/
theorem full_raw {S : Nat → Prop} {w0 w : World} {A : Option Addr} {l cp : Nat} {k : Int} (hW0 : Wrs S w0 w) (hlc : l ≤ cp) (hbnd : l + 90 ≤ 140737488355328) (hroom : Room S w0.heap.size w A 5 1 (cp * 1)) :
    Calls Try.prog 17 #[.slice A l cp, .int .u8 k] w fun e w' => ∃ v, e = .returned v ∧ v = .tuple #[] ∧ Wrs S w0 w' := by
  refine calls_of_xw (args := [.slice A l cp, .int .u8 k]) Try.func17 rfl Try.ntmps17 rfl rfl ?_
  refine xw_seq ?_
  change XW _ _ _ _ _ _ _
  refine xw_seq ?_
  change XW _ _ _ _ _ _ _
  refine xw_region (xl_val rfl rfl (xr_assign rfl rfl) (xl_nil ?_))
  change XW _ _ _ _ _ _ _
  refine xw_block ?_
  refine xw_loop (fun n env w1 => ∃ i : Nat, i + n = l ∧ vget env 4 = some (.int .i64 (i : Nat)) ∧ vget env 0 = some (.slice A l cp) ∧ vget env 1 = some (.int .u8 k) ∧ Wrs S w0 w1 ∧ Room S w0.heap.size w1 A 5 1 (cp * 1)) (n := l) ⟨0, by omega, rfl, rfl, rfl, hW0, hroom⟩ ?_
  clear hW0 hroom
  rintro n env w1 ⟨i, hin, h4, h0, h1, hW, hroom⟩
  refine xw_seq (xw_seq (xw_region (xl_val rfl rfl (xr_move rfl h4) (xl_val rfl rfl (xr_move rfl h0) (xl_val rfl rfl (xr_len Try.underlying23 rfl rfl) (xl_val rfl rfl (xr_lss rfl rfl rfl) (xl_nil ?_)))))))
  change XW _ _ _ _ _ _ _
  refine xw_cond rfl (fun hc => xw_skip ?_) (fun hc => xw_exit ?_)
  · have hil : i < l := by have := of_decide_eq_true hc; omega
    change XW _ _ _ _ _ _ _
    refine xw_seq (xw_block ?_)
    -- the place is there
    have hr0 := hroom
    rcases hroom with ⟨rfl, hz⟩ | ⟨bb, off, cells, z, q, rfl, hS, hblk, hsz, hfz, _⟩
    · omega
    refine xw_region (xl_val rfl rfl (xr_move rfl h0) (xl_val rfl rfl (xr_move rfl h4) (xl_val rfl rfl (xr_move rfl h1) (xl_val rfl rfl (xr_idx Try.underlying23 inf_5 rfl rfl rfl hil) (xl_skip rfl rfl (xr_store1 inf_5 rfl rfl rfl rfl hblk (by omega) hfz) (xl_nil ?_))))))
    change XW _ _ _ _ _ _ _
    refine xw_region (xl_val rfl rfl (xr_move rfl h4) (xl_val rfl rfl (xr_add rfl rfl rfl (by omega)) (xl_val rfl rfl (xr_assign rfl rfl) (xl_nil ?_))))
    exact ⟨n - 1, by omega, i + 1, by omega, rfl, h0, h1, hW.set hS, hr0.keeps keeps_set⟩
  · show XW _ _ _ _ _ _ _
    refine xw_seq ?_
    refine xw_region (xl_val rfl rfl (xr_assign rfl rfl) (xl_nil ?_))
    change XW _ _ _ _ _ _ _
    refine xw_block ?_
    refine xw_loop (fun n env w1 => ∃ (i cp' : Nat) (A' : Option Addr), i + n = 90 ∧ vget env 5 = some (.int .i64 (i : Nat)) ∧ vget env 0 = some (.slice A' (l + i) cp') ∧ vget env 1 = some (.int .u8 k) ∧ Wrs S w0 w1 ∧ l + i ≤ cp' ∧ Room S w0.heap.size w1 A' 5 1 (cp' * 1)) (n := 90) ⟨0, cp, A, by omega, rfl, h0, h1, hW, hlc, hroom⟩ ?_
    clear hin h4 h0 h1 hW hroom
    rintro n env w1 ⟨i, cp', A', hin, h5, h0, h1, hW, hle, hr⟩
    refine xw_seq (xw_seq (xw_region (xl_val rfl rfl (xr_move rfl h5) (xl_val rfl rfl (xr_lss rfl rfl rfl) (xl_nil ?_)))))
    change XW _ _ _ _ _ _ _
    refine xw_cond rfl (fun hc => xw_skip ?_) (fun hc => xw_exit ⟨_, rfl, rfl, hW⟩)
    have hil : i < 90 := by have := of_decide_eq_true hc; omega
    change XW _ _ _ _ _ _ _
    refine xw_seq (xw_block ?_)
    have hW2 : Wrs S w0 (w1.alloc (.cells #[Value.int .u8 k] 5)) := hW.grow rfl rfl rfl (by simp) (fun k hk => alloc_old hk)
    have hr2 := hr.keeps (w' := w1.alloc (.cells #[Value.int .u8 k] 5)) (Keeps.of fun k hk => alloc_old hk)
    have hsrc : Src Try.prog 1 23 (.slice (some ⟨w1.heap.size, 0, none⟩) 1 1) 1 [Value.int .u8 k] (w1.alloc (.cells #[Value.int .u8 k] 5)) :=
      Src.ofSlice _ Try.underlying23 _ 1 1 _ rfl (fun j v hj => by
        cases j with
        | zero => simp at hj; subst hj; rw [addr_add, cell_row alloc_new]; rfl
        | succ j => simp at hj) (fun v hv => by simp at hv; subst hv; rfl)
    obtain ⟨A2, cp2, w2, hrun, hle2, hW3, _, hr3⟩ := run_app (ty := 23) hW2 Try.underlying23 inf_5 rfl hle hr2 hsrc (by omega) (by omega)
    refine xw_region (xl_val rfl rfl (xr_move rfl h0) (xl_val rfl rfl (xr_move rfl h1) (xl_val rfl rfl (xr_bslice1 Try.underlying23 inf_5 rfl rfl rfl rfl) (xl_val (v := .slice A2 (l + i + 1) cp2) (w' := w2) rfl rfl (fun a ha => ?_) (xl_val rfl rfl (xr_assign rfl rfl) (xl_nil ?_))))))
    · have e1 : a.eval (.tmp 20) = .slice A' (l + i) cp' := ha.ev rfl
      have e2 : a.eval (.tmp 22) = .slice (some ⟨w1.heap.size, 0, none⟩) 1 1 := ha.ev rfl
      simp [execOp, resolve, invoke, builtin, e1, e2, hrun]
    change XW _ _ _ _ _ _ _
    refine xw_region (xl_val rfl rfl (xr_move rfl h5) (xl_val rfl rfl (xr_add rfl rfl rfl (by omega)) (xl_val rfl rfl (xr_assign rfl rfl) (xl_nil ?_))))
    exact ⟨n - 1, by omega, i + 1, cp2, A2, by omega, rfl, rfl, h1, hW3, hle2, hr3⟩
def fullO (b : Str) (c : UInt8) : Option Unit := bif Nat.ble (b.length + 90) 140737488355328 then some () else none
theorem sp_full (b : Str) (c : UInt8) {u : Unit} (h : fullO b c = some u) : Spoils Try.prog 17 [.sl none 5 1 (b.map ofB), ofB c] (.tup []) := by
  have hbnd : b.length + 90 ≤ 140737488355328 := by
    unfold fullO at h
    cases hb : Nat.ble (b.length + 90) 140737488355328 with
    | true => exact Nat.le_of_ble_eq_true hb
    | false => rw [hb] at h; cases h
  intro S us w hv
  obtain ⟨hs2, hget⟩ := hv
  obtain ⟨u0, hu0, hv0⟩ := hget 0 _ rfl
  obtain ⟨u1, hu1, hv1⟩ := hget 1 _ rfl
  obtain ⟨A, cp, rfl, ⟨⟨hlc, _⟩, hB⟩, _, _⟩ := vr_sl.1 hv0
  have hv1' : u1 = .int .u8 c.toNat := vr_v.1 hv1
  subst hv1'
  have hus : us = #[Value.slice A (b.map ofB).length cp, .int .u8 c.toNat] := by
    refine Array.ext (by simpa using hs2) fun i h1 h2 => ?_
    match i, h1, h2 with
    | 0, h1, h2 => simpa [Array.getElem?_eq_getElem h1] using hu0
    | 1, h1, h2 => simpa [Array.getElem?_eq_getElem h1] using hu1
    | i + 2, h1, h2 => exact absurd (by simpa using h2 : i + 2 < 2) (by omega)
  have hroom := Room.of hB w.heap.size
  rw [hus]
  rw [List.length_map] at hlc ⊢
  refine Calls.mono (full_raw (S := S) (w0 := w) .refl hlc hbnd hroom) ?_
  rintro e w' ⟨v, rfl, rfl, hW⟩
  exact ⟨_, rfl, vr_tup.2 ⟨[], rfl, rfl, by simp⟩, hW.os, hW.tape, hW.output, hW.size, hW.keep, hW.kp⟩
/-- Rows that are written full, one behind the other. -/
def fullsO (l : List Str) : Option Unit := bif l.all (fun b => Nat.ble (b.length + 90) 140737488355328) then some () else none
theorem fullsO_len {l : List Str} {u : Unit} (h : fullsO l = some u) {b : Str} (hb : b ∈ l) : b.length + 90 ≤ 140737488355328 := by
  unfold fullsO at h
  cases hh : l.all (fun b => Nat.ble (b.length + 90) 140737488355328) with
  | true => exact Nat.le_of_ble_eq_true (List.all_eq_true.1 hh b hb)
  | false => rw [hh] at h; cases h
theorem keep_cons {D : List Nat} {k : Nat} {v : Value} {env env0 : VE} (hk : D.contains k = true) (h : ∀ s, D.contains s = false → vget env s = vget env0 s) : ∀ s, D.contains s = false → vget ((k, v) :: env) s = vget env0 s := fun s hs => by
  simp only [vget]
  cases hb : Nat.beq k s with
  | true => have := beq_iff'.1 hb; subst this; rw [hk] at hs; cases hs
  | false => exact h s hs
/-- A row within an element of a row: its room, as far as its own type's blocks go. -/
theorem sub_room {S : Nat → Prop} {w w1 : World} {A : Option Addr} {e s n : Nat} (hB : (memC S w).B A e s n) (hk : Keeps w w1) : Room (fun b => S b ∧ ∃ c z, w.heap[b]? = some (.cells c e z)) w.heap.size w1 A e s n := by
  rcases hB with h | ⟨b, o, c, z, q, h1, h2, h3, h4⟩
  · exact .inl h
  · exact Room.keeps (w := w) (.inr ⟨b, o, c, z, q, h1, .inl ⟨h2, c, z, h3⟩, h3, h4⟩) hk
/-- Where a row of other elements stands, nothing is written. -/
theorem sub_keep {S : Nat → Prop} {w w1 : World} {b o e e' s n : Nat} (hne : e ≠ e') (hB : (memC S w).B (some ⟨b, o, none⟩) e s n) (hW : Wrs (fun b => S b ∧ ∃ c z, w.heap[b]? = some (.cells c e' z)) w w1) : w1.heap[b]? = w.heap[b]? := by
  rcases hB with ⟨h, _⟩ | ⟨b', o', c, z, q, h1, h2, h3, h4⟩
  · cases h
  · injection h1 with h1; injection h1 with h1 _; subst h1
    refine hW.keep b (lt_of_get h3) (fun ⟨_, c', z', h5⟩ => ?_)
    rw [h3] at h5; injection h5 with h5; injection h5 with _ h6 _
    exact hne h6
end Go.Proofs.Ytpmbflnoohpbnaa
