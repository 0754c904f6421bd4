/- What the library's slices.Delete and slices.Insert do to a row that is the caller's own. -/
import Derived.Test.YthidgpcbnieleaaV0
import Derived.Test.YthidgpcbnieleaaAwIp
import Derived.Test.YthidgpcbnieleaaAwIn
import Derived.Lib.Overlaps
import Derived.Lib.AppendZerosOnto
import Derived.Laws.Externs
import Derived.KernelRfl
namespace Go.Proofs.Ythidgpcbnieleaa
open Go Aw
set_option linter.unusedVariables false
set_option linter.unusedSimpArgs false
set_option maxRecDepth 8000
theorem Z29 : Z5g Try.prog 77 96 2 := by
 intro w b n c i cells hnc hin hn63 h1c hb hcs
 have hcz : (Value.cells (.agg #[.string ⟨#[]⟩, .nilIface])).size = 2 := rfl
 have hci : ¬ (c = i) := by omega
 have hle : n * 2 ≤ c * 2 := Nat.mul_le_mul_right _ hnc
 refine z7k (args := [.slice (some ⟨b, 0, none⟩) n c, .int .i64 (i : Nat), .int .i64 ((i + 1 : Nat) : Int)]) (r := 6) Try.func77 rfl Try.ntmps77 rfl rfl ?_
 refine z0y (z0m (z09 rfl rfl (z12 rfl rfl) (z14 ?_)))
 change XW _ _ _ _ _ _ _
 refine z0y (z0m (z09 rfl rfl (z0i rfl rfl) (z09 rfl rfl (z0i rfl rfl) (z09 rfl rfl (z0i rfl rfl) (z09 rfl rfl (z0i rfl rfl) (z09 rfl rfl (z6z Try.underlying64 rfl rfl)
  (z09 rfl rfl (zvg Try.underlying64 z1c rfl rfl rfl rfl rfl (by omega) (by omega) hnc) (z14 ?_))))))))
 change XW _ _ _ _ _ _ _
 refine z0y (z0y (z0m (z09 rfl rfl (z0i rfl rfl) (z09 rfl rfl (z0i rfl rfl) (z09 rfl rfl (zbx rfl rfl rfl rfl) (z14 ?_))))))
 change XW _ _ _ _ _ _ _
 refine z2u rfl (fun hc => ?_) (fun _ => z3w ?_)
 ·have := beq_iff_eq.1 hc; omega
 change XW _ _ _ _ _ _ _
 refine z0y (z0m (z09 rfl rfl (z0i rfl rfl) (z09 rfl rfl (z6z Try.underlying64 rfl rfl) (z09 rfl rfl (z12 rfl rfl) (z14 ?_)))))
 change XW _ _ _ _ _ _ _
 -- s[:i] and s[j:] joined
 have hnews : ∀ w1 : World, w1.heap = w.heap → ∃ A2, z9g (some ⟨b, 0, none⟩) (i + 1) c 2 = some A2 ∧ Src Try.prog 2 64 (.slice (some A2) (n - (i + 1)) (c - (i + 1))) (n - (i + 1)) ((cells.toList.take (n * 2)).drop ((i + 1) * 2)) w1 := by
  intro w1 hw1
  by_cases hc2 : c = i + 1
  ·refine ⟨⟨b, 0, none⟩, by rw [z9g, if_pos hc2], Src.ofSlice _ Try.underlying64 _ _ _ _ ?_ (fun j v hj => ?_) (fun v hv => h1c v (List.mem_of_mem_drop hv))⟩
   ·rw [List.length_drop, List.length_take, Array.length_toList, show n = i + 1 by omega]; omega
   ·have := z0a hj
    rw [List.length_drop, List.length_take, Array.length_toList, show n = i + 1 by omega] at this; omega
  ·refine ⟨⟨b, (i + 1) * 2, none⟩, z34 hc2, Src.ofSlice _ Try.underlying64 _ _ _ _ ?_ (fun j v hj => ?_) (fun v hv => h1c v (List.mem_of_mem_drop hv))⟩
   ·rw [List.length_drop, List.length_take, Array.length_toList, Nat.min_eq_left (by omega), ← Nat.sub_mul]
   ·rw [List.getElem?_drop, List.getElem?_take] at hj
    split at hj
    ·rw [z1m, z1p (by rw [hw1]; exact hb)]; simpa using hj
    ·cases hj
 refine z0y (zfd (env' := [(0, .slice (some ⟨b, 0, none⟩) n c), (1, .int .i64 (i : Nat)), (2, .int .i64 ((i + 1 : Nat) : Int)), (7, .int .i64 (n : Nat))]) (z3a rfl (z3a rfl (z3a rfl (z3a rfl zl0)))) ?_)
 refine zfe 6 mo (by kernel_rfl) ?_
 obtain ⟨A2, hA2, hsrc⟩ := hnews { w with drawn := w.drawn + 1 } rfl
 refine z2m rfl rfl (z0i rfl rfl) (z2m rfl rfl (z0i rfl rfl) (z2m rfl rfl (zkq Try.underlying64 z1c rfl rfl rfl (by omega : i ≤ c)) (z2m rfl rfl (z0i rfl rfl) (z2m rfl rfl (z0i rfl rfl) (z2m rfl rfl (z84 Try.underlying64 z1c rfl rfl rfl (by omega : i + 1 ≤ n)) (zku ?_))))))
 rw [hA2]
 obtain ⟨w2, C2, hrun, hb2, hcs2, hget2, hW2⟩ := zc9 (ty := 64) (l := i) (c := c) Try.underlying64 z1c (w := { w with drawn := w.drawn + 1 }) hb hcs hsrc (by omega)
 have hll : i + (n - (i + 1)) = n - 1 := by omega
 rw [hll] at hrun
 refine z09 rfl rfl (zgn rfl rfl rfl hrun) (z09 rfl rfl (z12 rfl rfl) (z14 ?_))
 change XW _ _ _ _ _ _ _
 -- what is z3v is cleared
 have hpA : z9g (some ⟨b, 0, none⟩) (n - 1) c 2 = some ⟨b, (n - 1) * 2, none⟩ := z34 (by omega)
 have hmm : (n - 1) * 2 + 1 * 2 = n * 2 := by rw [← Nat.add_mul]; congr 1; omega
 obtain ⟨w3, C3, hrun3, hb3, hcs3, hget3, hW3⟩ := zh2 (P := Try.prog) (t := 64) (ty := 0) (n := 1) (c := c - (n - 1)) (off := (n - 1) * 2) Try.underlying64 z1c hcz (by decide) hb2 (by rw [hcs2, hmm]; omega) (by omega)
 have hd1 : n - (n - 1) = 1 := by omega
 refine z0y (z0m (z09 rfl rfl (z0i rfl rfl) (z09 rfl rfl (z0i rfl rfl) (z09 rfl rfl (z6z Try.underlying64 rfl rfl) (z09 rfl rfl (z0i rfl rfl) (z09 rfl rfl (zvf Try.underlying64 z1c rfl rfl rfl rfl (by omega : n - 1 ≤ n) hnc)
  (z09 rfl rfl (zks rfl rfl (by rw [hpA, hd1]; exact hrun3)) (z14 ?_))))))))
 change XW _ _ _ _ _ _ _
 refine z0y (z0m (z09 rfl rfl (z0i rfl rfl) (z09 rfl rfl (z12 rfl rfl) (z14 ?_))))
 change XW _ _ _ _ _ _ _
 refine ze2 ⟨_, rfl, C3, rfl, hb3, by rw [hcs3, hcs2], fun k u hk => ?_, ?_⟩
 ·have hlk := z0a hk
  have hil : i * 2 ≤ n * 2 := Nat.mul_le_mul_right _ (by omega)
  have hil2 : (i + 1) * 2 ≤ n * 2 := Nat.mul_le_mul_right _ hin
  have hnn : (n - (i + 1)) * 2 = n * 2 - (i + 1) * 2 := Nat.sub_mul _ _ _
  have hn1 : (n - 1) * 2 = n * 2 - 1 * 2 := Nat.sub_mul _ _ _
  have hi1 : (i + 1) * 2 = i * 2 + 1 * 2 := Nat.add_mul _ _ _
  rw [List.length_append, List.length_take, List.length_drop, List.length_take, Array.length_toList, Nat.min_eq_left (by omega), Nat.min_eq_left (by omega)] at hlk
  rw [hget3 k (by omega), hget2 k]
  by_cases hki : k < i * 2
  ·rw [if_neg (by omega)]
   rw [List.getElem?_append_left (by rw [List.length_take, Array.length_toList]; omega), List.getElem?_take, if_pos hki] at hk
   simpa using hk
  ·rw [if_pos (by omega)]
   rw [List.getElem?_append_right (by rw [List.length_take, Array.length_toList]; omega), List.length_take, Array.length_toList, Nat.min_eq_left (by omega)] at hk
   exact hk
 ·refine ⟨hW3.os.trans hW2.os, hW3.tape.trans hW2.tape, hW3.output.trans hW2.output, Nat.le_trans hW2.size hW3.size, fun k hk hn => (hW3.keep k (Nat.lt_of_lt_of_le hk hW2.size) hn).trans (hW2.keep k hk hn), hW2.kp.trans hW3.kp⟩
theorem Z28 : Z5g Try.prog 79 20 1 := by
 intro w b n c i cells hnc hin hn63 h1c hb hcs
 have hcz : (Value.cells (.nilIface)).size = 1 := rfl
 have hci : ¬ (c = i) := by omega
 have hle : n * 1 ≤ c * 1 := Nat.mul_le_mul_right _ hnc
 refine z7k (args := [.slice (some ⟨b, 0, none⟩) n c, .int .i64 (i : Nat), .int .i64 ((i + 1 : Nat) : Int)]) (r := 6) Try.func79 rfl Try.ntmps79 rfl rfl ?_
 refine z0y (z0m (z09 rfl rfl (z12 rfl rfl) (z14 ?_)))
 change XW _ _ _ _ _ _ _
 refine z0y (z0m (z09 rfl rfl (z0i rfl rfl) (z09 rfl rfl (z0i rfl rfl) (z09 rfl rfl (z0i rfl rfl) (z09 rfl rfl (z0i rfl rfl) (z09 rfl rfl (z6z Try.underlying62 rfl rfl)
  (z09 rfl rfl (zvg Try.underlying62 z2g rfl rfl rfl rfl rfl (by omega) (by omega) hnc) (z14 ?_))))))))
 change XW _ _ _ _ _ _ _
 refine z0y (z0y (z0m (z09 rfl rfl (z0i rfl rfl) (z09 rfl rfl (z0i rfl rfl) (z09 rfl rfl (zbx rfl rfl rfl rfl) (z14 ?_))))))
 change XW _ _ _ _ _ _ _
 refine z2u rfl (fun hc => ?_) (fun _ => z3w ?_)
 ·have := beq_iff_eq.1 hc; omega
 change XW _ _ _ _ _ _ _
 refine z0y (z0m (z09 rfl rfl (z0i rfl rfl) (z09 rfl rfl (z6z Try.underlying62 rfl rfl) (z09 rfl rfl (z12 rfl rfl) (z14 ?_)))))
 change XW _ _ _ _ _ _ _
 -- s[:i] and s[j:] joined
 have hnews : ∀ w1 : World, w1.heap = w.heap → ∃ A2, z9g (some ⟨b, 0, none⟩) (i + 1) c 1 = some A2 ∧ Src Try.prog 1 62 (.slice (some A2) (n - (i + 1)) (c - (i + 1))) (n - (i + 1)) ((cells.toList.take (n * 1)).drop ((i + 1) * 1)) w1 := by
  intro w1 hw1
  by_cases hc2 : c = i + 1
  ·refine ⟨⟨b, 0, none⟩, by rw [z9g, if_pos hc2], Src.ofSlice _ Try.underlying62 _ _ _ _ ?_ (fun j v hj => ?_) (fun v hv => h1c v (List.mem_of_mem_drop hv))⟩
   ·rw [List.length_drop, List.length_take, Array.length_toList, show n = i + 1 by omega]; omega
   ·have := z0a hj
    rw [List.length_drop, List.length_take, Array.length_toList, show n = i + 1 by omega] at this; omega
  ·refine ⟨⟨b, (i + 1) * 1, none⟩, z34 hc2, Src.ofSlice _ Try.underlying62 _ _ _ _ ?_ (fun j v hj => ?_) (fun v hv => h1c v (List.mem_of_mem_drop hv))⟩
   ·rw [List.length_drop, List.length_take, Array.length_toList, Nat.min_eq_left (by omega), ← Nat.sub_mul]
   ·rw [List.getElem?_drop, List.getElem?_take] at hj
    split at hj
    ·rw [z1m, z1p (by rw [hw1]; exact hb)]; simpa using hj
    ·cases hj
 refine z0y (zfd (env' := [(0, .slice (some ⟨b, 0, none⟩) n c), (1, .int .i64 (i : Nat)), (2, .int .i64 ((i + 1 : Nat) : Int)), (7, .int .i64 (n : Nat))]) (z3a rfl (z3a rfl (z3a rfl (z3a rfl zl0)))) ?_)
 refine zfe 6 mo (by kernel_rfl) ?_
 obtain ⟨A2, hA2, hsrc⟩ := hnews { w with drawn := w.drawn + 1 } rfl
 refine z2m rfl rfl (z0i rfl rfl) (z2m rfl rfl (z0i rfl rfl) (z2m rfl rfl (zkq Try.underlying62 z2g rfl rfl rfl (by omega : i ≤ c)) (z2m rfl rfl (z0i rfl rfl) (z2m rfl rfl (z0i rfl rfl) (z2m rfl rfl (z84 Try.underlying62 z2g rfl rfl rfl (by omega : i + 1 ≤ n)) (zku ?_))))))
 rw [hA2]
 obtain ⟨w2, C2, hrun, hb2, hcs2, hget2, hW2⟩ := zc9 (ty := 62) (l := i) (c := c) Try.underlying62 z2g (w := { w with drawn := w.drawn + 1 }) hb hcs hsrc (by omega)
 have hll : i + (n - (i + 1)) = n - 1 := by omega
 rw [hll] at hrun
 refine z09 rfl rfl (zgn rfl rfl rfl hrun) (z09 rfl rfl (z12 rfl rfl) (z14 ?_))
 change XW _ _ _ _ _ _ _
 -- what is z3v is cleared
 have hpA : z9g (some ⟨b, 0, none⟩) (n - 1) c 1 = some ⟨b, (n - 1) * 1, none⟩ := z34 (by omega)
 have hmm : (n - 1) * 1 + 1 * 1 = n * 1 := by rw [← Nat.add_mul]; congr 1; omega
 obtain ⟨w3, C3, hrun3, hb3, hcs3, hget3, hW3⟩ := zh2 (P := Try.prog) (t := 62) (ty := 0) (n := 1) (c := c - (n - 1)) (off := (n - 1) * 1) Try.underlying62 z2g hcz (by decide) hb2 (by rw [hcs2, hmm]; omega) (by omega)
 have hd1 : n - (n - 1) = 1 := by omega
 refine z0y (z0m (z09 rfl rfl (z0i rfl rfl) (z09 rfl rfl (z0i rfl rfl) (z09 rfl rfl (z6z Try.underlying62 rfl rfl) (z09 rfl rfl (z0i rfl rfl) (z09 rfl rfl (zvf Try.underlying62 z2g rfl rfl rfl rfl (by omega : n - 1 ≤ n) hnc)
  (z09 rfl rfl (zks rfl rfl (by rw [hpA, hd1]; exact hrun3)) (z14 ?_))))))))
 change XW _ _ _ _ _ _ _
 refine z0y (z0m (z09 rfl rfl (z0i rfl rfl) (z09 rfl rfl (z12 rfl rfl) (z14 ?_))))
 change XW _ _ _ _ _ _ _
 refine ze2 ⟨_, rfl, C3, rfl, hb3, by rw [hcs3, hcs2], fun k u hk => ?_, ?_⟩
 ·have hlk := z0a hk
  have hil : i * 1 ≤ n * 1 := Nat.mul_le_mul_right _ (by omega)
  have hil2 : (i + 1) * 1 ≤ n * 1 := Nat.mul_le_mul_right _ hin
  have hnn : (n - (i + 1)) * 1 = n * 1 - (i + 1) * 1 := Nat.sub_mul _ _ _
  have hn1 : (n - 1) * 1 = n * 1 - 1 * 1 := Nat.sub_mul _ _ _
  have hi1 : (i + 1) * 1 = i * 1 + 1 * 1 := Nat.add_mul _ _ _
  rw [List.length_append, List.length_take, List.length_drop, List.length_take, Array.length_toList, Nat.min_eq_left (by omega), Nat.min_eq_left (by omega)] at hlk
  rw [hget3 k (by omega), hget2 k]
  by_cases hki : k < i * 1
  ·rw [if_neg (by omega)]
   rw [List.getElem?_append_left (by rw [List.length_take, Array.length_toList]; omega), List.getElem?_take, if_pos hki] at hk
   simpa using hk
  ·rw [if_pos (by omega)]
   rw [List.getElem?_append_right (by rw [List.length_take, Array.length_toList]; omega), List.length_take, Array.length_toList, Nat.min_eq_left (by omega)] at hk
   exact hk
 ·refine ⟨hW3.os.trans hW2.os, hW3.tape.trans hW2.tape, hW3.output.trans hW2.output, Nat.le_trans hW2.size hW3.size, fun k hk hn => (hW3.keep k (Nat.lt_of_lt_of_le hk hW2.size) hn).trans (hW2.keep k hk hn), hW2.kp.trans hW3.kp⟩
theorem Z12 : Z6d Try.prog 91 96 2 32 := by
 intro w A n c i vb vn cells vc hnc hin hby hn63 hvb hvs h1v h1c hcase
 obtain ⟨inf, hinf, hzz, hss, hbb⟩ := (z1c).spec
 have hcz : (Value.cells (.agg #[.string ⟨#[]⟩, .nilIface])).size = 2 := rfl
 have hvl : (vc.toList.take 2).length = 2 := by rw [List.length_take, Array.length_toList]; omega
 have hvc : ∀ w1 : World, w1.heap[vb]? = w.heap[vb]? → ∀ (j : Nat) (v : Value), (vc.toList.take 2)[j]? = some v → w1.cell? ((⟨vb, 0, none⟩ : Addr).add j) = some v := fun w1 h1 j v hj => by
  rw [List.getElem?_take] at hj
  split at hj
  ·rw [z1m, z1p (h1.trans hvb), Nat.zero_add]; simpa using hj
  ·cases hj
 have hsrcV : ∀ w1 : World, w1.heap[vb]? = w.heap[vb]? → Src Try.prog 2 63 (.slice (some ⟨vb, 0, none⟩) 1 vn) 1 (vc.toList.take 2) w1 := fun w1 h1 => Src.ofSlice _ Try.underlying63 _ 1 vn _ (by rw [hvl, Nat.one_mul]) (hvc w1 h1) h1v
 have hn1 : (n + 1) * 2 = n * 2 + 2 := by rw [Nat.add_mul, Nat.one_mul]
 have hi1 : (i + 1) * 2 = i * 2 + 2 := by rw [Nat.add_mul, Nat.one_mul]
 have hil : i * 2 ≤ n * 2 := Nat.mul_le_mul_right _ hin
 have hge := grownCap_ge w (n + 1) c 96
 have hfitc : ∀ cap' : Nat, (Builtin.zeroCells (Value.cells (.agg #[.string ⟨#[]⟩, .nilIface])) (cap' - (n + 1))).size = (cap' - (n + 1)) * 2 := fun cap' => by rw [size_zeroCells, hcz]
 have hcsz : n * 2 ≤ cells.size ∧ ((n = 0 ∧ c = 0 ∧ cells = #[]) ∨ c * 2 ≤ cells.size) := by
  rcases hcase with ⟨h1, h2, h3⟩ | ⟨b, _, _, _, h, _⟩
  ·exact ⟨by subst h1; subst h3; simp, .inl ⟨h1, h2, h3⟩⟩
  ·exact ⟨Nat.le_trans (Nat.mul_le_mul_right _ hnc) h, .inr h⟩
 have hfc : ∀ m, m ≤ n → (Builtin.firstCells inf.size m (.slice A m c)).run Try.prog w.drew = .ok (cells.toList.take (m * 2)).toArray w.drew := by
  intro m hm
  have hms : m * 2 ≤ n * 2 := Nat.mul_le_mul_right _ hm
  rcases hcase with ⟨h1, h2, h3⟩ | ⟨b, rfl, _, hb, h, _⟩
  ·have hm0 : m = 0 := by omega
   subst hm0; subst h3
   cases A <;> simp [Builtin.firstCells, loadCells, loadCellsFrom]
  ·rw [hss]
   refine run_firstCells_some w.drew 2 m ⟨b, 0, none⟩ m c _ (by rw [List.length_take, Array.length_toList]; omega) (fun j v hj => ?_)
   rw [z1m, World.cell?_drew, z1p hb, Nat.zero_add]
   rw [List.getElem?_take] at hj
   split at hj
   ·simpa using hj
   ·cases hj
 refine z7k (args := [.slice A n c, .int .i64 (i : Nat), .slice (some ⟨vb, 0, none⟩) 1 vn]) (r := 6) Try.func91 rfl Try.ntmps91 rfl rfl ?_
 refine z0y (z0m (z09 rfl rfl (z12 rfl rfl) (z14 ?_)))
 change XW _ _ _ _ _ _ _
 refine z0y (z0m (z09 rfl rfl (z0i rfl rfl) (z09 rfl rfl (z0i rfl rfl) (z09 rfl rfl (z84 Try.underlying64 z1c rfl rfl rfl hin) (z14 ?_)))))
 change XW _ _ _ _ _ _ _
 refine z0y (z0m (z09 rfl rfl (z0i rfl rfl) (z09 rfl rfl (z6z Try.underlying63 rfl rfl) (z09 rfl rfl (z12 rfl rfl) (z14 ?_)))))
 change XW _ _ _ _ _ _ _
 refine z0y (z0y (z0m (z09 rfl rfl (z0i rfl rfl) (z09 rfl rfl (zbx rfl rfl rfl rfl) (z14 ?_)))))
 change XW _ _ _ _ _ _ _
 refine z2u rfl (fun hc => absurd hc (by decide)) (fun _ => z3w ?_)
 change XW _ _ _ _ _ _ _
 refine z0y (z0m (z09 rfl rfl (z0i rfl rfl) (z09 rfl rfl (z6z Try.underlying64 rfl rfl) (z09 rfl rfl (z12 rfl rfl) (z14 ?_)))))
 change XW _ _ _ _ _ _ _
 refine z0y (z0y (z0m (z09 rfl rfl (z0i rfl rfl) (z09 rfl rfl (z0i rfl rfl) (z09 rfl rfl (zbx rfl rfl rfl rfl) (z14 ?_))))))
 change XW _ _ _ _ _ _ _
 refine z2u rfl (fun hc => ?_) (fun hc => z3w ?_)
 ·have hie : i = n := by have := beq_iff_eq.1 hc; omega
  subst hie
  by_cases hroom : i + 1 ≤ c
  ·rcases hcase with ⟨h1, h2, h3⟩ | ⟨b, rfl, hbv, hb, hcs, hpos⟩
   ·omega
   obtain ⟨w2, C2, hrun, hb2, hcs2, hget2, hW2⟩ := zc9 (P := Try.prog) (t := 64) (ty := 64) (l := i) (c := c) Try.underlying64 z1c hb hcs (hsrcV w rfl) hroom
   refine z0y (z0m (z09 rfl rfl (z0i rfl rfl) (z09 rfl rfl (z0i rfl rfl) (z09 rfl rfl (zgn rfl rfl rfl hrun) (z09 rfl rfl (z12 rfl rfl) (z14 ?_))))))
   change XW _ _ _ _ _ _ _
   refine ze2 ⟨_, rfl, b, c, C2, rfl, hroom, hb2, by rw [hcs2]; exact hcs, .inl ⟨rfl, hpos⟩, fun k u hk => ?_, hW2.mono (fun k _ hk => ⟨by rw [hk], hpos⟩)⟩
   rw [hget2 k, Nat.one_mul]
   rcases zg7 (by rw [Array.length_toList]; omega) hvl hk with ⟨h1, h2⟩ | ⟨h1, h2, h3⟩ | ⟨h1, h2⟩
   ·rw [if_neg (by omega)]; simpa using h2
   ·rw [if_pos ⟨h1, h2⟩]; exact h3
   ·have := z0a h2
    rw [List.length_drop, List.length_take] at this; omega
  ·have hrun := run_append_grow_src (P := Try.prog) w 64 63 64 96 inf (.agg #[.string ⟨#[]⟩, .nilIface]) Try.underlying64 hinf hzz A i c _ (hfc i (Nat.le_refl _)) (.slice (some ⟨vb, 0, none⟩) 1 vn) 1 (vc.toList.take 2) (by rw [hss]; exact hsrcV w rfl) (by omega) (by omega) (growslice_fits (by omega) (by rw [hbb]; exact hby))
   refine z0y (z0m (z09 rfl rfl (z0i rfl rfl) (z09 rfl rfl (z0i rfl rfl) (z09 rfl rfl (zgn rfl rfl rfl hrun) (z09 rfl rfl (z12 rfl rfl) (z14 ?_))))))
   change XW _ _ _ _ _ _ _
   refine ze2 ⟨_, rfl, w.heap.size, _, _, rfl, hge, z2o (w := w.drew), ?_, .inr (Nat.le_refl _), fun k u hk => ?_, Wrs.refl.grow rfl rfl rfl (by simp) (fun k hk => by rw [z2k (by exact hk)]; rfl)⟩
   ·have := Nat.mul_le_mul_right 2 hge
    simp only [Array.size_append, List.size_toArray, List.length_append, hvl, hfitc, List.length_take, Array.length_toList, Nat.sub_mul]; omega
   ·rcases zg7 (by rw [Array.length_toList]; omega) hvl hk with ⟨h1, h2⟩ | ⟨h1, h2, h3⟩ | ⟨h1, h2⟩
    ·rw [Array.getElem?_append_left (by simp only [List.size_toArray, List.length_append, List.length_take, Array.length_toList]; omega), List.getElem?_toArray, List.getElem?_append_left (by rw [List.length_take, Array.length_toList]; omega), List.getElem?_take, if_pos h1]; exact h2
    ·rw [Array.getElem?_append_left (by simp only [List.size_toArray, List.length_append, hvl, List.length_take, Array.length_toList]; omega), List.getElem?_toArray, List.getElem?_append_right (by rw [List.length_take, Array.length_toList]; omega), List.length_take, Array.length_toList, Nat.min_eq_left (by omega)]; exact h3
    ·have := z0a h2
     rw [List.length_drop, List.length_take] at this; omega
 have hlt : i < n := by
  have : ¬ ((i : Int) = (n : Int)) := fun h => by rw [beq_iff_eq.2 h] at hc; cases hc
  omega
 rcases hcase with ⟨h1, h2, h3⟩ | ⟨b, rfl, hbv, hb, hcs, hpos⟩
 ·omega
 have hnews : ((cells.toList.take (n * 2)).drop (i * 2)).length = (n - i) * 2 := by rw [List.length_drop, List.length_take, Array.length_toList, Nat.min_eq_left hcsz.1, Nat.sub_mul]
 have hni : (n - i) * 2 = n * 2 - i * 2 := Nat.sub_mul _ _ _
 have hnewc : ∀ w1 : World, w1.heap[b]? = w.heap[b]? → ∀ (j : Nat) (v : Value), ((cells.toList.take (n * 2)).drop (i * 2))[j]? = some v → w1.cell? ((⟨b, i * 2, none⟩ : Addr).add j) = some v := fun w1 hw1 j v hj => by
  rw [List.getElem?_drop, List.getElem?_take] at hj
  split at hj
  ·rw [z1m, z1p (by rw [hw1]; exact hb)]; simpa using hj
  ·cases hj
 have hone : ∀ v, v ∈ (cells.toList.take (n * 2)).drop (i * 2) → v.oneCell' = true := fun v hv => h1c v (List.mem_of_mem_drop hv)
 change XW _ _ _ _ _ _ _
 refine z0y (z0y (z0m (z09 rfl rfl (z0i rfl rfl) (z09 rfl rfl (z0i rfl rfl) (z09 rfl rfl (za2 rfl rfl rfl hn63) (z09 rfl rfl (z0i rfl rfl) (z09 rfl rfl (zzm Try.underlying64 rfl rfl) (z09 rfl rfl (zbx rfl rfl rfl rfl) (z14 ?_)))))))))
 change XW _ _ _ _ _ _ _
 refine z2u rfl (fun hc => ?_) (fun hc => z3w ?_)
 ·-- no room
  have hgt : c < n + 1 := by have := of_decide_eq_true hc; omega
  have hcn : c = n := by omega
  subst hcn
  have hk0 : i + (c + 1 - i) = c + 1 := by omega
  have hbt : (c + 1 - i) * 32 ≤ (c + 1) * 32 := Nat.mul_le_mul_right _ (by omega)
  have hrun := Lib.run_append_grow_zeros (P := Try.prog) w 64 3 64 96 inf (.agg #[.string ⟨#[]⟩, .nilIface]) .i64 .i64 Try.underlying64 Try.underlying3 hinf hzz (some ⟨b, 0, none⟩) i c _ (by
   have := hfc i hin
   simpa [Builtin.firstCells] using this) (c + 1 - i) (by omega) (by rw [hss]; decide) (by omega) (by omega) (by rw [hbb]; omega) (by rw [hk0, hbb]; exact growslice_fits (by omega) (by simpa using hby))
  rw [hk0] at hrun
  refine z0y (z0m (z09 rfl rfl (z0i rfl rfl) (z09 rfl rfl (z0i rfl rfl) (z09 rfl rfl (zkq Try.underlying64 z1c rfl rfl rfl hin) (z09 rfl rfl (z0i rfl rfl) (z09 rfl rfl (z0i rfl rfl) (z09 rfl rfl (za2 rfl rfl rfl hn63)
   (z09 rfl rfl (z0i rfl rfl) (z09 rfl rfl (zwo rfl rfl rfl (by omega) hn63) (z09 rfl rfl (zgn rfl rfl rfl hrun) (z09 rfl rfl (z12 rfl rfl) (z14 ?_))))))))))))
  change XW _ _ _ _ _ _ _
  obtain ⟨D, hD⟩ : ∃ D : Array Value, D = (cells.toList.take (i * 2)).toArray ++ Builtin.zeroCells (Value.cells (.agg #[.string ⟨#[]⟩, .nilIface])) (c + 1 - i) ++ Builtin.zeroCells (Value.cells (.agg #[.string ⟨#[]⟩, .nilIface])) (grownCap w (c + 1) c 96 - (c + 1)) := ⟨_, rfl⟩
  rw [← hD]
  generalize hcap : grownCap w (c + 1) c 96 = cap' at *
  have hDs : D.size = cap' * 2 := by
   have h5 := Nat.mul_le_mul_right 2 hge
   rw [hD]
   simp only [Array.size_append, List.size_toArray, hfitc, size_zeroCells, hcz, List.length_take, Array.length_toList, Nat.sub_mul]; omega
  have hDk : ∀ k, k < i * 2 → D[k]? = cells[k]? := fun k hk => by
   rw [hD, Array.append_assoc, Array.getElem?_append_left (by simp only [List.size_toArray, List.length_take, Array.length_toList]; omega), List.getElem?_toArray, List.getElem?_take, if_pos hk]; simp
  have hw1n : (w.drew.alloc (.cells D 96)).heap[w.heap.size]? = some (.cells D 96 (0, 0)) := z2o (w := w.drew)
  have hw1o : ∀ k, k < w.heap.size → (w.drew.alloc (.cells D 96)).heap[k]? = w.heap[k]? := fun k hk => by rw [z2k (by exact hk)]; rfl
  have hW1 : Wrs (fun k => (some ⟨b, 0, none⟩ : Option Addr) = some ⟨k, 0, none⟩ ∧ 0 < c) w (w.drew.alloc (.cells D 96)) := Wrs.refl.grow rfl rfl rfl (by simp) hw1o
  have hvlt : vb < w.heap.size := z1e hvb
  have hblt : b < w.heap.size := z1e hb
  have hcap1 : (c + 1) * 2 ≤ cap' * 2 := Nat.mul_le_mul_right _ hge
  obtain ⟨w2, C2, hrun2, hb2, hcs2, hget2, hW2⟩ := z95 (P := Try.prog) (dT := 64) (sT := 63) (ty := 3) (o := i * 2) (dl := c + 1 - i) (dc := cap' - i) (sl := 1) (sc := vn) (n := 1) (a := ⟨vb, 0, none⟩) Try.underlying64 z1c hw1n (Nat.min_eq_left (by omega)) (by rw [hvl, Nat.one_mul]) (hvc _ (hw1o vb hvlt)) (by rw [hDs]; omega) h1v
  refine z0y (z0m (z09 rfl rfl (z0i rfl rfl) (z09 rfl rfl (z0i rfl rfl) (z09 rfl rfl (z84 Try.underlying64 z1c rfl rfl rfl (by omega)) (z09 rfl rfl (z0i rfl rfl) (z09 rfl rfl (zfg rfl rfl rfl (by rw [z34 (by omega)]; exact hrun2)) (z14 ?_)))))))
  change XW _ _ _ _ _ _ _
  refine z0y (zfd (env' := [(0, .slice (some ⟨b, 0, none⟩) c c), (1, .int .i64 (i : Nat)), (7, .int .i64 ((1 : Nat) : Int)), (9, .slice (some ⟨w.heap.size, 0, none⟩) (c + 1) cap')]) (z3a rfl (z3a rfl (z3a rfl (z3a rfl zl0)))) ?_)
  refine zfe 8 mo (by kernel_rfl) ?_
  have hb2' : ({ w2 with drawn := w2.drawn + 1 } : World).heap[w.heap.size]? = some (.cells C2 96 (0, 0)) := hb2
  have hbk : ({ w2 with drawn := w2.drawn + 1 } : World).heap[b]? = w.heap[b]? := (hW2.keep b (by simp; omega) (by omega)).trans (hw1o b hblt)
  obtain ⟨w3, C3, hrun3, hb3, hcs3, hget3, hW3⟩ := z95 (P := Try.prog) (dT := 64) (sT := 64) (ty := 3) (o := (i + 1) * 2) (dl := c + 1 - (i + 1)) (dc := cap' - (i + 1)) (sl := c - i) (sc := c - i) (n := c - i) (a := ⟨b, i * 2, none⟩) Try.underlying64 z1c hb2' (by show min _ _ = _; omega) hnews (hnewc _ hbk) (by rw [hcs2, hDs]; omega) hone
  refine z2m rfl rfl (z0i rfl rfl) (z2m rfl rfl (z0i rfl rfl) (z2m rfl rfl (z0i rfl rfl) (z2m rfl rfl (za2 rfl rfl rfl (by omega)) (z2m rfl rfl (z84 Try.underlying64 z1c rfl rfl rfl (by omega : i + 1 ≤ c + 1))
   (z2m rfl rfl (z0i rfl rfl) (z2m rfl rfl (z0i rfl rfl) (z2m rfl rfl (z84 Try.underlying64 z1c rfl rfl rfl hin) (zku ?_))))))))
  rw [z34 (by omega), z34 (by omega)]
  refine z09 rfl rfl (zfg rfl rfl rfl hrun3) (z14 ?_)
  change XW _ _ _ _ _ _ _
  refine z0y (z0m (z09 rfl rfl (z0i rfl rfl) (z09 rfl rfl (z12 rfl rfl) (z14 ?_))))
  change XW _ _ _ _ _ _ _
  refine ze2 ⟨_, rfl, w.heap.size, cap', C3, rfl, hge, hb3, by rw [hcs3, hcs2, hDs]; exact Nat.le_refl _, .inr (Nat.le_refl _), fun k u hk => ?_, (hW1.also hW2 (fun q hq => .inr (by omega))).also (w := w2) ⟨hW3.os, hW3.tape, hW3.output, hW3.size, hW3.keep, hW3.kp⟩ (fun q hq => .inr (by omega))⟩
  rw [hget3 k, hnews, hget2 k, hvl]
  rcases zg7 (by rw [Array.length_toList]; omega) hvl hk with ⟨h1, h2⟩ | ⟨h1, h2, h3⟩ | ⟨h1, h2⟩
  ·rw [if_neg (by omega), if_neg (by omega), hDk k h1]; simpa using h2
  ·rw [if_neg (by omega), if_pos ⟨h1, h2⟩]; exact h3
  ·have h4 := z0a h2
   rw [hnews] at h4
   rw [if_pos (by omega), hi1]; exact h2
 ·have hroom : n + 1 ≤ c := by have := of_decide_eq_false hc; omega
  have hcap1 : (n + 1) * 2 ≤ c * 2 := Nat.mul_le_mul_right _ hroom
  change XW _ _ _ _ _ _ _
  refine z0y (z0m (z09 rfl rfl (z0i rfl rfl) (z09 rfl rfl (z0i rfl rfl) (z09 rfl rfl (z0i rfl rfl) (z09 rfl rfl (za2 rfl rfl rfl hn63) (z09 rfl rfl (zkq Try.underlying64 z1c rfl rfl rfl hroom) (z09 rfl rfl (z12 rfl rfl) (z14 ?_))))))))
  change XW _ _ _ _ _ _ _
  have hov : ∀ lb cb, (callFunc 98 #[.slice (some ⟨vb, 0, none⟩) 1 vn, .slice (some ⟨b, (i + 1) * 2, none⟩) lb cb]).run Try.prog w = .ok (.value (.bool false)) w := fun lb cb => by
   have h1 : Try.prog.funcs[98]? = some Try.f98 := by kernel_rfl
   have h2 : (Extern.findNext Try.f98).isNone = true := by kernel_rfl
   have h2' : Extern.findNext Try.f98 = none := by simpa using h2
   rw [run_callFunc_extern h1 (by kernel_rfl) (by kernel_rfl) h2' (e := Extern.SlicesOverlaps.overlaps #[63, 63] #[4]) (by kernel_rfl),
    Lib.run_overlaps_apart w 63 4 96 Try.underlying63 2 (fun w1 => by simp [Go.sizeOf, typeInfo, hinf, hss]) ⟨vb, 0, none⟩ ⟨b, (i + 1) * 2, none⟩ 1 vn lb cb (fun h => hbv h.symm) 96 96 vc.size cells.size (by simp [World.shape?, hvb]) (by simp [World.shape?, hb]) (by omega) (by simp [World.frozen?, hvb]) (by simp [World.frozen?, hvb])]
   rfl
  refine z0y (z0y (z0m (z09 rfl rfl (z0i rfl rfl) (z09 rfl rfl (z0i rfl rfl) (z09 rfl rfl (z0i rfl rfl) (z09 rfl rfl (z0i rfl rfl) (z09 rfl rfl (za2 rfl rfl rfl (by omega)) (z09 rfl rfl (z84 Try.underlying64 z1c rfl rfl rfl (by omega : i + 1 ≤ n + 1))
   (z09 rfl rfl (zwp rfl rfl rfl (by rw [z34 (by omega)]; exact hov _ _)) (z09 rfl rfl (zzl rfl rfl) (z14 ?_)))))))))))
  change XW _ _ _ _ _ _ _
  refine z2u rfl (fun _ => ?_) (fun hc => by cases hc)
  have hb' : ({ w with drawn := w.drawn + 1 } : World).heap[b]? = some (.cells cells 96 (0, 0)) := hb
  obtain ⟨w3, C3, hrun3, hb3, hcs3, hget3, hW3⟩ := z95 (P := Try.prog) (dT := 64) (sT := 64) (ty := 3) (o := (i + 1) * 2) (dl := n + 1 - (i + 1)) (dc := c - (i + 1)) (sl := n + 1 - i) (sc := c - i) (n := n - i) (a := ⟨b, i * 2, none⟩) Try.underlying64 z1c hb' (by show min _ _ = _; omega) hnews (hnewc _ rfl) (by omega) hone
  refine z0y (zfd (env' := [(0, .slice (some ⟨b, 0, none⟩) (n + 1) c), (1, .int .i64 (i : Nat)), (2, .slice (some ⟨vb, 0, none⟩) 1 vn), (7, .int .i64 ((1 : Nat) : Int))]) (z3a rfl (z3a rfl (z3a rfl (z3a rfl zl0)))) ?_)
  refine zfe 8 mo (by kernel_rfl) ?_
  refine z2m rfl rfl (z0i rfl rfl) (z2m rfl rfl (z0i rfl rfl) (z2m rfl rfl (z0i rfl rfl) (z2m rfl rfl (za2 rfl rfl rfl (by omega)) (z2m rfl rfl (z84 Try.underlying64 z1c rfl rfl rfl (by omega : i + 1 ≤ n + 1))
   (z2m rfl rfl (z0i rfl rfl) (z2m rfl rfl (z0i rfl rfl) (z2m rfl rfl (z84 Try.underlying64 z1c rfl rfl rfl (by omega : i ≤ n + 1)) (zku ?_))))))))
  rw [z34 (by omega), z34 (by omega)]
  refine z09 rfl rfl (zfg rfl rfl rfl hrun3) (z14 ?_)
  change XW _ _ _ _ _ _ _
  have hvk : w3.heap[vb]? = w.heap[vb]? := hW3.keep vb (z1e hvb) (fun h => hbv h.symm)
  obtain ⟨w4, C4, hrun4, hb4, hcs4, hget4, hW4⟩ := z95 (P := Try.prog) (dT := 64) (sT := 63) (ty := 3) (o := i * 2) (dl := n + 1 - i) (dc := c - i) (sl := 1) (sc := vn) (n := 1) (a := ⟨vb, 0, none⟩) Try.underlying64 z1c hb3 (Nat.min_eq_left (by omega)) (by rw [hvl, Nat.one_mul]) (hvc _ hvk) (by rw [hcs3]; omega) h1v
  refine z0y (z0m (z09 rfl rfl (z0i rfl rfl) (z09 rfl rfl (z0i rfl rfl) (z09 rfl rfl (z84 Try.underlying64 z1c rfl rfl rfl (by omega : i ≤ n + 1)) (z09 rfl rfl (z0i rfl rfl) (z09 rfl rfl (zfg rfl rfl rfl (by rw [z34 (by omega)]; exact hrun4)) (z14 ?_)))))))
  change XW _ _ _ _ _ _ _
  refine z0y (z0m (z09 rfl rfl (z0i rfl rfl) (z09 rfl rfl (z12 rfl rfl) (z14 ?_))))
  change XW _ _ _ _ _ _ _
  have hW0 : Wrs (fun k => (some ⟨b, 0, none⟩ : Option Addr) = some ⟨k, 0, none⟩ ∧ 0 < n) w { w with drawn := w.drawn + 1 } := Wrs.refl.grow rfl rfl rfl (Nat.le_refl _) (fun _ _ => rfl)
  refine ze2 ⟨_, rfl, b, c, C4, rfl, hroom, hb4, by rw [hcs4, hcs3]; exact hcs, .inl ⟨rfl, hpos⟩, fun k u hk => ?_, (hW0.also hW3 (fun q hq => .inl ⟨by rw [hq], hpos⟩)).also hW4 (fun q hq => .inl ⟨by rw [hq], hpos⟩)⟩
  rw [hget4 k, hvl, hget3 k, hnews]
  rcases zg7 (by rw [Array.length_toList]; omega) hvl hk with ⟨h1, h2⟩ | ⟨h1, h2, h3⟩ | ⟨h1, h2⟩
  ·rw [if_neg (by omega), if_neg (by omega)]; simpa using h2
  ·rw [if_pos ⟨h1, h2⟩]; exact h3
  ·have h4 := z0a h2
   rw [hnews] at h4
   rw [if_neg (by omega), if_pos (by omega), hi1]; exact h2
end Go.Proofs.Ythidgpcbnieleaa
