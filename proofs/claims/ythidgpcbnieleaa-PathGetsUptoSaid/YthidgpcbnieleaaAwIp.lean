/- Aw: rows that are written in place: such a row is read by a call, or handed to one that makes another row of it. -/
import Derived.Test.YthidgpcbnieleaaAwQ
import Derived.Test.YthidgpcbnieleaaE0
namespace Go.Proofs.Ythidgpcbnieleaa.Aw
open Go
set_option linter.unusedVariables false
set_option linter.unusedSimpArgs false
variable {P : Program} {F : Lo} {H H' : List AEnt} {g g' : List (Option Nat)} {w w' : World} {env : List (Nat × PV)} {n : Nat} {o : Oper}
section
variable {j b : Nat} {e : TypeId} {cs : List PV}
theorem zwt (h : RelH P F H g w) (hj : H[j]? = some (.box e cs)) (hg : g[j]? = some (some b)) {b' off : Nat} (hs : zmu P F H g b' off) : b' ≠ b := by
 rintro rfl
 have hlive : live H g j b' := ⟨_, hg, _, hj, rfl⟩
 rcases hs with ⟨h1, _⟩ | ⟨i, e', n, h1, h2, _⟩
 ·exact h1 j hlive
 ·have := h.inj j i b' hlive ⟨_, h2, _, h1, rfl⟩
  subst this; rw [hj] at h1; cases h1
theorem zrj (h : RelH P F H g w) (hj : H[j]? = some (.box e cs)) (hg : g[j]? = some (some b)) (hw : Wrs (fun k => k = b) w w') :
 (ctx P F H g w).Le (ctx P F (H.set j .dead) g w') := by
 have hlive : live H g j b := ⟨_, hg, _, hj, rfl⟩
 have hne : ∀ {i e k}, H[i]? = some (.arr e k) → j ≠ i := by rintro i e k hi rfl; rw [hj] at hi; cases hi
 refine zbl rfl ?_ ?_ ?_ (zxy (fun k hk => by simpa using hk) (fun k hk hk2 => by
  by_cases hik : j = k
  ·subst hik; simp [hk] at hk2
  ·rw [z0z hik] at hk2; exact ⟨hk2, rfl⟩) (fun k b' hkr hl => hw.keep b' (h.fr k b' hl).2 (by rintro rfl; have := h.inj j k _ hlive hl; subst this; rw [hj] at hkr; cases hkr))) (hw.kp.B rfl) hw.kp.K
 ·rintro b' off u ⟨h1, h2⟩
  refine ⟨?_, by rw [z3q (hw.keep b' (zau h2) (zwt h hj hg h1))]; exact h2⟩
  rcases h1 with ⟨h1, h3⟩ | ⟨i, e', k, h1, h3, h4⟩
  ·exact .inl ⟨fun i hi => h1 i (z1h hi).1, h3⟩
  ·exact .inr ⟨i, e', k, by rw [z0z (hne h1)]; exact h1, h3, h4⟩
 ·rintro i b' ⟨h1, h2⟩
  refine ⟨h1, fun e' k he => ?_⟩
  by_cases hij : j = i
  ·subst hij
   by_cases hl : j < H.length
   ·simp [hl] at he
   ·simp [hl] at he
  ·rw [z0z hij] at he; exact h2 e' k he
 ·rintro i k A c sz ⟨h1, h2⟩
  refine ⟨by simpa using h1, fun e' q he => ?_⟩
  by_cases hij : j = i
  ·subst hij
   simp [h1] at he
  ·rw [z0z hij] at he
   obtain ⟨h3, h4⟩ := h2 e' q he
   refine ⟨h3, fun hm => ?_⟩
   obtain ⟨h5, h6⟩ := h4 hm
   refine ⟨h5, ?_⟩
   rcases h6 with h6 | ⟨b', cells, h6, h7, h8, h9⟩
   ·exact .inl h6
   ·refine .inr ⟨b', cells, h6, h7, ?_, h9⟩
    rw [hw.keep b' (z1e h8) (by rintro rfl; exact hij (h.inj j i _ hlive ⟨_, h6, _, he, rfl⟩))]; exact h8
theorem zl6 (h : RelH P F H g w) (hj : H[j]? = some (.box e cs)) (hg : g[j]? = some (some b)) (hw : Wrs (fun k => k = b) w w') : RelH P F (H.set j .dead) g w' := by
 have hle := zrj h hj hg hw
 have hlive : live H g j b := ⟨_, hg, _, hj, rfl⟩
 refine z2s (by simp [h.len]) (fun i k b hj hk => h.inj i k b (z1h hj).1 (z1h hk).1) (fun i b hi => ⟨(h.fr i b (z1h hi).1).1, Nat.lt_of_lt_of_le (h.fr i b (z1h hi).1).2 hw.size⟩) (fun b k hb => Nat.lt_of_lt_of_le (h.fb b k hb) hw.size) ⟨Nat.le_trans h.bs.1 hw.size, fun i b hi => h.bs.2 i b (z1h hi).1⟩ ?_
 intro i x hi
 by_cases hij : j = i
 ·subst hij
  have hl : j < H.length := by have := z0a hi; simpa using this
  simp [hl] at hi; subst hi
  exact ⟨some b, hg, trivial⟩
 ·rw [z0z hij] at hi
  obtain ⟨q, h1, h2⟩ := z4t h hi
  refine ⟨q, h1, ?_⟩
  cases x with
  | dead => trivial
  | reg => trivial
  | _ =>
   refine h2.mono hle (fun b' hb => hw.keep b' (z29 h2 (by simp) hb) ?_)
   rintro rfl
   exact hij (h.inj j i b' hlive ⟨_, by rw [h1, hb], _, hi, rfl⟩)
theorem zly (h : RelH P F H g w) (hj : H[j]? = some (.box e cs)) (hg : g[j]? = some (some b)) (hw : Wrs (fun k => k = b) w w') : Ext P F H g w (H.set j .dead) g w' :=
 ⟨hw.os, hw.tape, hw.output, hw.size, fun b' hb hl => ⟨hw.keep b' hb (by rintro rfl; exact hl j ⟨_, hg, _, hj, rfl⟩), fun i hi => hl i (z1h hi).1⟩, zrj h hj hg hw, by simp⟩
end
theorem zkv {H0 : List AEnt} {b : Nat} (h0 : ∀ i, ¬ live H0 g i b) (hF : F b = none) (hbs : F.base ≤ b) {e sz c : Nat} {cells : Array Value} {xs : List PV} (hb : w'.heap[b]? = some (.cells cells e (0, 0))) (hc : xs.length ≤ c ∧ xs.length ≤ 9223372036854775807) (hsz : c * sz ≤ cells.size)
 (hx : ∀ x, x ∈ xs → x.cells.length = sz) (hv : ∀ (k : Nat) (y : PV), (xs.flatMap PV.cells)[k]? = some y → ∃ u, cells[k]? = some u ∧ VR (ctx P F H0 g w') y u) : VR (ctx P F H0 g w') (.sl none e sz xs) (.slice (some ⟨b, 0, none⟩) xs.length c) := by
 refine vr_sl.2 ⟨_, c, rfl, ⟨hc, fun hf => .inr ⟨b, 0, cells, (0, 0), 0, rfl, hbs, hb, by omega, .inl (Nat.le_refl _), by simp⟩⟩, fun _ hj => (nomatch hj), fun i x hi => ⟨hx x (List.mem_of_getElem? hi), b, 0, rfl, fun q y hq => ?_⟩⟩
 have hlen := hx x (List.mem_of_getElem? hi)
 have hfl : (xs.flatMap PV.cells)[i * sz + q]? = some y := by
  clear hc hv hb
  revert hx
  induction xs generalizing i with
  | nil => simp at hi
  | cons z r ih =>
   intro hx
   have hz := hx z (by simp)
   rw [List.flatMap_cons]
   cases i with
   | zero =>
    simp at hi; subst hi
    rw [Nat.zero_mul, Nat.zero_add, List.getElem?_append_left (z0a hq)]; exact hq
   | succ i =>
    rw [List.getElem?_append_right (by rw [hz, Nat.add_mul]; omega), hz, show (i + 1) * sz + q - sz = i * sz + q by rw [Nat.add_mul]; omega]
    exact ih i (by simpa using hi) (fun y hy => hx y (by simp [hy]))
 obtain ⟨u, h1, h2⟩ := hv _ y hfl
 refine ⟨u, ⟨⟨.inl ⟨h0, fun k hk => by rw [hF] at hk; cases hk⟩, fun _ => hbs⟩, ?_⟩, h2⟩
 rw [z1p hb, Nat.zero_add]; exact h1
theorem zo8 {α : Type} {f : α → PV} {ops : Array Oper} {l0 : List Oper} {s : ASt} {K : AExit → ASt → Prop} (t j : Nat) {e sz kk : Nat} {l : List α} (hx : get s.env t = some (.rs j 0 kk e sz)) (hkk : kk = l.length) (hj : s.H[j]? = some (rowM f e l)) (hsz : ∀ a, (f a).cells.length = sz) (h0 : Nat.blt 0 sz = true)
 (h : AO P ops l0 ⟨(t, .sl none e sz (l.map f)) :: s.env, s.H.set j .dead, s.n⟩ K) : AO P ops l0 s K := fun F g a w hr =>
 z32 (fun _ _ _ hp => hp.from (z9r hr.rel j)) l0 a w (h F g a w (zcc hr t j hx hkk hj hsz h0))
inductive RA (H : List AEnt) : PV → PV → Prop
 | ha {x y : PV} : HA H x y → RA H x y
 | row {α : Type} {f : α → PV} {j k e sz : Nat} {l : List α} : H[j]? = some (rowM f e l) → k = l.length → (∀ a, (f a).cells.length = sz) → Nat.blt 0 sz = true → (∀ a, (f a).ids = []) → RA H (.rs j 0 k e sz) (.sl none e sz (l.map f))
inductive RAL (H : List AEnt) : List PV → List PV → Prop
 | nil : RAL H [] []
 | cons {x y : PV} {xs ys : List PV} : RA H x y → RAL H xs ys → RAL H (x :: xs) (y :: ys)
theorem RAL.len : ∀ {xs ys : List PV}, RAL H xs ys → xs.length = ys.length
 | _, _, .nil => rfl
 | _, _, .cons _ h => by rw [List.length_cons, List.length_cons, h.len]
theorem RAL.get : ∀ {xs ys : List PV}, RAL H xs ys → ∀ {i : Nat} {y : PV}, ys[i]? = some y → ∃ x, xs[i]? = some x ∧ RA H x y
 | _, _, .nil, i, y, h => by simp at h
 | _, _, .cons h0 h, 0, y, hy => by simp at hy; subst hy; exact ⟨_, by simp, h0⟩
 | _, _, .cons h0 h, i + 1, y, hy => by simpa using h.get (i := i) (by simpa using hy)
theorem zy3 {F : Lo} {g : List (Option Nat)} {w : World} {y : PV} {u : Value} (hi : y.ids = []) (hv : VR (ctx P F H g w) y u) {C : Ctx} (hM : ∀ b o u, w.cell? ⟨b, o, none⟩ = some u → C.M b o u) (hB : ∀ A e s n, C.B A e s n) : VR C y u := (HA.wk (H := H) (Wk.refl _) hi).vr hv hM hB
theorem Z6k {x y : PV} {k : Nat} (h : x.ids = []) (hk : x.cells[k]? = some y) : y.ids = [] := by
 apply List.eq_nil_iff_forall_not_mem.2
 intro i hi
 have := z4c hk hi
 rw [h] at this; cases this
theorem RA.vr {g : List (Option Nat)} {w : World} {x y : PV} {u : Value} (h : RA H x y) (hr : RelH P F H g w) (hv : VR (ctx P F H g w) x u) {C : Ctx} (hM : ∀ b o u, w.cell? ⟨b, o, none⟩ = some u → C.M b o u) (hB : ∀ A e s n, C.B A e s n) : VR C y u := by
 cases h with
 | ha h => exact h.vr hv hM hB
 | @row α f j k e sz l hj hk hsz h0 hid =>
  subst hk
  obtain ⟨A, c, hu, hc, hcase⟩ := zca hv
  refine vr_sl.2 ⟨A, c, by rw [List.length_map]; exact hu, ⟨by rw [List.length_map]; exact hc, hB _ _ _ _⟩, fun _ hj => (nomatch hj), fun i x hi => ?_⟩
  rw [List.getElem?_map, Option.map_eq_some_iff] at hi
  obtain ⟨a, ha, rfl⟩ := hi
  have hpos : 0 < l.length := Nat.lt_of_le_of_lt (Nat.zero_le _) (z0a ha)
  rcases hcase with ⟨h1, _⟩ | ⟨_, b, m, rfl, hR, hKm, hcm⟩
  ·omega
  ·refine ⟨hsz a, b, 0, rfl, fun q y hq => ?_⟩
   rw [zfq hsz h0 ha] at hj
   obtain ⟨b', cells, h1, h2, h3, h4⟩ := hr.box j e _ hj
   rw [hR.1] at h1; injection h1 with h1; injection h1 with h1; subst h1
   obtain ⟨v, h5, h6⟩ := h4 _ y (z7h hsz ha hq)
   refine ⟨v, hM _ _ _ (by rw [z1p h2, Nat.zero_add]; exact h5), zy3 (Z6k (hid a) hq) h6 hM hB⟩
theorem zqw {f : FuncId} {args : List Operand} {types : Array TypeId} {xs fargs : List PV} {X : PV}
 (ho : o.op = .call { callee := .value (.func f), args := args.toArray, argTypes := types }) (hen : z0x P f)
 (hx : evs env args = some xs) (hw : RAL H xs fargs) (hc : z0o P f fargs X) (hX : Sc X) : Op1 P o env H n X H := by
 intro F g a w hr Kn Q hK
 have hv0 := hr.vrs hx
 have hv : VRs (ctx P ⟨fun _ => none, (0, false)⟩ [] [] w) fargs (args.toArray.map a.eval) := by
  refine ⟨by rw [← hw.len]; exact hv0.1, fun i y hy => ?_⟩
  obtain ⟨x, h1, h2⟩ := hw.get hy
  obtain ⟨u, h3, h4⟩ := hv0.2 i x h1
  exact ⟨u, h3, h2.vr hr.rel h4 (fun _ _ _ h => Z2l h) (fun A e s n hf => nomatch hf)⟩
 unfold Oper.wp
 rw [z9x (F := F) (g := g) ho hen]
 simp only [Oper.upon_enter]
 refine Calls.mono (hc _ _ _ w (zfs w 0 false (Nat.zero_le _)) hv) ?_
 rintro e w' ⟨r, H', g', h1, h2, h3, rfl, rfl⟩
 have ho' : ∀ k, k < w.heap.size → w'.heap[k]? = w.heap[k]? := fun k hk => (h3.keep k hk (fun i hl => by simp [live] at hl)).1
 cases e with
 | returned v => exact hK v w' g (hX.any h1) (z7n hr.rel h3.size ho') (z7x hr.rel h3.size ho' h3.os h3.tape h3.output)
 | panicked c => exact h1.elim
 | outgrown => exact h1.elim
def Z6d (P : Program) (f : FuncId) (e sz by_ : Nat) : Prop := ∀ (w : World) (A : Option Addr) (n c i vb vn : Nat) (cells vc : Array Value), n ≤ c → i ≤ n → (n + 1) * by_ ≤ 140737488355328 → n + 1 ≤ 9223372036854775807 →
 w.heap[vb]? = some (.cells vc e (0, 0)) → sz ≤ vc.size → (∀ v, v ∈ vc.toList.take sz → v.oneCell' = true) → (∀ v, v ∈ cells.toList.take (n * sz) → v.oneCell' = true) →
 ((n = 0 ∧ c = 0 ∧ cells = #[]) ∨ ∃ b, A = some ⟨b, 0, none⟩ ∧ b ≠ vb ∧ w.heap[b]? = some (.cells cells e (0, 0)) ∧ c * sz ≤ cells.size ∧ 0 < n) →
 Calls P f #[.slice A n c, .int .i64 (i : Nat), .slice (some ⟨vb, 0, none⟩) 1 vn] w fun r w' => ∃ (nb c' : Nat) (cells' : Array Value), r = .returned (.slice (some ⟨nb, 0, none⟩) (n + 1) c') ∧ n + 1 ≤ c' ∧ w'.heap[nb]? = some (.cells cells' e (0, 0)) ∧ c' * sz ≤ cells'.size ∧
  (A = some ⟨nb, 0, none⟩ ∧ 0 < n ∨ w.heap.size ≤ nb) ∧ (∀ (k : Nat) (u : Value), (cells.toList.take (i * sz) ++ vc.toList.take sz ++ (cells.toList.take (n * sz)).drop (i * sz))[k]? = some u → cells'[k]? = some u) ∧ Wrs (fun k => A = some ⟨k, 0, none⟩ ∧ 0 < n) w w'
def Z5g (P : Program) (f : FuncId) (e sz : Nat) : Prop := ∀ (w : World) (b n c i : Nat) (cells : Array Value), n ≤ c → i < n → n ≤ 9223372036854775807 → (∀ v, v ∈ cells.toList.take (n * sz) → v.oneCell' = true) →
 w.heap[b]? = some (.cells cells e (0, 0)) → c * sz ≤ cells.size →
 Calls P f #[.slice (some ⟨b, 0, none⟩) n c, .int .i64 (i : Nat), .int .i64 ((i + 1 : Nat) : Int)] w fun r w' => ∃ (cells' : Array Value), r = .returned (.slice (some ⟨b, 0, none⟩) (n - 1) c) ∧ w'.heap[b]? = some (.cells cells' e (0, 0)) ∧ cells'.size = cells.size ∧
  (∀ (k : Nat) (u : Value), (cells.toList.take (i * sz) ++ (cells.toList.take (n * sz)).drop ((i + 1) * sz))[k]? = some u → cells'[k]? = some u) ∧ Wrs (fun k => k = b) w w'
def zzf {α : Type} (b : Nat) (l : List α) (i : Int) (a : α) : Option (List α) := bif decide (0 ≤ i) && decide (i ≤ l.length) && Nat.ble ((l.length + 1) * b) 140737488355328 && Nat.ble l.length 4611686018427387904 then some (l.take i.toNat ++ [a] ++ l.drop i.toNat) else none
theorem zrp {α : Type} {b : Nat} {l r : List α} {i : Int} {a : α} (h : zzf b l i a = some r) : ∃ k : Nat, i = (k : Nat) ∧ k ≤ l.length ∧ (l.length + 1) * b ≤ 140737488355328 ∧ l.length ≤ 4611686018427387904 ∧ r = l.take k ++ [a] ++ l.drop k := by
 unfold zzf at h
 cases hb : (decide (0 ≤ i) && decide (i ≤ l.length) && Nat.ble ((l.length + 1) * b) 140737488355328 && Nat.ble l.length 4611686018427387904) with
 | false => rw [hb] at h; cases h
 | true =>
  rw [hb] at h; injection h with h
  simp only [Bool.and_eq_true, decide_eq_true_eq, Nat.ble_eq] at hb
  exact ⟨i.toNat, by omega, by omega, hb.1.2, hb.2, h.symm⟩
def zys {α : Type} (l : List α) (i j : Int) : Option (List α) := bif decide (0 ≤ i) && decide (i < l.length) && decide (j = i + 1) then some (l.take i.toNat ++ l.drop (i.toNat + 1)) else none
theorem zs9 {α : Type} {l r : List α} {i j : Int} (h : zys l i j = some r) : ∃ k : Nat, i = (k : Nat) ∧ j = ((k + 1 : Nat) : Int) ∧ k < l.length ∧ r = l.take k ++ l.drop (k + 1) := by
 unfold zys at h
 cases hb : (decide (0 ≤ i) && decide (i < l.length) && decide (j = i + 1)) with
 | false => rw [hb] at h; cases h
 | true =>
  rw [hb] at h; injection h with h
  simp only [Bool.and_eq_true, decide_eq_true_eq] at hb
  exact ⟨i.toNat, by omega, by omega, by omega, h.symm⟩
section
variable {α : Type} {f : α → PV}
theorem zf5 {sz k : Nat} {l : List α} (hs : ∀ a, (f a).cells.length = sz) : flatM f (l.take k) = (flatM f l).take (k * sz) := by
 induction l generalizing k with
 | nil => simp [flatM]
 | cons a r ih =>
  have e : ∀ r : List α, flatM f (a :: r) = (f a).cells ++ flatM f r := fun r => by simp [flatM]
  cases k with
  | zero => simp [flatM]
  | succ k => rw [List.take_succ_cons, e, e, ih, List.take_append, hs a, List.take_of_length_le (l := (f a).cells) (by rw [hs a, Nat.add_mul]; omega), show (k + 1) * sz - sz = k * sz by rw [Nat.add_mul]; omega]
theorem zf6 {sz k : Nat} {l : List α} (hs : ∀ a, (f a).cells.length = sz) : flatM f (l.drop k) = (flatM f l).drop (k * sz) := by
 induction l generalizing k with
 | nil => simp [flatM]
 | cons a r ih =>
  have e : ∀ r : List α, flatM f (a :: r) = (f a).cells ++ flatM f r := fun r => by simp [flatM]
  cases k with
  | zero => simp [flatM]
  | succ k => rw [List.drop_succ_cons, e, ih, List.drop_append, hs a, List.drop_of_length_le (l := (f a).cells) (by rw [hs a, Nat.add_mul]; omega), show (k + 1) * sz - sz = k * sz by rw [Nat.add_mul]; omega, List.nil_append]
def RCp (C : Ctx) (ps : List PV) (vs : List Value) : Prop := vs.length = ps.length ∧ ∀ (k : Nat) (y : PV), ps[k]? = some y → ∃ u, vs[k]? = some u ∧ VR C y u
theorem RCp.app {C : Ctx} {ps qs : List PV} {us vs : List Value} (h : RCp C ps us) (k : RCp C qs vs) : RCp C (ps ++ qs) (us ++ vs) := by
 refine ⟨by rw [List.length_append, List.length_append, h.1, k.1], fun i y hy => ?_⟩
 by_cases hi : i < ps.length
 ·rw [List.getElem?_append_left hi] at hy
  rw [List.getElem?_append_left (by rw [h.1]; exact hi)]; exact h.2 i y hy
 ·rw [List.getElem?_append_right (by omega)] at hy
  rw [List.getElem?_append_right (by rw [h.1]; omega), h.1]; exact k.2 _ y hy
theorem RCp.take {C : Ctx} {ps : List PV} {us : List Value} (h : RCp C ps us) (k : Nat) : RCp C (ps.take k) (us.take k) := by
 refine ⟨by rw [List.length_take, List.length_take, h.1], fun i y hy => ?_⟩
 rw [List.getElem?_take] at hy
 split at hy
 ·rename_i hi
  obtain ⟨u, h1, h2⟩ := h.2 i y hy
  exact ⟨u, by rw [List.getElem?_take, if_pos hi]; exact h1, h2⟩
 ·cases hy
theorem RCp.drop {C : Ctx} {ps : List PV} {us : List Value} (h : RCp C ps us) (k : Nat) : RCp C (ps.drop k) (us.drop k) := by
 refine ⟨by rw [List.length_drop, List.length_drop, h.1], fun i y hy => ?_⟩
 rw [List.getElem?_drop] at hy
 obtain ⟨u, h1, h2⟩ := h.2 _ y hy
 exact ⟨u, by rw [List.getElem?_drop]; exact h1, h2⟩
theorem RCp.one {C : Ctx} {ps : List PV} {us : List Value} (h : RCp C ps us) (h1 : ∀ p, p ∈ ps → z6w p = true) : ∀ v, v ∈ us → v.oneCell' = true := by
 intro v hv
 obtain ⟨k, hk⟩ := List.getElem?_of_mem hv
 have hlt : k < ps.length := by rw [← h.1]; exact z0a hk
 obtain ⟨u, h2, h3⟩ := h.2 k _ (List.getElem?_eq_getElem hlt)
 rw [hk] at h2; injection h2 with h2; subst h2
 exact zc1 _ (h1 _ (List.getElem_mem hlt)) h3
theorem zd7 {l : List α} (h1 : ∀ a, (f a).cells.all z6w = true) : ∀ p, p ∈ flatM f l → z6w p = true := by
 intro p hp
 obtain ⟨q, hq, hp⟩ := List.mem_flatMap.1 hp
 obtain ⟨a, _, rfl⟩ := List.mem_map.1 hq
 exact List.all_eq_true.1 (h1 a) p hp
theorem zh3 {a : Act} {h : FuncId} {x y z : Operand} {types : Array TypeId} (hen : z0x P h) (ho : o.op = .call { callee := .value (.func h), args := #[x, y, z], argTypes := types }) (w : World) : (execOp a.eval o).run P w = .ok (.enter h #[a.eval x, a.eval y, a.eval z]) w := by
 simp only [execOp, ho]
 simp [resolve, Deferred.ofValue, invoke, Act.eval, z2j hen]
theorem zcb {H : List AEnt} {g : List (Option Nat)} {w : World} (hr : RelH P F H g w) {j b e sz : Nat} {l : List α} (hj : H[j]? = some (rowM f e l)) (hg : g[j]? = some (some b)) (hl : 0 < l.length) (hsz : ∀ a, (f a).cells.length = sz) (h0 : Nat.blt 0 sz = true) :
 H[j]? = some (.box e (flatM f l)) ∧ ∃ cells, w.heap[b]? = some (.cells cells e (0, 0)) ∧ l.length * sz ≤ cells.size ∧ RCp (ctx P F H g w) (flatM f l) (cells.toList.take (l.length * sz)) := by
 have hb := zfq (e := e) hsz h0 (List.getElem?_eq_getElem hl)
 rw [hb] at hj
 obtain ⟨b', cells, h1, h2, h3, h4⟩ := hr.box j e _ hj
 rw [hg] at h1; injection h1 with h1; injection h1 with h1; subst h1
 rw [z4p hsz] at h3
 refine ⟨hj, cells, h2, h3, by rw [z4p hsz, List.length_take]; exact Nat.min_eq_left h3, fun k y hk => ?_⟩
 obtain ⟨u, h5, h6⟩ := h4 k y hk
 have := z0a hk
 rw [z4p hsz] at this
 exact ⟨u, by rw [List.getElem?_take, if_pos this]; simpa using h5, h6⟩
theorem Wrs.mono {S T : Nat → Prop} {w0 w : World} (h : Wrs S w0 w) (hs : ∀ b, b < w0.heap.size → S b → T b) : Wrs T w0 w := ⟨h.os, h.tape, h.output, h.size, fun b hb hn => h.keep b hb (fun hS => hn (hs b hb hS)), h.kp⟩
theorem zyt {j : Nat} (hj : H[j]? = some .dead) : H.set j .dead = H := by
 apply List.ext_getElem?
 intro i
 by_cases hi : j = i
 ·subst hi; rw [z1n hj, hj]
 ·rw [z0z hi]
end
section
variable {α : Type} {f : α → PV} {h : FuncId} {x y z : Operand} {types : Array TypeId} {e j k sz by_ kk : Nat} {l r : List α} {a : α} {ii jj : Int}
theorem ztv (hs : Z6d P h e sz by_) (hen : z0x P h) (ho : o.op = .call { callee := .value (.func h), args := #[x, y, z], argTypes := types }) (hx : ev env x = some (.rs j 0 kk e sz)) (hkk : kk = l.length) (hi : ev env y = some (.v (.int .i64 ii)))
 (hz : ev env z = some (.rs k 0 1 e sz)) (hj : H[j]? = some (rowM f e l)) (hk : H[k]? = some (rowM f e [a])) (hjk : Nat.beq j k = false) (hsz : ∀ a, (f a).cells.length = sz) (h1 : ∀ a, (f a).cells.all z6w = true) (h0 : Nat.blt 0 sz = true)
 (hr : zzf by_ l ii a = some r) : Op1 P o env H n (.sl none e sz (r.map f)) (H.set j .dead) := by
 subst hkk
 obtain ⟨i, rfl, hil, hb, hl, rfl⟩ := zrp hr
 intro F g ac w hR Kn Q hK
 obtain ⟨A2, c2, hu2, hc2, hcase2⟩ := zca (hR.opd hz)
 rcases hcase2 with ⟨h2, _⟩ | ⟨_, vb, vm, rfl, hRk, hKv, _⟩
 ·omega
 obtain ⟨hk', vc, hvb, hvs, hrv⟩ := zcb hR.rel hk hRk.1 (by simp) hsz h0
 obtain ⟨A, c, hu, hc, hcase⟩ := zca (hR.opd hx)
 have hsz0 : 0 < sz := Nat.le_of_ble_eq_true h0
 have hone := hrv.one (zd7 h1)
 simp only [List.length_singleton, Nat.one_mul] at hvs hrv hone
 have hfl : flatM f (l.take i ++ [a] ++ l.drop i) = (flatM f l).take (i * sz) ++ flatM f [a] ++ (flatM f l).drop (i * sz) := by rw [zdh, zdh, zf5 hsz, zf6 hsz]
 have hlen : (l.take i ++ [a] ++ l.drop i).length = l.length + 1 := by simp; omega
 unfold Oper.wp
 rw [zh3 hen ho w, hu, hR.const hi, hu2]
 simp only [Oper.upon_enter]
 -- the end, alike in both cases
 have fin : ∀ (cells : Array Value) (nb c' : Nat) (cells' : Array Value) (w' : World), RCp (ctx P F.fr H g w) (flatM f l) (cells.toList.take (l.length * sz)) → l.length + 1 ≤ c' → w'.heap[nb]? = some (.cells cells' e (0, 0)) → c' * sz ≤ cells'.size →
  (∀ (k : Nat) (u : Value), (cells.toList.take (i * sz) ++ vc.toList.take sz ++ (cells.toList.take (l.length * sz)).drop (i * sz))[k]? = some u → cells'[k]? = some u) → RelH P F.fr (H.set j .dead) g w' → Ext P F.fr H g w (H.set j .dead) g w' → (∀ i, ¬ live (H.set j .dead) g i nb) → F.fr nb = none → F.fr.base ≤ nb →
  Kn (ac.put o.dst (.slice (some ⟨nb, 0, none⟩) (l.length + 1) c')) w' := by
  intro cells nb c' cells' w' hrc q1 q2 q3 q4 q5 q6 q7 q8 q9
  refine hK _ w' g ?_ q5 q6
  have hv := zkv (P := P) (H0 := H.set j .dead) (g := g) (xs := (l.take i ++ [a] ++ l.drop i).map f) (sz := sz) (c := c') q7 q8 q9 q2 ⟨by rw [List.length_map, hlen]; exact q1, by rw [List.length_map, hlen]; omega⟩ q3 (fun p hp => by obtain ⟨b, _, rfl⟩ := List.mem_map.1 hp; exact hsz b) (fun k p hp => by
   have hp' : (flatM f (l.take i ++ [a] ++ l.drop i))[k]? = some p := hp
   rw [hfl] at hp'
   have hil2 : i * sz ≤ l.length * sz := Nat.mul_le_mul_right _ hil
   obtain ⟨u, h5, h6⟩ := (((hrc.take (i * sz)).app hrv).app (hrc.drop (i * sz))).2 k p hp'
   rw [List.take_take, Nat.min_eq_left hil2] at h5
   exact ⟨u, q4 k u h5, h6.mono q6.le⟩)
  rw [List.length_map, hlen] at hv
  exact hv
 rcases hcase with ⟨hl0, rfl, _⟩ | ⟨hpos, b, m, rfl, hRj, hKm, hcm⟩
 ·have hl' : l = [] := List.eq_nil_of_length_eq_zero hl0
  subst hl'
  have hi0 : i = 0 := by simpa using hil
  subst hi0
  have hset : H.set j .dead = H := zyt hj
  refine Calls.mono (hs w A 0 0 0 vb c2 #[] vc (Nat.le_refl _) (Nat.le_refl _) (by simpa using hb) (by omega) hvb hvs hone (by simp) (.inl ⟨rfl, rfl, rfl⟩)) ?_
  rintro r' w' ⟨nb, c', cells', rfl, q1, q2, q3, q4, q5, q6⟩
  have ho' : ∀ k, k < w.heap.size → w'.heap[k]? = w.heap[k]? := fun k hk => q6.keep k hk (fun hh => by omega)
  have hnb : w.heap.size ≤ nb := by rcases q4 with ⟨_, q4⟩ | q4 <;> omega
  have hrel := z7n hR.rel q6.size ho'
  have hext := z7x hR.rel q6.size ho' q6.os q6.tape q6.output
  refine fin #[] nb c' cells' w' ⟨by simp [flatM], fun k p hp => by simp [flatM] at hp⟩ q1 q2 q3 (by simpa using q5) (by rw [hset]; exact hrel) (by rw [hset]; exact hext) (fun i hi => ?_) ?_ (Nat.le_trans hR.rel.bs.1 hnb)
  ·rw [hset] at hi; have := (hR.rel.fr i nb hi).2; omega
  ·cases hF : F.fr nb with
   | none => rfl
   | some q => have := hR.rel.fb nb q hF; omega
 ·obtain ⟨hj', cells, hbb, hcs, hrc⟩ := zcb hR.rel hj hRj.1 hpos hsz h0
  have hbv : b ≠ vb := by
   rintro rfl
   have := hR.rel.inj j k b ⟨_, hRj.1, _, hj', rfl⟩ ⟨_, hRk.1, _, hk', rfl⟩
   subst this; simp at hjk
  have hcsz : c * sz ≤ cells.size := by
   obtain ⟨c1, t1, z1, h5, h6⟩ := hKm
   rw [hbb] at h5; injection h5 with h5; injection h5 with h5 _ _; subst h5
   omega
  refine Calls.mono (hs w (some ⟨b, 0, none⟩) l.length c i vb c2 cells vc hc.1 hil hb (by omega) hvb hvs hone (hrc.one (zd7 h1)) (.inr ⟨b, rfl, hbv, hbb, hcsz, hpos⟩)) ?_
  rintro r' w' ⟨nb, c', cells', rfl, q1, q2, q3, q4, q5, q6⟩
  have hW : Wrs (fun k => k = b) w w' := q6.mono (fun k _ hk => by have h := hk.1; injection h with h; injection h with h _; exact h.symm)
  have hlb : live H g j b := ⟨_, hRj.1, _, hj', rfl⟩
  refine fin cells nb c' cells' w' hrc q1 q2 q3 q5 (zl6 hR.rel hj' hRj.1 hW) (zly hR.rel hj' hRj.1 hW) (fun i hi => ?_) ?_ ?_
  ·obtain ⟨h5, h6⟩ := z1h hi
   rcases q4 with ⟨q4, _⟩ | q4
   ·injection q4 with q4; injection q4 with q4 _; subst q4; exact h6 (hR.rel.inj i j b h5 hlb)
   ·have := (hR.rel.fr i nb h5).2; omega
  ·rcases q4 with ⟨q4, _⟩ | q4
   ·injection q4 with q4; injection q4 with q4 _; subst q4; exact (hR.rel.fr j b hlb).1
   ·cases hF : F.fr nb with
    | none => rfl
    | some q => have := hR.rel.fb nb q hF; omega
  ·rcases q4 with ⟨q4, _⟩ | q4
   ·injection q4 with q4; injection q4 with q4 _; subst q4; exact hR.rel.bs.2 j b hlb
   ·exact Nat.le_trans hR.rel.bs.1 q4
theorem zlc (hs : Z5g P h e sz) (hen : z0x P h) (ho : o.op = .call { callee := .value (.func h), args := #[x, y, z], argTypes := types }) (hx : ev env x = some (.rs j 0 kk e sz)) (hkk : kk = l.length) (hi : ev env y = some (.v (.int .i64 ii))) (hz : ev env z = some (.v (.int .i64 jj)))
 (hj : H[j]? = some (rowM f e l)) (hsz : ∀ a, (f a).cells.length = sz) (h1 : ∀ a, (f a).cells.all z6w = true) (h0 : Nat.blt 0 sz = true) (hr : zys l ii jj = some r) : Op1 P o env H n (.sl none e sz (r.map f)) (H.set j .dead) := by
 subst hkk
 obtain ⟨i, rfl, rfl, hil, rfl⟩ := zs9 hr
 intro F g ac w hR Kn Q hK
 obtain ⟨A, c, hu, hc, hcase⟩ := zca (hR.opd hx)
 have hfl : flatM f (l.take i ++ l.drop (i + 1)) = (flatM f l).take (i * sz) ++ (flatM f l).drop ((i + 1) * sz) := by rw [zdh, zf5 hsz, zf6 hsz]
 have hlen : (l.take i ++ l.drop (i + 1)).length = l.length - 1 := by simp; omega
 unfold Oper.wp
 rw [zh3 hen ho w, hu, hR.const hi, hR.const hz]
 simp only [Oper.upon_enter]
 rcases hcase with ⟨hl0, _⟩ | ⟨hpos, b, m, rfl, hRj, hKm, hcm⟩
 ·omega
 obtain ⟨hj', cells, hbb, hcs, hrc⟩ := zcb hR.rel hj hRj.1 hpos hsz h0
 have hcsz : c * sz ≤ cells.size := by
  obtain ⟨c1, t1, z1, h5, h6⟩ := hKm
  rw [hbb] at h5; injection h5 with h5; injection h5 with h5 _ _; subst h5
  omega
 refine Calls.mono (hs w b l.length c i cells hc.1 hil hc.2 (hrc.one (zd7 h1)) hbb hcsz) ?_
 rintro r' w' ⟨cells', rfl, q2, q3, q5, hW⟩
 have hlb : live H g j b := ⟨_, hRj.1, _, hj', rfl⟩
 have hext := zly hR.rel hj' hRj.1 hW
 refine hK _ w' g ?_ (zl6 hR.rel hj' hRj.1 hW) hext
 have hv := zkv (P := P) (F := F.fr) (H0 := H.set j .dead) (g := g) (w' := w') (xs := (l.take i ++ l.drop (i + 1)).map f) (sz := sz) (c := c) (fun i hi => (z1h hi).2 (hR.rel.inj i j b (z1h hi).1 hlb)) (hR.rel.fr j b hlb).1 (hR.rel.bs.2 j b hlb) q2 ⟨by rw [List.length_map, hlen]; omega, by rw [List.length_map, hlen]; omega⟩ (by rw [q3]; exact hcsz) (fun p hp => by obtain ⟨b, _, rfl⟩ := List.mem_map.1 hp; exact hsz b) (fun k p hp => by
  have hp' : (flatM f (l.take i ++ l.drop (i + 1)))[k]? = some p := hp
  rw [hfl] at hp'
  have hil2 : i * sz ≤ l.length * sz := Nat.mul_le_mul_right _ (by omega)
  obtain ⟨u, h5, h6⟩ := ((hrc.take (i * sz)).app (hrc.drop ((i + 1) * sz))).2 k p hp'
  rw [List.take_take, Nat.min_eq_left hil2] at h5
  exact ⟨u, q5 k u h5, h6.mono hext.le⟩)
 rw [List.length_map, hlen] at hv
 exact hv
end
end Go.Proofs.Ythidgpcbnieleaa.Aw
