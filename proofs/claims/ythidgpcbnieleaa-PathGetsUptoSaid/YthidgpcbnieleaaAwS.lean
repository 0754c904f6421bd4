/- Aw: results on new memory; ranges that are told apart, read and spoilt. -/
import Derived.Test.YthidgpcbnieleaaAwH
namespace Go.Proofs.Ythidgpcbnieleaa
namespace Aw
open Go
set_option linter.unusedVariables false
set_option linter.unusedSimpArgs false
set_option maxRecDepth 4000
mutual
inductive Pl : PV → Prop
 | v {x : Value} : Pl (.v x)
 | sl {e : TypeId} {sz : Nat} {xs : List PV} : PlL xs → Pl (.sl none e sz xs)
 | pt {e : TypeId} {x : PV} {off : Nat} : Pl x → Pl (.pt e x off)
 | iface {t : TypeId} {x : PV} : Pl x → Pl (.iface t x)
 | agg {cs : List PV} : PlL cs → Pl (.agg cs)
 | tup {cs : List PV} : PlL cs → Pl (.tup cs)
 | fn {f : Fn} {a b : List PV} : PlL a → PlL b → Pl (.fn f a b)
 | junk : Pl .junk
inductive PlL : List PV → Prop
 | nil : PlL []
 | cons {x : PV} {xs : List PV} : Pl x → PlL xs → PlL (x :: xs)
end
theorem PlL.mem : ∀ {xs : List PV}, PlL xs → ∀ x, x ∈ xs → Pl x
 | _, .nil, x, hx => by cases hx
 | _, .cons h hr, x, hx => by
  rcases List.mem_cons.1 hx with rfl | hx
  ·exact h
  ·exact hr.mem x hx
theorem PlL.of : ∀ {xs : List PV}, (∀ x, x ∈ xs → Pl x) → PlL xs
 | [], _ => .nil
 | x :: r, h => .cons (h x (by simp)) (PlL.of fun y hy => h y (by simp [hy]))
theorem Pl.cells {x : PV} (h : Pl x) : ∀ {j : Nat} {y : PV}, x.cells[j]? = some y → Pl y := by
 intro j y hy
 cases h with
 | agg h => exact h.mem y (List.mem_of_getElem? hy)
 | _ =>
  simp only [PV.cells] at hy
  cases j with
  | zero => simp at hy; subst hy; constructor <;> assumption
  | succ j => simp at hy
theorem VR.move {C C' : Ctx} (hM : ∀ b o u, C.M b o u → C'.M b o u) (hB : ∀ A e s n, C.B A e s n → C'.B A e s n) : ∀ (p : PV) (u : Value), Pl p → VR C p u → VR C' p u
 | .v x, u, _, h => vr_v.2 (vr_v.1 h)
 | .junk, u, _, _ => z70
 | .old x, u, hp, h => by cases hp
 | .hid k x, u, hp, h => by cases hp
 | .rf i off, u, hp, h => by cases hp
 | .sl o e sz xs, u, hp, h => by
  cases hp with
  | sl hp =>
  obtain ⟨A, c, hu, hc, ht, hx⟩ := vr_sl.1 h
  refine vr_sl.2 ⟨A, c, hu, ⟨hc.1, hB _ _ _ _ hc.2⟩, (by intro j hj; cases hj), fun i x hxi => ?_⟩
  obtain ⟨h1, b, off, h2, h3⟩ := hx i x hxi
  refine ⟨h1, b, off, h2, fun j z hz => ?_⟩
  obtain ⟨u', hm, hv⟩ := h3 j z hz
  have := z5i hxi
  have := z7m hz
  exact ⟨u', hM _ _ _ hm, VR.move hM hB z u' ((hp.mem x (List.mem_of_getElem? hxi)).cells hz) hv⟩
 | .pt e x off, u, hp, h => by
  cases hp with
  | pt hp =>
  obtain ⟨b, o0, hu, hx⟩ := vr_pt.1 h
  refine vr_pt.2 ⟨b, o0, ⟨hu.1, hB _ _ _ _ hu.2⟩, fun j z hz => ?_⟩
  obtain ⟨u', hm, hv⟩ := hx j z hz
  have := z7m hz
  exact ⟨u', hM _ _ _ hm, VR.move hM hB z u' (hp.cells hz) hv⟩
 | .iface t x, u, hp, h => by
  cases hp with
  | iface hp =>
  obtain ⟨u', hu, hv⟩ := vr_iface.1 h
  exact vr_iface.2 ⟨u', hu, VR.move hM hB x u' hp hv⟩
 | .agg cs, u, hp, h => by
  cases hp with
  | agg hp =>
  obtain ⟨us, hu, hl, hx⟩ := vr_agg.1 h
  refine vr_agg.2 ⟨us, hu, hl, fun i y hy => ?_⟩
  obtain ⟨u', h1, h2⟩ := hx i y hy
  have := z5i hy
  exact ⟨u', h1, VR.move hM hB y u' (hp.mem y (List.mem_of_getElem? hy)) h2⟩
 | .tup cs, u, hp, h => by
  cases hp with
  | tup hp =>
  obtain ⟨us, hu, hl, hx⟩ := vr_tup.1 h
  refine vr_tup.2 ⟨us, hu, hl, fun i y hy => ?_⟩
  obtain ⟨u', h1, h2⟩ := hx i y hy
  have := z5i hy
  exact ⟨u', h1, VR.move hM hB y u' (hp.mem y (List.mem_of_getElem? hy)) h2⟩
 | .fn g a b, u, hp, h => by
  cases hp with
  | fn hpa hpb =>
  obtain ⟨us, vs, hu, hl, hl2, hx, hy⟩ := vr_fn.1 h
  refine vr_fn.2 ⟨us, vs, hu, hl, hl2, fun i y hy' => ?_, fun i y hy' => ?_⟩
  ·obtain ⟨u', h1, h2⟩ := hx i y hy'
   have := z5i hy'
   exact ⟨u', h1, VR.move hM hB y u' (hpa.mem y (List.mem_of_getElem? hy')) h2⟩
  ·obtain ⟨u', h1, h2⟩ := hy i y hy'
   have := z5i hy'
   exact ⟨u', h1, VR.move hM hB y u' (hpb.mem y (List.mem_of_getElem? hy')) h2⟩
termination_by p => SizeOf.sizeOf p
decreasing_by all_goals (simp_wf; omega)
inductive Sc : PV → Prop
 | v {x : Value} : Sc (.v x)
 | junk : Sc .junk
 | iface {t : TypeId} {x : PV} : Sc x → Sc (.iface t x)
 | agg {cs : List PV} : (∀ x, x ∈ cs → Sc x) → Sc (.agg cs)
 | tup {cs : List PV} : (∀ x, x ∈ cs → Sc x) → Sc (.tup cs)
theorem zh0 : ∀ x, x ∈ ([] : List PV) → Sc x := fun x hx => by cases hx
theorem z8e {y : PV} {r : List PV} (h : Sc y) (hr : ∀ x, x ∈ r → Sc x) : ∀ x, x ∈ y :: r → Sc x := fun x hx => by
 rcases List.mem_cons.1 hx with rfl | hx
 ·exact h
 ·exact hr x hx
theorem Sc.any {C C' : Ctx} {p : PV} (h : Sc p) : ∀ {u : Value}, VR C p u → VR C' p u := by
 induction h with
 | v => exact fun hv => vr_v.2 (vr_v.1 hv)
 | junk => exact fun _ => z70
 | iface _ ih => exact fun hv => let ⟨u', hu, h1⟩ := vr_iface.1 hv; vr_iface.2 ⟨u', hu, ih h1⟩
 | agg _ ih =>
  intro u hv
  obtain ⟨us, hu, hl, hx⟩ := vr_agg.1 hv
  exact vr_agg.2 ⟨us, hu, hl, fun i y hy => let ⟨u', h1, h2⟩ := hx i y hy; ⟨u', h1, ih y (List.mem_of_getElem? hy) h2⟩⟩
 | tup _ ih =>
  intro u hv
  obtain ⟨us, hu, hl, hx⟩ := vr_tup.1 hv
  exact vr_tup.2 ⟨us, hu, hl, fun i y hy => let ⟨u', h1, h2⟩ := hx i y hy; ⟨u', h1, ih y (List.mem_of_getElem? hy) h2⟩⟩
theorem zoj : ∀ {m m' k k' : Nat}, 2 ^ m * (2 * k + 1) = 2 ^ m' * (2 * k' + 1) → m = m' ∧ k = k'
 | 0, 0, k, k', h => by simp at h; exact ⟨rfl, by omega⟩
 | 0, m' + 1, k, k', h => by rw [Nat.pow_succ, Nat.mul_comm (2 ^ m'), Nat.mul_assoc] at h; omega
 | m + 1, 0, k, k', h => by rw [Nat.pow_succ, Nat.mul_comm (2 ^ m), Nat.mul_assoc] at h; omega
 | m + 1, m' + 1, k, k', h => by
  rw [Nat.pow_succ, Nat.pow_succ, Nat.mul_comm (2 ^ m), Nat.mul_comm (2 ^ m'), Nat.mul_assoc, Nat.mul_assoc] at h
  obtain ⟨h1, h2⟩ := zoj (Nat.eq_of_mul_eq_mul_left (by decide) h)
  exact ⟨by omega, h2⟩
theorem inReg_iff {m k b : Nat} : inReg (2 ^ m * (2 * k + 1)) b ↔ m ≤ b ∧ b < k := by
 constructor
 ·rintro ⟨m', k', h, h1, h2⟩
  obtain ⟨rfl, rfl⟩ := zoj h
  exact ⟨h1, h2⟩
 ·exact fun h => ⟨m, k, rfl, h.1, h.2⟩
section
variable {P : Program} {F : Lo} {H H' : List AEnt} {g g' : List (Option Nat)} {w w' : World}
abbrev zzc (w w' : World) : Nat := 2 ^ w.heap.size * (2 * w'.heap.size + 1)
theorem z7t (h : RelH P F H g w) {i b : Nat} : live (H ++ [.reg]) (g ++ [some (zzc w w')]) i b ↔ live H g i b ∨ (i = H.length ∧ w.heap.size ≤ b ∧ b < w'.heap.size) := by
 rw [zez h.len]
 constructor
 ·rintro (h1 | ⟨h1, c, h2, h3⟩)
  ·exact .inl h1
  ·injection h2 with h2; subst h2; exact .inr ⟨h1, inReg_iff.1 h3⟩
 ·rintro (h1 | ⟨h1, h2⟩)
  ·exact .inl h1
  ·exact .inr ⟨h1, _, rfl, inReg_iff.2 h2⟩
theorem zvz (h : RelH P F H g w) (hs : w.heap.size ≤ w'.heap.size) (ho : ∀ k, k < w.heap.size → w'.heap[k]? = w.heap[k]?) :
 (ctx P F H g w).Le (ctx P F (H ++ [.reg]) (g ++ [some (zzc w w')]) w') := by
 refine zbl rfl ?_ ?_ ?_ (zxy (fun k hk => by simp; omega) (fun k hk hk' => ⟨by rwa [z1k hk] at hk', z1k (by rw [h.len]; exact hk)⟩) (fun k b _ hl => ho b (h.fr k b hl).2)) ((Keeps.of ho).B rfl) (Keeps.of ho).K
 ·rintro b off u ⟨h1, h2⟩
  have hb := zau h2
  refine ⟨?_, by rw [z3q (ho b hb)]; exact h2⟩
  rcases h1 with ⟨h1, h3⟩ | ⟨i, e', k, h1, h3, h4⟩
  ·refine .inl ⟨fun i hi => ?_, h3⟩
   rcases (z7t h).1 hi with hi | ⟨_, hi, _⟩
   ·exact h1 i hi
   ·omega
  ·exact .inr ⟨i, e', k, by rw [z1k (z0a h1)]; exact h1, by rw [z1k (z0a h3)]; exact h3, h4⟩
 ·rintro i b ⟨h1, h2⟩
  have hi := z0a h1
  refine ⟨by rw [z1k hi]; exact h1, fun e' k he => h2 e' k ?_⟩
  rwa [z1k (by rw [← h.len]; exact hi)] at he
 ·rintro j m A c sz ⟨h1, h2⟩
  refine ⟨by simp; omega, fun e' k he => ?_⟩
  rw [z1k h1] at he
  obtain ⟨h3, h4⟩ := h2 e' k he
  refine ⟨h3, fun hm => ?_⟩
  obtain ⟨h5, h6⟩ := h4 hm
  refine ⟨h5, ?_⟩
  rw [z1k (by rw [h.len]; exact h1)]
  rcases h6 with h6 | ⟨b, cells, h6, h7, h8, h9⟩
  ·exact .inl h6
  ·exact .inr ⟨b, cells, h6, h7, by rw [ho b (z1e h8)]; exact h8, h9⟩
theorem zxd (h : RelH P F H g w) (hs : w.heap.size ≤ w'.heap.size) (ho : ∀ k, k < w.heap.size → w'.heap[k]? = w.heap[k]?) : RelH P F (H ++ [.reg]) (g ++ [some (zzc w w')]) w' := by
 have hle := zvz h hs ho
 refine z2s (by simp [h.len]) ?_ ?_ (fun b k hb => Nat.lt_of_lt_of_le (h.fb b k hb) hs) ⟨Nat.le_trans h.bs.1 hs, fun i b hi => by
  rcases (z7t h).1 hi with hi | ⟨_, hi, _⟩
  ·exact h.bs.2 i b hi
  ·have := h.bs.1; omega⟩ ?_
 ·intro i j b hi hj
  rcases (z7t h).1 hi with hi | ⟨rfl, hi, _⟩ <;> rcases (z7t h).1 hj with hj | ⟨rfl, hj, _⟩
  ·exact h.inj i j b hi hj
  ·have := (h.fr i b hi).2; omega
  ·have := (h.fr j b hj).2; omega
  ·rfl
 ·intro i b hi
  rcases (z7t h).1 hi with hi | ⟨rfl, hi, hd⟩
  ·exact ⟨(h.fr i b hi).1, Nat.lt_of_lt_of_le (h.fr i b hi).2 hs⟩
  ·refine ⟨?_, hd⟩
   cases hF : F b with
   | none => rfl
   | some k => have := h.fb b k hF; omega
 ·intro i e' hi
  rcases z6p hi with hi | ⟨rfl, rfl⟩
  ·obtain ⟨n', h1, h2⟩ := z4t h hi
   refine ⟨n', by rw [z1k (z0a h1)]; exact h1, ?_⟩
   cases e' with
   | dead => trivial
   | reg => trivial
   | _ => exact h2.mono hle (fun b hb => ho b (z29 h2 (by simp) hb))
  ·exact ⟨_, by rw [← h.len]; exact z2q, trivial⟩
theorem zy9 (h : RelH P F H g w) (hs : w.heap.size ≤ w'.heap.size) (ho : ∀ k, k < w.heap.size → w'.heap[k]? = w.heap[k]?)
 (h1 : w'.os = w.os) (h2 : w'.tape = w.tape) (h3 : w'.output = w.output) : Ext P F H g w (H ++ [.reg]) (g ++ [some (zzc w w')]) w' := by
 refine ⟨h1, h2, h3, hs, fun b hb hl => ⟨ho b hb, fun i hi => ?_⟩, zvz h hs ho, by simp⟩
 rcases (z7t h).1 hi with hi | ⟨_, hi, _⟩
 ·exact hl i hi
 ·omega
theorem zlq (h : RelH P F H g w) {k c : Nat} (hk : H[k]? = some .reg) (hg : g[k]? = some (some c)) (ho : ∀ b, b < w.heap.size → ¬ inReg c b → w'.heap[b]? = w.heap[b]?) (hkp : Keeps w w') :
 (ctx P F H g w).Le (ctx P F (H.set k .dead) g w') := by
 have hreg : ∀ b, inReg c b → live H g k b := fun b hb => ⟨c, hg, _, hk, hb⟩
 refine zbl rfl ?_ ?_ ?_ ?_ (hkp.B rfl) hkp.K
 ·rintro b off u ⟨h1, h2⟩
  have hb := zau h2
  have hnr : ¬ inReg c b := by
   intro hr
   rcases h1 with ⟨h1, _⟩ | ⟨i, e, n, h1, h3, _⟩
   ·exact h1 k (hreg b hr)
   ·have := h.inj k i b (hreg b hr) ⟨_, h3, _, h1, rfl⟩
    subst this; rw [hk] at h1; cases h1
  exact ⟨((z3z h k).N b off u ⟨h1, h2⟩).1, by rw [z3q (ho b hb hnr)]; exact h2⟩
 ·exact fun i b hr => (z3z h k).R i b hr
 ·rintro j n A cc sz ⟨h1, h2⟩
  refine ⟨by simpa using h1, fun e m he => ?_⟩
  by_cases hkj : k = j
  ·subst hkj; simp [h1] at he
  ·rw [z0z hkj] at he
   obtain ⟨h3, h4⟩ := h2 e m he
   refine ⟨h3, fun hm => ?_⟩
   obtain ⟨h5, h6⟩ := h4 hm
   refine ⟨h5, ?_⟩
   rcases h6 with h6 | ⟨b, cells, h6, h7, h8, h9⟩
   ·exact .inl h6
   ·refine .inr ⟨b, cells, h6, h7, ?_, h9⟩
    rw [ho b (z1e h8) (fun hr => hkj (h.inj k j b (hreg b hr) ⟨_, h6, _, he, rfl⟩))]; exact h8
 ·rintro j b o ⟨h1, h2⟩
  refine ⟨by simpa using h1, fun h3 => ?_⟩
  by_cases hkj : k = j
  ·subst hkj; simp [h1] at h3
  ·rw [z0z hkj] at h3
   obtain ⟨c', h4, h5, h6⟩ := h2 h3
   have hl : live H g j b := ⟨c', h4, _, h3, h5⟩
   exact ⟨c', h4, h5, by rw [ho b (h.fr j b hl).2 (fun hr => hkj (h.inj k j b (hreg b hr) hl))]; exact h6⟩
theorem zoz (h : RelH P F H g w) {k c : Nat} (hk : H[k]? = some .reg) (hg : g[k]? = some (some c)) (hs : w.heap.size ≤ w'.heap.size) (ho : ∀ b, b < w.heap.size → ¬ inReg c b → w'.heap[b]? = w.heap[b]?) (hkp : Keeps w w') : RelH P F (H.set k .dead) g w' := by
 have hle := zlq h hk hg ho hkp
 have hreg : ∀ b, inReg c b → live H g k b := fun b hb => ⟨c, hg, _, hk, hb⟩
 refine z2s (by simp [h.len]) (fun i j b hi hj => h.inj i j b (z1h hi).1 (z1h hj).1) (fun i b hi => ⟨(h.fr i b (z1h hi).1).1, Nat.lt_of_lt_of_le (h.fr i b (z1h hi).1).2 hs⟩) (fun b k hb => Nat.lt_of_lt_of_le (h.fb b k hb) hs) ⟨Nat.le_trans h.bs.1 hs, fun i b hi => h.bs.2 i b (z1h hi).1⟩ ?_
 intro j e hj
 by_cases hkj : k = j
 ·subst hkj
  have hl : k < H.length := z0a hk
  simp [hl] at hj; subst hj
  exact ⟨_, hg, trivial⟩
 ·rw [z0z hkj] at hj
  obtain ⟨n, h1, h2⟩ := z4t h hj
  refine ⟨n, h1, ?_⟩
  cases e with
  | dead => trivial
  | reg => trivial
  | _ =>
   refine h2.mono hle (fun b hb => ho b (z29 h2 (by simp) hb) (fun hr => hkj (h.inj k j b (hreg b hr) ⟨_, by rw [h1, hb], _, hj, rfl⟩)))
theorem zs1 (h : RelH P F H g w) {k c : Nat} (hk : H[k]? = some .reg) (hg : g[k]? = some (some c)) (hs : w.heap.size ≤ w'.heap.size) (ho : ∀ b, b < w.heap.size → ¬ inReg c b → w'.heap[b]? = w.heap[b]?) (hkp : Keeps w w')
 (h1 : w'.os = w.os) (h2 : w'.tape = w.tape) (h3 : w'.output = w.output) : Ext P F H g w (H.set k .dead) g w' :=
 ⟨h1, h2, h3, hs, fun b hb hl => ⟨ho b hb (fun hr => hl k ⟨c, hg, _, hk, hr⟩), fun j hj => hl j (z1h hj).1⟩, zlq h hk hg ho hkp, by simp⟩
end
variable {P : Program} {H H' : List AEnt} {env : List (Nat × PV)} {n : Nat} {o : Oper}
theorem zfs (w : World) (m : Nat) (f : Bool) (hm : m ≤ w.heap.size) : RelH P ⟨fun _ => none, (m, f)⟩ [] [] w :=
 ⟨rfl, fun i j b hl => (by simp [live] at hl), fun i b hl => (by simp [live] at hl), fun b k hk => (by cases hk), ⟨hm, fun i b hl => (by simp [live] at hl)⟩, fun i ty cs h => (by simp at h), fun i e n h => (by simp at h)⟩
theorem Z2k {m : Nat × Bool} {w : World} {b off : Nat} {u : Value} (h : w.cell? ⟨b, off, none⟩ = some u) : (ctx P ⟨fun _ => none, m⟩ [] [] w).N b off u :=
 ⟨.inl ⟨fun i hl => (by simp [live] at hl), fun k hk => (by cases hk)⟩, h⟩
theorem Z2l {m : Nat} {w : World} {b off : Nat} {u : Value} (h : w.cell? ⟨b, off, none⟩ = some u) : (ctx P ⟨fun _ => none, (m, false)⟩ [] [] w).M b off u :=
 ⟨⟨(Z2k (P := P) (m := (m, false)) h).1, fun hf => nomatch hf⟩, h⟩
theorem zsq {w : World} {b o : Nat} {ob : Obj} {u : Value} (h : w.heap[b]? = some ob) (hc : Obj.at ob o = some u) : w.cell? ⟨b, o, none⟩ = some u := by
 cases ob with
 | cells c t z => simpa [World.cell?, h, Obj.at] using hc
 | _ => cases hc
theorem zyw {w : World} {b o : Nat} {u : Value} (h : w.cell? ⟨b, o, none⟩ = some u) : ∃ ob, w.heap[b]? = some ob ∧ Obj.at ob o = some u := by
 unfold World.cell? at h
 split at h
 ·rename_i c t z hc
  exact ⟨_, hc, by simpa [Obj.at] using h⟩
 ·cases h
theorem zlu {F : Lo} {g : List (Option Nat)} {w : World} {k b o : Nat} {u : Value} (hk : H[k]? = some .reg) (h : ((ctx P F H g w).inn k).M b o u) : w.cell? ⟨b, o, none⟩ = some u := by
 obtain ⟨ob, h1, h2⟩ := h
 obtain ⟨c, _, _, h3⟩ := h1.2 hk
 exact zsq h3 h2
inductive HA (H : List AEnt) : PV → PV → Prop
 | wk {x y : PV} : Wk x y → y.ids = [] → HA H x y
 | old {y : PV} : HA H (.old y) y
 | hid {k : Nat} {y : PV} : H[k]? = some .reg → HA H (.hid k y) y
inductive HAL (H : List AEnt) : List PV → List PV → Prop
 | nil : HAL H [] []
 | cons {x y : PV} {xs ys : List PV} : HA H x y → HAL H xs ys → HAL H (x :: xs) (y :: ys)
theorem HAL.len : ∀ {xs ys : List PV}, HAL H xs ys → xs.length = ys.length
 | _, _, .nil => rfl
 | _, _, .cons _ h => by rw [List.length_cons, List.length_cons, h.len]
theorem HAL.get : ∀ {xs ys : List PV}, HAL H xs ys → ∀ {i : Nat} {y : PV}, ys[i]? = some y → ∃ x, xs[i]? = some x ∧ HA H x y
 | _, _, .nil, i, y, h => by simp at h
 | _, _, .cons h0 h, 0, y, hy => by simp at hy; subst hy; exact ⟨_, by simp, h0⟩
 | _, _, .cons h0 h, i + 1, y, hy => by simpa using h.get (i := i) (by simpa using hy)
theorem HA.vr {F : Lo} {g : List (Option Nat)} {w : World} {x y : PV} {u : Value} (h : HA H x y) (hv : VR (ctx P F H g w) x u) {C : Ctx} (hM : ∀ b o u, w.cell? ⟨b, o, none⟩ = some u → C.M b o u) (hB : ∀ A e s n, C.B A e s n) : VR C y u := by
 cases h with
 | wk hw hi =>
  have := VR.turn (C := ctx P F H g w) (C' := C) (f := fun i => i) (fun b o u hm => hM b o u hm.2) (fun b o u hm => C.nm b o u (hM b o u hm.2)) (fun A e s n _ => hB A e s n) y u (fun i hx => by rw [hi] at hx; cases hx) (hw _ _ hv)
  rwa [z18 y (fun i hx => rfl)] at this
 | old => exact VR.leans (C := (ctx P F H g w).all) (fun b o u hm => hM b o u hm.2) (fun b o u hm => C.nm b o u (hM b o u hm.2)) (fun A e s n _ => hB A e s n) (fun _ _ h => h) (fun _ _ _ _ _ h => h) (fun _ _ _ h => h) (vr_old.1 hv)
 | @hid k y hk => exact VR.leans (C := (ctx P F H g w).inn k) (fun b o u hm => hM b o u (zlu hk hm)) (fun b o u hm => C.nm b o u (hM b o u (zlu hk hm))) (fun A e s n _ => hB A e s n) (fun _ _ h => h) (fun _ _ _ _ _ h => h) (fun _ _ _ h => h) (vr_hid.1 hv)
theorem HAL.vrs {F : Lo} {g : List (Option Nat)} {w : World} {xs ys : List PV} {us : Array Value} (h : HAL H xs ys) (hv : VRs (ctx P F H g w) xs us) (m : Nat) : VRs (ctx P ⟨fun _ => none, (m, false)⟩ [] [] w) ys us := by
 refine ⟨by rw [← h.len]; exact hv.1, fun i y hy => ?_⟩
 obtain ⟨x, h1, h2⟩ := h.get hy
 obtain ⟨u, h3, h4⟩ := hv.2 i x h1
 exact ⟨u, h3, h2.vr h4 (fun _ _ _ h => Z2l h) (fun A e s n hf => nomatch hf)⟩
inductive FA (H : List AEnt) : PV → PV → Prop
 | sc {x y : PV} : Wk x y → Sc y → FA H x y
 | old {x y : PV} : HA H x y → FA H x (.old y)
inductive FAL (H : List AEnt) : List PV → List PV → Prop
 | nil : FAL H [] []
 | cons {x y : PV} {xs ys : List PV} : FA H x y → FAL H xs ys → FAL H (x :: xs) (y :: ys)
theorem FAL.len : ∀ {xs ys : List PV}, FAL H xs ys → xs.length = ys.length
 | _, _, .nil => rfl
 | _, _, .cons _ h => by rw [List.length_cons, List.length_cons, h.len]
theorem FAL.get : ∀ {xs ys : List PV}, FAL H xs ys → ∀ {i : Nat} {y : PV}, ys[i]? = some y → ∃ x, xs[i]? = some x ∧ FA H x y
 | _, _, .nil, i, y, h => by simp at h
 | _, _, .cons h0 h, 0, y, hy => by simp at hy; subst hy; exact ⟨_, by simp, h0⟩
 | _, _, .cons h0 h, i + 1, y, hy => by simpa using h.get (i := i) (by simpa using hy)
theorem FAL.vrs {F : Lo} {g : List (Option Nat)} {w : World} {xs ys : List PV} {us : Array Value} (h : FAL H xs ys) (hv : VRs (ctx P F H g w) xs us) (m : Nat × Bool) : VRs (ctx P ⟨fun _ => none, m⟩ [] [] w) ys us := by
 refine ⟨by rw [← h.len]; exact hv.1, fun i y hy => ?_⟩
 obtain ⟨x, h1, h2⟩ := h.get hy
 obtain ⟨u, h3, h4⟩ := hv.2 i x h1
 refine ⟨u, h3, ?_⟩
 cases h2 with
 | sc hw hs => exact hs.any (hw _ _ h4)
 | old hx => exact vr_old.2 (hx.vr h4 (fun _ _ _ h => Z2k h) (fun _ _ _ _ => trivial))
theorem z9x {F : Fr} {g : List (Option Nat)} {a : Act} {w : World} {f : FuncId} {args : List Operand} {types : Array TypeId} (ho : o.op = .call { callee := .value (.func f), args := args.toArray, argTypes := types }) (hen : z0x P f) :
 (execOp a.eval o).run P w = .ok (.enter f (args.toArray.map a.eval)) w := by
 simp only [execOp, ho]
 simp [resolve, Deferred.ofValue, invoke, Act.eval, z2j hen]
theorem zd4 {f : FuncId} {args : List Operand} {types : Array TypeId} {xs fargs : List PV} {X : PV}
 (ho : o.op = .call { callee := .value (.func f), args := args.toArray, argTypes := types }) (hen : z0x P f)
 (hx : evs env args = some xs) (hw : FAL H xs fargs) (hc : z0o P f fargs X) (hX : Pl X) : Op1 P o env H n (.hid H.length X) (H ++ [.reg]) := by
 intro F g a w hr Kn Q hK
 have hv := hw.vrs (hr.vrs hx) (w.heap.size, true)
 unfold Oper.wp
 rw [z9x (F := F) (g := g) ho hen]
 simp only [Oper.upon_enter]
 refine Calls.mono (hc _ _ _ w (zfs w w.heap.size true (Nat.le_refl _)) hv) ?_
 rintro e w' ⟨r, H', g', h1, h2, h3, rfl, rfl⟩
 have hg' : g' = [] := List.eq_nil_of_length_eq_zero h2.len
 subst hg'
 have ho' : ∀ k, k < w.heap.size → w'.heap[k]? = w.heap[k]? := fun k hk => (h3.keep k hk (fun i hl => by simp [live] at hl)).1
 have hG : ∀ b ob, w.heap.size ≤ b → w'.heap[b]? = some ob → (ctx P F (H ++ [.reg]) (g ++ [some (zzc w w')]) w').G H.length b ob := fun b ob hb hob =>
  ⟨by simp, fun _ => ⟨zzc w w', by rw [← hr.rel.len]; simp, inReg_iff.2 ⟨hb, z1e hob⟩, hob⟩⟩
 cases e with
 | returned v =>
  refine hK v w' _ (vr_hid.2 (VR.move (C := ctx P ⟨fun _ => none, (w.heap.size, true)⟩ [] [] w') (fun b o u hm => ?_) (fun A e s m hB => ?_) X v hX h1)) (zxd hr.rel h3.size ho') (zy9 hr.rel h3.size ho' h3.os h3.tape h3.output)
  ·obtain ⟨ob, h4, h5⟩ := zyw hm.2
   exact ⟨ob, hG b ob (hm.1.2 rfl) h4, h5⟩
  ·rcases hB rfl with h4 | ⟨b, o, c, z, q, h4, h5, h6, h7⟩
   ·exact .inl h4
   ·exact .inr ⟨b, o, c, z, q, h4, hG b _ h5 h6, h7⟩
 | panicked c => exact h1.elim
 | outgrown => exact h1.elim
theorem zr0 {f : FuncId} {args : List Operand} {types : Array TypeId} {xs fargs : List PV} {X : PV}
 (ho : o.op = .call { callee := .value (.func f), args := args.toArray, argTypes := types }) (hen : z0x P f)
 (hx : evs env args = some xs) (hw : HAL H xs fargs) (hc : z0o P f fargs X) (hX : Sc X) : Op1 P o env H n X H := by
 intro F g a w hr Kn Q hK
 have hv := hw.vrs (hr.vrs hx) 0
 unfold Oper.wp
 rw [z9x (F := F) (g := g) ho hen]
 simp only [Oper.upon_enter]
 refine Calls.mono (hc _ _ _ w (zfs w 0 false (Nat.zero_le _)) hv) ?_
 rintro e w' ⟨r, H', g', h1, h2, h3, rfl, rfl⟩
 have ho' : ∀ k, k < w.heap.size → w'.heap[k]? = w.heap[k]? := fun k hk => (h3.keep k hk (fun i hl => by simp [live] at hl)).1
 cases e with
 | returned v => exact hK v w' g (hX.any h1) (z7n hr.rel h3.size ho') (z7x hr.rel h3.size ho' h3.os h3.tape h3.output)
 | panicked c => exact h1.elim
 | outgrown => exact h1.elim
def zxv (S : Nat → Prop) (w : World) : Ctx := ⟨fun b o u => S b ∧ w.cell? ⟨b, o, none⟩ = some u, fun _ _ => False, fun _ _ _ _ _ => False, fun b o u => S b ∧ w.cell? ⟨b, o, none⟩ = some u, fun _ _ _ h => h, fun _ _ _ => False,
 fun A e s n => (A = none ∧ n = 0) ∨ ∃ (b o : Nat) (cells : Array Value) (z : Nat × Nat) (q : Nat), A = some ⟨b, o, none⟩ ∧ S b ∧ w.heap[b]? = some (.cells cells e z) ∧ o + n ≤ cells.size ∧ (z.2 ≤ z.1 ∨ cells.size ≤ z.1) ∧ o = q * s, fun _ _ => .inl ⟨rfl, rfl⟩, fun _ _ => False⟩
def zwk (P : Program) (f : FuncId) (xs : List PV) (X : PV) : Prop := ∀ (S : Nat → Prop) (us : Array Value) (w : World), VRs (zxv S w) xs us → Calls P f us w fun e w' =>
 ∃ v, e = .returned v ∧ VR (zxv S w') X v ∧ w'.os = w.os ∧ w'.tape = w.tape ∧ w'.output = w.output ∧ w.heap.size ≤ w'.heap.size ∧ (∀ b, b < w.heap.size → ¬ S b → w'.heap[b]? = w.heap[b]?) ∧ Keeps w w'
inductive SA (k : Nat) : PV → PV → Prop
 | sc {x y : PV} : Wk x y → Sc y → SA k x y
 | hid {y : PV} : SA k (.hid k y) y
inductive SAL (k : Nat) : List PV → List PV → Prop
 | nil : SAL k [] []
 | cons {x y : PV} {xs ys : List PV} : SA k x y → SAL k xs ys → SAL k (x :: xs) (y :: ys)
theorem SAL.len {k : Nat} : ∀ {xs ys : List PV}, SAL k xs ys → xs.length = ys.length
 | _, _, .nil => rfl
 | _, _, .cons _ h => by rw [List.length_cons, List.length_cons, h.len]
theorem SAL.get {k : Nat} : ∀ {xs ys : List PV}, SAL k xs ys → ∀ {i : Nat} {y : PV}, ys[i]? = some y → ∃ x, xs[i]? = some x ∧ SA k x y
 | _, _, .nil, i, y, h => by simp at h
 | _, _, .cons h0 h, 0, y, hy => by simp at hy; subst hy; exact ⟨_, by simp, h0⟩
 | _, _, .cons h0 h, i + 1, y, hy => by simpa using h.get (i := i) (by simpa using hy)
theorem zqs {f : FuncId} {args : List Operand} {types : Array TypeId} {xs fargs : List PV} {X : PV} (k : Nat)
 (ho : o.op = .call { callee := .value (.func f), args := args.toArray, argTypes := types }) (hen : z0x P f)
 (hk : H[k]? = some .reg) (hx : evs env args = some xs) (hw : SAL k xs fargs) (hc : zwk P f fargs X) (hX : Sc X) : Op1 P o env H n X (H.set k .dead) := by
 intro F g a w hr Kn Q hK
 have hv := hr.vrs hx
 unfold Oper.wp
 rw [z9x (F := F) (g := g) ho hen]
 simp only [Oper.upon_enter]
 -- the range's number (a range without one holds nothing)
 let S : Nat → Prop := fun b => ∃ c, g[k]? = some (some c) ∧ inReg c b
 have hv' : VRs (zxv S w) fargs (args.toArray.map a.eval) := by
  refine ⟨by rw [← hw.len]; exact hv.1, fun i y hy => ?_⟩
  obtain ⟨x, h1, h2⟩ := hw.get hy
  obtain ⟨u, h3, h4⟩ := hv.2 i x h1
  refine ⟨u, h3, ?_⟩
  cases h2 with
  | sc hwk hs => exact hs.any (hwk _ _ h4)
  | hid =>
   have hm : ∀ b o u, ((ctx P F H g w).inn k).M b o u → S b ∧ w.cell? ⟨b, o, none⟩ = some u := by
    rintro b o u ⟨ob, h5, h6⟩
    obtain ⟨c, h7, h8, h9⟩ := h5.2 hk
    exact ⟨⟨c, h7, h8⟩, zsq h9 h6⟩
   refine VR.leans hm hm (fun A e s m hB => ?_) (fun _ _ h => h) (fun _ _ _ _ _ h => h) (fun _ _ _ h => h) (vr_hid.1 h4)
   rcases hB with h5 | ⟨b, o, c, z, q, h5, h6, h7⟩
   ·exact .inl h5
   ·obtain ⟨c', h8, h9, h10⟩ := h6.2 hk
    exact .inr ⟨b, o, c, z, q, h5, ⟨c', h8, h9⟩, h10, h7⟩
 refine Calls.mono (hc S _ w hv') ?_
 rintro e w' ⟨v, rfl, h1, h2, h3, h4, h5, h6, h7⟩
 by_cases hgk : ∃ c, g[k]? = some (some c)
 ·obtain ⟨c, hgk⟩ := hgk
  have ho' : ∀ b, b < w.heap.size → ¬ inReg c b → w'.heap[b]? = w.heap[b]? := fun b hb hn => h6 b hb (by rintro ⟨c', h8, h9⟩; rw [hgk] at h8; injection h8 with h8; injection h8 with h8; subst h8; exact hn h9)
  exact hK v w' g (hX.any h1) (zoz hr.rel hk hgk h5 ho' h7) (zs1 hr.rel hk hgk h5 ho' h7 h2 h3 h4)
 ·have ho' : ∀ b, b < w.heap.size → w'.heap[b]? = w.heap[b]? := fun b hb => h6 b hb (fun ⟨c, h8, _⟩ => hgk ⟨c, h8⟩)
  have hr' := z7n hr.rel h5 ho'
  exact hK v w' g (hX.any h1) (zfr hr' k) ((z7x hr.rel h5 ho' h2 h3 h4).trans (z9r hr' k))
theorem Wk.oldSc {x : PV} (h : Sc x) : Wk (.old x) x := fun _ _ hv => h.any (vr_old.1 hv)
theorem Wk.hidSc {k : Nat} {x : PV} (h : Sc x) : Wk (.hid k x) x := fun _ _ hv => h.any (vr_hid.1 hv)
theorem Wk.oldAgg {cs : List PV} : Wk (.old (.agg cs)) (.agg (cs.map .old)) := by
 intro C u hv
 obtain ⟨us, hu, hl, hx⟩ := vr_agg.1 (vr_old.1 hv)
 refine vr_agg.2 ⟨us, hu, by simpa using hl, fun i y hy => ?_⟩
 rw [List.getElem?_map, Option.map_eq_some_iff] at hy
 obtain ⟨x, h1, rfl⟩ := hy
 obtain ⟨u', h2, h3⟩ := hx i x h1
 exact ⟨u', h2, vr_old.2 h3⟩
def zzp : PV → PV
 | .old x => x
 | .v x => .v x
 | .iface t (.v x) => .iface t (.v x)
 | _ => .junk
def zze : List (Nat × PV) → List (Nat × PV)
 | [] => []
 | (k, x) :: r => (k, zzp x) :: zze r
theorem zli : ∀ {env : List (Nat × PV)} {t : Nat} {y : PV}, get (zze env) t = some y → ∃ x, get env t = some x ∧ y = zzp x
 | [], t, y, h => by cases h
 | (k, x) :: r, t, y, h => by
  simp only [zze, Aw.get] at h ⊢
  cases hb : Nat.beq k t with
  | true => rw [hb] at h; simp at h; exact ⟨x, rfl, h.symm⟩
  | false => rw [hb] at h; exact zli h
section
variable {F : Lo} {g : List (Option Nat)} {w w' : World}
noncomputable def frO (P : Program) (F : Lo) (H : List AEnt) (g : List (Option Nat)) : Lo := ⟨zdf P F H g [], (F.base, false)⟩
theorem zy6 (h : RelH P F H g w) : RelH P (frO P F H g) [] [] w :=
 have h1 := z4u h (σ := []) (by simp) (z2i h []) (by simp) (by simp)
 ⟨rfl, fun i j b hl => (by simp [live] at hl), fun i b hl => (by simp [live] at hl), fun b k hk => h1.fb b k hk, ⟨h.bs.1, fun i b hl => (by simp [live] at hl)⟩, fun i ty cs h => (by simp at h), fun i e n h => (by simp at h)⟩
theorem zw8 (h : RelH P F H g w) {b o : Nat} {u : Value} (hm : (ctx P F H g w).N b o u) : (ctx P (frO P F H g) [] [] w).M b o u := by
 have h1 := zia h (σ := []) (by simp) (z2i h []) hm.1
 refine ⟨⟨?_, fun hf => nomatch hf⟩, hm.2⟩
 rcases h1 with ⟨h1, h2⟩ | ⟨i, e, n, h1, _⟩
 ·exact .inl ⟨fun i hl => (by simp [live] at hl), h2⟩
 ·simp [z3f] at h1
theorem zrx (h : RelH P F H g w) {b o : Nat} {u : Value} (hm : (ctx P (frO P F H g) [] [] w').N b o u) : (ctx P F H g w').N b o u := by
 refine ⟨?_, hm.2⟩
 rcases hm.1 with ⟨_, h2⟩ | ⟨i, e, n, h1, _⟩
 ·by_cases hx : ∃ i, live H g i b
  ·obtain ⟨i, hi⟩ := hx
   have hF : frO P F H g b = some (pfx P (H.getD i .dead)) := by
    rcases (z2i h []).other b i hi (by simp) with hF | hF
    ·exact absurd ((z7u hF).1 i hi) (by simp)
    ·exact hF
   have h4 := h2 _ hF
   obtain ⟨c, h5, e, h6, h7⟩ := hi
   rw [List.getD_eq_getElem?_getD, h6] at h4
   cases e with
   | arr t n =>
    have h7 : c = b := h7
    subst h7
    exact .inr ⟨i, t, n, h6, h5, by simpa [pfx] using h4⟩
   | reg => simp [pfx] at h4
   | box ty cs => simp [pfx] at h4
   | dead => simp [pfx] at h4
  ·refine .inl ⟨fun i hi => hx ⟨i, hi⟩, fun k hk => h2 k ?_⟩
   have := (z2i h []).none b (fun i hi => absurd ⟨i, hi⟩ hx)
   exact this.trans hk
 ·simp at h1
end
theorem z27 {y : PV} (h : Op1 P o (zze env) [] n y []) : Op1 P o env H n (.old y) H := by
 intro F g a w hr Kn Q hK
 have hrel := zy6 hr.rel
 have hr0 : Rel P ⟨frO P F H g, F.ds⟩ ⟨zze env, [], n⟩ a w [] := by
  refine ⟨hrel, fun t x hx => ?_, hr.size, hr.defers⟩
  obtain ⟨z, h1, rfl⟩ := zli hx
  obtain ⟨u, h2, h3⟩ := hr.env t z h1
  refine ⟨u, h2, ?_⟩
  cases z with
  | old z => exact VR.leans (C := (ctx P F H g w).all) (fun b o u hm => zw8 hr.rel hm) (fun b o u hm => (ctx P (frO P F H g) [] [] w).nm b o u (zw8 hr.rel hm)) (fun A e s m _ hf => nomatch hf) (fun _ _ h => h) (fun _ _ _ _ _ h => h) (fun _ _ _ h => h) (vr_old.1 h3)
  | v x => exact vr_v.2 (vr_v.1 h3)
  | iface t x => cases x with
   | v x => exact (Sc.iface Sc.v).any h3
   | _ => exact z70
  | _ => exact z70
 refine h _ _ a w hr0 Kn Q ?_
 intro v w' g' hv h1 h2
 have hg' : g' = [] := List.eq_nil_of_length_eq_zero h1.len
 subst hg'
 have ho' : ∀ k, k < w.heap.size → w'.heap[k]? = w.heap[k]? := fun k hk => (h2.keep k hk (fun i hl => by simp [live] at hl)).1
 refine hK v w' g (vr_old.2 ?_) (z7n hr.rel h2.size ho') (z7x hr.rel h2.size ho' h2.os h2.tape h2.output)
 refine VR.leans (C := ctx P (frO P F H g) [] [] w') (C' := (ctx P F H g w').all) (fun b o u hm => zrx hr.rel ⟨hm.1.1, hm.2⟩) (fun b o u hm => zrx hr.rel hm) (fun _ _ _ _ _ => trivial) ?_ ?_ ?_ hv
 ·rintro i b ⟨h3, _⟩; simp at h3
 ·rintro i m A c z ⟨h3, _⟩; simp at h3
 ·rintro i b ob ⟨h3, _⟩; simp at h3
theorem z26 {y : PV} (h : Op1 P o (zze env) [] n y []) (hs : Sc y) : Op1 P o env H n y H := (z27 h).wk (Wk.oldSc hs)
def RegL (H : List AEnt) : List Nat → Prop
 | [] => True
 | k :: r => H[k]? = some .reg ∧ RegL H r
theorem RegL.get : ∀ {ks : List Nat}, RegL H ks → ∀ k, k ∈ ks → H[k]? = some .reg
 | [], _, k, hk => by cases hk
 | j :: r, h, k, hk => by
  rcases List.mem_cons.1 hk with rfl | hk
  ·exact h.1
  ·exact RegL.get h.2 k hk
theorem z7r {x : Operand} {k i : Nat} {xs : List PV} {y : PV} (ho : o.op = .extract x i) (hx : ev env x = some (.hid k (.tup xs))) (hy : xs[i]? = some y) : Op1 P o env H n (.hid k y) H :=
 z17 fun F g a w hr => by
  obtain ⟨us, hu, hl, h1⟩ := vr_tup.1 (vr_hid.1 (hr.opd hx))
  obtain ⟨u', h2, h3⟩ := h1 i y hy
  exact ⟨u', vr_hid.2 h3, by simp [execOp, ho, hu, Instr.extract, h2]⟩
theorem zr4 {α : Type} {f : α → PV} {t tx e e' : TypeId} {x y : Operand} {j : Nat} {sz b_ : Nat} {z : Value} {l m r : List α} {tk : Option Nat} (ht : P.underlying t = some (.slice e)) (hi : Inf P e z sz b_) (hz : z.cells.size = sz) (htx : P.underlying tx = some (.slice e'))
 (ho : o.op = .call { callee := .builtin .append, args := #[x, y], argTypes := #[t, tx] }) (hx : ev env x = some (.sl (some j) e sz (l.map f))) (hj : H[j]? = some (.arr e l.length)) (hy : ev env y = some (.old (.sl tk e sz (m.map f))))
 (hsz : ∀ a, (f a).cells.length = sz) (h1 : ∀ a, (f a).cells.all z6w = true) (hr : z6x b_ l m = some r) (hb1 : Nat.ble 1 b_ = true) (hsc : ∀ a c, c ∈ (f a).cells → Sc c) : Op1 P o env H n (.sl (some j) e sz (r.map f)) (H.set j (.arr e r.length)) := by
 obtain ⟨hb, rfl⟩ := zdu hr
 have hb1' := Nat.le_of_ble_eq_true hb1
 refine (zr5 (xs := l.map f) (ys := m.map f) ht hi hz ho hx (by rw [List.length_map]; exact hj) (fun F g a w hr => ?_)
  (List.all_eq_true.2 fun p hp => by obtain ⟨a, _, rfl⟩ := List.mem_map.1 hp; rw [hsz]; exact Nat.beq_refl _) (by simpa only [List.length_map] using hb) ?_).cast (by rw [List.map_append]) (by rw [List.length_map, List.length_map, List.length_append])
 ·obtain ⟨news, h2, h3, h4⟩ := zvn (C := (ctx P F H g w).all) (w := w) (fun _ _ _ hm => hm.2) (vr_old.1 (hr.opd hy)) htx (List.all_eq_true.2 fun p hp => by obtain ⟨a, _, rfl⟩ := List.mem_map.1 hp; exact h1 a)
  refine ⟨news, h2, h3, fun i q hq => ?_⟩
  obtain ⟨u, h5, h6⟩ := h4 i q hq
  obtain ⟨p, hp, hc⟩ := List.mem_flatMap.1 (List.mem_of_getElem? hq)
  obtain ⟨a', _, rfl⟩ := List.mem_map.1 hp
  exact ⟨u, h5, (hsc a' q hc).any h6⟩
 simp only [List.length_map]
 have : l.length + m.length ≤ (l.length + m.length) * b_ := Nat.le_mul_of_pos_right _ hb1'
 omega
theorem zsl {H0 : List AEnt} {s : ASt} {K : AExit → ASt → Prop} {c : Code} {t e sz : Nat} {tk : Option Nat} {xs : List PV} (hx : get s.env t = some (.old (.sl tk e sz xs))) (h : xs.length ≤ 9223372036854775807 → BW P H0 c s K) : BW P H0 c s K := fun F g a w g0 w0 hl hr hx' => by
 obtain ⟨u, _, h2⟩ := hr.env t _ hx
 obtain ⟨A, cp, _, h3, _⟩ := vr_sl.1 (vr_old.1 h2)
 exact h h3.1.2 F g a w g0 w0 hl hr hx'
theorem z4o {x : PV} (h : x.ids = []) : (PV.old x).ids = [] := h
theorem zxs {x : PV} : z6w (.old x) = z6w x := rfl
theorem Wk.opened {cs ys : List PV} (h : WkL (cs.map .old) ys) : Wk (.old (.agg cs)) (.agg ys) := Wk.trans Wk.oldAgg (Wk.agg h)
end Aw
end Go.Proofs.Ythidgpcbnieleaa
