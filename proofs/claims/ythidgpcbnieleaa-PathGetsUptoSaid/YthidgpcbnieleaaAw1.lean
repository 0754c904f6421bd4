/- Aw: the ways a world goes on (a new block, a store, a row that grows, a variable let go), each proved to keep what the trees say. -/
import Derived.Test.YthidgpcbnieleaaAw0
namespace Go.Proofs.Ythidgpcbnieleaa.Aw
open Go
set_option linter.unusedVariables false
set_option linter.unusedSimpArgs false
variable {P : Program} {F : Lo} {H H' : List AEnt} {g g' : List (Option Nat)} {w w' : World}

theorem z1p {w : World} {b off : Nat} {c : Array Value} {t : TypeId} {fr : Nat × Nat} (h : w.heap[b]? = some (.cells c t fr)) : w.cell? ⟨b, off, none⟩ = c[off]? := by simp [World.cell?, h]
theorem z3q {w w' : World} {b off : Nat} (h : w'.heap[b]? = w.heap[b]?) : w'.cell? ⟨b, off, none⟩ = w.cell? ⟨b, off, none⟩ := by simp [World.cell?, h]
theorem zau {w : World} {b off : Nat} {u : Value} (h : w.cell? ⟨b, off, none⟩ = some u) : b < w.heap.size := World.block_lt_of_cell? (a := ⟨b, off, none⟩) w h
theorem z1e {α : Type} {a : Array α} {i : Nat} {x : α} (h : a[i]? = some x) : i < a.size := by
 rcases Nat.lt_or_ge i a.size with h1 | h1
 ·exact h1
 ·rw [Array.getElem?_eq_none h1] at h; cases h

theorem zgd (hh : w'.heap = w.heap) : ctx P F H g w' = ctx P F H g w := by
 unfold ctx; simp only [World.cell?, hh]
theorem ztg (h : RelH P F H g w) (hh : w'.heap = w.heap) : RelH P F H g w' := by
 have hc := zgd (P := P) (F := F) (H := H) (g := g) hh
 refine ⟨h.len, h.inj, by rw [hh]; exact h.fr, by rw [hh]; exact h.fb, by rw [hh]; exact h.bs, ?_, by rw [hh]; exact h.arr⟩
 rw [hc, hh]; exact h.box
theorem zuh (hh : w'.heap = w.heap) (h1 : w'.os = w.os) (h2 : w'.tape = w.tape) (h3 : w'.output = w.output) : Ext P F H g w H g w' :=
 ⟨h1, h2, h3, by rw [hh]; exact Nat.le_refl _, fun b _ hl => ⟨by rw [hh], hl⟩, by rw [zgd hh]; exact .refl _, Nat.le_refl _⟩

theorem zxy {F' : Lo} (hl : ∀ k, k < H.length → k < H'.length) (hr : ∀ k, k < H.length → H'[k]? = some .reg → H[k]? = some .reg ∧ g'[k]? = g[k]?)
 (hw : ∀ k b, H[k]? = some .reg → live H g k b → w'.heap[b]? = w.heap[b]?) : ∀ k b o, (ctx P F H g w).G k b o → (ctx P F' H' g' w').G k b o := by
 rintro k b o ⟨h1, h2⟩
 refine ⟨hl k h1, fun h3 => ?_⟩
 obtain ⟨h4, h5⟩ := hr k h1 h3
 obtain ⟨c, h6, h7, h8⟩ := h2 h4
 exact ⟨c, by rw [h5]; exact h6, h7, by rw [hw k b h4 ⟨c, h6, _, h4, h7⟩]; exact h8⟩
theorem zez {e : AEnt} {n : Option Nat} (hl : g.length = H.length) {i b : Nat} : live (H ++ [e]) (g ++ [n]) i b ↔ live H g i b ∨ (i = H.length ∧ ∃ c, n = some c ∧ zw7 e c b) := by
 unfold live
 rcases Nat.lt_trichotomy i H.length with h | h | h
 ·rw [List.getElem?_append_left (by omega), List.getElem?_append_left h]
  constructor
  ·exact fun x => .inl x
  ·rintro (x | ⟨rfl, _⟩)
   ·exact x
   ·omega
 ·subst h
  simp [hl]
 ·rw [List.getElem?_append_right (by omega), List.getElem?_append_right (by omega)]
  simp only [List.getElem?_eq_none (l := [n]) (i := i - g.length) (by simp; omega), List.getElem?_eq_none (l := g) (i := i) (by omega)]
  simp
  omega
theorem zrw {e : AEnt} {c b : Nat} (hne : e ≠ .reg) : zw7 e c b ↔ c = b ∧ e ≠ .dead := by
 cases e <;> simp_all [zw7]
theorem z4l {e : AEnt} {n : Option Nat} (hl : g.length = H.length) (hne : e ≠ .reg) {i b : Nat} : live (H ++ [e]) (g ++ [n]) i b ↔ live H g i b ∨ (i = H.length ∧ n = some b ∧ e ≠ .dead) := by
 rw [zez hl]
 constructor
 ·rintro (h | ⟨h1, c, h2, h3⟩)
  ·exact .inl h
  ·obtain ⟨rfl, h4⟩ := (zrw hne).1 h3
   exact .inr ⟨h1, h2, h4⟩
 ·rintro (h | ⟨h1, h2, h3⟩)
  ·exact .inl h
  ·exact .inr ⟨h1, b, h2, (zrw hne).2 ⟨rfl, h3⟩⟩
theorem z1k {α : Type} {l : List α} {x : α} {i : Nat} (h : i < l.length) : (l ++ [x])[i]? = l[i]? := List.getElem?_append_left h
theorem z2q {α : Type} {l : List α} {x : α} : (l ++ [x])[l.length]? = some x := by simp
theorem z6p {α : Type} {l : List α} {x y : α} {i : Nat} (h : (l ++ [x])[i]? = some y) : l[i]? = some y ∨ (i = l.length ∧ y = x) := by
 rcases Nat.lt_trichotomy i l.length with h1 | h1 | h1
 ·rw [z1k h1] at h; exact .inl h
 ·subst h1; rw [z2q] at h; exact .inr ⟨rfl, by injection h with h; exact h.symm⟩
 ·rw [List.getElem?_eq_none (by simp; omega)] at h; cases h
theorem z0a {α : Type} {l : List α} {i : Nat} {x : α} (h : l[i]? = some x) : i < l.length := by
 rcases Nat.lt_or_ge i l.length with h1 | h1
 ·exact h1
 ·rw [List.getElem?_eq_none h1] at h; cases h

theorem z2k {o : Obj} {k : Nat} (h : k < w.heap.size) : (w.alloc o).heap[k]? = w.heap[k]? := Go.RowKit.Below.heap_alloc w o k h
theorem z2o {o : Obj} : (w.alloc o).heap[w.heap.size]? = some o := by
 show (w.heap.push o)[w.heap.size]? = some o
 simp

theorem z7e (h : RelH P F H g w) (e : AEnt) (n : Option Nat) (hn : ∀ b, n = some b → b = w.heap.size) (hs : w.heap.size ≤ w'.heap.size) (ho : ∀ k, k < w.heap.size → w'.heap[k]? = w.heap[k]?) (hne : e ≠ .reg := by simp) :
 (ctx P F H g w).Le (ctx P F (H ++ [e]) (g ++ [n]) w') := by
 have hst : ∀ b off, b < w.heap.size → zmu P F H g b off → zmu P F (H ++ [e]) (g ++ [n]) b off := by
  rintro b off hb (⟨h1, h2⟩ | ⟨i, e', k, h1, h2, h3⟩)
  ·refine .inl ⟨fun i hi => ?_, h2⟩
   rcases (z4l h.len hne).1 hi with hi | ⟨_, hi, _⟩
   ·exact h1 i hi
   ·have := hn b hi; omega
  ·exact .inr ⟨i, e', k, by rw [z1k (z0a h1)]; exact h1, by rw [z1k (z0a h2)]; exact h2, h3⟩
 refine zbl rfl ?_ ?_ ?_ (zxy (fun k hk => by simp; omega) (fun k hk hk' => ⟨by rwa [z1k hk] at hk', z1k (by rw [h.len]; exact hk)⟩) (fun k b _ hl => ho b (h.fr k b hl).2)) ((Keeps.of ho).B rfl) (Keeps.of ho).K
 ·rintro b off u ⟨h1, h2⟩
  have hb := zau h2
  exact ⟨hst b off hb h1, by rw [z3q (ho b hb)]; exact h2⟩
 ·rintro i b ⟨h1, h2⟩
  have hi := z0a h1
  refine ⟨by rw [z1k hi]; exact h1, fun e' k he => h2 e' k ?_⟩
  rwa [z1k (by rw [← h.len]; exact hi)] at he
 ·rintro j m A c sz ⟨h1, h2⟩
  refine ⟨by simp; omega, fun e' k he => ?_⟩
  rw [z1k h1] at he
  obtain ⟨h3, h4⟩ := h2 e' k he
  refine ⟨h3, fun hm => ?_⟩
  obtain ⟨h5, h6⟩ := h4 hm
  refine ⟨h5, ?_⟩
  rw [z1k (by rw [h.len]; exact h1)]
  rcases h6 with h6 | ⟨b, cells, h6, h7, h8, h9⟩
  ·exact .inl h6
  ·exact .inr ⟨b, cells, h6, h7, by rw [ho b (z1e h8)]; exact h8, h9⟩

theorem z43 (h : RelH P F H g w) (e : AEnt) (n : Option Nat) (hn : ∀ b, n = some b → b = w.heap.size) (hs : w.heap.size ≤ w'.heap.size) (ho : ∀ k, k < w.heap.size → w'.heap[k]? = w.heap[k]?)
 (h1 : w'.os = w.os) (h2 : w'.tape = w.tape) (h3 : w'.output = w.output) (hne : e ≠ .reg := by simp) : Ext P F H g w (H ++ [e]) (g ++ [n]) w' := by
 refine ⟨h1, h2, h3, hs, fun b hb hl => ⟨ho b hb, fun i hi => ?_⟩, z7e h e n hn hs ho hne, by simp⟩
 rcases (z4l h.len hne).1 hi with hi | ⟨_, hi, _⟩
 ·exact hl i hi
 ·have := hn b hi; omega

def entOk (P : Program) (C : Ctx) (w : World) (n : Option Nat) : AEnt → Prop
 | .box ty cs => ∃ (b : Nat) (cells : Array Value), n = some b ∧ w.heap[b]? = some (.cells cells ty (0, 0)) ∧ cs.length ≤ cells.size ∧ ∀ (j : Nat) (y : PV), cs[j]? = some y → ∃ u, cells[j]? = some u ∧ VR C y u
 | .arr e k => (n = none ∧ True) ∨ ∃ (b : Nat) (cells : Array Value), n = some b ∧ w.heap[b]? = some (.cells cells e (0, 0)) ∧ k * P.cellsOf e ≤ cells.size
 | .reg => True
 | .dead => True
theorem z4t (h : RelH P F H g w) {i : Nat} {e : AEnt} (hi : H[i]? = some e) : ∃ n, g[i]? = some n ∧ entOk P (ctx P F H g w) w n e := by
 have hlt : i < g.length := by rw [h.len]; exact z0a hi
 refine ⟨g[i], List.getElem?_eq_getElem hlt, ?_⟩
 have hg := List.getElem?_eq_getElem hlt
 cases e with
 | box ty cs =>
  obtain ⟨b, cells, h1, h2⟩ := h.box i ty cs hi
  rw [hg] at h1; injection h1 with h1
  exact ⟨b, cells, h1, h2⟩
 | arr e k =>
  rcases h.arr i e k hi with ⟨h1, h2⟩ | ⟨b, cells, h1, h2⟩
  ·rw [hg] at h1; injection h1 with h1; exact .inl ⟨h1, h2⟩
  ·rw [hg] at h1; injection h1 with h1; exact .inr ⟨b, cells, h1, h2⟩
 | reg => trivial
 | dead => trivial
theorem z2s (len : g.length = H.length) (inj : ∀ i j b, live H g i b → live H g j b → i = j) (fr : ∀ i b, live H g i b → F b = none ∧ b < w.heap.size) (fb : ∀ b k, F b = some k → b < w.heap.size) (bs : F.base ≤ w.heap.size ∧ ∀ i b, live H g i b → F.base ≤ b)
 (ok : ∀ (i : Nat) (e : AEnt), H[i]? = some e → ∃ n, g[i]? = some n ∧ entOk P (ctx P F H g w) w n e) : RelH P F H g w := by
 refine ⟨len, inj, fr, fb, bs, ?_, ?_⟩
 ·intro i ty cs hi
  obtain ⟨n, hn, b, cells, rfl, h2⟩ := ok i _ hi
  exact ⟨b, cells, hn, h2⟩
 ·intro i e k hi
  obtain ⟨n, hn, h1⟩ := ok i _ hi
  rcases h1 with ⟨rfl, h1⟩ | ⟨b, cells, rfl, h2⟩
  ·exact .inl ⟨hn, h1⟩
  ·exact .inr ⟨b, cells, hn, h2⟩
theorem entOk.mono {C C' : Ctx} {n : Option Nat} {e : AEnt} (hle : C.Le C') (hh : ∀ b, n = some b → w'.heap[b]? = w.heap[b]?) (h : entOk P C w n e) : entOk P C' w' n e := by
 cases e with
 | box ty cs =>
  obtain ⟨b, cells, rfl, h1, h2, h3⟩ := h
  exact ⟨b, cells, rfl, by rw [hh b rfl]; exact h1, h2, fun j y hy => let ⟨u, a1, a2⟩ := h3 j y hy; ⟨u, a1, a2.mono hle⟩⟩
 | arr e k =>
  rcases h with h | ⟨b, cells, rfl, h1, h2⟩
  ·exact .inl h
  ·exact .inr ⟨b, cells, rfl, by rw [hh b rfl]; exact h1, h2⟩
 | reg => trivial
 | dead => trivial

theorem z29 {C : Ctx} {n : Option Nat} {e : AEnt} (h : entOk P C w n e) (hd : e ≠ .dead) {b : Nat} (hb : n = some b) (hr : e ≠ .reg := by simp) : b < w.heap.size := by
 cases e with
 | box ty cs => obtain ⟨b', cells, h0, h1, _⟩ := h; rw [hb] at h0; injection h0 with h0; subst h0; exact z1e h1
 | arr e k =>
  rcases h with ⟨h0, _⟩ | ⟨b', cells, h0, h1, _⟩
  ·rw [hb] at h0; cases h0
  ·rw [hb] at h0; injection h0 with h0; subst h0; exact z1e h1
 | reg => exact absurd rfl hr
 | dead => exact absurd rfl hd

theorem z40 (h : RelH P F H g w) (e : AEnt) (n : Option Nat) (hn : ∀ b, n = some b → b = w.heap.size) (hs : w.heap.size ≤ w'.heap.size) (ho : ∀ k, k < w.heap.size → w'.heap[k]? = w.heap[k]?)
 (hok : entOk P (ctx P F (H ++ [e]) (g ++ [n]) w') w' n e) (hne : e ≠ .reg := by simp) : RelH P F (H ++ [e]) (g ++ [n]) w' := by
 have hle := z7e h e n hn hs ho hne
 refine z2s (by simp [h.len]) ?_ ?_ (fun b k hb => Nat.lt_of_lt_of_le (h.fb b k hb) hs) ⟨Nat.le_trans h.bs.1 hs, fun i b hi => by
  rcases (z4l h.len hne).1 hi with hi | ⟨_, hi, _⟩
  ·exact h.bs.2 i b hi
  ·have := hn b hi; have := h.bs.1; omega⟩ ?_
 ·intro i j b hi hj
  rcases (z4l h.len hne).1 hi with hi | ⟨rfl, hi, _⟩ <;> rcases (z4l h.len hne).1 hj with hj | ⟨rfl, hj, _⟩
  ·exact h.inj i j b hi hj
  ·have := hn b hj; have := (h.fr i b hi).2; omega
  ·have := hn b hi; have := (h.fr j b hj).2; omega
  ·rfl
 ·intro i b hi
  rcases (z4l h.len hne).1 hi with hi | ⟨rfl, hi, hd⟩
  ·exact ⟨(h.fr i b hi).1, Nat.lt_of_lt_of_le (h.fr i b hi).2 hs⟩
  ·have hb := hn b hi
   refine ⟨?_, z29 hok hd hi hne⟩
   cases hF : F b with
   | none => rfl
   | some k => have := h.fb b k hF; omega
 ·intro i e' hi
  rcases z6p hi with hi | ⟨rfl, rfl⟩
  ·obtain ⟨n', h1, h2⟩ := z4t h hi
   refine ⟨n', by rw [z1k (z0a h1)]; exact h1, ?_⟩
   cases e' with
   | dead => trivial
   | reg => trivial
   | _ => exact h2.mono hle (fun b hb => ho b (z29 h2 (by simp) hb))
  ·exact ⟨n, by rw [← h.len]; exact z2q, hok⟩

structure Wr (b : Nat) (c c' : Array Value) (t : TypeId) (w w' : World) : Prop where
 os : w'.os = w.os
 tape : w'.tape = w.tape
 output : w'.output = w.output
 size : w'.heap.size = w.heap.size
 other : ∀ k, k ≠ b → w'.heap[k]? = w.heap[k]?
 here : w.heap[b]? = some (.cells c t (0, 0))
 there : w'.heap[b]? = some (.cells c' t (0, 0))
 sz : c'.size = c.size
theorem Wr.refl {b : Nat} {c : Array Value} {t : TypeId} (h : w.heap[b]? = some (.cells c t (0, 0))) : Wr b c c t w w := ⟨rfl, rfl, rfl, rfl, fun _ _ => rfl, h, h, rfl⟩
theorem Wr.keeps {b : Nat} {c c' : Array Value} {t : TypeId} (h : Wr b c c' t w w') : Keeps w w' := by
 intro k d e z hk
 by_cases hb : k = b
 ·subst hb
  rw [h.here] at hk; injection hk with hk; injection hk with h1 h2 h3
  subst h1; subst h2; subst h3
  exact ⟨c', h.there, h.sz⟩
 ·exact ⟨d, by rw [h.other k hb]; exact hk, rfl⟩
theorem Wr.set {b : Nat} {c : Array Value} {t : TypeId} (h : w.heap[b]? = some (.cells c t (0, 0))) (off : Nat) (u : Value) : Wr b c (c.setIfInBounds off u) t w (w.setCell ⟨b, off, none⟩ u) := by
 refine ⟨rfl, rfl, rfl, by simp [World.setCell], fun k hk => Go.RowKit.Below.heap_setCell w ⟨b, off, none⟩ u k hk, h, ?_, by simp⟩
 simp only [World.setCell, Array.getElem?_modify, if_true, h, Option.map_some]
 simp
theorem Wr.trans {b : Nat} {c c' c'' : Array Value} {t : TypeId} {w'' : World} (h : Wr b c c' t w w') (k : Wr b c' c'' t w' w'') : Wr b c c'' t w w'' :=
 ⟨k.os.trans h.os, k.tape.trans h.tape, k.output.trans h.output, k.size.trans h.size, fun i hi => (k.other i hi).trans (h.other i hi), h.here, k.there, k.sz.trans h.sz⟩

theorem z1n {l : List AEnt} {i : Nat} {e e' : AEnt} (h : l[i]? = some e) : (l.set i e')[i]? = some e' := by
 have := z0a h; simp [this]
theorem z0z {l : List AEnt} {i j : Nat} {e' : AEnt} (h : i ≠ j) : (l.set i e')[j]? = l[j]? := by simp [List.getElem?_set_ne h]
theorem zg3 {i : Nat} {e e' : AEnt} (h : H[i]? = some e) (hd : ∀ c b, zw7 e' c b ↔ zw7 e c b) {j b : Nat} : live (H.set i e') g j b ↔ live H g j b := by
 unfold live
 by_cases hij : i = j
 ·subst hij; rw [z1n h, h]; simp [hd]
 ·rw [z0z hij]

theorem zw0 (h : RelH P F H g w) {i b : Nat} {ty : TypeId} {cs cs' : List PV} {c c' : Array Value} (hi : H[i]? = some (.box ty cs)) (hg : g[i]? = some (some b)) (hw : Wr b c c' ty w w') :
 (ctx P F H g w).Le (ctx P F (H.set i (.box ty cs')) g w') := by
 have hlive : live H g i b := ⟨_, hg, _, hi, rfl⟩
 have hns : ∀ off, ¬ zmu P F H g b off := by
  rintro off (⟨h1, _⟩ | ⟨j, e, n, h1, h2, _⟩)
  ·exact h1 i hlive
  ·have := h.inj i j b hlive ⟨_, h2, _, h1, rfl⟩
   subst this; rw [hi] at h1; cases h1
 have hne : ∀ j e k, H[j]? = some (.arr e k) → i ≠ j := by rintro j e k hj rfl; rw [hi] at hj; cases hj
 refine zbl rfl ?_ ?_ ?_ (zxy (fun k hk => by simpa using hk) (fun k hk hk' => by
  by_cases hik : i = k
  ·subst hik; rw [z1n hi] at hk'; cases hk'
  ·rw [z0z hik] at hk'; exact ⟨hk', rfl⟩) (fun k b' hkr hl => hw.other b' (by rintro rfl; have := h.inj i k _ hlive hl; subst this; rw [hi] at hkr; cases hkr))) (hw.keeps.B rfl) hw.keeps.K
 ·rintro b' off u ⟨h1, h2⟩
  have hb : b' ≠ b := by rintro rfl; exact hns off h1
  refine ⟨?_, by rw [z3q (hw.other b' hb)]; exact h2⟩
  rcases h1 with ⟨h1, h3⟩ | ⟨j, e, n, h1, h3, h4⟩
  ·exact .inl ⟨fun j hj => h1 j ((zg3 hi (e' := .box ty cs') (fun _ _ => Iff.rfl)).1 hj), h3⟩
  ·exact .inr ⟨j, e, n, by rw [z0z (hne j e n h1)]; exact h1, h3, h4⟩
 ·rintro j b' ⟨h1, h2⟩
  refine ⟨h1, fun e n he => ?_⟩
  by_cases hij : i = j
  ·subst hij; rw [z1n hi] at he; cases he
  ·rw [z0z hij] at he; exact h2 e n he
 ·rintro j n A k sz ⟨h1, h2⟩
  refine ⟨by simpa using h1, fun e m he => ?_⟩
  have hij : i ≠ j := by rintro rfl; rw [z1n hi] at he; cases he
  rw [z0z hij] at he
  obtain ⟨h3, h4⟩ := h2 e m he
  refine ⟨h3, fun hm => ?_⟩
  obtain ⟨h5, h6⟩ := h4 hm
  refine ⟨h5, ?_⟩
  rcases h6 with h6 | ⟨b', cells, h6, h7, h8, h9⟩
  ·exact .inl h6
  ·refine .inr ⟨b', cells, h6, h7, ?_, h9⟩
   rw [hw.other b']; exact h8
   rintro rfl
   exact hij (h.inj i j b' hlive ⟨_, h6, _, he, rfl⟩)
theorem zjp (h : RelH P F H g w) {i b : Nat} {ty : TypeId} {cs cs' : List PV} {c c' : Array Value} (hi : H[i]? = some (.box ty cs)) (hg : g[i]? = some (some b)) (hw : Wr b c c' ty w w')
 (hl : cs'.length ≤ c'.size) (hv : ∀ (j : Nat) (y : PV), cs'[j]? = some y → ∃ u, c'[j]? = some u ∧ VR (ctx P F H g w) y u) : RelH P F (H.set i (.box ty cs')) g w' := by
 have hle := zw0 (cs' := cs') h hi hg hw
 have hlive : live H g i b := ⟨_, hg, _, hi, rfl⟩
 have hls : ∀ {j b'}, live (H.set i (.box ty cs')) g j b' ↔ live H g j b' := zg3 hi (e' := .box ty cs') (fun _ _ => Iff.rfl)
 refine z2s (by simp [h.len]) (fun j k b' hj hk => h.inj j k b' (hls.1 hj) (hls.1 hk)) (fun j b' hj => by rw [hw.size]; exact h.fr j b' (hls.1 hj)) (fun b' k hb => by rw [hw.size]; exact h.fb b' k hb) ⟨by rw [hw.size]; exact h.bs.1, fun j b' hj => h.bs.2 j b' (hls.1 hj)⟩ ?_
 intro j e hj
 by_cases hij : i = j
 ·subst hij
  rw [z1n hi] at hj; injection hj with hj; subst hj
  exact ⟨some b, hg, b, c', rfl, hw.there, hl, fun j y hy => let ⟨u, a1, a2⟩ := hv j y hy; ⟨u, a1, a2.mono hle⟩⟩
 ·rw [z0z hij] at hj
  obtain ⟨n, h1, h2⟩ := z4t h hj
  refine ⟨n, h1, ?_⟩
  cases e with
  | dead => trivial
  | reg => trivial
  | _ =>
   refine h2.mono hle (fun b' hb => hw.other b' ?_)
   rintro rfl
   exact hij (h.inj i j b' hlive ⟨_, by rw [h1, hb], _, hj, rfl⟩)
theorem zk8 (h : RelH P F H g w) {i b : Nat} {ty : TypeId} {cs cs' : List PV} {c c' : Array Value} (hi : H[i]? = some (.box ty cs)) (hg : g[i]? = some (some b)) (hw : Wr b c c' ty w w') :
 Ext P F H g w (H.set i (.box ty cs')) g w' := by
 refine ⟨hw.os, hw.tape, hw.output, by rw [hw.size]; exact Nat.le_refl _, fun b' hb hl => ?_, zw0 h hi hg hw, by simp⟩
 have hne : b' ≠ b := by rintro rfl; exact hl i ⟨_, hg, _, hi, rfl⟩
 exact ⟨hw.other b' hne, fun j hj => hl j ((zg3 hi (e' := .box ty cs') (fun _ _ => Iff.rfl)).1 hj)⟩

theorem zrl (h : RelH P F H g w) {i : Nat} {e : TypeId} {n m : Nat} {nb : Nat} (hi : H[i]? = some (.arr e n)) (hm : 0 < m)
 (hs : w.heap.size ≤ w'.heap.size)
 (hk : ∀ b, b < w.heap.size → g[i]? ≠ some (some b) → w'.heap[b]? = w.heap[b]?)
 (hold : ∀ b, g[i]? = some (some b) → ∀ off, off < n * P.cellsOf e → w'.cell? ⟨b, off, none⟩ = w.cell? ⟨b, off, none⟩)
 (hnb : g[i]? = some (some nb) ∨ w.heap.size ≤ nb) (hkp : Keeps w w') :
 (ctx P F H g w).Le (ctx P F (H.set i (.arr e (n + m))) (g.set i (some nb)) w') := by
 have hgi : i < g.length := by rw [h.len]; exact z0a hi
 have hgs : (g.set i (some nb))[i]? = some (some nb) := by simp [hgi]
 have hgn : ∀ j, i ≠ j → (g.set i (some nb))[j]? = g[j]? := fun j hj => by simp [List.getElem?_set_ne hj]
 have hlive : ∀ j b', b' < w.heap.size → live (H.set i (.arr e (n + m))) (g.set i (some nb)) j b' → live H g j b' := by
  rintro j b' hb ⟨c, h1, e', h2, h3⟩
  by_cases hij : i = j
  ·subst hij
   rw [hgs] at h1; injection h1 with h1; injection h1 with h1; subst h1
   rw [z1n hi] at h2; injection h2 with h2; subst h2
   have h3 : nb = b' := h3
   subst h3
   rcases hnb with hnb | hnb
   ·exact ⟨_, hnb, _, hi, rfl⟩
   ·omega
  ·rw [hgn j hij] at h1; rw [z0z hij] at h2; exact ⟨c, h1, e', h2, h3⟩
 refine zbl rfl ?_ ?_ ?_ (zxy (fun k hk => by simpa using hk) (fun k hk' hk2 => by
  by_cases hik : i = k
  ·subst hik; rw [z1n hi] at hk2; cases hk2
  ·rw [z0z hik] at hk2; exact ⟨hk2, hgn k hik⟩) (fun k b' hkr hl => hk b' (h.fr k b' hl).2 (fun hg => by have := h.inj i k b' ⟨_, hg, _, hi, rfl⟩ hl; subst this; rw [hi] at hkr; cases hkr))) (hkp.B rfl) hkp.K
 ·rintro b' off u ⟨h1, h2⟩
  have hb := zau h2
  rcases h1 with ⟨h1, h3⟩ | ⟨j, e', k, h1, h3, h4⟩
  ·refine ⟨.inl ⟨fun j hj => h1 j (hlive j b' hb hj), h3⟩, ?_⟩
   rw [z3q (hk b' hb (fun hg => h1 i ⟨_, hg, _, hi, rfl⟩))]; exact h2
  ·by_cases hij : i = j
   ·subst hij
    rw [hi] at h1; injection h1 with h1; injection h1 with h1a h1b; subst h1a; subst h1b
    refine ⟨?_, by rw [hold b' h3 off h4]; exact h2⟩
    by_cases hbn : nb = b'
    ·subst hbn
     exact .inr ⟨i, e, n + m, z1n hi, hgs, Nat.lt_of_lt_of_le h4 (Nat.mul_le_mul_right _ (by omega))⟩
    ·refine .inl ⟨fun j hj => ?_, fun k hF => ?_⟩
     ·have hl := hlive j b' hb hj
      have := h.inj i j b' ⟨_, h3, _, hi, rfl⟩ hl
      subst this
      obtain ⟨c, h5, e5, h6, h7⟩ := hj
      rw [hgs] at h5; injection h5 with h5; injection h5 with h5
      rw [z1n hi] at h6; injection h6 with h6; subst h6
      have h7 : c = b' := h7
      exact hbn (by omega)
     ·have := (h.fr i b' ⟨_, h3, _, hi, rfl⟩).1; rw [this] at hF; cases hF
   ·have hne : g[i]? ≠ some (some b') := fun hg => hij (h.inj i j b' ⟨_, hg, _, hi, rfl⟩ ⟨_, h3, _, h1, rfl⟩)
    refine ⟨.inr ⟨j, e', k, by rw [z0z hij]; exact h1, by rw [hgn j hij]; exact h3, h4⟩, ?_⟩
    rw [z3q (hk b' hb hne)]; exact h2
 ·rintro j b' ⟨h1, h2⟩
  have hij : i ≠ j := by rintro rfl; exact h2 _ _ hi
  refine ⟨by rw [hgn j hij]; exact h1, fun e' k he => h2 e' k ?_⟩
  rwa [z0z hij] at he
 ·rintro j k A c sz ⟨h1, h2⟩
  refine ⟨by simpa using h1, fun e' k' he => ?_⟩
  by_cases hij : i = j
  ·subst hij
   rw [z1n hi] at he; injection he with he; injection he with he1 he2; subst he1; subst he2
   have := (h2 _ _ hi).1
   exact ⟨by omega, fun hc => by omega⟩
  ·rw [z0z hij] at he
   obtain ⟨h3, h4⟩ := h2 e' k' he
   refine ⟨h3, fun hc => ?_⟩
   obtain ⟨h5, h6⟩ := h4 hc
   refine ⟨h5, ?_⟩
   rw [hgn j hij]
   rcases h6 with h6 | ⟨b', cells, h6, h7, h8, h9⟩
   ·exact .inl h6
   ·refine .inr ⟨b', cells, h6, h7, ?_, h9⟩
    rw [hk b' (z1e h8) (fun hg => hij (h.inj i j b' ⟨_, hg, _, hi, rfl⟩ ⟨_, h6, _, he, rfl⟩))]; exact h8

theorem zxe (h : RelH P F H g w) {i : Nat} {e : TypeId} {n m : Nat} {nb : Nat} (hi : H[i]? = some (.arr e n)) (hm : 0 < m)
 (hs : w.heap.size ≤ w'.heap.size)
 (hk : ∀ b, b < w.heap.size → g[i]? ≠ some (some b) → w'.heap[b]? = w.heap[b]?)
 (hold : ∀ b, g[i]? = some (some b) → ∀ off, off < n * P.cellsOf e → w'.cell? ⟨b, off, none⟩ = w.cell? ⟨b, off, none⟩)
 (hnb : g[i]? = some (some nb) ∨ w.heap.size ≤ nb) (hkp : Keeps w w') {cells : Array Value}
 (hc : w'.heap[nb]? = some (.cells cells e (0, 0))) (hcs : (n + m) * P.cellsOf e ≤ cells.size) :
 RelH P F (H.set i (.arr e (n + m))) (g.set i (some nb)) w' := by
 have hle := zrl h hi hm hs hk hold hnb hkp
 have hgi : i < g.length := by rw [h.len]; exact z0a hi
 have hgs : (g.set i (some nb))[i]? = some (some nb) := by simp [hgi]
 have hgn : ∀ j, i ≠ j → (g.set i (some nb))[j]? = g[j]? := fun j hj => by simp [List.getElem?_set_ne hj]
 have hlv : ∀ j b', live (H.set i (.arr e (n + m))) (g.set i (some nb)) j b' → (j = i ∧ b' = nb) ∨ (j ≠ i ∧ live H g j b') := by
  rintro j b' ⟨c, h1, e', h2, h3⟩
  by_cases hij : i = j
  ·subst hij
   rw [hgs] at h1; injection h1 with h1; injection h1 with h1
   rw [z1n hi] at h2; injection h2 with h2; subst h2
   have h3 : c = b' := h3
   exact .inl ⟨rfl, by omega⟩
  ·rw [hgn j hij] at h1; rw [z0z hij] at h2; exact .inr ⟨fun e => hij e.symm, c, h1, e', h2, h3⟩
 refine z2s (by simp [h.len]) ?_ ?_ (fun b k hb => Nat.lt_of_lt_of_le (h.fb b k hb) hs) ⟨Nat.le_trans h.bs.1 hs, fun j b' hj => by
  rcases hlv j b' hj with ⟨rfl, rfl⟩ | ⟨_, hj2⟩
  ·rcases hnb with hnb | hnb
   ·exact h.bs.2 _ _ ⟨_, hnb, _, hi, rfl⟩
   ·have := h.bs.1; omega
  ·exact h.bs.2 j b' hj2⟩ ?_
 ·intro j k b' hj hk'
  have key : ∀ k, k ≠ i → live H g k nb → False := by
   intro k hki hk
   rcases hnb with hnb | hnb
   ·exact hki (h.inj i k nb ⟨_, hnb, _, hi, rfl⟩ hk).symm
   ·have := (h.fr k nb hk).2; omega
  rcases hlv j b' hj with ⟨rfl, rfl⟩ | ⟨hj1, hj2⟩ <;> rcases hlv k b' hk' with ⟨rfl, hb⟩ | ⟨hk1, hk2⟩
  ·rfl
  ·exact (key k hk1 hk2).elim
  ·subst hb; exact (key j hj1 hj2).elim
  ·exact h.inj j k b' hj2 hk2
 ·intro j b' hj
  rcases hlv j b' hj with ⟨rfl, rfl⟩ | ⟨_, hj2⟩
  ·refine ⟨?_, z1e hc⟩
   rcases hnb with hnb | hnb
   ·exact (h.fr j b' ⟨_, hnb, _, hi, rfl⟩).1
   ·cases hF : F b' with
    | none => rfl
    | some k => have := h.fb b' k hF; omega
  ·exact ⟨(h.fr j b' hj2).1, Nat.lt_of_lt_of_le (h.fr j b' hj2).2 hs⟩
 ·intro j e' hj
  by_cases hij : i = j
  ·subst hij
   rw [z1n hi] at hj; injection hj with hj; subst hj
   exact ⟨some nb, hgs, .inr ⟨nb, cells, rfl, hc, hcs⟩⟩
  ·rw [z0z hij] at hj
   obtain ⟨k, h1, h2⟩ := z4t h hj
   refine ⟨k, by rw [hgn j hij]; exact h1, ?_⟩
   cases e' with
   | dead => trivial
   | reg => trivial
   | _ =>
    refine h2.mono hle (fun b' hb => hk b' (z29 h2 (by simp) hb) (fun hg => ?_))
    exact hij (h.inj i j b' ⟨_, hg, _, hi, rfl⟩ ⟨_, by rw [h1, hb], _, hj, rfl⟩)
theorem zya (h : RelH P F H g w) {i : Nat} {e : TypeId} {n m : Nat} {nb : Nat} (hi : H[i]? = some (.arr e n)) (hm : 0 < m)
 (hs : w.heap.size ≤ w'.heap.size)
 (hk : ∀ b, b < w.heap.size → g[i]? ≠ some (some b) → w'.heap[b]? = w.heap[b]?)
 (hold : ∀ b, g[i]? = some (some b) → ∀ off, off < n * P.cellsOf e → w'.cell? ⟨b, off, none⟩ = w.cell? ⟨b, off, none⟩)
 (hnb : g[i]? = some (some nb) ∨ w.heap.size ≤ nb) (hkp : Keeps w w') (h1 : w'.os = w.os) (h2 : w'.tape = w.tape) (h3 : w'.output = w.output) :
 Ext P F H g w (H.set i (.arr e (n + m))) (g.set i (some nb)) w' := by
 refine ⟨h1, h2, h3, hs, fun b hb hl => ⟨hk b hb (fun hg => hl i ⟨_, hg, _, hi, rfl⟩), ?_⟩, zrl h hi hm hs hk hold hnb hkp, by simp⟩
 rintro j ⟨c, h4, e', h5, h6⟩
 by_cases hij : i = j
 ·subst hij
  have hgi : i < g.length := by rw [h.len]; exact z0a hi
  rw [z1n hi] at h5; injection h5 with h5; subst h5
  have h6 : c = b := h6
  subst h6
  simp [hgi] at h4; subst h4
  rcases hnb with hnb | hnb
  ·exact hl i ⟨_, hnb, _, hi, rfl⟩
  ·omega
 ·simp only [List.getElem?_set_ne hij] at h4 h5; exact hl j ⟨c, h4, e', h5, h6⟩

theorem z1h {i : Nat} {j b : Nat} : live (H.set i .dead) g j b → live H g j b ∧ j ≠ i := by
 rintro ⟨c, h1, e, h2, h3⟩
 by_cases hij : i = j
 ·subst hij
  by_cases hl : i < H.length
  ·simp [hl] at h2; subst h2; exact h3.elim
  ·simp [hl] at h2
 ·rw [z0z hij] at h2; exact ⟨⟨c, h1, e, h2, h3⟩, fun e => hij e.symm⟩
theorem z3z (h : RelH P F H g w) (i : Nat) : (ctx P F H g w).Le (ctx P F (H.set i .dead) g w) := by
 refine zbl rfl ?_ ?_ ?_ (zxy (fun k hk => by simpa using hk) (fun k hk hk2 => by
  by_cases hik : i = k
  ·subst hik; simp [hk] at hk2
  ·rw [z0z hik] at hk2; exact ⟨hk2, rfl⟩) (fun _ _ _ _ => rfl)) (fun _ _ _ _ h => h) (fun _ _ h => h)
 ·rintro b off u ⟨h1, h2⟩
  refine ⟨?_, h2⟩
  rcases h1 with ⟨h1, h3⟩ | ⟨j, e, n, h1, h3, h4⟩
  ·exact .inl ⟨fun j hj => h1 j (z1h hj).1, h3⟩
  ·by_cases hij : i = j
   ·subst hij
    refine .inl ⟨fun j hj => ?_, fun k hF => ?_⟩
    ·have := h.inj i j b ⟨_, h3, _, h1, rfl⟩ (z1h hj).1
     exact (z1h hj).2 this.symm
    ·have := (h.fr i b ⟨_, h3, _, h1, rfl⟩).1; rw [this] at hF; cases hF
   ·exact .inr ⟨j, e, n, by rw [z0z hij]; exact h1, h3, h4⟩
 ·rintro j b ⟨h1, h2⟩
  refine ⟨h1, fun e n he => ?_⟩
  by_cases hij : i = j
  ·subst hij
   by_cases hl : i < H.length
   ·simp [hl] at he
   ·simp [hl] at he
  ·rw [z0z hij] at he; exact h2 e n he
 ·rintro j n A c sz ⟨h1, h2⟩
  refine ⟨by simpa using h1, fun e k he => ?_⟩
  by_cases hij : i = j
  ·subst hij
   simp [h1] at he
  ·rw [z0z hij] at he; exact h2 e k he
theorem zfr (h : RelH P F H g w) (i : Nat) : RelH P F (H.set i .dead) g w := by
 have hle := z3z h i
 refine z2s (by simp [h.len]) (fun j k b hj hk => h.inj j k b (z1h hj).1 (z1h hk).1) (fun j b hj => h.fr j b (z1h hj).1) h.fb ⟨h.bs.1, fun j b hj => h.bs.2 j b (z1h hj).1⟩ ?_
 intro j e hj
 by_cases hij : i = j
 ·subst hij
  have hl : i < H.length := by have := z0a hj; simpa using this
  simp [hl] at hj; subst hj
  exact ⟨g[i]'(by rw [h.len]; exact hl), List.getElem?_eq_getElem _, trivial⟩
 ·rw [z0z hij] at hj
  obtain ⟨n, h1, h2⟩ := z4t h hj
  exact ⟨n, h1, h2.mono hle (fun _ _ => rfl)⟩
theorem z9r (h : RelH P F H g w) (i : Nat) : Ext P F H g w (H.set i .dead) g w :=
 ⟨rfl, rfl, rfl, Nat.le_refl _, fun _ _ hl => ⟨rfl, fun j hj => hl j (z1h hj).1⟩, z3z h i, by simp⟩

theorem zoh (h : RelH P F H g w) {i : Nat} {ty : TypeId} {cs : List PV} (hi : H[i]? = some (.box ty cs)) {off : Nat} {u : Value} (hu : VR (ctx P F H g w) (.rf i off) u) :
 VR (ctx P F (H.set i .dead) g w) (.pt ty (.agg cs) off) u := by
 obtain ⟨b, rfl, hg, _⟩ := vr_rf.1 hu
 obtain ⟨b', cells, h1, h2, h3, h4⟩ := h.box i ty cs hi
 rw [hg] at h1; injection h1 with h1; injection h1 with h1; subst h1
 refine vr_pt.2 ⟨b, 0, ⟨by simp, fun _ => .inr ⟨b, 0, cells, _, 0, rfl, h.bs.2 i b ⟨_, hg, _, hi, rfl⟩, h2, by simpa [PV.cells] using h3, .inl (Nat.le_refl _), by simp⟩⟩, ?_⟩
 intro j y hy
 obtain ⟨u', h5, h6⟩ := h4 j y hy
 refine ⟨u', ⟨⟨.inl ⟨fun k hk => ?_, fun k hF => ?_⟩, fun _ => h.bs.2 i b ⟨_, hg, _, hi, rfl⟩⟩, ?_⟩, h6.mono (z3z h i)⟩
 ·have := h.inj i k b ⟨_, hg, _, hi, rfl⟩ (z1h hk).1
  exact (z1h hk).2 this.symm
 ·have := (h.fr i b ⟨_, hg, _, hi, rfl⟩).1; rw [this] at hF; cases hF
 ·rw [z1p h2]; simpa using h5

end Go.Proofs.Ythidgpcbnieleaa.Aw
