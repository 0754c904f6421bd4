/- Aw: what a callee sees of its caller's variables, and what the caller sees z3v the call. -/
import Derived.Test.YthidgpcbnieleaaAw1
namespace Go.Proofs.Ythidgpcbnieleaa.Aw
open Go
set_option linter.unusedVariables false
set_option linter.unusedSimpArgs false
set_option linter.unusedSectionVars false
variable {P : Program} {F F' : Lo} {H H' Hc Hc' : List AEnt} {g g' gc gc' : List (Option Nat)} {w w' : World} {σ : List Nat}

def AEnt.ren (f : Nat → Nat) : AEnt → AEnt
 | .box ty cs => .box ty (PV.ren.renL f cs)
 | .arr e n => .arr e n
 | .reg => .reg
 | .dead => .dead
theorem hasB_ren {f : Nat → Nat} {e : AEnt} {c b : Nat} : zw7 (e.ren f) c b ↔ zw7 e c b := by cases e <;> rfl
def AEnt.ids : AEnt → List Nat
 | .box _ cs => PV.ids.idsL cs
 | _ => []
def z3f (H : List AEnt) (σ : List Nat) : List AEnt := σ.map fun i => (H.getD i .dead).ren (σ.idxOf ·)
def z4k (g : List (Option Nat)) (σ : List Nat) : List (Option Nat) := σ.map fun i => g.getD i none
def pfx (P : Program) : AEnt → Nat
 | .arr e n => n * P.cellsOf e
 | _ => 0

theorem z4n {i : Nat} (hi : i ∈ σ) : σ[σ.idxOf i]? = some i := by
 have h := List.idxOf_lt_length_of_mem hi
 rw [List.getElem?_eq_getElem h, List.getElem_idxOf]
theorem zra (hn : σ.Nodup) {k l : Nat} (hk : k < σ.length) (hl : l < σ.length) (h : σ[k] = σ[l]) : k = l := by
 rcases Nat.lt_trichotomy k l with h1 | h1 | h1
 ·exact absurd h (List.pairwise_iff_getElem.1 hn k l hk hl h1)
 ·exact h1
 ·exact absurd h.symm (List.pairwise_iff_getElem.1 hn l k hl hk h1)
theorem zw4 (hn : σ.Nodup) (k : Nat) (hk : k < σ.length) : σ.idxOf σ[k] = k := by
 have h := z4n (σ := σ) (List.getElem_mem hk)
 have h1 := z0a h
 rw [List.getElem?_eq_getElem h1] at h
 injection h with h
 exact zra hn h1 hk h
theorem z8n (hn : σ.Nodup) {k i : Nat} (h : σ[k]? = some i) : σ.idxOf i = k := by
 have hk := z0a h
 rw [List.getElem?_eq_getElem hk] at h
 injection h with h
 subst h
 exact zw4 hn k hk
theorem ren_arr {f : Nat → Nat} {e : AEnt} {t n : Nat} : e.ren f = .arr t n ↔ e = .arr t n := by cases e <;> simp [AEnt.ren]

theorem z77 {k : Nat} {e : AEnt} (h : (z3f H σ)[k]? = some e) : ∃ i, σ[k]? = some i ∧ e = (H.getD i .dead).ren (σ.idxOf ·) := by
 simp only [z3f, List.getElem?_map, Option.map_eq_some_iff] at h
 obtain ⟨i, h1, h2⟩ := h
 exact ⟨i, h1, h2.symm⟩
theorem ztk {k i : Nat} {e : AEnt} (h : σ[k]? = some i) (hi : H[i]? = some e) : (z3f H σ)[k]? = some (e.ren (σ.idxOf ·)) := by
 simp [z3f, List.getElem?_map, h, List.getD_eq_getElem?_getD, hi]
theorem z7o {k i : Nat} {n : Option Nat} (h : σ[k]? = some i) (hi : g[i]? = some n) : (z4k g σ)[k]? = some n := by
 simp [z4k, List.getElem?_map, h, List.getD_eq_getElem?_getD, hi]
theorem zq1 {k b : Nat} (h : (z4k g σ)[k]? = some (some b)) : ∃ i, σ[k]? = some i ∧ g[i]? = some (some b) := by
 simp only [z4k, List.getElem?_map, Option.map_eq_some_iff] at h
 obtain ⟨i, h1, h2⟩ := h
 refine ⟨i, h1, ?_⟩
 rw [List.getD_eq_getElem?_getD] at h2
 cases hg : g[i]? with
 | none => rw [hg] at h2; simp at h2
 | some n => rw [hg] at h2; simp at h2; rw [h2]
theorem getD_some {e : AEnt} {i : Nat} (h : H.getD i .dead = e) (hd : e ≠ .dead) : H[i]? = some e := by
 rw [List.getD_eq_getElem?_getD] at h
 cases hg : H[i]? with
 | none => rw [hg] at h; simp at h; exact absurd h.symm hd
 | some n => rw [hg] at h; simp at h; rw [h]
theorem z3h {k b : Nat} (h : live (z3f H σ) (z4k g σ) k b) : ∃ i, σ[k]? = some i ∧ live H g i b := by
 obtain ⟨c, h1, e, h2, h3⟩ := h
 obtain ⟨i, h4, h5⟩ := zq1 h1
 obtain ⟨i', h6, h7⟩ := z77 h2
 rw [h4] at h6; injection h6 with h6; subst h6
 rw [h7] at h3
 have h8 := hasB_ren.1 h3
 have hd : H.getD i .dead ≠ .dead := fun hd => by rw [hd] at h8; exact h8
 exact ⟨i, h4, c, h5, _, getD_some rfl hd, h8⟩
structure Fits (P : Program) (F F' : Lo) (H : List AEnt) (g : List (Option Nat)) (σ : List Nat) : Prop where
 base : F'.bf = F.bf
 none : ∀ b, (∀ i, live H g i b → i ∈ σ) → F' b = F b
 other : ∀ b i, live H g i b → i ∉ σ → F' b = Option.none ∨ F' b = some (pfx P (H.getD i .dead))

theorem zia (h : RelH P F H g w) (hn : σ.Nodup) (hf : Fits P F F' H g σ) {b off : Nat} (hs : zmu P F H g b off) : zmu P F' (z3f H σ) (z4k g σ) b off := by
 rcases hs with ⟨h1, h2⟩ | ⟨i, e, n, h1, h2, h3⟩
 ·refine .inl ⟨fun k hk => ?_, ?_⟩
  ·obtain ⟨i, _, hi⟩ := z3h hk; exact h1 i hi
  ·rw [hf.none b (fun i hi => absurd hi (h1 i))]; exact h2
 ·have hl : live H g i b := ⟨_, h2, _, h1, rfl⟩
  by_cases hi : i ∈ σ
  ·exact .inr ⟨σ.idxOf i, e, n, by rw [ztk (z4n hi) h1]; rfl, z7o (z4n hi) h2, h3⟩
  ·refine .inl ⟨fun k hk => ?_, fun k hF => ?_⟩
   ·obtain ⟨j, hj, hj2⟩ := z3h hk
    have := h.inj i j b hl hj2
    subst this
    exact hi (List.mem_of_getElem? hj)
   ·rcases hf.other b i hl hi with h4 | h4
    ·rw [h4] at hF; cases hF
    ·rw [h4] at hF; injection hF with hF
     rw [List.getD_eq_getElem?_getD, h1] at hF
     simp [pfx] at hF
     omega
theorem zpy {i b : Nat} (hi : i ∈ σ) (h : (ctx P F H g w).R i b) : (ctx P F' (z3f H σ) (z4k g σ) w).R (σ.idxOf i) b := by
 obtain ⟨h1, h2⟩ := h
 refine ⟨z7o (z4n hi) h1, fun e n he => ?_⟩
 obtain ⟨i', h3, h4⟩ := z77 he
 rw [z4n hi] at h3; injection h3 with h3; subst h3
 exact h2 e n (getD_some (ren_arr.1 h4.symm) (by simp))
theorem zpx {j n c sz : Nat} {A : Option Addr} (hj : j ∈ σ) (h : (ctx P F H g w).T j n A c sz) : (ctx P F' (z3f H σ) (z4k g σ) w).T (σ.idxOf j) n A c sz := by
 obtain ⟨h1, h2⟩ := h
 refine ⟨by simp [z3f, List.idxOf_lt_length_of_mem hj], fun e k he => ?_⟩
 obtain ⟨i', h3, h4⟩ := z77 he
 rw [z4n hj] at h3; injection h3 with h3; subst h3
 obtain ⟨h5, h6⟩ := h2 e k (getD_some (ren_arr.1 h4.symm) (by simp))
 refine ⟨h5, fun hk => ?_⟩
 obtain ⟨h7, h8⟩ := h6 hk
 refine ⟨h7, ?_⟩
 rcases h8 with ⟨h8, h9⟩ | ⟨b, cells, h8, h9⟩
 ·exact .inl ⟨z7o (z4n hj) h8, h9⟩
 ·exact .inr ⟨b, cells, z7o (z4n hj) h8, h9⟩
theorem ren_reg {f : Nat → Nat} {e : AEnt} : e.ren f = .reg ↔ e = .reg := by cases e <;> simp [AEnt.ren]
theorem zpz {k b : Nat} {ob : Obj} (hk : k ∈ σ) (h : (ctx P F H g w).G k b ob) : (ctx P F' (z3f H σ) (z4k g σ) w).G (σ.idxOf k) b ob := by
 obtain ⟨h1, h2⟩ := h
 refine ⟨by simp [z3f, List.idxOf_lt_length_of_mem hk], fun he => ?_⟩
 obtain ⟨i', h3, h4⟩ := z77 he
 rw [z4n hk] at h3; injection h3 with h3; subst h3
 obtain ⟨c, h5, h6⟩ := h2 (getD_some (ren_reg.1 h4.symm) (by simp))
 exact ⟨c, z7o (z4n hk) h5, h6⟩
theorem z76 (h : RelH P F H g w) (hn : σ.Nodup) (hf : Fits P F F' H g σ) {p : PV} {u : Value} (hp : ∀ i, i ∈ p.ids → i ∈ σ) (hv : VR (ctx P F H g w) p u) :
 VR (ctx P F' (z3f H σ) (z4k g σ) w) (p.ren (σ.idxOf ·)) u :=
 VR.turn (C := ctx P F H g w) (C' := ctx P F' (z3f H σ) (z4k g σ) w) (fun _ _ _ hm => ⟨⟨zia h hn hf hm.1.1, by rw [hf.base]; exact hm.1.2⟩, hm.2⟩) (fun _ _ _ hm => ⟨zia h hn hf hm.1, hm.2⟩) ((Keeps.refl w).B hf.base) p u (fun i hi => ⟨fun b hr => ⟨zpy (hp i hi) hr, fun m => (Keeps.refl w).K b m⟩, fun _ _ _ _ ht => zpx (hp i hi) ht, fun _ _ hg => zpz (hp i hi) hg⟩) hv
theorem z4u (h : RelH P F H g w) (hn : σ.Nodup) (hf : Fits P F F' H g σ) (hl : ∀ i, i ∈ σ → i < H.length)
 (hids : ∀ i e, i ∈ σ → H[i]? = some e → ∀ k, k ∈ e.ids → k ∈ σ) : RelH P F' (z3f H σ) (z4k g σ) w := by
 refine z2s (by simp [z3f, z4k]) ?_ ?_ ?_ ⟨by show F'.bf.1 ≤ _; rw [hf.base]; exact h.bs.1, fun k b hk => by
  obtain ⟨i, _, hi⟩ := z3h hk
  show F'.bf.1 ≤ _
  rw [hf.base]; exact h.bs.2 i b hi⟩ ?_
 ·intro k l b hk hl'
  obtain ⟨i, h1, h2⟩ := z3h hk
  obtain ⟨j, h3, h4⟩ := z3h hl'
  have := h.inj i j b h2 h4
  subst this
  rw [← z8n hn h1, ← z8n hn h3]
 ·intro k b hk
  obtain ⟨i, h1, h2⟩ := z3h hk
  refine ⟨?_, (h.fr i b h2).2⟩
  rw [hf.none b (fun j hj => by have := h.inj i j b h2 hj; subst this; exact List.mem_of_getElem? h1)]
  exact (h.fr i b h2).1
 ·intro b k hb
  by_cases hx : ∃ i, live H g i b
  ·obtain ⟨i, hi⟩ := hx; exact (h.fr i b hi).2
  ·rw [hf.none b (fun i hi => absurd ⟨i, hi⟩ hx)] at hb; exact h.fb b k hb
 ·intro k e hk
  obtain ⟨i, h1, h2⟩ := z77 hk
  have hi := List.mem_of_getElem? h1
  have hlt := hl i hi
  have hget := List.getElem?_eq_getElem hlt
  obtain ⟨n, h3, h4⟩ := z4t h hget
  refine ⟨n, z7o h1 h3, ?_⟩
  rw [List.getD_eq_getElem?_getD, hget] at h2
  simp at h2
  subst h2
  cases he : H[i] with
  | dead => trivial
  | reg => trivial
  | arr t n' => rw [he] at h4; exact h4
  | box ty cs =>
   rw [he] at h4
   obtain ⟨b, cells, h5, h6, h7, h8⟩ := h4
   refine ⟨b, cells, h5, h6, by simpa [z25] using h7, ?_⟩
   intro j y hy
   rw [z25, List.getElem?_map, Option.map_eq_some_iff] at hy
   obtain ⟨x, hx, rfl⟩ := hy
   obtain ⟨u, h9, h10⟩ := h8 j x hx
   exact ⟨u, h9, z76 h hn hf (fun m hm => hids i _ hi hget m (by rw [he]; exact mem_idsL.2 ⟨x, List.mem_of_getElem? hx, hm⟩)) h10⟩

open Classical in
noncomputable def zdf (P : Program) (F : Lo) (H : List AEnt) (g : List (Option Nat)) (σ : List Nat) : Nat → Option Nat := fun b =>
 if h : ∃ i, live H g i b ∧ i ∉ σ then some (pfx P (H.getD h.choose .dead)) else F b
noncomputable def z3i (P : Program) (F : Lo) (H : List AEnt) (g : List (Option Nat)) (σ : List Nat) : Lo := ⟨zdf P F H g σ, F.bf⟩
theorem z9q {b : Nat} : z3i P F H g σ b = zdf P F H g σ b := rfl
theorem z2i (h : RelH P F H g w) (σ : List Nat) : Fits P F (z3i P F H g σ) H g σ := by
 refine ⟨rfl, fun b hb => ?_, fun b i hi hs => .inr ?_⟩
 ·rw [z9q]; unfold zdf; rw [dif_neg]; rintro ⟨i, h1, h2⟩; exact h2 (hb i h1)
 ·have hx : ∃ i, live H g i b ∧ i ∉ σ := ⟨i, hi, hs⟩
  rw [z9q]; unfold zdf; rw [dif_pos hx, h.inj i hx.choose b hi hx.choose_spec.1]
theorem z7u {b : Nat} (hb : z3i P F H g σ b = none) : (∀ i, live H g i b → i ∈ σ) ∧ F b = none := by
 rw [z9q] at hb; unfold zdf at hb
 split at hb
 ·cases hb
 ·rename_i hx
  refine ⟨fun i hi => ?_, hb⟩
  by_cases hs : i ∈ σ
  ·exact hs
  ·exact absurd ⟨i, hi, hs⟩ hx
theorem zj5 (h : RelH P F H g w) (σ : List Nat) : Fits P F F H g σ := ⟨rfl, fun _ _ => rfl, fun b i hi _ => .inl (h.fr i b hi).1⟩

def backσ (H : List AEnt) (σ : List Nat) (k : Nat) : Nat := if h : k < σ.length then σ[k] else H.length + (k - σ.length)
def z2c (H : List AEnt) (σ : List Nat) (Hc' : List AEnt) : List AEnt :=
 (H.mapIdx fun i e => if i ∈ σ then (Hc'.getD (σ.idxOf i) .dead).ren (backσ H σ) else e) ++ (Hc'.drop σ.length).map (AEnt.ren (backσ H σ))
def z3g (g : List (Option Nat)) (σ : List Nat) (gc' : List (Option Nat)) : List (Option Nat) :=
 (g.mapIdx fun i n => if i ∈ σ then gc'.getD (σ.idxOf i) none else n) ++ gc'.drop σ.length

theorem z5u (hl : σ.length ≤ Hc'.length) : (z2c H σ Hc').length = H.length + (Hc'.length - σ.length) := by simp [z2c]
theorem z3y {i : Nat} (hi : i < H.length) (hs : i ∉ σ) : (z2c H σ Hc')[i]? = H[i]? := by
 unfold z2c
 rw [List.getElem?_append_left (by simpa using hi), List.getElem?_mapIdx, List.getElem?_eq_getElem hi]
 simp [hs]
theorem zit {i : Nat} (hi : i < H.length) (hs : i ∈ σ) : (z2c H σ Hc')[i]? = some ((Hc'.getD (σ.idxOf i) .dead).ren (backσ H σ)) := by
 unfold z2c
 rw [List.getElem?_append_left (by simpa using hi), List.getElem?_mapIdx, List.getElem?_eq_getElem hi]
 simp [hs]
theorem zns {k : Nat} (hk : σ.length ≤ k) : (z2c H σ Hc')[H.length + (k - σ.length)]? = (Hc'[k]?).map (AEnt.ren (backσ H σ)) := by
 unfold z2c
 rw [List.getElem?_append_right (by simp), List.getElem?_map, List.getElem?_drop]
 simp [hk]
theorem z4e {i : Nat} (hi : i < g.length) (hs : i ∉ σ) : (z3g g σ gc')[i]? = g[i]? := by
 unfold z3g
 rw [List.getElem?_append_left (by simpa using hi), List.getElem?_mapIdx, List.getElem?_eq_getElem hi]
 simp [hs]
theorem zrg {i : Nat} (hi : i < g.length) (hs : i ∈ σ) : (z3g g σ gc')[i]? = some (gc'.getD (σ.idxOf i) none) := by
 unfold z3g
 rw [List.getElem?_append_left (by simpa using hi), List.getElem?_mapIdx, List.getElem?_eq_getElem hi]
 simp [hs]
theorem znt {k : Nat} (hg : g.length = H.length) (hk : σ.length ≤ k) : (z3g g σ gc')[H.length + (k - σ.length)]? = gc'[k]? := by
 unfold z3g
 rw [List.getElem?_append_right (by simp [hg]), List.getElem?_drop]
 simp [hg, hk]

section merge
variable (h : RelH P F H g w) (hn : σ.Nodup) (hl : ∀ i, i ∈ σ → i < H.length)
variable (h' : RelH P (z3i P F H g σ) Hc' gc' w') (hx : Ext P (z3i P F H g σ) (z3f H σ) (z4k g σ) w Hc' gc' w')
include h hn hl h' hx

omit h h' hn hl in
theorem z9l : σ.length ≤ Hc'.length := by have := hx.len; simpa [z3f] using this

theorem z5s (k : Nat) (hk : k < Hc'.length) : (z2c H σ Hc')[backσ H σ k]? = (Hc'[k]?).map (AEnt.ren (backσ H σ)) ∧ (z3g g σ gc')[backσ H σ k]? = gc'[k]? := by
 by_cases hs : k < σ.length
 ·have hb : backσ H σ k = σ[k] := by simp [backσ, hs]
  have hm : σ[k] ∈ σ := List.getElem_mem hs
  have hlt := hl _ hm
  have hi : σ.idxOf σ[k] = k := zw4 hn k hs
  rw [hb, zit hlt hm, zrg (by rw [h.len]; exact hlt) hm, hi]
  have hkg : k < gc'.length := by rw [h'.len]; exact hk
  simp [List.getD_eq_getElem?_getD, List.getElem?_eq_getElem hk, List.getElem?_eq_getElem hkg]
 ·have hb : backσ H σ k = H.length + (k - σ.length) := by simp [backσ, hs]
  rw [hb]
  exact ⟨zns (by omega), znt h.len (by omega)⟩

theorem zlm {i : Nat} (hi : i < (z2c H σ Hc').length) : (i < H.length ∧ i ∉ σ) ∨ ∃ k, k < Hc'.length ∧ i = backσ H σ k := by
 have hle := z9l hx
 rw [z5u hle] at hi
 by_cases h1 : i < H.length
 ·by_cases hs : i ∈ σ
  ·have hk := List.idxOf_lt_length_of_mem hs
   exact .inr ⟨σ.idxOf i, by omega, by simp [backσ, hk]⟩
  ·exact .inl ⟨h1, hs⟩
 ·refine .inr ⟨σ.length + (i - H.length), by omega, ?_⟩
  simp only [backσ]
  rw [dif_neg (by omega)]; omega

theorem z4d {i b : Nat} (hi : live (z2c H σ Hc') (z3g g σ gc') i b) : (i < H.length ∧ i ∉ σ ∧ live H g i b) ∨ ∃ k, i = backσ H σ k ∧ live Hc' gc' k b := by
 obtain ⟨c, h1, e, h2, h3⟩ := hi
 rcases zlm h hn hl h' hx (z0a h2) with ⟨h4, h5⟩ | ⟨k, h4, rfl⟩
 ·rw [z3y h4 h5] at h2
  rw [z4e (by rw [h.len]; exact h4) h5] at h1
  exact .inl ⟨h4, h5, c, h1, e, h2, h3⟩
 ·obtain ⟨h5, h6⟩ := z5s h hn hl h' hx k h4
  rw [h5, Option.map_eq_some_iff] at h2
  obtain ⟨e', h7, h8⟩ := h2
  rw [h6] at h1
  exact .inr ⟨k, rfl, c, h1, e', h7, hasB_ren.1 (by rw [h8]; exact h3)⟩
theorem zk2 {b off : Nat} (hs : zmu P (z3i P F H g σ) Hc' gc' b off) : zmu P F (z2c H σ Hc') (z3g g σ gc') b off := by
 rcases hs with ⟨h1, h2⟩ | ⟨k, e, n, h1, h2, h3⟩
 ·by_cases hx' : ∃ i, live H g i b ∧ i ∉ σ
  ·obtain ⟨i, hi, his⟩ := hx'
   have hF : z3i P F H g σ b = some (pfx P (H.getD i .dead)) := by
    rcases (z2i h σ).other b i hi his with hF | hF
    ·exact absurd (z7u hF).1 (fun hc => his (hc i hi))
    ·exact hF
   have h4 := h2 _ hF
   obtain ⟨c, h5, e, h6, h7⟩ := hi
   rw [List.getD_eq_getElem?_getD, h6] at h4
   cases e with
   | reg => simp [pfx] at h4
   | arr t n =>
    have h7 : c = b := h7
    subst h7
    exact .inr ⟨i, t, n, by rw [z3y (z0a h6) his]; exact h6, by rw [z4e (z0a h5) his]; exact h5, by simpa [pfx] using h4⟩
   | box ty cs => simp [pfx] at h4
   | dead => simp [pfx] at h4
  ·refine .inl ⟨fun i hi => ?_, fun k hk => h2 k ?_⟩
   ·rcases z4d h hn hl h' hx hi with ⟨_, h4, h5⟩ | ⟨k, _, h4⟩
    ·exact hx' ⟨i, h5, h4⟩
    ·exact h1 k h4
   ·rw [z9q]; unfold zdf; rw [dif_neg hx']; exact hk
 ·obtain ⟨h4, h5⟩ := z5s h hn hl h' hx k (z0a h1)
  exact .inr ⟨backσ H σ k, e, n, by rw [h4, h1]; rfl, by rw [h5]; exact h2, h3⟩
theorem zre {k b : Nat} (hr : (ctx P (z3i P F H g σ) Hc' gc' w').R k b) : (ctx P F (z2c H σ Hc') (z3g g σ gc') w').R (backσ H σ k) b := by
 obtain ⟨h1, h2⟩ := hr
 have hk : k < Hc'.length := by rw [← h'.len]; exact z0a h1
 obtain ⟨h4, h5⟩ := z5s h hn hl h' hx k hk
 refine ⟨by rw [h5]; exact h1, fun e n he => ?_⟩
 rw [h4, Option.map_eq_some_iff] at he
 obtain ⟨e', h6, h7⟩ := he
 exact h2 e n (by rw [h6, ren_arr.1 h7])
theorem zrd {k n c sz : Nat} {A : Option Addr} (ht : (ctx P (z3i P F H g σ) Hc' gc' w').T k n A c sz) : (ctx P F (z2c H σ Hc') (z3g g σ gc') w').T (backσ H σ k) n A c sz := by
 obtain ⟨h1, h2⟩ := ht
 obtain ⟨h4, h5⟩ := z5s h hn hl h' hx k h1
 refine ⟨?_, fun e m he => ?_⟩
 ·have : (z2c H σ Hc')[backσ H σ k]? = some ((Hc'[k]).ren (backσ H σ)) := by rw [h4, List.getElem?_eq_getElem h1]; rfl
  exact z0a this
 ·rw [h4, Option.map_eq_some_iff] at he
  obtain ⟨e', h6, h7⟩ := he
  obtain ⟨h8, h9⟩ := h2 e m (by rw [h6, ren_arr.1 h7])
  refine ⟨h8, fun hm => ?_⟩
  obtain ⟨h10, h11⟩ := h9 hm
  refine ⟨h10, ?_⟩
  rw [h5]; exact h11
theorem zrf {k b : Nat} {ob : Obj} (hg : (ctx P (z3i P F H g σ) Hc' gc' w').G k b ob) : (ctx P F (z2c H σ Hc') (z3g g σ gc') w').G (backσ H σ k) b ob := by
 obtain ⟨h1, h2⟩ := hg
 obtain ⟨h4, h5⟩ := z5s h hn hl h' hx k h1
 refine ⟨?_, fun he => ?_⟩
 ·have : (z2c H σ Hc')[backσ H σ k]? = some ((Hc'[k]).ren (backσ H σ)) := by rw [h4, List.getElem?_eq_getElem h1]; rfl
  exact z0a this
 ·rw [h4, Option.map_eq_some_iff] at he
  obtain ⟨e', h6, h7⟩ := he
  obtain ⟨c, h8, h9⟩ := h2 (by rw [h6, ren_reg.1 h7])
  exact ⟨c, by rw [h5]; exact h8, h9⟩
theorem z6n {p : PV} {u : Value} (hv : VR (ctx P (z3i P F H g σ) Hc' gc' w') p u) : VR (ctx P F (z2c H σ Hc') (z3g g σ gc') w') (p.ren (backσ H σ)) u :=
 VR.turn (C := ctx P (z3i P F H g σ) Hc' gc' w') (C' := ctx P F (z2c H σ Hc') (z3g g σ gc') w') (fun _ _ _ hm => ⟨⟨zk2 h hn hl h' hx hm.1.1, hm.1.2⟩, hm.2⟩) (fun _ _ _ hm => ⟨zk2 h hn hl h' hx hm.1, hm.2⟩) ((Keeps.refl w').B rfl) p u (fun i _ => ⟨fun b hr => ⟨zre h hn hl h' hx hr, fun m => (Keeps.refl w').K b m⟩, fun _ _ _ _ ht => zrd h hn hl h' hx ht, fun _ _ hg => zrf h hn hl h' hx hg⟩) hv
theorem zis : (ctx P F H g w).Le (ctx P F (z2c H σ Hc') (z3g g σ gc') w') := by
 have hf := z2i h σ
 have hkeep : ∀ i b, live H g i b → i ∉ σ → w'.heap[b]? = w.heap[b]? := by
  intro i b hi hs
  refine (hx.keep b (h.fr i b hi).2 (fun k hk => ?_)).1
  obtain ⟨j, h1, h2⟩ := z3h hk
  have := h.inj i j b hi h2
  subst this
  exact hs (List.mem_of_getElem? h1)
 have hG : ∀ k b o, (ctx P F H g w).G k b o → (ctx P F (z2c H σ Hc') (z3g g σ gc') w').G k b o := by
  intro k b o hg
  by_cases hs : k ∈ σ
  ·have h1 := zrf h hn hl h' hx (hx.le.G _ _ _ (zpz (F' := z3i P F H g σ) hs hg))
   have hk := List.idxOf_lt_length_of_mem hs
   have hb : backσ H σ (σ.idxOf k) = k := by simp [backσ, hk]
   rwa [hb] at h1
  ·obtain ⟨h1, h2⟩ := hg
   have hle := z9l hx
   refine ⟨by rw [z5u hle]; omega, fun he => ?_⟩
   rw [z3y h1 hs] at he
   obtain ⟨c, h3, h4, h5⟩ := h2 he
   exact ⟨c, by rw [z4e (by rw [h.len]; exact h1) hs]; exact h3, h4, by rw [hkeep k b ⟨c, h3, _, he, h4⟩ hs]; exact h5⟩
 refine zbl rfl ?_ ?_ ?_ hG (fun A e s n hB => hx.le.B A e s n hB) hx.le.K
 ·rintro b off u ⟨h1, h2⟩
  have h3 := hx.le.N b off u ⟨zia h hn hf h1, h2⟩
  exact ⟨zk2 h hn hl h' hx h3.1, h3.2⟩
 ·intro i b hr
  by_cases hs : i ∈ σ
  ·have h1 := zre h hn hl h' hx (hx.le.R _ _ (zpy (F' := z3i P F H g σ) hs hr))
   have hk := List.idxOf_lt_length_of_mem hs
   have hb : backσ H σ (σ.idxOf i) = i := by simp [backσ, hk]
   rwa [hb] at h1
  ·obtain ⟨h1, h2⟩ := hr
   have hlt := z0a h1
   refine ⟨by rw [z4e hlt hs]; exact h1, fun e n he => h2 e n ?_⟩
   rwa [z3y (by rw [← h.len]; exact hlt) hs] at he
 ·intro j n A c sz ht
  by_cases hs : j ∈ σ
  ·have h1 := zrd h hn hl h' hx (hx.le.T _ _ _ _ _ (zpx (F' := z3i P F H g σ) hs ht))
   have hk := List.idxOf_lt_length_of_mem hs
   have hb : backσ H σ (σ.idxOf j) = j := by simp [backσ, hk]
   rwa [hb] at h1
  ·obtain ⟨h1, h2⟩ := ht
   have hle := z9l hx
   refine ⟨by rw [z5u hle]; omega, fun e k he => ?_⟩
   rw [z3y h1 hs] at he
   obtain ⟨h3, h4⟩ := h2 e k he
   refine ⟨h3, fun hk => ?_⟩
   obtain ⟨h5, h6⟩ := h4 hk
   refine ⟨h5, ?_⟩
   rw [z4e (by rw [h.len]; exact h1) hs]
   rcases h6 with h6 | ⟨b, cells, h6, h7, h8, h9⟩
   ·exact .inl h6
   ·exact .inr ⟨b, cells, h6, h7, by rw [hkeep j b ⟨_, h6, _, he, rfl⟩ hs]; exact h8, h9⟩
theorem z7c : RelH P F (z2c H σ Hc') (z3g g σ gc') w' := by
 have hle := z9l hx
 have hc := zis h hn hl h' hx
 have hgl : gc'.length = Hc'.length := h'.len
 have cross : ∀ i k b, i ∉ σ → live H g i b → live Hc' gc' k b → False := by
  intro i k b hs hi hk
  exact hs ((z7u (h'.fr k b hk).1).1 i hi)
 refine z2s ?_ ?_ ?_ ?_ ⟨Nat.le_trans h.bs.1 hx.size, fun i b hi => by
  rcases z4d h hn hl h' hx hi with ⟨_, _, h3⟩ | ⟨k, _, h3⟩
  ·exact h.bs.2 i b h3
  ·exact h'.bs.2 k b h3⟩ ?_
 ·simp [z3g, z2c, h.len, hgl]
 ·intro i j b hi hj
  rcases z4d h hn hl h' hx hi with ⟨h1, h2, h3⟩ | ⟨k, rfl, h3⟩ <;> rcases z4d h hn hl h' hx hj with ⟨h4, h5, h6⟩ | ⟨l, rfl, h6⟩
  ·exact h.inj i j b h3 h6
  ·exact (cross i l b h2 h3 h6).elim
  ·exact (cross j k b h5 h6 h3).elim
  ·rw [h'.inj k l b h3 h6]
 ·intro i b hi
  rcases z4d h hn hl h' hx hi with ⟨_, _, h3⟩ | ⟨k, _, h3⟩
  ·exact ⟨(h.fr i b h3).1, Nat.lt_of_lt_of_le (h.fr i b h3).2 hx.size⟩
  ·exact ⟨(z7u (h'.fr k b h3).1).2, (h'.fr k b h3).2⟩
 ·intro b k hb
  exact Nat.lt_of_lt_of_le (h.fb b k hb) hx.size
 ·intro i e hi
  rcases zlm h hn hl h' hx (z0a hi) with ⟨h1, h2⟩ | ⟨k, h1, rfl⟩
  ·rw [z3y h1 h2] at hi
   obtain ⟨n, h3, h4⟩ := z4t h hi
   refine ⟨n, by rw [z4e (by rw [h.len]; exact h1) h2]; exact h3, ?_⟩
   cases e with
   | dead => trivial
   | reg => trivial
   | _ =>
    refine h4.mono hc (fun b hb => ?_)
    subst hb
    refine (hx.keep b (z29 h4 (by simp) rfl) (fun m hm => ?_)).1
    obtain ⟨j, h5, h6⟩ := z3h hm
    have := h.inj i j b ⟨_, h3, _, hi, rfl⟩ h6
    subst this
    exact h2 (List.mem_of_getElem? h5)
  ·obtain ⟨h4, h5⟩ := z5s h hn hl h' hx k h1
   rw [h4, Option.map_eq_some_iff] at hi
   obtain ⟨e', h6, rfl⟩ := hi
   obtain ⟨n, h7, h8⟩ := z4t h' h6
   refine ⟨n, by rw [h5]; exact h7, ?_⟩
   cases e' with
   | dead => trivial
   | reg => trivial
   | arr t m => exact h8
   | box ty cs =>
    obtain ⟨b, cells, h9, h10, h11, h12⟩ := h8
    refine ⟨b, cells, h9, h10, by simpa [z25] using h11, ?_⟩
    intro j y hy
    rw [z25, List.getElem?_map, Option.map_eq_some_iff] at hy
    obtain ⟨x, hx', rfl⟩ := hy
    obtain ⟨u, h13, h14⟩ := h12 j x hx'
    exact ⟨u, h13, z6n h hn hl h' hx h14⟩
theorem z7d : Ext P F H g w (z2c H σ Hc') (z3g g σ gc') w' := by
 have hle := z9l hx
 refine ⟨hx.os, hx.tape, hx.output, hx.size, fun b hb hlv => ?_, zis h hn hl h' hx, by rw [z5u hle]; omega⟩
 have h1 := hx.keep b hb (fun k hk => by obtain ⟨i, _, hi⟩ := z3h hk; exact hlv i hi)
 refine ⟨h1.1, fun i hi => ?_⟩
 rcases z4d h hn hl h' hx hi with ⟨_, _, h3⟩ | ⟨k, _, h3⟩
 ·exact hlv i h3
 ·exact h1.2 k h3
end merge

theorem zun {m : Nat} {H0 : List AEnt} {g0 : List (Option Nat)} {w0 : World} (hx : Ext P F H0 g0 w0 H g w) (h0 : RelH P F H0 g0 w0) (h : RelH P F H g w) (hm : H0.length = m) (hn : σ.Nodup) (hl : ∀ i, i ∈ σ → i < H.length)
 (hσ : ∀ k, k < m → σ[k]? = some k) : Ext P F H0 g0 w0 (z3f H σ) (z4k g σ) w := by
 have hf := zj5 h σ
 have hlen : m ≤ σ.length := by
  cases m with
  | zero => omega
  | succ m => have := z0a (hσ m (by omega)); omega
 have hid : ∀ i, i < m → i ∈ σ ∧ σ.idxOf i = i := fun i hi => ⟨List.mem_of_getElem? (hσ i hi), z8n hn (hσ i hi)⟩
 refine ⟨hx.os, hx.tape, hx.output, hx.size, fun b hb hlv => ?_, ?_, by simpa [z3f, hm] using hlen⟩
 ·have h1 := hx.keep b hb hlv
  exact ⟨h1.1, fun k hk => by obtain ⟨i, _, hi⟩ := z3h hk; exact h1.2 i hi⟩
 ·refine zbl rfl ?_ ?_ ?_ (fun k b o hg => by
   have hk : k < m := by rw [← hm]; exact hg.1
   obtain ⟨h1, h2⟩ := hid k hk
   have := zpz (F' := F) h1 (hx.le.G k b o hg)
   rwa [h2] at this) (fun A e s n hB => hx.le.B A e s n hB) hx.le.K
  ·intro b off u hM
   have h1 := hx.le.N b off u hM
   exact ⟨zia h hn hf h1.1, h1.2⟩
  ·intro i b hr
   have hi : i < m := by rw [← hm, ← h0.len]; exact z0a hr.1
   obtain ⟨h1, h2⟩ := hid i hi
   have := zpy (F' := F) h1 (hx.le.R i b hr)
   rwa [h2] at this
  ·intro j n A c sz ht
   have hj : j < m := by rw [← hm]; exact ht.1
   obtain ⟨h1, h2⟩ := hid j hj
   have := zpx (F' := F) h1 (hx.le.T j n A c sz ht)
   rwa [h2] at this

end Go.Proofs.Ythidgpcbnieleaa.Aw
