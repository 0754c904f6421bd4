/- Aw: values without addresses, what they say of a world, and how a world may go on. A library of this claim: no statement of the program stands here. -/
import GoSem.Step
import Derived.Calls
import Derived.Orders
import Derived.Below
import Derived.Laws.Sem
import Derived.Laws.World
import Derived.Laws.Rows
import Derived.Laws.Cells
namespace Go.Proofs.Ythidgpcbnieleaa.Aw
inductive PV where
 | v (x : Value)
 | sl (o : Option Nat) (e : TypeId) (sz : Nat) (xs : List PV)
 | pt (e : TypeId) (x : PV) (off : Nat)
 | rf (i off : Nat)
 | rs (i o n : Nat) (e : TypeId) (sz : Nat)
 | iface (t : TypeId) (x : PV)
 | agg (cs : List PV)
 | tup (vs : List PV)
 | fn (f : Fn) (first cap : List PV)
 | old (x : PV)
 | hid (k : Nat) (x : PV)
 | junk
 deriving Inhabited

inductive AEnt where
 | box (ty : TypeId) (cells : List PV)
 | arr (e : TypeId) (n : Nat)
 | reg
 | dead
 deriving Inhabited

def PV.cells : PV → List PV
 | .agg cs => cs
 | x => [x]

structure Ctx where
 M : Nat → Nat → Value → Prop
 R : Nat → Nat → Prop
 T : Nat → Nat → Option Addr → Nat → Nat → Prop
 N : Nat → Nat → Value → Prop
 nm : ∀ b o u, M b o u → N b o u
 G : Nat → Nat → Obj → Prop
 B : Option Addr → TypeId → Nat → Nat → Prop
 b0 : ∀ e s, B none e s 0
 K : Nat → Nat → Prop
def Obj.at (ob : Obj) (o : Nat) : Option Value :=
 match ob with
 | .cells c _ _ => c[o]?
 | _ => none
def Ctx.all (C : Ctx) : Ctx := ⟨C.N, fun _ _ => False, fun _ _ _ _ _ => False, C.N, fun _ _ _ h => h, fun _ _ _ => False, fun _ _ _ _ => True, fun _ _ => trivial, fun _ _ => False⟩
def Ctx.inn (C : Ctx) (k : Nat) : Ctx :=
  ⟨fun b o u => ∃ ob, C.G k b ob ∧ Obj.at ob o = some u, fun _ _ => False, fun _ _ _ _ _ => False, fun b o u => ∃ ob, C.G k b ob ∧ Obj.at ob o = some u, fun _ _ _ h => h, fun _ _ _ => False,
   fun A e s n => (A = none ∧ n = 0) ∨ ∃ (b o : Nat) (cells : Array Value) (z : Nat × Nat) (q : Nat), A = some ⟨b, o, none⟩ ∧ C.G k b (.cells cells e z) ∧ o + n ≤ cells.size ∧ (z.2 ≤ z.1 ∨ cells.size ≤ z.1) ∧ o = q * s, fun _ _ => .inl ⟨rfl, rfl⟩, fun _ _ => False⟩

theorem z5i {xs : List PV} {i : Nat} {x : PV} (h : xs[i]? = some x) : SizeOf.sizeOf x < SizeOf.sizeOf xs := List.sizeOf_lt_of_mem (List.mem_of_getElem? h)
theorem z7m {x y : PV} {j : Nat} (h : x.cells[j]? = some y) : SizeOf.sizeOf y ≤ SizeOf.sizeOf x := by
 cases x with
 | agg cs => have := z5i (xs := cs) h; simp only [PV.agg.sizeOf_spec]; omega
 | _ =>
  simp only [PV.cells] at h
  cases j with
  | zero => simp at h; subst h; exact Nat.le_refl _
  | succ j => simp at h

def VR (C : Ctx) (p : PV) (u : Value) : Prop :=
 match p with
 | .v x => u = x
 | .sl o e sz xs => ∃ A c, u = .slice A xs.length c ∧ ((xs.length ≤ c ∧ xs.length ≤ 9223372036854775807) ∧ C.B A e sz (c * sz)) ∧ (∀ j, o = some j → C.T j xs.length A c sz) ∧
  ∀ (i : Nat) (x : PV), (h : xs[i]? = some x) → x.cells.length = sz ∧ ∃ b off, A = some ⟨b, off, none⟩ ∧
   ∀ (j : Nat) (y : PV), (h' : x.cells[j]? = some y) → ∃ u', C.M b (off + (i * sz + j)) u' ∧ VR C y u'
 | .pt e x off => ∃ b o0, (u = .pointer (some ⟨b, o0 + off, none⟩) ∧ C.B (some ⟨b, o0, none⟩) e x.cells.length x.cells.length) ∧ ∀ (j : Nat) (y : PV), (h' : x.cells[j]? = some y) → ∃ u', C.M b (o0 + j) u' ∧ VR C y u'
 | .rf i off => ∃ b, u = .pointer (some ⟨b, off, none⟩) ∧ C.R i b
 | .rs i o n e sz => ∃ A c, u = .slice A n c ∧ (n ≤ c ∧ n ≤ 9223372036854775807) ∧ (n = 0 → c = 0 ∧ C.B A e sz 0) ∧ (n ≠ 0 → ∃ b m, A = some ⟨b, o, none⟩ ∧ C.R i b ∧ C.K b m ∧ o + c * sz ≤ m)
 | .iface t x => ∃ u', u = .iface t u' ∧ VR C x u'
 | .agg cs => ∃ us : List Value, u = .agg us.toArray ∧ us.length = cs.length ∧ ∀ (i : Nat) (y : PV), (h : cs[i]? = some y) → ∃ u', us[i]? = some u' ∧ VR C y u'
 | .tup cs => ∃ us : List Value, u = .tuple us.toArray ∧ us.length = cs.length ∧ ∀ (i : Nat) (y : PV), (h : cs[i]? = some y) → ∃ u', us[i]? = some u' ∧ VR C y u'
 | .fn f first cap => ∃ us vs : List Value, u = .func f us.toArray vs.toArray ∧ us.length = first.length ∧ vs.length = cap.length ∧
  (∀ (i : Nat) (y : PV), (h : first[i]? = some y) → ∃ u', us[i]? = some u' ∧ VR C y u') ∧ (∀ (i : Nat) (y : PV), (h : cap[i]? = some y) → ∃ u', vs[i]? = some u' ∧ VR C y u')
 | .old x => VR C.all x u
 | .hid k x => VR (C.inn k) x u
 | .junk => True
termination_by SizeOf.sizeOf p
decreasing_by
 all_goals simp_wf
 all_goals first
  | (have := z7m h'; have := z5i h; omega)
  | (have := z7m h'; omega)
  | (have := z5i h; omega)
  | omega

theorem vr_old {C : Ctx} {x : PV} {u : Value} : VR C (.old x) u ↔ VR C.all x u := by rw [VR]
theorem vr_hid {C : Ctx} {k : Nat} {x : PV} {u : Value} : VR C (.hid k x) u ↔ VR (C.inn k) x u := by rw [VR]
theorem z70 {C : Ctx} {u : Value} : VR C .junk u := by rw [VR]; trivial
theorem vr_v {C : Ctx} {x u : Value} : VR C (.v x) u ↔ u = x := by rw [VR]
theorem vr_sl {C : Ctx} {o : Option Nat} {e : TypeId} {sz : Nat} {xs : List PV} {u : Value} : VR C (.sl o e sz xs) u ↔ ∃ A c, u = .slice A xs.length c ∧ ((xs.length ≤ c ∧ xs.length ≤ 9223372036854775807) ∧ C.B A e sz (c * sz)) ∧ (∀ j, o = some j → C.T j xs.length A c sz) ∧
      ∀ (i : Nat) (x : PV), xs[i]? = some x → x.cells.length = sz ∧ ∃ b off, A = some ⟨b, off, none⟩ ∧
        ∀ (j : Nat) (y : PV), x.cells[j]? = some y → ∃ u', C.M b (off + (i * sz + j)) u' ∧ VR C y u' := by rw [VR]
theorem vr_pt {C : Ctx} {e : TypeId} {x : PV} {off : Nat} {u : Value} : VR C (.pt e x off) u ↔ ∃ b o0, (u = .pointer (some ⟨b, o0 + off, none⟩) ∧ C.B (some ⟨b, o0, none⟩) e x.cells.length x.cells.length) ∧ ∀ (j : Nat) (y : PV), x.cells[j]? = some y → ∃ u', C.M b (o0 + j) u' ∧ VR C y u' := by rw [VR]
theorem vr_rf {C : Ctx} {i off : Nat} {u : Value} : VR C (.rf i off) u ↔ ∃ b, u = .pointer (some ⟨b, off, none⟩) ∧ C.R i b := by rw [VR]
theorem vr_rs {C : Ctx} {i o n sz : Nat} {e : TypeId} {u : Value} : VR C (.rs i o n e sz) u ↔ ∃ A c, u = .slice A n c ∧ (n ≤ c ∧ n ≤ 9223372036854775807) ∧ (n = 0 → c = 0 ∧ C.B A e sz 0) ∧ (n ≠ 0 → ∃ b m, A = some ⟨b, o, none⟩ ∧ C.R i b ∧ C.K b m ∧ o + c * sz ≤ m) := by rw [VR]
theorem vr_iface {C : Ctx} {t : TypeId} {x : PV} {u : Value} : VR C (.iface t x) u ↔ ∃ u', u = .iface t u' ∧ VR C x u' := by rw [VR]
theorem vr_agg {C : Ctx} {cs : List PV} {u : Value} : VR C (.agg cs) u ↔ ∃ us : List Value, u = .agg us.toArray ∧ us.length = cs.length ∧ ∀ (i : Nat) (y : PV), cs[i]? = some y → ∃ u', us[i]? = some u' ∧ VR C y u' := by rw [VR]
theorem vr_tup {C : Ctx} {cs : List PV} {u : Value} : VR C (.tup cs) u ↔ ∃ us : List Value, u = .tuple us.toArray ∧ us.length = cs.length ∧ ∀ (i : Nat) (y : PV), cs[i]? = some y → ∃ u', us[i]? = some u' ∧ VR C y u' := by rw [VR]
theorem vr_fn {C : Ctx} {f : Fn} {first cap : List PV} {u : Value} : VR C (.fn f first cap) u ↔ ∃ us vs : List Value, u = .func f us.toArray vs.toArray ∧ us.length = first.length ∧ vs.length = cap.length ∧
      (∀ (i : Nat) (y : PV), first[i]? = some y → ∃ u', us[i]? = some u' ∧ VR C y u') ∧ (∀ (i : Nat) (y : PV), cap[i]? = some y → ∃ u', vs[i]? = some u' ∧ VR C y u') := by rw [VR]

def PV.ids : PV → List Nat
 | .v _ => []
 | .sl o _ _ xs => o.toList ++ idsL xs
 | .pt _ x _ => x.ids
 | .rf i _ => [i]
 | .rs i _ _ _ _ => [i]
 | .iface _ x => x.ids
 | .agg cs => idsL cs
 | .tup cs => idsL cs
 | .fn _ a b => idsL a ++ idsL b
 | .old x => x.ids
 | .hid k x => k :: x.ids
 | .junk => []
where idsL : List PV → List Nat
 | [] => []
 | x :: r => x.ids ++ idsL r
def PV.ren (f : Nat → Nat) : PV → PV
 | .v x => .v x
 | .sl o e sz xs => .sl (o.map f) e sz (renL f xs)
 | .pt e x k => .pt e (x.ren f) k
 | .rf i k => .rf (f i) k
 | .rs i o n e sz => .rs (f i) o n e sz
 | .iface t x => .iface t (x.ren f)
 | .agg cs => .agg (renL f cs)
 | .tup cs => .tup (renL f cs)
 | .fn g a b => .fn g (renL f a) (renL f b)
 | .old x => .old (x.ren f)
 | .hid k x => .hid (f k) (x.ren f)
 | .junk => .junk
where renL (f : Nat → Nat) : List PV → List PV
 | [] => []
 | x :: r => x.ren f :: renL f r

theorem z25 (f : Nat → Nat) : ∀ xs, PV.ren.renL f xs = xs.map (PV.ren f)
 | [] => rfl
 | x :: r => by simp [PV.ren.renL, z25 f r]
theorem mem_idsL {k : Nat} : ∀ {xs : List PV}, k ∈ PV.ids.idsL xs ↔ ∃ x ∈ xs, k ∈ x.ids
 | [] => by simp [PV.ids.idsL]
 | x :: r => by simp [PV.ids.idsL, mem_idsL (xs := r)]
theorem z9v (f : Nat → Nat) (x : PV) : (x.ren f).cells = x.cells.map (PV.ren f) := by
 cases x <;> simp [PV.ren, PV.cells, z25]
theorem z4c {k : Nat} {x y : PV} {j : Nat} (h : x.cells[j]? = some y) (hk : k ∈ y.ids) : k ∈ x.ids := by
 cases x with
 | agg cs => simp only [PV.ids]; exact mem_idsL.2 ⟨y, List.mem_of_getElem? h, hk⟩
 | _ =>
  simp only [PV.cells] at h
  cases j with
  | zero => simp at h; subst h; exact hk
  | succ j => simp at h

theorem VR.turn {C C' : Ctx} {f : Nat → Nat} (hM : ∀ b o u, C.M b o u → C'.M b o u) (hN : ∀ b o u, C.N b o u → C'.N b o u) (hB : ∀ A e s n, C.B A e s n → C'.B A e s n) :
 ∀ (p : PV) (u : Value), (∀ i, i ∈ p.ids → (∀ b, C.R i b → C'.R (f i) b ∧ ∀ m, C.K b m → C'.K b m) ∧ (∀ n A c z, C.T i n A c z → C'.T (f i) n A c z) ∧ ∀ b o, C.G i b o → C'.G (f i) b o) → VR C p u → VR C' (p.ren f) u
 | .v x, u, _, h => by rw [PV.ren]; exact vr_v.2 (vr_v.1 h)
 | .junk, u, _, _ => by rw [PV.ren]; exact z70
 | .old x, u, hi, h => by
  rw [PV.ren]
  exact vr_old.2 (VR.turn (C := C.all) (C' := C'.all) hN hN (fun _ _ _ _ h => h) x u (fun _ _ => ⟨fun _ h => h.elim, fun _ _ _ _ h => h, fun _ _ h => h⟩) (vr_old.1 h))
 | .hid k x, u, hi, h => by
  rw [PV.ren]
  have hg := (hi k (by simp [PV.ids])).2.2
  have hc : ∀ b o u, (C.inn k).M b o u → (C'.inn (f k)).M b o u := fun b o u ⟨ob, h1, h2⟩ => ⟨ob, hg _ _ h1, h2⟩
  exact vr_hid.2 (VR.turn (C := C.inn k) (C' := C'.inn (f k)) hc hc (fun A e s n h => h.imp (fun h => h) (fun ⟨b, o, cs, z, q, h1, h2, h3⟩ => ⟨b, o, cs, z, q, h1, hg _ _ h2, h3⟩)) x u (fun _ _ => ⟨fun _ h => h.elim, fun _ _ _ _ h => h.elim, fun _ _ h => h.elim⟩) (vr_hid.1 h))
 | .sl o e sz xs, u, hi, h => by
  obtain ⟨A, c, hu, hc, ht, hx⟩ := vr_sl.1 h
  rw [PV.ren, z25]
  refine vr_sl.2 ⟨A, c, by simpa using hu, ⟨by simpa using hc.1, hB _ _ _ _ hc.2⟩, ?_, ?_⟩
  ·intro j hj
   cases o with
   | none => simp at hj
   | some k =>
    simp at hj; subst hj
    simpa using (hi k (by simp [PV.ids])).2.1 _ _ _ _ (ht k rfl)
  ·intro i y hy
   rw [List.getElem?_map, Option.map_eq_some_iff] at hy
   obtain ⟨x, hxi, rfl⟩ := hy
   obtain ⟨h1, b, off, h2, h3⟩ := hx i x hxi
   refine ⟨by rw [z9v]; simpa using h1, b, off, h2, ?_⟩
   intro j y hy
   rw [z9v, List.getElem?_map, Option.map_eq_some_iff] at hy
   obtain ⟨z, hz, rfl⟩ := hy
   obtain ⟨u', hm, hv⟩ := h3 j z hz
   have := z5i hxi
   have := z7m hz
   exact ⟨u', hM _ _ _ hm, VR.turn hM hN hB z u' (fun k hk => hi k (by simp only [PV.ids]; exact List.mem_append_right _ (mem_idsL.2 ⟨x, List.mem_of_getElem? hxi, z4c hz hk⟩))) hv⟩
 | .pt e x off, u, hi, h => by
  obtain ⟨b, o0, hu, hx⟩ := vr_pt.1 h
  rw [PV.ren]
  refine vr_pt.2 ⟨b, o0, ⟨hu.1, by rw [z9v, List.length_map]; exact hB _ _ _ _ hu.2⟩, ?_⟩
  intro j y hy
  rw [z9v, List.getElem?_map, Option.map_eq_some_iff] at hy
  obtain ⟨z, hz, rfl⟩ := hy
  obtain ⟨u', hm, hv⟩ := hx j z hz
  have := z7m hz
  exact ⟨u', hM _ _ _ hm, VR.turn hM hN hB z u' (fun k hk => hi k (by simp only [PV.ids]; exact z4c hz hk)) hv⟩
 | .rf i off, u, hi, h => by
  obtain ⟨b, hu, hr⟩ := vr_rf.1 h
  rw [PV.ren]
  exact vr_rf.2 ⟨b, hu, ((hi i (by simp [PV.ids])).1 b hr).1⟩
 | .rs i o n e sz, u, hi, h => by
  obtain ⟨A, c, hu, hc, h0, h1⟩ := vr_rs.1 h
  rw [PV.ren]
  exact vr_rs.2 ⟨A, c, hu, hc, fun hn => ⟨(h0 hn).1, hB _ _ _ _ (h0 hn).2⟩, fun hn => let ⟨b, m, a1, a2, a3, a4⟩ := h1 hn; ⟨b, m, a1, ((hi i (by simp [PV.ids])).1 b a2).1, ((hi i (by simp [PV.ids])).1 b a2).2 _ a3, a4⟩⟩
 | .iface t x, u, hi, h => by
  obtain ⟨u', hu, hv⟩ := vr_iface.1 h
  rw [PV.ren]
  exact vr_iface.2 ⟨u', hu, VR.turn hM hN hB x u' (fun k hk => hi k (by simpa only [PV.ids] using hk)) hv⟩
 | .agg cs, u, hi, h => by
  obtain ⟨us, hu, hl, hx⟩ := vr_agg.1 h
  rw [PV.ren, z25]
  refine vr_agg.2 ⟨us, hu, by simpa using hl, ?_⟩
  intro i y hy
  rw [List.getElem?_map, Option.map_eq_some_iff] at hy
  obtain ⟨x, hxi, rfl⟩ := hy
  obtain ⟨u', h1, h2⟩ := hx i x hxi
  have := z5i hxi
  exact ⟨u', h1, VR.turn hM hN hB x u' (fun k hk => hi k (by simp only [PV.ids]; exact mem_idsL.2 ⟨x, List.mem_of_getElem? hxi, hk⟩)) h2⟩
 | .tup cs, u, hi, h => by
  obtain ⟨us, hu, hl, hx⟩ := vr_tup.1 h
  rw [PV.ren, z25]
  refine vr_tup.2 ⟨us, hu, by simpa using hl, ?_⟩
  intro i y hy
  rw [List.getElem?_map, Option.map_eq_some_iff] at hy
  obtain ⟨x, hxi, rfl⟩ := hy
  obtain ⟨u', h1, h2⟩ := hx i x hxi
  have := z5i hxi
  exact ⟨u', h1, VR.turn hM hN hB x u' (fun k hk => hi k (by simp only [PV.ids]; exact mem_idsL.2 ⟨x, List.mem_of_getElem? hxi, hk⟩)) h2⟩
 | .fn g a b, u, hi, h => by
  obtain ⟨us, vs, hu, hl, hl2, hx, hy⟩ := vr_fn.1 h
  rw [PV.ren, z25, z25]
  refine vr_fn.2 ⟨us, vs, hu, by simpa using hl, by simpa using hl2, ?_, ?_⟩
  ·intro i y hy
   rw [List.getElem?_map, Option.map_eq_some_iff] at hy
   obtain ⟨x, hxi, rfl⟩ := hy
   obtain ⟨u', h1, h2⟩ := hx i x hxi
   have := z5i hxi
   exact ⟨u', h1, VR.turn hM hN hB x u' (fun k hk => hi k (by simp only [PV.ids]; exact List.mem_append_left _ (mem_idsL.2 ⟨x, List.mem_of_getElem? hxi, hk⟩))) h2⟩
  ·intro i z hz
   rw [List.getElem?_map, Option.map_eq_some_iff] at hz
   obtain ⟨x, hxi, rfl⟩ := hz
   obtain ⟨u', h1, h2⟩ := hy i x hxi
   have := z5i hxi
   exact ⟨u', h1, VR.turn hM hN hB x u' (fun k hk => hi k (by simp only [PV.ids]; exact List.mem_append_right _ (mem_idsL.2 ⟨x, List.mem_of_getElem? hxi, hk⟩))) h2⟩
termination_by p => SizeOf.sizeOf p
decreasing_by all_goals (simp_wf; try omega)

theorem z18 {f : Nat → Nat} : ∀ (p : PV), (∀ i, i ∈ p.ids → f i = i) → p.ren f = p
 | .v x, _ => by rw [PV.ren]
 | .old x, h => by rw [PV.ren, z18 x (fun i hi => h i (by simpa only [PV.ids] using hi))]
 | .hid k x, h => by rw [PV.ren, h k (by simp [PV.ids]), z18 x (fun i hi => h i (by simp only [PV.ids]; exact List.mem_cons_of_mem _ hi))]
 | .junk, _ => by rw [PV.ren]
 | .sl o e sz xs, h => by
  rw [PV.ren, z25]
  have h1 : o.map f = o := by
   cases o with
   | none => rfl
   | some k => simp [h k (by simp [PV.ids])]
  have h2 : xs.map (PV.ren f) = xs := by
   conv => rhs; rw [← List.map_id xs]
   refine List.map_congr_left fun x hx => ?_
   have := List.sizeOf_lt_of_mem hx
   exact z18 x (fun i hi => h i (by simp only [PV.ids]; exact List.mem_append_right _ (mem_idsL.2 ⟨x, hx, hi⟩)))
  rw [h1, h2]
 | .pt e x k, h => by rw [PV.ren, z18 x (fun i hi => h i (by simpa only [PV.ids] using hi))]
 | .rf i k, h => by rw [PV.ren, h i (by simp [PV.ids])]
 | .rs i o n e sz, h => by rw [PV.ren, h i (by simp [PV.ids])]
 | .iface t x, h => by rw [PV.ren, z18 x (fun i hi => h i (by simpa only [PV.ids] using hi))]
 | .agg xs, h => by
  rw [PV.ren, z25]
  have h2 : xs.map (PV.ren f) = xs := by
   conv => rhs; rw [← List.map_id xs]
   refine List.map_congr_left fun x hx => ?_
   have := List.sizeOf_lt_of_mem hx
   exact z18 x (fun i hi => h i (by simp only [PV.ids]; exact mem_idsL.2 ⟨x, hx, hi⟩))
  rw [h2]
 | .tup xs, h => by
  rw [PV.ren, z25]
  have h2 : xs.map (PV.ren f) = xs := by
   conv => rhs; rw [← List.map_id xs]
   refine List.map_congr_left fun x hx => ?_
   have := List.sizeOf_lt_of_mem hx
   exact z18 x (fun i hi => h i (by simp only [PV.ids]; exact mem_idsL.2 ⟨x, hx, hi⟩))
  rw [h2]
 | .fn g a b, h => by
  rw [PV.ren, z25, z25]
  have h1 : a.map (PV.ren f) = a := by
   conv => rhs; rw [← List.map_id a]
   refine List.map_congr_left fun x hx => ?_
   have := List.sizeOf_lt_of_mem hx
   exact z18 x (fun i hi => h i (by simp only [PV.ids]; exact List.mem_append_left _ (mem_idsL.2 ⟨x, hx, hi⟩)))
  have h2 : b.map (PV.ren f) = b := by
   conv => rhs; rw [← List.map_id b]
   refine List.map_congr_left fun x hx => ?_
   have := List.sizeOf_lt_of_mem hx
   exact z18 x (fun i hi => h i (by simp only [PV.ids]; exact List.mem_append_right _ (mem_idsL.2 ⟨x, hx, hi⟩)))
  rw [h1, h2]
termination_by p => SizeOf.sizeOf p
decreasing_by all_goals (simp_wf; try omega)

structure Ctx.Le (C C' : Ctx) : Prop where
 M : ∀ b o u, C.M b o u → C'.M b o u
 R : ∀ i b, C.R i b → C'.R i b
 T : ∀ i n A c z, C.T i n A c z → C'.T i n A c z
 N : ∀ b o u, C.N b o u → C'.N b o u
 G : ∀ k b o, C.G k b o → C'.G k b o
 B : ∀ A e s n, C.B A e s n → C'.B A e s n
 K : ∀ b m, C.K b m → C'.K b m
theorem Ctx.Le.refl (C : Ctx) : C.Le C := ⟨fun _ _ _ h => h, fun _ _ h => h, fun _ _ _ _ _ h => h, fun _ _ _ h => h, fun _ _ _ h => h, fun _ _ _ _ h => h, fun _ _ h => h⟩
theorem Ctx.Le.trans {A B C : Ctx} (h : A.Le B) (k : B.Le C) : A.Le C := ⟨fun _ _ _ x => k.M _ _ _ (h.M _ _ _ x), fun _ _ x => k.R _ _ (h.R _ _ x), fun _ _ _ _ _ x => k.T _ _ _ _ _ (h.T _ _ _ _ _ x), fun _ _ _ x => k.N _ _ _ (h.N _ _ _ x), fun _ _ _ x => k.G _ _ _ (h.G _ _ _ x), fun _ _ _ _ x => k.B _ _ _ _ (h.B _ _ _ _ x), fun _ _ x => k.K _ _ (h.K _ _ x)⟩
theorem VR.mono {C C' : Ctx} (h : C.Le C') {p : PV} {u : Value} (hv : VR C p u) : VR C' p u := by
 have := VR.turn (f := fun i => i) h.M h.N h.B p u (fun i _ => ⟨fun b hr => ⟨h.R i b hr, fun m => h.K b m⟩, h.T i, h.G i⟩) hv
 rwa [z18 p (fun _ _ => rfl)] at this
theorem VR.leans {C C' : Ctx} (hM : ∀ b o u, C.M b o u → C'.M b o u) (hN : ∀ b o u, C.N b o u → C'.N b o u) (hB : ∀ A e s n, C.B A e s n → C'.B A e s n) (hR : ∀ i b, ¬ C.R i b) (hT : ∀ i n A c z, ¬ C.T i n A c z) (hG : ∀ i b o, ¬ C.G i b o) {p : PV} {u : Value} (hv : VR C p u) : VR C' p u := by
 have := VR.turn (f := fun i => i) hM hN hB p u (fun i _ => ⟨fun b h => (hR i b h).elim, fun n A c z h => (hT i n A c z h).elim, fun b o h => (hG i b o h).elim⟩) hv
 rwa [z18 p (fun _ _ => rfl)] at this
structure Lo where
 fr : Nat → Option Nat
 bf : Nat × Bool
abbrev Lo.base (F : Lo) : Nat := F.bf.1
instance : CoeFun Lo (fun _ => Nat → Option Nat) := ⟨Lo.fr⟩
def inReg (c b : Nat) : Prop := ∃ m k, c = 2 ^ m * (2 * k + 1) ∧ m ≤ b ∧ b < k
def zw7 : AEnt → Nat → Nat → Prop
 | .dead, _, _ => False
 | .reg, c, b => inReg c b
 | .box _ _, c, b => c = b
 | .arr _ _, c, b => c = b
def live (H : List AEnt) (g : List (Option Nat)) (i b : Nat) : Prop := ∃ c, g[i]? = some (some c) ∧ ∃ e, H[i]? = some e ∧ zw7 e c b
def zmu (P : Program) (F : Lo) (H : List AEnt) (g : List (Option Nat)) (b off : Nat) : Prop :=
 ((∀ i, ¬ live H g i b) ∧ ∀ k, F b = some k → off < k) ∨ ∃ (i : Nat) (e n : Nat), H[i]? = some (AEnt.arr e n) ∧ g[i]? = some (some b) ∧ off < n * P.cellsOf e
def ctx (P : Program) (F : Lo) (H : List AEnt) (g : List (Option Nat)) (w : World) : Ctx where
 M := fun b off u => (zmu P F H g b off ∧ (F.bf.2 = true → F.bf.1 ≤ b)) ∧ w.cell? ⟨b, off, none⟩ = some u
 R := fun i b => g[i]? = some (some b) ∧ ∀ e n : Nat, H[i]? ≠ some (AEnt.arr e n)
 T := fun j n A c sz => j < H.length ∧ ∀ e k : Nat, H[j]? = some (AEnt.arr e k) → n ≤ k ∧ (n = k → sz = P.cellsOf e ∧
  ((g[j]? = some none ∧ True ∧ c = n) ∨ ∃ (b : Nat) (cells : Array Value), g[j]? = some (some b) ∧ A = some ⟨b, 0, none⟩ ∧ w.heap[b]? = some (.cells cells e (0, 0)) ∧ cells.size = c * P.cellsOf e))
 N := fun b off u => zmu P F H g b off ∧ w.cell? ⟨b, off, none⟩ = some u
 nm := fun _ _ _ h => ⟨h.1.1, h.2⟩
 G := fun k b ob => k < H.length ∧ (H[k]? = some .reg → ∃ c, g[k]? = some (some c) ∧ inReg c b ∧ w.heap[b]? = some ob)
 B := fun A e s n => F.bf.2 = true → (A = none ∧ n = 0) ∨ ∃ (b o : Nat) (cells : Array Value) (z : Nat × Nat) (q : Nat), A = some ⟨b, o, none⟩ ∧ F.bf.1 ≤ b ∧ w.heap[b]? = some (.cells cells e z) ∧ o + n ≤ cells.size ∧ (z.2 ≤ z.1 ∨ cells.size ≤ z.1) ∧ o = q * s
 b0 := fun _ _ _ => .inl ⟨rfl, rfl⟩
 K := fun b m => ∃ (c : Array Value) (t : TypeId) (z : Nat × Nat), w.heap[b]? = some (.cells c t z) ∧ c.size = m
def Keeps (w w' : World) : Prop := ∀ (b : Nat) (c : Array Value) (t : TypeId) (z : Nat × Nat), w.heap[b]? = some (.cells c t z) → ∃ c', w'.heap[b]? = some (.cells c' t z) ∧ c'.size = c.size
theorem Keeps.refl (w : World) : Keeps w w := fun _ c _ _ h => ⟨c, h, rfl⟩
theorem Keeps.of {w w' : World} (h : ∀ k, k < w.heap.size → w'.heap[k]? = w.heap[k]?) : Keeps w w' := by
 intro b c t z hb
 refine ⟨c, ?_, rfl⟩
 rw [h b]; exact hb
 rcases Nat.lt_or_ge b w.heap.size with h1 | h1
 ·exact h1
 ·rw [Array.getElem?_eq_none h1] at hb; cases hb
theorem Keeps.B {P : Program} {F F' : Lo} {H H' : List AEnt} {g g' : List (Option Nat)} {w w' : World} (h : Keeps w w') (hb : F'.bf = F.bf) : ∀ A e s n, (ctx P F H g w).B A e s n → (ctx P F' H' g' w').B A e s n := by
 intro A e s n hB hf
 rw [hb] at hf ⊢
 rcases hB hf with h1 | ⟨b, o, c, z, q, h1, h2, h3, h4, h7, h8⟩
 ·exact .inl h1
 ·obtain ⟨c', h5, h6⟩ := h b c e z h3
  exact .inr ⟨b, o, c', z, q, h1, h2, h5, by rw [h6]; exact h4, by rw [h6]; exact h7, h8⟩
theorem Keeps.K {P : Program} {F F' : Lo} {H H' : List AEnt} {g g' : List (Option Nat)} {w w' : World} (h : Keeps w w') : ∀ b m, (ctx P F H g w).K b m → (ctx P F' H' g' w').K b m := by
 rintro b m ⟨c, t, z, h1, h2⟩
 obtain ⟨c', h3, h4⟩ := h b c t z h1
 exact ⟨c', t, z, h3, by omega⟩
theorem Z5b {P : Program} {F : Lo} {H : List AEnt} {g : List (Option Nat)} {w : World} {b o n o' n' e s s' : Nat} (h : (ctx P F H g w).B (some ⟨b, o, none⟩) e s n) (h1 : ∀ q, o = q * s → ∃ q', o' = q' * s') (h2 : o' + n' ≤ o + n) : (ctx P F H g w).B (some ⟨b, o', none⟩) e s' n' := by
 intro hf
 rcases h hf with ⟨h3, _⟩ | ⟨b', o2, c, z, q, h3, h4, h5, h6, h8, h9⟩
 ·cases h3
 ·injection h3 with h3; injection h3 with h3 h7; subst h3; subst h7
  obtain ⟨q', hq⟩ := h1 q h9
  exact .inr ⟨b, o', c, z, q', rfl, h4, h5, by omega, h8, hq⟩
theorem zbl {P : Program} {F F' : Lo} {H H' : List AEnt} {g g' : List (Option Nat)} {w w' : World} (hb : F'.bf = F.bf) (hN : ∀ b o u, (ctx P F H g w).N b o u → (ctx P F' H' g' w').N b o u) (hR : ∀ i b, (ctx P F H g w).R i b → (ctx P F' H' g' w').R i b)
 (hT : ∀ i n A c z, (ctx P F H g w).T i n A c z → (ctx P F' H' g' w').T i n A c z) (hG : ∀ k b o, (ctx P F H g w).G k b o → (ctx P F' H' g' w').G k b o) (hB : ∀ A e s n, (ctx P F H g w).B A e s n → (ctx P F' H' g' w').B A e s n) (hK : ∀ b m, (ctx P F H g w).K b m → (ctx P F' H' g' w').K b m) : (ctx P F H g w).Le (ctx P F' H' g' w') :=
 ⟨fun b o u h => have h1 := hN b o u ⟨h.1.1, h.2⟩; ⟨⟨h1.1, by rw [hb]; exact h.1.2⟩, h1.2⟩, hR, hT, hN, hG, hB, hK⟩
structure RelH (P : Program) (F : Lo) (H : List AEnt) (g : List (Option Nat)) (w : World) : Prop where
 len : g.length = H.length
 inj : ∀ i j b, live H g i b → live H g j b → i = j
 fr : ∀ i b, live H g i b → F b = none ∧ b < w.heap.size
 fb : ∀ b k, F b = some k → b < w.heap.size
 bs : F.base ≤ w.heap.size ∧ ∀ i b, live H g i b → F.base ≤ b
 box : ∀ (i : Nat) (ty : TypeId) (cs : List PV), H[i]? = some (AEnt.box ty cs) → ∃ (b : Nat) (cells : Array Value), g[i]? = some (some b) ∧ w.heap[b]? = some (.cells cells ty (0, 0)) ∧ cs.length ≤ cells.size ∧
  ∀ (j : Nat) (y : PV), cs[j]? = some y → ∃ u, cells[j]? = some u ∧ VR (ctx P F H g w) y u
 arr : ∀ (i : Nat) (e n : Nat), H[i]? = some (AEnt.arr e n) → (g[i]? = some none ∧ True) ∨ ∃ (b : Nat) (cells : Array Value), g[i]? = some (some b) ∧ w.heap[b]? = some (.cells cells e (0, 0)) ∧ n * P.cellsOf e ≤ cells.size
structure Ext (P : Program) (F : Lo) (H : List AEnt) (g : List (Option Nat)) (w : World) (H' : List AEnt) (g' : List (Option Nat)) (w' : World) : Prop where
 os : w'.os = w.os
 tape : w'.tape = w.tape
 output : w'.output = w.output
 size : w.heap.size ≤ w'.heap.size
 keep : ∀ b, b < w.heap.size → (∀ i, ¬ live H g i b) → w'.heap[b]? = w.heap[b]? ∧ ∀ i, ¬ live H' g' i b
 le : (ctx P F H g w).Le (ctx P F H' g' w')
 len : H.length ≤ H'.length
variable {P : Program} {F : Lo} {H H' H'' : List AEnt} {g g' g'' : List (Option Nat)} {w w' w'' : World}
theorem Ext.refl : Ext P F H g w H g w := ⟨rfl, rfl, rfl, Nat.le_refl _, fun _ _ h => ⟨rfl, h⟩, .refl _, Nat.le_refl _⟩
theorem Ext.trans (h : Ext P F H g w H' g' w') (k : Ext P F H' g' w' H'' g'' w'') : Ext P F H g w H'' g'' w'' :=
 ⟨k.os.trans h.os, k.tape.trans h.tape, k.output.trans h.output, Nat.le_trans h.size k.size, fun b hb hl =>
  have h1 := h.keep b hb hl
  have h2 := k.keep b (Nat.lt_of_lt_of_le hb h.size) h1.2
  ⟨h2.1.trans h1.1, h2.2⟩, h.le.trans k.le, Nat.le_trans h.len k.len⟩
theorem Ext.below (h : Ext P F [] [] w H' g' w') : Go.RowKit.Below w.heap.size w w' :=
 ⟨h.os, h.tape, h.output, h.size, fun k hk => (h.keep k hk (fun i hl => by simp [live] at hl)).1⟩

end Go.Proofs.Ythidgpcbnieleaa.Aw
