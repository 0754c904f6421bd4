/- mk.Spoil only changes the blocks in which its value stands. -/
import Derived.Test.YthidgpcbnieleaaPls
import Derived.Test.YthidgpcbnieleaaE0
namespace Go.Proofs.Ythidgpcbnieleaa
open Go Aw
set_option linter.unusedVariables false
set_option linter.unusedSimpArgs false
set_option maxRecDepth 8000
def zy8 (v : Value) : Prop := v = .nilIface ∨ ∃ t x, v = .iface t x ∧ t ≠ 23 ∧ t ≠ 62 ∧ t ≠ 64 ∧ t ≠ 66
def spFl (e : TypeId) (i : Nat) (v : Value) : Prop := (e = 5 ∧ ∃ k, v = .int .u8 k) ∨ (e = 20 ∧ zy8 v) ∨ (e = 96 ∧ (i % 2 = 0 ∨ zy8 v)) ∨ (e = 68 ∧ i % 3 ≠ 2)
def z4z (S : Nat → Prop) (n0 : Nat) (w : World) (e s k : Nat) (E : Value → Prop) (x : Value) : Prop :=
 ∃ A l c, x = .slice A l c ∧ l ≤ c ∧ l ≤ 1099511627776 ∧ Room S n0 w A e s (c * s) ∧ ∀ i, i < l → ∃ b o u, A = some ⟨b, o, none⟩ ∧ w.cell? ⟨b, o + (i * s + k), none⟩ = some u ∧ E u
def TyA (S : Nat → Prop) (n0 : Nat) : Nat → World → Value → Prop
 | 0, _, _ => False
 | n + 1, w, v => v = .nilIface ∨ ∃ t x, v = .iface t x ∧ (t = 23 → z4z S n0 w 5 1 0 (fun u => ∃ k, u = .int .u8 k) x) ∧ (t = 62 → z4z S n0 w 20 1 0 (TyA S n0 n w) x) ∧ (t = 64 → z4z S n0 w 96 2 1 (TyA S n0 n w) x) ∧
  (t = 66 → x = .pointer none ∨ ∃ b o u, x = .pointer (some ⟨b, o, none⟩) ∧ Room S n0 w (some ⟨b, o, none⟩) 68 3 3 ∧ w.cell? ⟨b, o + 2, none⟩ = some u ∧ z4z S n0 w 96 2 1 (TyA S n0 n w) u)
theorem z96 {S : Nat → Prop} {n0 : Nat} {w w' : World} {e s k : Nat} {E E' : Value → Prop} {x : Value} (hs : k < s) (hR : RR spFl w w') (hE : ∀ u, E u → E' u) (hF : ∀ q u0 u, E u0 → spFl e (q * s + k) u → E' u) (h : z4z S n0 w e s k E x) : z4z S n0 w' e s k E' x := by
 obtain ⟨A, l, c, hx, h1, h2, h3, h4⟩ := h
 refine ⟨A, l, c, hx, h1, h2, h3.keeps hR.keeps, fun i hi => ?_⟩
 obtain ⟨b, o, u, hA, h5, h6⟩ := h4 i hi
 rcases h3 with ⟨h7, _⟩ | ⟨b', o', cs, z, q, h7, h8, h9, h10, h11, h12⟩
 ·rw [hA] at h7; cases h7
 ·rw [hA] at h7; injection h7 with h7; injection h7 with h7 h13; subst h7; subst h13
  obtain ⟨cs', h14, h15, h16⟩ := hR b cs e z h9
  rw [z1p h9] at h5
  obtain ⟨u', h17, h18⟩ := h16 _ u h5
  refine ⟨b, o, u', hA, by rw [z1p h14]; exact h17, ?_⟩
  rcases h18 with rfl | h18
  ·exact hE _ h6
  ·rw [show o + (i * s + k) = (q + i) * s + k by rw [h12, Nat.add_mul]; omega] at h18
   exact hF _ u u' h6 h18
theorem zdg {S : Nat → Prop} {n0 n : Nat} {w : World} {u : Value} (h : zy8 u) : TyA S n0 (n + 1) w u := by
 rcases h with rfl | ⟨t, x, rfl, h1, h2, h3, h4⟩
 ·exact .inl rfl
 ·exact .inr ⟨t, x, rfl, fun h => absurd h h1, fun h => absurd h h2, fun h => absurd h h3, fun h => absurd h h4⟩
theorem ty_go {S : Nat → Prop} {n0 : Nat} {w w' : World} (hR : RR spFl w w') : ∀ (n : Nat) (v : Value), TyA S n0 n w v → TyA S n0 n w' v
 | 0, v, h => h
 | n + 1, v, h => by
  have hany : ∀ x, z4z S n0 w 20 1 0 (TyA S n0 n w) x → z4z S n0 w' 20 1 0 (TyA S n0 n w') x := fun x => z96 (by decide) hR (fun u hu => ty_go hR n u hu) (fun q u0 u hu hf => by
   cases n with
   | zero => exact hu.elim
   | succ n =>
    rcases hf with ⟨h1, _⟩ | ⟨_, h1⟩ | ⟨h1, _⟩ | ⟨h1, _⟩
    ·cases h1
    ·exact zdg h1
    ·cases h1
    ·cases h1)
  have hfld : ∀ x, z4z S n0 w 96 2 1 (TyA S n0 n w) x → z4z S n0 w' 96 2 1 (TyA S n0 n w') x := fun x => z96 (by decide) hR (fun u hu => ty_go hR n u hu) (fun q u0 u hu hf => by
   cases n with
   | zero => exact hu.elim
   | succ n =>
    rcases hf with ⟨h1, _⟩ | ⟨h1, _⟩ | ⟨_, h1⟩ | ⟨h1, _⟩
    ·cases h1
    ·cases h1
    ·rcases h1 with h1 | h1
     ·omega
     ·exact zdg h1
    ·cases h1)
  rcases h with h | ⟨t, x, hv, h1, h2, h3, h4⟩
  ·exact .inl h
  ·refine .inr ⟨t, x, hv, fun ht => z96 (by decide) hR (fun u hu => hu) (fun q u0 u hu hf => ?_) (h1 ht), fun ht => hany x (h2 ht), fun ht => hfld x (h3 ht), fun ht => ?_⟩
   ·rcases hf with ⟨_, h1⟩ | ⟨h1, _⟩ | ⟨h1, _⟩ | ⟨h1, _⟩
    ·exact h1
    ·cases h1
    ·cases h1
    ·cases h1
   ·rcases h4 ht with h5 | ⟨b, o, u, h5, h6, h7, h8⟩
    ·exact .inl h5
    ·right
     rcases h6 with ⟨h9, _⟩ | ⟨b', o', cs, z, q, h9, h10, h11, h12, h13, h14⟩
     ·cases h9
     ·injection h9 with h9; injection h9 with h9 h15; subst h9; subst h15
      obtain ⟨cs', h16, h17, h18⟩ := hR b cs 68 z h11
      rw [z1p h11] at h7
      obtain ⟨u', h19, h20⟩ := h18 _ u h7
      have hu : u' = u := by
       rcases h20 with h20 | h20
       ·exact h20
       ·rcases h20 with ⟨h1, _⟩ | ⟨h1, _⟩ | ⟨h1, _⟩ | ⟨_, h1⟩
        ·cases h1
        ·cases h1
        ·cases h1
        ·omega
      subst hu
      exact ⟨b, o, u', h5, .inr ⟨b, o, cs', z, q, rfl, h10, h16, by rw [h17]; exact h12, by rw [h17]; exact h13, h14⟩, by rw [z1p h16]; exact h19, hfld u' h8⟩
theorem zl4 {S : Nat → Prop} {n0 n : Nat} {w w' : World} (hR : RR spFl w w') {e k s : Nat} (he : (e = 20 ∧ s = 1 ∧ k = 0) ∨ (e = 96 ∧ s = 2 ∧ k = 1)) {x : Value} (h : z4z S n0 w e s k (TyA S n0 n w) x) : z4z S n0 w' e s k (TyA S n0 n w') x := by
 refine z96 (by rcases he with ⟨_, rfl, rfl⟩ | ⟨_, rfl, rfl⟩ <;> decide) hR (fun u hu => ty_go hR n u hu) (fun q u0 u hu hf => ?_) h
 cases n with
 | zero => exact hu.elim
 | succ n =>
  rcases he with ⟨rfl, rfl, rfl⟩ | ⟨rfl, rfl, rfl⟩
  ·rcases hf with ⟨h1, _⟩ | ⟨_, h1⟩ | ⟨h1, _⟩ | ⟨h1, _⟩
   ·cases h1
   ·exact zdg h1
   ·cases h1
   ·cases h1
  ·rcases hf with ⟨h1, _⟩ | ⟨h1, _⟩ | ⟨_, h1⟩ | ⟨h1, _⟩
   ·cases h1
   ·cases h1
   ·rcases h1 with h1 | h1
    ·omega
    ·exact zdg h1
   ·cases h1
theorem zjn {S : Nat → Prop} {n0 : Nat} {w : World} {e s k l c : Nat} {E : Value → Prop} {A : Option Addr} (h : z4z S n0 w e s k E (.slice A l c)) : Room S n0 w A e s (c * s) := by
 obtain ⟨A', l', c', hx, _, _, h3, _⟩ := h
 injection hx with h1 h2 h4; subst h1; subst h4; exact h3
theorem rowAt {S : Nat → Prop} {n0 : Nat} {w : World} {e s k l c i : Nat} {E : Value → Prop} {A : Option Addr} (h : z4z S n0 w e s k E (.slice A l c)) (hi : i < l) (hk : k < s) :
 ∃ b o u cs z q, A = some ⟨b, o, none⟩ ∧ (S b ∨ n0 ≤ b) ∧ w.heap[b]? = some (.cells cs e z) ∧ o + i * s + s ≤ cs.size ∧ (z.2 ≤ z.1 ∨ cs.size ≤ z.1) ∧ o = q * s ∧ w.cell? ⟨b, o + i * s + k, none⟩ = some u ∧ E u := by
 obtain ⟨A', l', c', hx, h1, _, h3, h4⟩ := h
 injection hx with e1 e2 e3; subst e1; subst e2; subst e3
 obtain ⟨b, o, u, hA, h5, h6⟩ := h4 i hi
 rcases h3 with ⟨h7, _⟩ | ⟨b', o', cs, z, q, h7, h8, h9, h10, h11, h12⟩
 ·rw [hA] at h7; cases h7
 ·rw [hA] at h7; injection h7 with h7; injection h7 with h7 h13; subst h7; subst h13
  have : (i + 1) * s ≤ c * s := Nat.mul_le_mul_right _ (by omega)
  rw [Nat.succ_mul] at this
  exact ⟨b, o, u, cs, z, q, hA, h8, h9, by omega, h11, h12, by rw [Nat.add_assoc]; exact h5, h6⟩
section
variable {S : Nat → Prop} {w0 : World}
def SpA (S : Nat → Prop) (w0 : World) (n : Nat) : Prop := ∀ w v, Wrs S w0 w → TyA S w0.heap.size n w v → Calls Try.prog 32 #[v] w fun e w' => ∃ r, e = .returned r ∧ r = .tuple #[] ∧ Goes S w0 spFl w w'
def SpD (S : Nat → Prop) (w0 : World) (n : Nat) : Prop := ∀ w x, Wrs S w0 w → z4z S w0.heap.size w 96 2 1 (TyA S w0.heap.size n w) x → Calls Try.prog 63 #[x] w fun e w' => ∃ r, e = .returned r ∧ r = .tuple #[] ∧ Goes S w0 spFl w w'
theorem spD {n : Nat} (hA : SpA S w0 n) : SpD S w0 n := by
 intro w x hW hrow
 obtain ⟨A, l, c, rfl, hlc, hl, _, _⟩ := id hrow
 refine zdr (args := [.slice A l c]) Try.func63 rfl Try.ntmps63 rfl rfl ?_
 refine z0y ?_
 change XW _ _ _ _ _ _ _
 refine z0y ?_
 change XW _ _ _ _ _ _ _
 refine z0m (z09 rfl rfl (z12 rfl rfl) (z14 ?_))
 change XW _ _ _ _ _ _ _
 refine z37 ?_
 refine za0 (fun n env w1 => ∃ i : Nat, i + n = l ∧ z80 env 2 = some (.int .i64 (i : Nat)) ∧ z80 env 0 = some (.slice A l c) ∧ Goes S w0 spFl w w1) (n := l) ⟨0, by omega, rfl, rfl, .refl⟩ ?_
 rintro m env w1 ⟨i, hin, hctr, h0, hG⟩
 refine z0y (z0y (z0m (z09 rfl rfl (z0i rfl hctr) (z09 rfl rfl (z0i rfl h0) (z09 rfl rfl (z6z Try.underlying64 rfl rfl) (z09 rfl rfl (ze3 rfl rfl rfl) (z14 ?_)))))))
 change XW _ _ _ _ _ _ _
 refine z2u rfl (fun hc => z3w ?_) (fun hc => za1 ?_)
 ·have hil : i < l := by have := of_decide_eq_true hc; omega
  change XW _ _ _ _ _ _ _
  refine z0y (z37 (z0y ?_))
  obtain ⟨b, o, u, cs, z, q, rfl, hS, hblk, hsz, hfz, hal, hcell, hu⟩ := rowAt (zl4 hG.rr (.inr ⟨rfl, rfl, rfl⟩) hrow) hil (by decide)
  refine z0m (z09 rfl rfl (z0i rfl h0) (z09 rfl rfl (z0i rfl hctr) (z09 rfl rfl (ze4 Try.underlying64 z1c rfl rfl rfl hil) (z09 rfl rfl (zsx zgv (i := 1) rfl rfl rfl) (z09 rfl rfl (zsw Try.underlying20 rfl rfl rfl hcell)
   (zfh (args := [.tmp 14]) (vs := #[u]) (R := fun r w' => r = .tuple #[] ∧ Goes S w0 spFl w1 w') rfl rfl rfl zyl (fun a ha => by simp [ha.ev (o := .tmp 14) (v := u) rfl]) (hA w1 u (hG.wr hW) hu) ?_))))))
  rintro r w2 ⟨rfl, hG2⟩
  refine z14 ?_
  change XW _ _ _ _ _ _ _
  have hGG := hG.trans hG2
  obtain ⟨b', o', u', cs', z', q', hA', hS', hblk', hsz', hfz', hal', _, _⟩ := rowAt (zl4 hGG.rr (.inr ⟨rfl, rfl, rfl⟩) hrow) hil (by decide)
  injection hA' with hA'; injection hA' with hA1 hA2; subst hA1; subst hA2
  refine z0m (z09 rfl rfl (z0i rfl h0) (z09 rfl rfl (z0i rfl hctr) (z09 rfl rfl (zkt (parts := [(0, .const (.string ⟨#[115, 112, 111, 105, 108, 116]⟩))]) (vs := [(0, .string ⟨#[115, 112, 111, 105, 108, 116]⟩)]) (c := #[.string ⟨#[115, 112, 111, 105, 108, 116]⟩, .nilIface]) zgv z1c rfl (fun _ _ => rfl) rfl)
   (z09 rfl rfl (ze4 Try.underlying64 z1c rfl rfl rfl hil) (z8z (Fl := spFl) (S := S) (w0 := w0) rfl rfl z1c rfl rfl rfl (by intro v hv; simp [Value.cells] at hv; rcases hv with rfl | rfl <;> rfl) rfl hblk' hsz' hfz' (by
    intro j v hj
    match j, hj with
    | 0, hj => exact .inr (.inr (.inl ⟨rfl, .inl (by omega)⟩))
    | 1, hj => simp [Value.cells] at hj; subst hj; exact .inr (.inr (.inl ⟨rfl, .inr (.inl rfl)⟩))) hS' (fun w3 hG3 => z14 ?_))))))
  change XW _ _ _ _ _ _ _
  refine z0m (z09 rfl rfl (z0i rfl hctr) (z09 rfl rfl (zby rfl rfl rfl (by omega)) (z09 rfl rfl (z12 rfl rfl) (z14 ?_))))
  exact ⟨m - 1, by omega, i + 1, by omega, rfl, h0, hGG.trans hG3⟩
 ·show XW _ _ _ _ _ _ _
  refine z0y (z0m (z09 rfl rfl (z12 rfl rfl) (z14 ?_)))
  change XW _ _ _ _ _ _ _
  refine z37 ?_
  refine za0 (fun n env w1 => ∃ (i cp' : Nat) (A' : Option Addr), i + n = 20 ∧ z80 env 3 = some (.int .i64 (i : Nat)) ∧ z80 env 0 = some (.slice A' (l + i) cp') ∧ Goes S w0 spFl w w1 ∧ l + i ≤ cp' ∧ Room S w0.heap.size w1 A' 96 2 (cp' * 2)) (n := 20) ⟨0, c, A, by omega, rfl, h0, hG, hlc, (zjn hrow).keeps hG.rr.keeps⟩ ?_
  clear hin h0 hctr hG
  rintro n env w1 ⟨i, cp', A', hin, h5, h0, hG, hle, hr⟩
  refine z0y (z0y (z0m (z09 rfl rfl (z0i rfl h5) (z09 rfl rfl (ze3 rfl rfl rfl) (z14 ?_)))))
  change XW _ _ _ _ _ _ _
  refine z2u rfl (fun hc => z3w ?_) (fun hc => za1 ⟨_, rfl, rfl, hG⟩)
  have hil : i < 20 := by have := of_decide_eq_true hc; omega
  change XW _ _ _ _ _ _ _
  refine z0y (z37 ?_)
  have hW1 := hG.wr hW
  have hG2 : Goes S w0 spFl w1 (w1.alloc (.cells (#[Value.string ⟨#[103, 114, 111, 119, 110]⟩, .nilIface] : Array Value) 96)) := .alloc
  have hr2 := hr.keeps hG2.rr.keeps
  have hsrc : Src Try.prog 2 64 (.slice (some ⟨w1.heap.size, 0, none⟩) 1 1) 1 ((#[Value.string ⟨#[103, 114, 111, 119, 110]⟩, .nilIface] : Array Value)).toList (w1.alloc (.cells (#[Value.string ⟨#[103, 114, 111, 119, 110]⟩, .nilIface] : Array Value) 96)) :=
   Src.ofSlice _ Try.underlying64 _ 1 1 _ rfl (fun j v hj => by rw [z1m, z1p z2o, Nat.zero_add]; simpa using hj) (fun v hv => by simp at hv; rcases hv with rfl | rfl <;> rfl)
  obtain ⟨A2, cp2, w2, hrun, hle2, hG3, hr3⟩ := zfp (Fl := spFl) (S := S) (w0 := w0) (ty := 64) (by simpa using Nat.le_succ_of_le hW1.size) Try.underlying64 z1c rfl hle hr2 hsrc (by omega) (by omega) (by
   intro q j v hj
   match j, hj with
   | 0, hj => exact .inr (.inr (.inl ⟨rfl, .inl (by omega)⟩))
   | 1, hj => simp at hj; subst hj; exact .inr (.inr (.inl ⟨rfl, .inr (.inl rfl)⟩)))
  refine z0m (z09 rfl rfl (z0i rfl h0) (z09 rfl rfl (zkt (parts := [(0, .const (.string ⟨#[103, 114, 111, 119, 110]⟩))]) (vs := [(0, .string ⟨#[103, 114, 111, 119, 110]⟩)]) (c := #[.string ⟨#[103, 114, 111, 119, 110]⟩, .nilIface]) zgv z1c rfl (fun _ _ => rfl) rfl) (z09 rfl rfl (zmo Try.underlying64 z1c rfl rfl rfl) (z09 (v := .slice A2 (l + i + 1) cp2) (w' := w2) rfl rfl (fun a ha => ?_) (z09 rfl rfl (z12 rfl rfl) (z14 ?_))))))
  ·have e1 : a.eval (.tmp 24) = .slice A' (l + i) cp' := ha.ev rfl
   have e2 : a.eval (.tmp 26) = .slice (some ⟨w1.heap.size, 0, none⟩) 1 1 := ha.ev rfl
   simp [execOp, resolve, invoke, builtin, e1, e2, hrun]
  change XW _ _ _ _ _ _ _
  refine z0m (z09 rfl rfl (z0i rfl h5) (z09 rfl rfl (zby rfl rfl rfl (by omega)) (z09 rfl rfl (z12 rfl rfl) (z14 ?_))))
  exact ⟨n - 1, by omega, i + 1, cp2, A2, by omega, rfl, rfl, hG.trans (hG2.trans hG3), hle2, hr3⟩
def taB (t : TypeId) : Value → Bool
 | .iface u _ => decide (u = t)
 | _ => false
def taV (t : TypeId) (z : Value) : Value → Value
 | .iface u y => if u = t then y else z
 | _ => z
theorem Z2p {v z : Value} (t : TypeId) (h : v = .nilIface ∨ ∃ u y, v = .iface u y) : (v = .nilIface ∧ (Value.tuple #[taV t z v, .bool (taB t v)]) = .tuple #[z, .bool false]) ∨ (∃ u y, v = .iface u y ∧ ((u = t ∧ (Value.tuple #[taV t z v, .bool (taB t v)]) = .tuple #[y, .bool true]) ∨ (u ≠ t ∧ (Value.tuple #[taV t z v, .bool (taB t v)]) = .tuple #[z, .bool false]))) := by
 rcases h with rfl | ⟨u, y, rfl⟩
 ·exact .inl ⟨rfl, rfl⟩
 ·right
  refine ⟨u, y, rfl, ?_⟩
  by_cases hu : u = t
  ·subst hu; exact .inl ⟨rfl, by simp [taV, taB]⟩
  ·exact .inr ⟨hu, by simp [taV, taB, hu]⟩
theorem zkz {v : Value} {t : TypeId} (z : Value) (h : taB t v = true) : v = .iface t (taV t z v) := by
 cases v with
 | iface u y =>
  have hu : u = t := by simpa [taB] using h
  subst hu; simp [taV]
 | _ => cases h
theorem spA {n : Nat} (hA : SpA S w0 n) (hD : SpD S w0 n) : SpA S w0 (n + 1) := by
 intro w v hW hty
 have hv : v = .nilIface ∨ ∃ u y, v = .iface u y := by
  rcases hty with h | ⟨t, x, h, _⟩
  ·exact .inl h
  ·exact .inr ⟨t, x, h⟩
 have hx : ∀ {t x}, v = .iface t x → (t = 23 → z4z S w0.heap.size w 5 1 0 (fun u => ∃ k, u = .int .u8 k) x) ∧ (t = 62 → z4z S w0.heap.size w 20 1 0 (TyA S w0.heap.size n w) x) ∧ (t = 64 → z4z S w0.heap.size w 96 2 1 (TyA S w0.heap.size n w) x) ∧
  (t = 66 → x = .pointer none ∨ ∃ b o u, x = .pointer (some ⟨b, o, none⟩) ∧ Room S w0.heap.size w (some ⟨b, o, none⟩) 68 3 3 ∧ w.cell? ⟨b, o + 2, none⟩ = some u ∧ z4z S w0.heap.size w 96 2 1 (TyA S w0.heap.size n w) u) := by
  intro t x h
  rcases hty with h' | ⟨t', x', h', h1⟩
  ·rw [h] at h'; cases h'
  ·rw [h] at h'; injection h' with e1 e2; subst e1; subst e2; exact h1
 clear hty
 refine zdr (args := [v]) Try.func32 rfl Try.ntmps32 rfl rfl ?_
 refine z0y (z0m (z09 rfl rfl (z0i rfl rfl) (z14 ?_)))
 change XW _ _ _ _ _ _ _
 refine z37 ?_
 refine z0y (z0m (z09 rfl rfl (zsv Try.underlying23 rfl zf2 rfl rfl (Z2p 23 hv)) (z09 rfl rfl (zay rfl rfl rfl) (z09 rfl rfl (zay rfl rfl rfl) (z14 ?_)))))
 change XW _ _ _ _ _ _ _
 refine z2u rfl (fun hb => ?_) (fun hb => ?_)
 ·-- bytes
  have hrow := (hx (zkz (.slice none 0 0) hb)).1 rfl
  generalize hxv : taV 23 (.slice none 0 0) v = x at hrow ⊢
  obtain ⟨A, l, c, rfl, hlc, hl, _, _⟩ := id hrow
  refine z0y (z0m (z09 rfl rfl (z12 rfl rfl) (z14 ?_)))
  change XW _ _ _ _ _ _ _
  refine z0y ?_
  change XW _ _ _ _ _ _ _
  refine z0y (z0m (z09 rfl rfl (z12 rfl rfl) (z14 ?_)))
  change XW _ _ _ _ _ _ _
  refine z37 ?_
  refine za0 (fun n env w1 => ∃ i : Nat, i + n = l ∧ z80 env 3 = some (.int .i64 (i : Nat)) ∧ z80 env 2 = some (.slice A l c) ∧ Goes S w0 spFl w w1) (n := l) ⟨0, by omega, rfl, rfl, .refl⟩ ?_
  rintro m env w1 ⟨i, hin, hctr, h0, hG⟩
  refine z0y (z0y (z0m (z09 rfl rfl (z0i rfl hctr) (z09 rfl rfl (z0i rfl h0) (z09 rfl rfl (z6z Try.underlying23 rfl rfl) (z09 rfl rfl (ze3 rfl rfl rfl) (z14 ?_)))))))
  change XW _ _ _ _ _ _ _
  refine z2u rfl (fun hc => z3w ?_) (fun hc => za1 ?_)
  ·have hil : i < l := by have := of_decide_eq_true hc; omega
   change XW _ _ _ _ _ _ _
   refine z0y (z37 ?_)
   have hrow1 : z4z S w0.heap.size w1 5 1 0 (fun u => ∃ k, u = .int .u8 k) (.slice A l c) := z96 (by decide) hG.rr (fun u hu => hu) (fun q u0 u hu hf => by
    rcases hf with ⟨_, h1⟩ | ⟨h1, _⟩ | ⟨h1, _⟩ | ⟨h1, _⟩
    ·exact h1
    ·cases h1
    ·cases h1
    ·cases h1) hrow
   obtain ⟨b, o, u, cs, z, q, rfl, hS, hblk, hsz, hfz, hal, hcell, k, rfl⟩ := rowAt hrow1 hil (by decide)
   refine z0m (z09 rfl rfl (z0i rfl h0) (z09 rfl rfl (z0i rfl hctr) (z09 rfl rfl (z0i rfl h0) (z09 rfl rfl (z0i rfl hctr) (z09 rfl rfl (ze4 Try.underlying23 inf_5 rfl rfl rfl hil) (z09 rfl rfl (zsw Try.underlying5 rfl rfl rfl hcell) (z09 rfl rfl (zwq rfl rfl rfl)
    (z09 rfl rfl (ze4 Try.underlying23 inf_5 rfl rfl rfl hil) (z8z (Fl := spFl) (S := S) (w0 := w0) rfl rfl inf_5 rfl rfl rfl (by intro v hv; simp [Value.cells] at hv; subst hv; rfl) rfl hblk hsz hfz (by
     intro j v hj
     match j, hj with
     | 0, hj => simp [Value.cells] at hj; subst hj; exact .inl ⟨rfl, _, rfl⟩) hS (fun w3 hG3 => z14 ?_))))))))))
   change XW _ _ _ _ _ _ _
   refine z0m (z09 rfl rfl (z0i rfl hctr) (z09 rfl rfl (zby rfl rfl rfl (by omega)) (z09 rfl rfl (z12 rfl rfl) (z14 ?_))))
   exact ⟨m - 1, by omega, i + 1, by omega, rfl, h0, hG.trans hG3⟩
  ·show XW _ _ _ _ _ _ _
   refine z0y (z0m (z09 rfl rfl (z12 rfl rfl) (z14 ?_)))
   change XW _ _ _ _ _ _ _
   refine z37 ?_
   refine za0 (fun n env w1 => ∃ (i cp' : Nat) (A' : Option Addr), i + n = 20 ∧ z80 env 4 = some (.int .i64 (i : Nat)) ∧ z80 env 2 = some (.slice A' (l + i) cp') ∧ Goes S w0 spFl w w1 ∧ l + i ≤ cp' ∧ Room S w0.heap.size w1 A' 5 1 (cp' * 1)) (n := 20) ⟨0, c, A, by omega, rfl, h0, hG, hlc, (zjn hrow).keeps hG.rr.keeps⟩ ?_
   clear hin h0 hctr hG
   rintro n env w1 ⟨i, cp', A', hin, h5, h0, hG, hle, hr⟩
   refine z0y (z0y (z0m (z09 rfl rfl (z0i rfl h5) (z09 rfl rfl (ze3 rfl rfl rfl) (z14 ?_)))))
   change XW _ _ _ _ _ _ _
   refine z2u rfl (fun hc => z3w ?_) (fun hc => za1 ⟨_, rfl, rfl, hG⟩)
   have hil : i < 20 := by have := of_decide_eq_true hc; omega
   change XW _ _ _ _ _ _ _
   refine z0y (z37 ?_)
   have hW1 := hG.wr hW
   have hG2 : Goes S w0 spFl w1 (w1.alloc (.cells (#[Value.int .u8 7] : Array Value) 5)) := .alloc
   have hr2 := hr.keeps hG2.rr.keeps
   have hsrc : Src Try.prog 1 23 (.slice (some ⟨w1.heap.size, 0, none⟩) 1 1) 1 ((#[Value.int .u8 7] : Array Value)).toList (w1.alloc (.cells (#[Value.int .u8 7] : Array Value) 5)) :=
    Src.ofSlice _ Try.underlying23 _ 1 1 _ rfl (fun j v hj => by rw [z1m, z1p z2o, Nat.zero_add]; simpa using hj) (fun v hv => by simp at hv; rcases hv with rfl <;> rfl)
   obtain ⟨A2, cp2, w2, hrun, hle2, hG3, hr3⟩ := zfp (Fl := spFl) (S := S) (w0 := w0) (ty := 23) (by simpa using Nat.le_succ_of_le hW1.size) Try.underlying23 inf_5 rfl hle hr2 hsrc (by omega) (by omega) (by
    intro q j v hj
    match j, hj with
    | 0, hj => simp at hj; subst hj; exact .inl ⟨rfl, _, rfl⟩)
   refine z0m (z09 rfl rfl (z0i rfl h0) (z09 rfl rfl (ze5 Try.underlying23 inf_5 rfl rfl rfl rfl) (z09 (v := .slice A2 (l + i + 1) cp2) (w' := w2) rfl rfl (fun a ha => ?_) (z09 rfl rfl (z12 rfl rfl) (z14 ?_)))))
   ·have e1 : a.eval (.tmp 32) = .slice A' (l + i) cp' := ha.ev rfl
    have e2 : a.eval (.tmp 33) = .slice (some ⟨w1.heap.size, 0, none⟩) 1 1 := ha.ev rfl
    simp [execOp, resolve, invoke, builtin, e1, e2, hrun]
   change XW _ _ _ _ _ _ _
   refine z0m (z09 rfl rfl (z0i rfl h5) (z09 rfl rfl (zby rfl rfl rfl (by omega)) (z09 rfl rfl (z12 rfl rfl) (z14 ?_))))
   exact ⟨n - 1, by omega, i + 1, cp2, A2, by omega, rfl, rfl, hG.trans (hG2.trans hG3), hle2, hr3⟩
 refine z0y (z0m (z09 rfl rfl (zsv Try.underlying62 rfl zj0 rfl rfl (Z2p 62 hv)) (z09 rfl rfl (zay rfl rfl rfl) (z09 rfl rfl (zay rfl rfl rfl) (z14 ?_)))))
 change XW _ _ _ _ _ _ _
 refine z2u rfl (fun hb2 => ?_) (fun hb2 => ?_)
 ·-- a list
  have hrow := (hx (zkz (.slice none 0 0) hb2)).2.1 rfl
  generalize hxv : taV 62 (.slice none 0 0) v = x at hrow ⊢
  obtain ⟨A, l, c, rfl, hlc, hl, _, _⟩ := id hrow
  refine z0y (z0m (z09 rfl rfl (z12 rfl rfl) (z14 ?_)))
  change XW _ _ _ _ _ _ _
  refine z0y ?_
  change XW _ _ _ _ _ _ _
  refine z0y (z0m (z09 rfl rfl (z12 rfl rfl) (z14 ?_)))
  change XW _ _ _ _ _ _ _
  refine z37 ?_
  refine za0 (fun n env w1 => ∃ i : Nat, i + n = l ∧ z80 env 6 = some (.int .i64 (i : Nat)) ∧ z80 env 5 = some (.slice A l c) ∧ Goes S w0 spFl w w1) (n := l) ⟨0, by omega, rfl, rfl, .refl⟩ ?_
  rintro m env w1 ⟨i, hin, hctr, h0, hG⟩
  refine z0y (z0y (z0m (z09 rfl rfl (z0i rfl hctr) (z09 rfl rfl (z0i rfl h0) (z09 rfl rfl (z6z Try.underlying62 rfl rfl) (z09 rfl rfl (ze3 rfl rfl rfl) (z14 ?_)))))))
  change XW _ _ _ _ _ _ _
  refine z2u rfl (fun hc => z3w ?_) (fun hc => za1 ?_)
  ·have hil : i < l := by have := of_decide_eq_true hc; omega
   change XW _ _ _ _ _ _ _
   refine z0y (z37 (z0y ?_))
   obtain ⟨b, o, u, cs, z, q, rfl, hS, hblk, hsz, hfz, hal, hcell, hu⟩ := rowAt (zl4 hG.rr (.inl ⟨rfl, rfl, rfl⟩) hrow) hil (by decide)
   refine z0m (z09 rfl rfl (z0i rfl h0) (z09 rfl rfl (z0i rfl hctr) (z09 rfl rfl (ze4 Try.underlying62 z2g rfl rfl rfl hil) (z09 rfl rfl (zsw Try.underlying20 rfl rfl rfl hcell)
    (zfh (args := [.tmp 47]) (vs := #[u]) (R := fun r w' => r = .tuple #[] ∧ Goes S w0 spFl w1 w') rfl rfl rfl zyl (fun a ha => by simp [ha.ev (o := .tmp 47) (v := u) rfl]) (hA w1 u (hG.wr hW) hu) ?_)))))
   rintro r w2 ⟨rfl, hG2⟩
   refine z14 ?_
   change XW _ _ _ _ _ _ _
   have hGG := hG.trans hG2
   obtain ⟨b', o', u', cs', z', q', hA', hS', hblk', hsz', hfz', hal', _, _⟩ := rowAt (zl4 hGG.rr (.inl ⟨rfl, rfl, rfl⟩) hrow) hil (by decide)
   injection hA' with hA'; injection hA' with hA1 hA2; subst hA1; subst hA2
   refine z0m (z09 rfl rfl (z0i rfl h0) (z09 rfl rfl (z0i rfl hctr) (z09 rfl rfl (zvh Try.underlying2 rfl rfl rfl)
    (z09 rfl rfl (ze4 Try.underlying62 z2g rfl rfl rfl hil) (z8z (Fl := spFl) (S := S) (w0 := w0) rfl rfl z2g rfl rfl rfl (by intro v hv; simp [Value.cells] at hv; subst hv; rfl) rfl hblk' hsz' hfz' (by
     intro j v hj
     match j, hj with
     | 0, hj => simp [Value.cells] at hj; subst hj; exact .inr (.inl ⟨rfl, .inr ⟨_, _, rfl, by decide, by decide, by decide, by decide⟩⟩)) hS' (fun w3 hG3 => z14 ?_))))))
   change XW _ _ _ _ _ _ _
   refine z0m (z09 rfl rfl (z0i rfl hctr) (z09 rfl rfl (zby rfl rfl rfl (by omega)) (z09 rfl rfl (z12 rfl rfl) (z14 ?_))))
   exact ⟨m - 1, by omega, i + 1, by omega, rfl, h0, hGG.trans hG3⟩
  ·show XW _ _ _ _ _ _ _
   refine z0y (z0m (z09 rfl rfl (z12 rfl rfl) (z14 ?_)))
   change XW _ _ _ _ _ _ _
   refine z37 ?_
   refine za0 (fun n env w1 => ∃ (i cp' : Nat) (A' : Option Addr), i + n = 20 ∧ z80 env 7 = some (.int .i64 (i : Nat)) ∧ z80 env 5 = some (.slice A' (l + i) cp') ∧ Goes S w0 spFl w w1 ∧ l + i ≤ cp' ∧ Room S w0.heap.size w1 A' 20 1 (cp' * 1)) (n := 20) ⟨0, c, A, by omega, rfl, h0, hG, hlc, (zjn hrow).keeps hG.rr.keeps⟩ ?_
   clear hin h0 hctr hG
   rintro n env w1 ⟨i, cp', A', hin, h5, h0, hG, hle, hr⟩
   refine z0y (z0y (z0m (z09 rfl rfl (z0i rfl h5) (z09 rfl rfl (ze3 rfl rfl rfl) (z14 ?_)))))
   change XW _ _ _ _ _ _ _
   refine z2u rfl (fun hc => z3w ?_) (fun hc => za1 ⟨_, rfl, rfl, hG⟩)
   have hil : i < 20 := by have := of_decide_eq_true hc; omega
   change XW _ _ _ _ _ _ _
   refine z0y (z37 ?_)
   have hW1 := hG.wr hW
   have hG2 : Goes S w0 spFl w1 (w1.alloc (.cells (#[Value.iface 4 (.bool true)] : Array Value) 20)) := .alloc
   have hr2 := hr.keeps hG2.rr.keeps
   have hsrc : Src Try.prog 1 62 (.slice (some ⟨w1.heap.size, 0, none⟩) 1 1) 1 ((#[Value.iface 4 (.bool true)] : Array Value)).toList (w1.alloc (.cells (#[Value.iface 4 (.bool true)] : Array Value) 20)) :=
    Src.ofSlice _ Try.underlying62 _ 1 1 _ rfl (fun j v hj => by rw [z1m, z1p z2o, Nat.zero_add]; simpa using hj) (fun v hv => by simp at hv; rcases hv with rfl <;> rfl)
   obtain ⟨A2, cp2, w2, hrun, hle2, hG3, hr3⟩ := zfp (Fl := spFl) (S := S) (w0 := w0) (ty := 62) (by simpa using Nat.le_succ_of_le hW1.size) Try.underlying62 z2g rfl hle hr2 hsrc (by omega) (by omega) (by
    intro q j v hj
    match j, hj with
    | 0, hj => simp at hj; subst hj; exact .inr (.inl ⟨rfl, .inr ⟨_, _, rfl, by decide, by decide, by decide, by decide⟩⟩))
   refine z0m (z09 rfl rfl (z0i rfl h0) (z09 rfl rfl (zvh Try.underlying4 rfl rfl rfl) (z09 rfl rfl (ze5 Try.underlying62 z2g rfl rfl rfl rfl) (z09 (v := .slice A2 (l + i + 1) cp2) (w' := w2) rfl rfl (fun a ha => ?_) (z09 rfl rfl (z12 rfl rfl) (z14 ?_))))))
   ·have e1 : a.eval (.tmp 57) = .slice A' (l + i) cp' := ha.ev rfl
    have e2 : a.eval (.tmp 59) = .slice (some ⟨w1.heap.size, 0, none⟩) 1 1 := ha.ev rfl
    simp [execOp, resolve, invoke, builtin, e1, e2, hrun]
   change XW _ _ _ _ _ _ _
   refine z0m (z09 rfl rfl (z0i rfl h5) (z09 rfl rfl (zby rfl rfl rfl (by omega)) (z09 rfl rfl (z12 rfl rfl) (z14 ?_))))
   exact ⟨n - 1, by omega, i + 1, cp2, A2, by omega, rfl, rfl, hG.trans (hG2.trans hG3), hle2, hr3⟩
 refine z0y (z0m (z09 rfl rfl (zsv Try.underlying64 rfl ziz rfl rfl (Z2p 64 hv)) (z09 rfl rfl (zay rfl rfl rfl) (z09 rfl rfl (zay rfl rfl rfl) (z14 ?_)))))
 change XW _ _ _ _ _ _ _
 refine z2u rfl (fun hb3 => ?_) (fun hb3 => ?_)
 ·-- a dict
  have hrow := (hx (zkz (.slice none 0 0) hb3)).2.2.1 rfl
  generalize hxv : taV 64 (.slice none 0 0) v = x at hrow ⊢
  refine z0y (z0m (z09 rfl rfl (z12 rfl rfl) (z14 ?_)))
  change XW _ _ _ _ _ _ _
  refine z0m (z09 rfl rfl (z0i rfl rfl) (zfh (args := [.tmp 64]) (vs := #[x]) (R := fun r w' => r = .tuple #[] ∧ Goes S w0 spFl w w') rfl rfl rfl Z1u (fun a ha => by simp [ha.ev (o := .tmp 64) (v := x) rfl]) (hD w x hW hrow) ?_))
  rintro r w2 ⟨rfl, hG2⟩
  exact z14 ⟨_, rfl, rfl, hG2⟩
 refine z0y (z0m (z09 rfl rfl (zsv Try.underlying66 rfl ziy rfl rfl (Z2p 66 hv)) (z09 rfl rfl (zay rfl rfl rfl) (z09 rfl rfl (zay rfl rfl rfl) (z14 ?_)))))
 change XW _ _ _ _ _ _ _
 refine z2u rfl (fun hb4 => ?_) (fun hb4 => z3w ⟨_, rfl, rfl, .refl⟩)
 have hrec := (hx (zkz (.pointer none) hb4)).2.2.2 rfl
 generalize hxv : taV 66 (.pointer none) v = x at hrec ⊢
 refine z0y (z0m (z09 rfl rfl (z12 rfl rfl) (z14 ?_)))
 change XW _ _ _ _ _ _ _
 rcases hrec with rfl | ⟨b, o, u, rfl, hroom, hcell, hrow⟩
 ·refine z0y (z0m (z09 rfl rfl (z0i rfl rfl) (z09 rfl rfl (zkr Try.underlying66 rfl rfl) (z14 ?_))))
  change XW _ _ _ _ _ _ _
  refine z2u rfl (fun hc => by cases hc) (fun hc => z3w ⟨_, rfl, rfl, .refl⟩)
 ·refine z0y (z0m (z09 rfl rfl (z0i rfl rfl) (z09 rfl rfl (zkr Try.underlying66 rfl rfl) (z14 ?_))))
  change XW _ _ _ _ _ _ _
  refine z2u rfl (fun hc => ?_) (fun hc => by cases hc)
  refine z0y (z0m (z09 rfl rfl (z0i rfl rfl) (z09 rfl rfl (zff rfl rfl) (z09 rfl rfl (zsx zbi (i := 2) rfl rfl rfl) (z09 rfl rfl (zsw Try.underlying64 rfl rfl rfl hcell)
   (zfh (args := [.tmp 74]) (vs := #[u]) (R := fun r w' => r = .tuple #[] ∧ Goes S w0 spFl w w') rfl rfl rfl Z1u (fun a ha => by simp [ha.ev (o := .tmp 74) (v := u) rfl]) (hD w u hW hrow) ?_))))))
  rintro r w2 ⟨rfl, hG2⟩
  refine z14 ?_
  change XW _ _ _ _ _ _ _
  rcases hroom with ⟨h1, _⟩ | ⟨b', o', cs, z, q, h1, hS, hblk, hsz, hfz, hal⟩
  ·cases h1
  injection h1 with h1; injection h1 with h1 h2; subst h1; subst h2
  obtain ⟨cs2, hblk2, hsz2, _⟩ := hG2.rr b cs 68 z hblk
  refine z0m (z09 rfl rfl (z0i rfl rfl) (z09 rfl rfl (z0i rfl rfl) (z09 rfl rfl (zff rfl rfl) (z09 rfl rfl (zsx zbi (i := 0) rfl rfl rfl)
   (z8z (Fl := spFl) (S := S) (w0 := w0) rfl rfl zk3 rfl rfl rfl (by intro v hv; simp [Value.cells] at hv; subst hv; rfl) rfl hblk2 (by omega) (by rw [hsz2]; exact hfz) (by
    intro j v hj
    match j, hj with
    | 0, hj => exact .inr (.inr (.inr ⟨rfl, by omega⟩))) hS (fun w3 hG3 => ?_))))))
  obtain ⟨cs3, hblk3, hsz3, _⟩ := hG3.rr b cs2 68 z hblk2
  refine z09 rfl rfl (zff rfl rfl) (z09 rfl rfl (zsx zbi (i := 1) rfl rfl rfl)
   (z8z (Fl := spFl) (S := S) (w0 := w0) rfl rfl zg8 rfl rfl rfl (by intro v hv; simp [Value.cells] at hv; subst hv; rfl) rfl hblk3 (by omega) (by rw [hsz3, hsz2]; exact hfz) (by
    intro j v hj
    match j, hj with
    | 0, hj => exact .inr (.inr (.inr ⟨rfl, by omega⟩))) hS (fun w4 hG4 => z14 ⟨_, rfl, rfl, (hG2.trans hG3).trans hG4⟩)))
theorem zwy : ∀ n, SpA S w0 n
 | 0 => fun w v _ h => h.elim
 | n + 1 => spA (zwy n) (spD (zwy n))
end
mutual
def spSz : V → Nat
 | .bytes b => b.length + 1
 | .list l => spSzL l + 1
 | .dict l => spSzD l + 1
 | .record _ _ l => spSzD l + 1
 | _ => 1
def spSzL : List V → Nat
 | [] => 0
 | x :: r => spSz x + 1 + spSzL r
def spSzD : List (Str × V) → Nat
 | [] => 0
 | (_, x) :: r => spSz x + 1 + spSzD r
end
theorem zgx : ∀ {l : List V}, l.length ≤ spSzL l ∧ ∀ x, x ∈ l → spSz x < spSzL l
 | [] => ⟨Nat.le_refl _, fun x hx => by cases hx⟩
 | x :: r => by
  have h := zgx (l := r)
  simp only [spSzL, List.length_cons]
  refine ⟨by omega, fun y hy => ?_⟩
  rcases List.mem_cons.1 hy with rfl | hy
  ·omega
  ·have := h.2 y hy; omega
theorem z5k : ∀ {l : List (Str × V)}, l.length ≤ spSzD l ∧ ∀ x, x ∈ l → spSz x.2 < spSzD l
 | [] => ⟨Nat.le_refl _, fun x hx => by cases hx⟩
 | (s, x) :: r => by
  have h := z5k (l := r)
  simp only [spSzD, List.length_cons]
  refine ⟨by omega, fun y hy => ?_⟩
  rcases List.mem_cons.1 hy with rfl | hy
  ·dsimp only; omega
  ·have := h.2 y hy; omega
def zgw (v : V) : Option Unit := bif Nat.ble (spSz v) 1099511627776 then some () else none
section
variable {S : Nat → Prop} {w : World}
theorem zog {n : Nat} {l : List (Str × V)} {x : Value} (hl : spSzD l ≤ 1099511627776) (h : ∀ p, p ∈ l → ∀ u, VR (zxv S w) (ofV p.2) u → TyA S w.heap.size n w u) (hv : VR (zxv S w) (.sl none 96 2 (znr l)) x) : z4z S w.heap.size w 96 2 1 (TyA S w.heap.size n w) x := by
 rw [z38] at hv
 obtain ⟨A, c, hx, ⟨⟨h1, _⟩, hB⟩, _, h2⟩ := vr_sl.1 hv
 have hll := (z5k (l := l)).1
 rw [List.length_map] at h1 hx
 refine ⟨A, l.length, c, hx, h1, by omega, Room.of hB _, fun i hi => ?_⟩
 obtain ⟨_, b, o, hA, h3⟩ := h2 i (ofFld l[i]) (by simp [hi])
 obtain ⟨u, ⟨_, h4⟩, h5⟩ := h3 1 (ofV l[i].2) rfl
 exact ⟨b, o, u, hA, h4, h _ (List.getElem_mem hi) u h5⟩
theorem zt1 : ∀ (n : Nat) (v : V), spSz v < n → spSz v ≤ 1099511627776 → ∀ u, VR (zxv S w) (ofV v) u → TyA S w.heap.size n w u
 | 0, v, h, _, _, _ => by omega
 | n + 1, v, hn, hl, u, hv => by
  have flat : ∀ {t x}, u = .iface t x → t ≠ 23 → t ≠ 62 → t ≠ 64 → t ≠ 66 → TyA S w.heap.size (n + 1) w u := fun hu h1 h2 h3 h4 => zdg (.inr ⟨_, _, hu, h1, h2, h3, h4⟩)
  cases v with
  | nil => rw [ofV] at hv; exact .inl (vr_v.1 hv)
  | bool b => rw [ofV] at hv; obtain ⟨x, hu, _⟩ := vr_iface.1 hv; exact flat hu (by decide) (by decide) (by decide) (by decide)
  | int b => rw [ofV] at hv; obtain ⟨x, hu, _⟩ := vr_iface.1 hv; exact flat hu (by decide) (by decide) (by decide) (by decide)
  | float b => rw [ofV] at hv; obtain ⟨x, hu, _⟩ := vr_iface.1 hv; exact flat hu (by decide) (by decide) (by decide) (by decide)
  | text b => rw [ofV] at hv; obtain ⟨x, hu, _⟩ := vr_iface.1 hv; exact flat hu (by decide) (by decide) (by decide) (by decide)
  | ref b => rw [ofV] at hv; obtain ⟨x, hu, _⟩ := vr_iface.1 hv; exact flat hu (by decide) (by decide) (by decide) (by decide)
  | alien t =>
   rw [ofV] at hv; obtain ⟨x, hu, _⟩ := vr_iface.1 hv
   have h : ∀ k, zf9 k = false → t.1 ≠ k := fun k hk e => by have := z45 t hk; rw [e] at this; simp at this
   exact flat hu (h _ (by decide)) (h _ (by decide)) (h _ (by decide)) (h _ (by decide))
  | nothing =>
   rw [ofV] at hv; obtain ⟨x, hu, hx⟩ := vr_iface.1 hv
   exact .inr ⟨_, x, hu, fun h => absurd h (by decide), fun h => absurd h (by decide), fun h => absurd h (by decide), fun _ => .inl (vr_v.1 hx)⟩
  | bytes b =>
   rw [ofV] at hv; obtain ⟨x, hu, hx⟩ := vr_iface.1 hv
   refine .inr ⟨_, x, hu, fun _ => ?_, fun h => absurd h (by decide), fun h => absurd h (by decide), fun h => absurd h (by decide)⟩
   obtain ⟨A, c, hx, ⟨⟨h1, _⟩, hB⟩, _, h2⟩ := vr_sl.1 hx
   simp only [spSz] at hl
   rw [List.length_map] at h1 hx
   refine ⟨A, b.length, c, hx, h1, by omega, Room.of hB _, fun i hi => ?_⟩
   obtain ⟨_, b', o, hA, h3⟩ := h2 i (ofB b[i]) (by simp [hi])
   obtain ⟨u, ⟨_, h4⟩, h5⟩ := h3 0 (ofB b[i]) rfl
   exact ⟨b', o, u, hA, h4, _, vr_v.1 h5⟩
  | list l =>
   rw [ofV, z3k] at hv; obtain ⟨x, hu, hx⟩ := vr_iface.1 hv
   refine .inr ⟨_, x, hu, fun h => absurd h (by decide), fun _ => ?_, fun h => absurd h (by decide), fun h => absurd h (by decide)⟩
   obtain ⟨A, c, hx, ⟨⟨h1, _⟩, hB⟩, _, h2⟩ := vr_sl.1 hx
   have hll := zgx (l := l)
   simp only [spSz] at hl hn
   rw [List.length_map] at h1 hx
   refine ⟨A, l.length, c, hx, h1, by omega, Room.of hB _, fun i hi => ?_⟩
   obtain ⟨_, b, o, hA, h3⟩ := h2 i (ofV l[i]) (by simp [hi])
   obtain ⟨u, ⟨_, h4⟩, h5⟩ := h3 0 (ofV l[i]) (by rw [z1x]; rfl)
   have := hll.2 _ (List.getElem_mem hi)
   exact ⟨b, o, u, hA, h4, zt1 n _ (by omega) (by omega) u h5⟩
  | dict l =>
   rw [ofV] at hv; obtain ⟨x, hu, hx⟩ := vr_iface.1 hv
   simp only [spSz] at hl hn
   exact .inr ⟨_, x, hu, fun h => absurd h (by decide), fun h => absurd h (by decide), fun _ => zog (by omega) (fun p hp u hpu => zt1 n _ (by have := (z5k (l := l)).2 p hp; omega) (by have := (z5k (l := l)).2 p hp; omega) u hpu) hx, fun h => absurd h (by decide)⟩
  | record c v l =>
   rw [ofV] at hv; obtain ⟨x, hu, hx⟩ := vr_iface.1 hv
   simp only [spSz] at hl hn
   refine .inr ⟨_, x, hu, fun h => absurd h (by decide), fun h => absurd h (by decide), fun h => absurd h (by decide), fun _ => .inr ?_⟩
   obtain ⟨b, o, ⟨hx, hB⟩, h2⟩ := vr_pt.1 hx
   obtain ⟨u, ⟨_, h3⟩, h4⟩ := h2 2 _ rfl
   exact ⟨b, o, u, hx, Room.of hB _, h3, zog (by omega) (fun p hp u hpu => zt1 n _ (by have := (z5k (l := l)).2 p hp; omega) (by have := (z5k (l := l)).2 p hp; omega) u hpu) h4⟩
end
theorem zt5 (v : V) {u : Unit} (h : zgw v = some u) : zwk Try.prog 32 [ofV v] (.tup []) := by
 have hb : spSz v ≤ 1099511627776 := by
  unfold zgw at h
  cases hb : Nat.ble (spSz v) 1099511627776 with
  | true => exact Nat.le_of_ble_eq_true hb
  | false => rw [hb] at h; cases h
 intro S us w hv
 obtain ⟨x, hx, hvx⟩ := hv.2 0 _ rfl
 have hus : us = #[x] := by
  refine Array.ext (by simpa using hv.1) fun i h1 h2 => ?_
  have : i = 0 := by simpa using h2
  subst this
  simpa [Array.getElem?_eq_getElem h1] using hx
 rw [hus]
 refine Calls.mono (zwy (S := S) (w0 := w) (spSz v + 1) w x .refl (zt1 _ v (Nat.lt_succ_self _) hb x hvx)) ?_
 rintro e w' ⟨r, rfl, rfl, hG⟩
 have hW := hG.wr .refl
 exact ⟨_, rfl, vr_tup.2 ⟨[], rfl, rfl, by simp⟩, hW.os, hW.tape, hW.output, hW.size, hW.keep, hW.kp⟩
end Go.Proofs.Ythidgpcbnieleaa
