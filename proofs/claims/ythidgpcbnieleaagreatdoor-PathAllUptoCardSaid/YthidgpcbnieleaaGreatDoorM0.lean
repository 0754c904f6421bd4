/- Plain laws, one behind the other. -/
import Derived.Test.YthidgpcbnieleaaGreatDoorRd
import Derived.Test.YthidgpcbnieleaaGreatDoorG11
namespace Go.Proofs.YthidgpcbnieleaaGreatDoor
open Go Aw
set_option linter.unusedVariables false
set_option linter.unusedSimpArgs false
theorem zab {i n : Nat} (h : i < n) : decide ((i : Int) < (n : Int)) = true := decide_eq_true (by omega)
theorem z9z {i n : Nat} (h : ¬ i < n) : decide ((i : Int) < (n : Int)) = false := decide_eq_false (by omega)
theorem dropc {α : Type} {l : List α} {i : Nat} (h : i < l.length) : ∃ x, l[i]? = some x ∧ l.drop i = x :: l.drop (i + 1) :=
 ⟨l[i], List.getElem?_eq_getElem h, List.drop_eq_getElem_cons h⟩
theorem z4r {x : Int} (h1 : -9223372036854775808 ≤ x) (h2 : x ≤ 9223372036854775807) : IntKind.i64.wrap x = x := zae h1 h2
theorem z3y {α : Type} (l : List α) (i : Nat) : z7g l (i : Int) = l[i]? := by
 unfold z7g; rw [decide_eq_true (by omega : (0 : Int) ≤ (i : Nat))]; rfl
def zvw (c : UInt8) : Bool := (Nat.ble 97 c.toNat && Nat.ble c.toNat 122) || (Nat.ble 48 c.toNat && Nat.ble c.toNat 57) || Nat.beq c.toNat 95
def zzi (c : UInt8) : Bool := Nat.ble 97 c.toNat && Nat.ble c.toNat 122
def z3h (s : Str) : Bool := Nat.ble 1 s.length && Nat.ble s.length 32 && zzi (s.headD 0) && s.all zvw
theorem zvv {c : UInt8} : zvw c = true ↔ (97 ≤ c.toNat ∧ c.toNat ≤ 122) ∨ (48 ≤ c.toNat ∧ c.toNat ≤ 57) ∨ c.toNat = 95 := by
 simp only [zvw, Bool.or_eq_true, Bool.and_eq_true, Nat.ble_eq, Nat.beq_eq]; omega
theorem loOk_iff {c : UInt8} : zzi c = true ↔ 97 ≤ c.toNat ∧ c.toNat ≤ 122 := by
 simp only [zzi, Bool.and_eq_true, Nat.ble_eq]
theorem zy6 (c : UInt8) (g : Nat → Option Bool) (i : Nat) (s : Str) (hi : i < s.length) (hc : s[i]? = some c) : z5k s g i = bif zvw c then g (i + 1) else some false := by
 have h97 : (97 : UInt8).toNat = 97 := rfl
 have h122 : (122 : UInt8).toNat = 122 := rfl
 have h48 : (48 : UInt8).toNat = 48 := rfl
 have h57 : (57 : UInt8).toNat = 57 := rfl
 have h95 : (95 : UInt8).toNat = 95 := rfl
 simp only [z5k, zab hi, hc, cond_true, Option.bind_some, z68, h97, h122, h48, h57, h95]
 simp only [Bool.cond_eq_ite, decide_eq_true_eq, bne_iff_ne, ne_eq, Bool.false_eq_true, if_false, zvv]
 repeat (split <;> (try (first | rfl | (exfalso; omega))))
theorem Z8m (s : Str) : ∀ k i, k + i = s.length → zha s i = some ((s.drop i).all zvw)
 | 0, i, h => by
  rw [zh9]
  simp only [z5k, z9z (by omega : ¬ i < s.length), cond_false]
  rw [List.drop_of_length_le (by omega)]; rfl
 | k + 1, i, h => by
  obtain ⟨c, hc, hd⟩ := dropc (by omega : i < s.length)
  rw [zh9, zy6 c _ i s (by omega) hc, Z8m s k (i + 1) (by omega), hd, List.all_cons]
  cases zvw c <;> rfl
theorem zx7 (s : Str) : zjs s = some (z3h s) := by
 have h97 : (97 : UInt8).toNat = 97 := rfl
 have h122 : (122 : UInt8).toNat = 122 := rfl
 cases s with
 | nil => rfl
 | cons c r =>
  have hl := Z8m (c :: r) (c :: r).length 0 (by simp)
  rw [List.drop_zero] at hl
  simp only [zjs, zbi, h97, h122]
  have he : ((c :: r) == ([] : Str)) = false := rfl
  have h0 : (c :: r)[0]? = some c := rfl
  simp only [he, h0, cond_true, cond_false, Option.bind_some]
  by_cases h32 : (c :: r).length ≤ 32
  ·have hs : ze4 (c :: r).length = some () := by unfold ze4; rw [Nat.ble_eq_true_of_le (by omega)]; rfl
   simp only [hs, hl, Option.bind_some]
   have e1 : decide (((c :: r).length : Int) > 32) = false := decide_eq_false (by omega)
   rw [e1]
   simp only [cond_false, z3h, List.headD_cons, Nat.ble_eq_true_of_le h32, Nat.ble_eq_true_of_le (by simp : 1 ≤ (c :: r).length), Bool.true_and]
   cases hlo : zzi c with
   | true =>
    have := loOk_iff.1 hlo
    have e2 : decide ((c.toNat : Int) < (97 : Nat)) = false := decide_eq_false (by omega)
    have e3 : decide ((c.toNat : Int) > (122 : Nat)) = false := decide_eq_false (by omega)
    rw [e2, e3]; rfl
   | false =>
    have h2 : ¬ (97 ≤ c.toNat ∧ c.toNat ≤ 122) := fun h => by rw [loOk_iff.2 h] at hlo; cases hlo
    by_cases h3 : c.toNat < 97
    ·have e2 : decide ((c.toNat : Int) < (97 : Nat)) = true := decide_eq_true (by omega)
     rw [e2]; rfl
    ·have e2 : decide ((c.toNat : Int) < (97 : Nat)) = false := decide_eq_false (by omega)
     have e3 : decide ((c.toNat : Int) > (122 : Nat)) = true := decide_eq_true (by omega)
     rw [e2, e3]; rfl
  ·have e1 : decide (((c :: r).length : Int) > 32) = true := decide_eq_true (by omega)
   have e2 : Nat.ble (c :: r).length 32 = false := by
    cases hb : Nat.ble (c :: r).length 32 with
    | false => rfl
    | true => exact absurd (Nat.le_of_ble_eq_true hb) h32
   rw [e1]
   simp only [cond_true, z3h, e2, Bool.and_false, Bool.false_and]
end Go.Proofs.YthidgpcbnieleaaGreatDoor

namespace Go.Proofs.YthidgpcbnieleaaGreatDoor
open Go Aw
set_option linter.unusedVariables false
set_option linter.unusedSimpArgs false
set_option maxRecDepth 8000
def leB (a b : Str) : Bool := Op.bytesLess a b || a == b
def zaj : Option Str → List Str → Bool
 | _, [] => true
 | p, s :: r => z3h s && (match p with | none => true | some q => !(leB s q)) && zaj (some s) r
def z9m (l : List Str) (i : Nat) : Option Str := if i = 0 then none else l[i - 1]?
def z3e (l : List Str) : Int := if 4096 < l.length then 2 else if zaj none l then 0 else 8
theorem zni {l : List Str} {i : Nat} {s : Str} (h : l[i]? = some s) (p : Option Str) : zaj p (l.drop i) = (z3h s && (match p with | none => true | some q => !(leB s q)) && zaj (z9m l (i + 1)) (l.drop (i + 1))) := by
 have hi := (List.getElem?_eq_some_iff.1 h).1
 have hd : l.drop i = s :: l.drop (i + 1) := by rw [List.drop_eq_getElem_cons hi, (List.getElem?_eq_some_iff.1 h).2]
 have : z9m l (i + 1) = some s := by simp [z9m, h]
 rw [hd, this]
 cases p <;> simp only [zaj]
theorem zpe (p : Option Str) : zaj p [] = true := by cases p <;> rfl
def r08 (b : Bool) : Int := if b then 0 else 8
theorem ziu {α : Type} (l : List (Str × α)) (i : Nat) (hi : i < l.length) (hb : l.length ≤ 4096) (g : Option Int) (hg : g = some (r08 (zaj (z9m (l.map (·.1)) (i + 1)) ((l.map (·.1)).drop (i + 1))))) (x : Str × α) (hx : l[i]? = some x) :
 (bif !(z3h x.1) then some 8 else (bif decide (((i : Nat) : Int) > 0) then Option.bind (z7g l (IntKind.i64.wrap (((i : Nat) : Int) - 1))) fun y => (bif (Op.bytesLess x.1 y.1 || x.1 == y.1) then some 8 else g) else g)) = some (r08 (zaj (z9m (l.map (·.1)) i) ((l.map (·.1)).drop i))) := by
 have hs : (l.map (·.1))[i]? = some x.1 := by rw [List.getElem?_map, hx]; rfl
 rw [zni hs]
 cases hn : z3h x.1 with
 | false => rfl
 | true =>
  simp only [Bool.not_true, cond_false, Bool.true_and]
  by_cases h0 : i = 0
  ·subst h0
   have e : decide (((0 : Nat) : Int) > 0) = false := rfl
   rw [e, hg]
   simp only [cond_false, z9m, if_pos, Bool.true_and]
  ·have e : decide ((i : Int) > 0) = true := decide_eq_true (by omega)
   have hw : IntKind.i64.wrap ((i : Int) - 1) = ((i - 1 : Nat) : Int) := by rw [z4r (by omega) (by omega)]; omega
   obtain ⟨y, hy, _⟩ := dropc (by omega : i - 1 < l.length)
   rw [e, hw, z3y, hy]
   have hp : z9m (l.map (·.1)) i = some y.1 := by simp only [z9m, if_neg h0, List.getElem?_map, hy, Option.map_some]
   simp only [cond_true, Option.bind_some, hp, hg]
   show (bif leB x.1 y.1 then _ else _) = _
   cases leB x.1 y.1 <;> rfl
theorem Z8o (l : List (Str × V)) (hb : l.length ≤ 4096) : ∀ k i, k + i = l.length → zhg l i = some (r08 (zaj (z9m (l.map (·.1)) i) ((l.map (·.1)).drop i)))
 | 0, i, h => by
  rw [zhf]
  simp only [z6v, z9z (by omega : ¬ i < l.length), cond_false]
  rw [List.drop_of_length_le (by simp; omega), zpe]; rfl
 | k + 1, i, h => by
  obtain ⟨x, hx, _⟩ := dropc (by omega : i < l.length)
  have hr := ziu l i (by omega) hb _ (Z8o l hb k (i + 1) (by omega)) x hx
  rw [zhf]
  simp only [z6v, zab (by omega : i < l.length), cond_true, hx, Option.bind_some, zx7, z9c, cond_false]
  exact hr
theorem zx9 (l : List (Str × V)) : zjx l = some (z3e (l.map (·.1))) := by
 simp only [zjx, z3e, List.length_map]
 by_cases h : 4096 < l.length
 ·rw [decide_eq_true (by omega : (l.length : Int) > 4096), if_pos h]; rfl
 ·rw [decide_eq_false (by omega : ¬ (l.length : Int) > 4096), if_neg h, cond_false, Z8o l (by omega) l.length 0 (by omega)]; rfl
def z1k : V → Int
 | .nil => 1
 | .bool _ => 2
 | .int _ => 3
 | .float _ => 4
 | .text _ => 5
 | .bytes _ => 6
 | .ref _ => 7
 | .list _ => 8
 | .dict _ => 9
 | .record _ _ _ => 10
 | .nothing => 11
 | .alien _ => 0
theorem zx8 (x : V) : zjt x = some (z1k x) := by cases x <;> rfl
def zzx : V → Int
 | .nothing => 7
 | .alien _ => 6
 | _ => 2
def z4f : V → Int
 | .text s => if 65536 < s.length then 2 else 0
 | .bytes b => if 65536 < b.length then 2 else 0
 | .list l => if 4096 < l.length then 2 else 0
 | .dict l => z3e (l.map (·.1))
 | .record c v l => if z3h c = false then 8 else if v < 1 ∨ 1000 < v then 1 else z3e (l.map (·.1))
 | .nothing => 7
 | .alien _ => 6
 | _ => 0
def zbv (x : V) (n deep : Int) : Int := if 16384 ≤ n ∨ 64 < deep then zzx x else z4f x
theorem Z3a (x : V) : z8i x true = some (zzx x) := by
 simp only [z8i, cond_true, zx8, Option.bind_some]
 cases x <;> rfl
theorem zt1 (n m : Nat) : (bif decide ((n : Int) > (m : Int)) then some (2 : Int) else zbg) = some (if m < n then 2 else 0) := by
 by_cases h : m < n
 ·rw [decide_eq_true (by omega : (n : Int) > m), if_pos h]; rfl
 ·rw [decide_eq_false (by omega : ¬ (n : Int) > m), if_neg h]; rfl
theorem Z2j (x : V) : z8i x false = some (z4f x) := by
 cases x with
 | text s => exact zt1 s.length 65536
 | bytes s => exact zt1 s.length 65536
 | list s => exact zt1 s.length 4096
 | dict l =>
  have : z8i (.dict l) false = Option.bind (zjx l) fun x => some x := rfl
  rw [this, zx9]; rfl
 | record c v l =>
  have : z8i (.record c v l) false = Option.bind (zjs c) fun x17 => bif !x17 then some 8 else bif decide (v < 1) then zbf ⟨c, v, l⟩ true else zbf ⟨c, v, l⟩ (decide (v > 1000)) := rfl
  rw [this, zx7]
  simp only [Option.bind_some, z4f, zbf, zx9]
  cases hn : z3h c with
  | false => rfl
  | true =>
   simp only [Bool.not_true, cond_false, cond_true]
   by_cases h1 : v < 1
   ·rw [decide_eq_true h1, cond_true, if_neg (by simp), if_pos (Or.inl h1)]
   ·rw [decide_eq_false h1, cond_false, if_neg (by simp)]
    by_cases h2 : v > 1000
    ·rw [decide_eq_true h2, cond_true, if_pos (Or.inr h2)]
    ·rw [decide_eq_false h2, cond_false, if_neg (by omega)]
 | _ => rfl
theorem Z28 (x : V) (n d : Int) : zql x n d = some (zbv x n d) := by
 simp only [zql, zbv]
 by_cases h1 : n ≥ 16384
 ·rw [decide_eq_true h1, cond_true, if_pos (Or.inl h1), Z3a]
 ·rw [decide_eq_false h1, cond_false]
  by_cases h2 : d > 64
  ·rw [decide_eq_true h2, if_pos (Or.inr h2), Z3a]
  ·rw [decide_eq_false h2, if_neg (by omega), Z2j]
theorem Z0u {c : Bool} {x y : Option V} (h1 : ∃ a, x = some (.alien a)) (h2 : ∃ a, y = some (.alien a)) : ∃ a, (bif c then x else y) = some (.alien a) := by cases c <;> assumption
theorem zn2 (n : Int) : ∃ a, znt n = some (.alien a) := by
 unfold znt
 repeat (first | exact ⟨_, rfl⟩ | refine Z0u ⟨_, rfl⟩ ?_)
noncomputable def alT (n : Int) : {t : Nat // zj7 t = true} := (zn2 n).choose
theorem zwt (n : Int) : znt n = some (.alien (alT n)) := (zn2 n).choose_spec
mutual
noncomputable def bu : Term → V
 | .mk k b i f t y r l d c v => if k = 1 then .nil else if k = 2 then .bool b else if k = 3 then .int i else if k = 4 then .float f else if k = 5 then .text t else if k = 6 then .bytes y else if k = 7 then .ref r
  else if k = 8 then .list (Z45 l) else if k = 9 then .dict (Z11 d) else if k = 10 then .record c v (Z11 d) else if k = 11 then .nothing else .alien (alT i)
noncomputable def Z45 : List Term → List V
 | [] => []
 | x :: r => bu x :: Z45 r
noncomputable def Z11 : List (Str × Term) → List (Str × V)
 | [] => []
 | (s, x) :: r => (s, bu x) :: Z11 r
end
noncomputable def buE (p : Str × Term) : Str × V := (p.1, bu p.2)
theorem zmv : ∀ l, Z45 l = l.map bu
 | [] => by rw [Z45]; rfl
 | x :: r => by rw [Z45, zmv r]; rfl
theorem zmw : ∀ l, Z11 l = l.map buE
 | [] => by rw [Z11]; rfl
 | (s, x) :: r => by rw [Z11, zmw r]; rfl
inductive BuC (t : Term) : V → Prop
 | nil : t.kind = 1 → BuC t .nil
 | bool : t.kind = 2 → BuC t (.bool t.bool)
 | int : t.kind = 3 → BuC t (.int t.int)
 | float : t.kind = 4 → BuC t (.float t.float)
 | text : t.kind = 5 → BuC t (.text t.text)
 | bytes : t.kind = 6 → BuC t (.bytes t.bytes)
 | ref : t.kind = 7 → BuC t (.ref t.ref)
 | list : t.kind = 8 → BuC t (.list (t.list.map bu))
 | dict : t.kind = 9 → BuC t (.dict (t.fields.map buE))
 | record : t.kind = 10 → BuC t (.record t.cls t.ver (t.fields.map buE))
 | nothing : t.kind = 11 → BuC t .nothing
 | alien : t.kind < 1 ∨ 11 < t.kind → BuC t (.alien (alT t.int))
theorem Z9r (t : Term) : BuC t (bu t) := by
 cases t with
 | mk k b i f t y r l d c v =>
  rw [bu, zmv, zmw]
  by_cases h1 : k = 1; · rw [if_pos h1]; exact .nil h1
  by_cases h2 : k = 2; · rw [if_neg h1, if_pos h2]; exact .bool h2
  by_cases h3 : k = 3; · rw [if_neg h1, if_neg h2, if_pos h3]; exact .int h3
  by_cases h4 : k = 4; · rw [if_neg h1, if_neg h2, if_neg h3, if_pos h4]; exact .float h4
  by_cases h5 : k = 5; · rw [if_neg h1, if_neg h2, if_neg h3, if_neg h4, if_pos h5]; exact .text h5
  by_cases h6 : k = 6; · rw [if_neg h1, if_neg h2, if_neg h3, if_neg h4, if_neg h5, if_pos h6]; exact .bytes h6
  by_cases h7 : k = 7; · rw [if_neg h1, if_neg h2, if_neg h3, if_neg h4, if_neg h5, if_neg h6, if_pos h7]; exact .ref h7
  by_cases h8 : k = 8; · rw [if_neg h1, if_neg h2, if_neg h3, if_neg h4, if_neg h5, if_neg h6, if_neg h7, if_pos h8]; exact .list h8
  by_cases h9 : k = 9; · rw [if_neg h1, if_neg h2, if_neg h3, if_neg h4, if_neg h5, if_neg h6, if_neg h7, if_neg h8, if_pos h9]; exact .dict h9
  by_cases h10 : k = 10; · rw [if_neg h1, if_neg h2, if_neg h3, if_neg h4, if_neg h5, if_neg h6, if_neg h7, if_neg h8, if_neg h9, if_pos h10]; exact .record h10
  by_cases h11 : k = 11; · rw [if_neg h1, if_neg h2, if_neg h3, if_neg h4, if_neg h5, if_neg h6, if_neg h7, if_neg h8, if_neg h9, if_neg h10, if_pos h11]; exact .nothing h11
  rw [if_neg h1, if_neg h2, if_neg h3, if_neg h4, if_neg h5, if_neg h6, if_neg h7, if_neg h8, if_neg h9, if_neg h10, if_neg h11]
  exact .alien (by show k < 1 ∨ 11 < k; omega)
end Go.Proofs.YthidgpcbnieleaaGreatDoor

namespace Go.Proofs.YthidgpcbnieleaaGreatDoor
open Go Aw
set_option linter.unusedVariables false
set_option linter.unusedSimpArgs false
set_option maxRecDepth 8000
structure Ct where
 ok : Bool
 n : Int
 dp : Int
 why : Int
mutual
def z2i : V → Int → Int → Int → Ct
 | .list l, n, dp, d => if zbv (.list l) n d = 0 then z3b l (n + 1) (max dp d) (d + 1) else ⟨false, n, dp, zbv (.list l) n d⟩
 | .dict l, n, dp, d => if zbv (.dict l) n d = 0 then zbb l (n + 1) (max dp d) (d + 1) else ⟨false, n, dp, zbv (.dict l) n d⟩
 | .record c v l, n, dp, d => if zbv (.record c v l) n d = 0 then zbb l (n + 1) (max dp d) (d + 1) else ⟨false, n, dp, zbv (.record c v l) n d⟩
 | x, n, dp, d => if zbv x n d = 0 then ⟨true, n + 1, max dp d, 0⟩ else ⟨false, n, dp, zbv x n d⟩
def z3b : List V → Int → Int → Int → Ct
 | [], n, dp, d => ⟨true, n, dp, 0⟩
 | x :: r, n, dp, d => if (z2i x n dp d).ok then z3b r (z2i x n dp d).n (z2i x n dp d).dp d else z2i x n dp d
def zbb : List (Str × V) → Int → Int → Int → Ct
 | [], n, dp, d => ⟨true, n, dp, 0⟩
 | (s, x) :: r, n, dp, d => if (z2i x n dp d).ok then zbb r (z2i x n dp d).n (z2i x n dp d).dp d else z2i x n dp d
end
def V.parts : V → List V
 | .list l => l
 | .dict l => l.map (·.2)
 | .record _ _ l => l.map (·.2)
 | _ => []
theorem zdk : ∀ (l : List (Str × V)) (n dp d : Int), zbb l n dp d = z3b (l.map (·.2)) n dp d
 | [], n, dp, d => by simp only [zbb, z3b, List.map_nil]
 | (s, x) :: r, n, dp, d => by simp only [zbb, z3b, List.map_cons, zdk r]
theorem z88 (x : V) (n dp d : Int) : z2i x n dp d = if zbv x n d = 0 then z3b x.parts (n + 1) (max dp d) (d + 1) else ⟨false, n, dp, zbv x n d⟩ := by
 cases x <;> simp only [z2i, V.parts, zdk, z3b]
theorem z3n (x : V) (r : List V) (n dp d : Int) : z3b (x :: r) n dp d = if (z2i x n dp d).ok then z3b r (z2i x n dp d).n (z2i x n dp d).dp d else z2i x n dp d := by simp only [z3b]
theorem z44 (n dp d : Int) : z3b [] n dp d = ⟨true, n, dp, 0⟩ := by simp only [z3b]
theorem Z39 (x : V) : zzx x ≠ 0 := by cases x <;> simp [zzx]
theorem z9t {x : V} {n d : Int} (h : zbv x n d = 0) : n < 16384 ∧ d ≤ 64 ∧ z4f x = 0 := by
 unfold zbv at h
 split at h
 ·exact absurd h (Z39 x)
 ·rename_i hc; exact ⟨by omega, by omega, h⟩
theorem ztv {x y : V} (h : y ∈ x.parts) : SizeOf.sizeOf y < SizeOf.sizeOf x := by
 cases x <;> simp only [V.parts, List.not_mem_nil] at h
 ·have := List.sizeOf_lt_of_mem h; simp; omega
 ·obtain ⟨⟨s, z⟩, hz, rfl⟩ := List.mem_map.1 h
  have := List.sizeOf_lt_of_mem hz; simp at this ⊢; omega
 ·obtain ⟨⟨s, z⟩, hz, rfl⟩ := List.mem_map.1 h
  have := List.sizeOf_lt_of_mem hz; simp at this ⊢; omega
theorem V.byParts {P : V → Prop} (h : ∀ x, (∀ y, y ∈ x.parts → P y) → P x) (x : V) : P x :=
 h x (fun y hy => V.byParts h y)
termination_by SizeOf.sizeOf x
decreasing_by exact ztv hy
structure CtOk (c : Ct) (n : Int) : Prop where
 lo : n ≤ c.n
 ok : c.ok = true → c.n ≤ 16384 ∧ c.why = 0
 bad : c.ok = false → c.why ≠ 0
theorem zcz {d : Int} : ∀ (l : List V), (∀ y, y ∈ l → ∀ n dp, CtOk (z2i y n dp d) n) → ∀ n dp, n ≤ 16384 → CtOk (z3b l n dp d) n
 | [], _, n, dp, hm => by rw [z44]; exact ⟨Int.le_refl _, fun _ => ⟨hm, rfl⟩, by simp⟩
 | x :: r, h, n, dp, hm => by
  have h1 := h x (by simp) n dp
  rw [z3n]
  split
  ·rename_i hk
   have h2 := zcz r (fun y hy => h y (by simp [hy])) _ (z2i x n dp d).dp (h1.ok hk).1
   exact ⟨Int.le_trans h1.lo h2.lo, h2.ok, h2.bad⟩
  ·exact h1
theorem z87 (x : V) : ∀ d n dp, CtOk (z2i x n dp d) n := by
 induction x using V.byParts with
 | _ x ih =>
 intro d n dp
 rw [z88]
 split
 ·rename_i h
  have := z9t h
  have h2 := zcz x.parts (fun y hy n dp => ih y hy (d + 1) n dp) (n + 1) (max dp d) (by omega)
  exact ⟨by have := h2.lo; omega, h2.ok, h2.bad⟩
 ·rename_i h; exact ⟨Int.le_refl _, by simp, fun _ => h⟩
def ctS (c : Ct) : Bool × S_value_count := (c.ok, ⟨c.n, c.dp, c.why⟩)
def zn3 (x : V) : Prop := ∀ n dp w d, -4611686018427387904 ≤ n → n ≤ 16384 → -4611686018427387904 ≤ d → d ≤ 65 → zfr ⟨n, dp, w⟩ x d = some (ctS (z2i x n dp d))
theorem Z96 (l : List V) (d : Int) (hl : ∀ y, y ∈ l → zn3 y) (hd : -4611686018427387904 ≤ d) (hd' : d ≤ 64) : ∀ k i n dp, k + i = l.length → -4611686018427387904 ≤ n → n ≤ 16384 → zed zfr (.list l) d i n dp 0 = some (ctS (z3b (l.drop i) n dp (d + 1)))
 | 0, i, n, dp, h, hn, hm => by
  rw [zhj]
  simp only [z5n, V.asList, z9z (by omega : ¬ i < l.length), cond_false, zee]
  rw [List.drop_of_length_le (by omega), z44]; rfl
 | k + 1, i, n, dp, h, hn, hm => by
  obtain ⟨x, hx, hdr⟩ := dropc (by omega : i < l.length)
  have hp := hl x (List.mem_of_getElem? hx) n dp 0 (d + 1) hn hm (by omega) (by omega)
  have hw : IntKind.i64.wrap (d + 1) = d + 1 := z4r (by omega) (by omega)
  rw [zhj]
  simp only [z5n, V.asList, zab (by omega : i < l.length), cond_true, hx, Option.bind_some, hw, hp, ctS]
  rw [hdr, z3n]
  have hf := z87 x (d + 1) n dp
  cases hk : (z2i x n dp (d + 1)).ok with
  | false => simp only [Bool.not_false, cond_true, Bool.false_eq_true, if_false, hk]
  | true =>
   have h1 := hf.ok hk
   have h2 := hf.lo
   simp only [Bool.not_true, cond_false, if_true]
   rw [h1.2, Z96 l d hl hd hd' k (i + 1) _ _ (by omega) (by omega) h1.1]; rfl
theorem Z98 (l : List (Str × V)) (d : Int) (hl : ∀ y, y ∈ l.map (·.2) → zn3 y) (hd : -4611686018427387904 ≤ d) (hd' : d ≤ 64) : ∀ k i n dp, k + i = l.length → -4611686018427387904 ≤ n → n ≤ 16384 → zec zfr l d i n dp 0 = some (ctS (z3b ((l.map (·.2)).drop i) n dp (d + 1)))
 | 0, i, n, dp, h, hn, hm => by
  rw [zhi]
  simp only [z5m, z9z (by omega : ¬ i < l.length), cond_false]
  rw [List.drop_of_length_le (by simp; omega), z44]; rfl
 | k + 1, i, n, dp, h, hn, hm => by
  obtain ⟨x, hx, _⟩ := dropc (by omega : i < l.length)
  have hx2 : (l.map (·.2))[i]? = some x.2 := by rw [List.getElem?_map, hx]; rfl
  obtain ⟨x', hx', hdr⟩ := dropc (by rw [List.length_map]; omega : i < (l.map (·.2)).length)
  rw [hx2] at hx'; injection hx' with hx'; subst hx'
  have hp := hl x.2 (List.mem_of_getElem? hx2) n dp 0 (d + 1) hn hm (by omega) (by omega)
  have hw : IntKind.i64.wrap (d + 1) = d + 1 := z4r (by omega) (by omega)
  rw [zhi]
  simp only [z5m, zab (by omega : i < l.length), cond_true, hx, Option.bind_some, hw, hp, ctS]
  rw [hdr, z3n]
  have hf := z87 x.2 (d + 1) n dp
  cases hk : (z2i x.2 n dp (d + 1)).ok with
  | false => simp only [Bool.not_false, cond_true, Bool.false_eq_true, if_false, hk]
  | true =>
   have h1 := hf.ok hk
   have h2 := hf.lo
   simp only [Bool.not_true, cond_false, if_true]
   rw [h1.2, Z98 l d hl hd hd' k (i + 1) _ _ (by omega) (by omega) h1.1]; rfl
theorem zxa (l : List (Str × V)) (d n dp : Int) (hl : ∀ y, y ∈ l.map (·.2) → zn3 y) (hd : -4611686018427387904 ≤ d) (hd' : d ≤ 64) (hn : -4611686018427387904 ≤ n) (hm : n ≤ 16384) : zo2 ⟨n, dp, 0⟩ l d = some (ctS (z3b (l.map (·.2)) n dp (d + 1))) := by
 rw [Z7z, zkw]
 exact Z98 l d hl hd hd' l.length 0 n dp (by omega) hn hm
theorem zxb (x : V) : zn3 x := by
 induction x using V.byParts with
 | _ x ih =>
 intro n dp w d hn hm hd hd'
 rw [Z80, zkx, z88]
 simp only [Z28, Option.bind_some]
 by_cases h : zbv x n d = 0
 ·have h0 := z9t h
  have hw : IntKind.i64.wrap (n + 1) = n + 1 := z4r (by omega) (by omega)
  have hmx : (if d > dp then d else dp) = max dp d := by omega
  rw [if_pos h, h, hw, hmx]
  have e0 : ((0 : Int) != 0) = false := rfl
  rw [e0, cond_false]
  cases x with
  | list l => exact Z96 l d ih hd (by omega) l.length 0 (n + 1) (max dp d) (by omega) (by omega) (by omega)
  | dict l =>
   show Option.bind (zo2 ⟨n + 1, max dp d, 0⟩ l d) (fun x => some (x.1, x.2)) = _
   rw [zxa l d _ _ ih hd (by omega) (by omega) (by omega)]; rfl
  | record c v l =>
   show Option.bind (zo2 ⟨n + 1, max dp d, 0⟩ l d) (fun x => some (x.1, x.2)) = _
   rw [zxa l d _ _ ih hd (by omega) (by omega) (by omega)]; rfl
  | nothing => have := h0.2.2; simp [z4f] at this
  | _ => simp only [V.parts, z44]; rfl
 ·rw [if_neg h]
  have e0 : (zbv x n d != 0) = true := by simpa using h
  rw [e0]; rfl
def z1o (x : V) : Int × Int := if (z2i x 0 0 1).ok then (0, 0) else ((z2i x 0 0 1).n, (z2i x 0 0 1).why)
def znb (x : V) : Int × Int × Int := if (z2i x 0 0 1).ok then ((z2i x 0 0 1).n, (z2i x 0 0 1).dp, 0) else (0, 0, (z2i x 0 0 1).why)
theorem zlu (x : V) : zi4 x = some (z1o x) := by
 simp only [zi4, zxb x 0 0 0 1 (by omega) (by omega) (by omega) (by omega), Option.bind_some, ctS, z1o]
 cases (z2i x 0 0 1).ok <;> rfl
theorem zbj (x : V) : zd3 x = some (z1o x) := by simp only [zd3, zlu, Option.bind_some]
def zqh (t : Term) : List Term := if t.kind = 8 then t.list else if t.kind = 9 ∨ t.kind = 10 then t.fields.map (·.2) else []
theorem zqg {t u : Term} (h : u ∈ zqh t) : SizeOf.sizeOf u < SizeOf.sizeOf t := by
 cases t with
 | mk k b i f s y r l d c v =>
 unfold zqh at h
 split at h
 ·have := List.sizeOf_lt_of_mem h; simp [Term.list] at this ⊢; omega
 ·split at h
  ·obtain ⟨⟨s, z⟩, hz, rfl⟩ := List.mem_map.1 h
   have := List.sizeOf_lt_of_mem hz; simp [Term.fields] at this ⊢; omega
  ·cases h
theorem Term.byParts {P : Term → Prop} (h : ∀ t, (∀ u, u ∈ zqh t → P u) → P t) (t : Term) : P t :=
 h t (fun u hu => Term.byParts h u)
termination_by SizeOf.sizeOf t
decreasing_by exact zqg hu
end Go.Proofs.YthidgpcbnieleaaGreatDoor

namespace Go.Proofs.YthidgpcbnieleaaGreatDoor
open Go Aw
set_option linter.unusedVariables false
set_option linter.unusedSimpArgs false
set_option maxRecDepth 8000
theorem zx6 (x : V) : zjq x = some (znb x) := by
 simp only [zjq, zxb x 0 0 0 1 (by omega) (by omega) (by omega) (by omega), Option.bind_some, ctS, znb]
 cases (z2i x 0 0 1).ok <;> rfl
end Go.Proofs.YthidgpcbnieleaaGreatDoor

namespace Go.Proofs.YthidgpcbnieleaaGreatDoor
open Go Aw
set_option linter.unusedVariables false
set_option linter.unusedSimpArgs false
set_option maxRecDepth 8000
theorem zl8 {α : Type} {b : Nat} {acc : List α} {x : α} (hb : b ≤ 1024) (h : acc.length ≤ 1073741824) : z8k b acc [x] = some (acc ++ [x]) := by
 have h1 : (acc.length + 1) * b ≤ (1073741824 + 1) * 1024 := Nat.mul_le_mul (by omega) hb
 unfold z8k
 rw [Nat.ble_eq_true_of_le (by simp only [List.length_cons, List.length_nil, Nat.zero_add]; omega)]; rfl
theorem zws {α : Type} {b : Nat} {l : List α} (hb : b ≤ 1024) (h : l.length ≤ 1073741824) : z8k b [] l = some l := by
 have h1 : l.length * b ≤ 1073741824 * 1024 := Nat.mul_le_mul h hb
 unfold z8k
 rw [Nat.ble_eq_true_of_le (by simp only [List.length_nil, Nat.zero_add]; omega)]; rfl
theorem zmx : ∀ {l : List Term} {u : Term}, u ∈ l → bkT u ≤ zt6 l
 | x :: r, u, h => by
  rw [zt6]; rcases List.mem_cons.1 h with rfl | h
  ·omega
  ·have := zmx h; omega
theorem zmz : ∀ {l : List (Str × Term)} {u : Str × Term}, u ∈ l → bkT u.2 ≤ zt7 l
 | (s, x) :: r, u, h => by
  rw [zt7]; rcases List.mem_cons.1 h with rfl | h
  ·show bkT x ≤ _; omega
  ·have := zmz h; omega
theorem zmy : ∀ (l : List Term), l.length ≤ zt6 l
 | [] => by simp
 | .mk k b i f s y r l dd c v :: q => by rw [zt6, List.length_cons, bkT]; have := zmy q; omega
theorem zn0 : ∀ (l : List (Str × Term)), l.length ≤ zt7 l
 | [] => by simp
 | (s, x) :: q => by rw [zt7, List.length_cons]; have := zn0 q; omega
theorem zf8 (t : Term) : bkT t = t.text.length + t.bytes.length + t.cls.length + zt6 t.list + zt7 t.fields + 12 := by cases t; rw [bkT]; rfl
theorem Z0k {t u : Term} (h : u ∈ t.list) : bkT u < bkT t := by have := zmx h; have := zf8 t; omega
theorem zsy {t : Term} {u : Str × Term} (h : u ∈ t.fields) : bkT u.2 < bkT t := by have := zmz h; have := zf8 t; omega
theorem zv6 (t : Term) : t.list.length ≤ bkT t := by have := zmy t.list; have := zf8 t; omega
theorem zol (t : Term) : t.fields.length ≤ bkT t := by have := zn0 t.fields; have := zf8 t; omega
theorem zru (t : Term) : t.bytes.length ≤ bkT t := by have := zf8 t; omega
theorem zcc {α β : Type} {l : List α} {f : α → β} {i : Nat} {x : α} (h : l[i]? = some x) : (l.take i).map f ++ [f x] = (l.take (i + 1)).map f := by
 obtain ⟨hi, rfl⟩ := List.getElem?_eq_some_iff.1 h
 rw [List.take_add_one, List.getElem?_eq_getElem hi, List.map_append]; rfl
end Go.Proofs.YthidgpcbnieleaaGreatDoor

namespace Go.Proofs.YthidgpcbnieleaaGreatDoor
open Go Aw
set_option linter.unusedVariables false
set_option linter.unusedSimpArgs false
set_option maxRecDepth 8000
theorem Z99 (t : Term) (hl : ∀ u, u ∈ t.list → z9r u = some (bu u)) (hb : t.list.length ≤ 1073741824) : ∀ k i, k + i = t.list.length → zcr z9r t ((t.list.take i).map bu) i = some (.list (t.list.map bu))
 | 0, i, h => by
  rw [zh3]
  simp only [z5h, z9z (by omega : ¬ i < t.list.length), cond_false]
  rw [List.take_of_length_le (by omega)]
 | k + 1, i, h => by
  obtain ⟨x, hx, _⟩ := dropc (by omega : i < t.list.length)
  rw [zh3]
  simp only [z5h, zab (by omega : i < t.list.length), cond_true, hx, Option.bind_some, hl x (List.mem_of_getElem? hx), zl8 (b := 16) (by omega) (show ((t.list.take i).map bu).length ≤ 1073741824 by simp; omega), zcc hx]
  exact Z99 t hl hb k (i + 1) (by omega)
theorem Z9b (l : List (Str × Term)) (hl : ∀ u, u ∈ l → z9r u.2 = some (bu u.2)) (hb : l.length ≤ 1073741824) : ∀ k i, k + i = l.length → ze7 z9r l ((l.take i).map buE) i = some (l.map buE)
 | 0, i, h => by
  rw [zh0]
  simp only [z5g, z9z (by omega : ¬ i < l.length), cond_false]
  rw [List.take_of_length_le (by omega)]
 | k + 1, i, h => by
  obtain ⟨x, hx, _⟩ := dropc (by omega : i < l.length)
  rw [zh0]
  simp only [z5g, zab (by omega : i < l.length), cond_true, hx, Option.bind_some, hl x (List.mem_of_getElem? hx), zl8 (b := 32) (x := (x.1, bu x.2)) (by omega) (show ((l.take i).map buE).length ≤ 1073741824 by simp; omega)]
  have : ((l.take i).map buE) ++ [(x.1, bu x.2)] = (l.take (i + 1)).map buE := zcc (f := buE) hx
  rw [this]
  exact Z9b l hl hb k (i + 1) (by omega)
theorem zih : ∀ (n : Nat) (t : Term), bkT t ≤ n → n ≤ 268435456 → z9r t = some (bu t) := by
 intro n
 induction n with
 | zero => intro t h _; have := zf8 t; omega
 | succ n ih =>
  intro t h hn
  have hl : ∀ u, u ∈ t.list → z9r u = some (bu u) := fun u hu => ih u (by have := Z0k hu; omega) (by omega)
  have hf : ∀ u, u ∈ t.fields → z9r u.2 = some (bu u.2) := fun u hu => ih u.2 (by have := zsy hu; omega) (by omega)
  have hd : ztw t.fields = some (t.fields.map buE) := by
   rw [Z7q, zkn]
   exact Z9b t.fields hf (by have := zol t; omega) t.fields.length 0 (by omega)
  have hll : zcr z9r t [] 0 = some (.list (t.list.map bu)) := Z99 t hl (by have := zv6 t; omega) t.list.length 0 (by omega)
  have hb := Z9r t
  rw [Z7r, zko]
  generalize bu t = x at hb
  cases hb with
  | bytes hk => simp only [hk, zws (by omega : 1 ≤ 1024) (show t.bytes.length ≤ 1073741824 by have := zru t; omega)]; rfl
  | list hk => simp only [hk, hll]; rfl
  | dict hk => simp only [hk, hd]; rfl
  | record hk => simp only [hk, hd]; rfl
  | alien hk =>
   have e : ∀ k : Int, 1 ≤ k → k ≤ 11 → (t.kind == k) = false := fun k h1 h2 => by simp; omega
   simp only [e 1 (by omega) (by omega), e 2 (by omega) (by omega), e 3 (by omega) (by omega), e 4 (by omega) (by omega), e 5 (by omega) (by omega), e 6 (by omega) (by omega), e 7 (by omega) (by omega), e 8 (by omega) (by omega),
    e 9 (by omega) (by omega), e 10 (by omega) (by omega), e 11 (by omega) (by omega), cond_false, zwt, Option.bind_some]
  | _ hk => simp only [hk]; rfl
theorem Z27 (t : Term) (h : bkT t ≤ 268435456) : z9r t = some (bu t) := zih _ t h (Nat.le_refl _)
end Go.Proofs.YthidgpcbnieleaaGreatDoor

namespace Go.Proofs.YthidgpcbnieleaaGreatDoor
open Go Aw
set_option linter.unusedVariables false
set_option linter.unusedSimpArgs false
set_option maxRecDepth 8000
def c3 (a b : Int) : Int := if a < b then -1 else if a > b then 1 else 0
def th (c d : Int) : Int := if c = 0 then d else c
def z54 : List Int → List Int → Int
 | [], [] => 0
 | [], _ :: _ => -1
 | _ :: _, [] => 1
 | a :: x, b :: y => th (c3 a b) (z54 x y)
theorem zmt (a b : Int) : c3 a b = -1 ∨ c3 a b = 0 ∨ c3 a b = 1 := by unfold c3; split; (· exact .inl rfl); split; (· exact .inr (.inr rfl)); exact .inr (.inl rfl)
theorem Z44 (a b : Int) : c3 b a = - c3 a b := by unfold c3; split <;> split <;> (try split) <;> (try split) <;> omega
theorem c3_zero {a b : Int} : c3 a b = 0 ↔ a = b := by unfold c3; split <;> (try split) <;> omega
theorem zkj (a : Int) : c3 a a = 0 := c3_zero.2 rfl
theorem c3_lt {a b : Int} : c3 a b = -1 ↔ a < b := by unfold c3; split <;> (try split) <;> omega
theorem zvz (a b k : Int) : c3 (a + k) (b + k) = c3 a b := by unfold c3; split <;> split <;> (try split) <;> (try split) <;> omega
theorem z83 (a b c : Int) : th (th a b) c = th a (th b c) := by unfold th; by_cases h : a = 0 <;> by_cases h2 : b = 0 <;> simp_all
theorem zm7 : ∀ x y, z54 x y = -1 ∨ z54 x y = 0 ∨ z54 x y = 1
 | [], [] => .inr (.inl rfl)
 | [], _ :: _ => .inl rfl
 | _ :: _, [] => .inr (.inr rfl)
 | a :: x, b :: y => by
  rw [z54]; unfold th; split
  ·exact zm7 x y
  ·exact zmt a b
theorem za0 : ∀ x y, z54 y x = - z54 x y
 | [], [] => rfl
 | [], _ :: _ => rfl
 | _ :: _, [] => rfl
 | a :: x, b :: y => by
  have := za0 x y
  have := Z44 a b
  rw [z54, z54]; unfold th; split <;> split <;> omega
theorem zew : ∀ x y z, z54 x y ≤ 0 → z54 y z ≤ 0 → z54 x z ≤ 0 ∧ (z54 x y < 0 ∨ z54 y z < 0 → z54 x z < 0)
 | [], [], [], _, _ => by simp [z54]
 | [], [], _ :: _, _, _ => by simp [z54]
 | [], _ :: _, [], _, h => by simp [z54] at h
 | [], _ :: _, _ :: _, _, _ => by simp [z54]
 | _ :: _, [], _, h, _ => by simp [z54] at h
 | _ :: _, _ :: _, [], _, h => by simp [z54] at h
 | a :: x, b :: y, c :: z, h1, h2 => by
  have ih := zew x y z
  have ra := zmt a b; have rb := zmt b c; have rc := zmt a c
  have za := @c3_zero a b; have zb := @c3_zero b c; have zc := @c3_zero a c
  have la := @c3_lt a b; have lb := @c3_lt b c; have lc := @c3_lt a c
  rw [z54] at h1 h2
  rw [z54, z54, z54]
  unfold th at h1 h2 ⊢
  by_cases e1 : c3 a b = 0
  ·rw [if_pos e1] at h1 ⊢
   by_cases e2 : c3 b c = 0
   ·rw [if_pos e2] at h2 ⊢
    rw [if_pos (by omega : c3 a c = 0)]
    exact ih h1 h2
   ·rw [if_neg e2] at h2 ⊢
    have : c3 a c = -1 := by omega
    rw [if_neg (by omega), this]; omega
  ·rw [if_neg e1] at h1 ⊢
   by_cases e2 : c3 b c = 0
   ·rw [if_pos e2] at h2 ⊢
    have : c3 a c = -1 := by omega
    rw [if_neg (by omega), this]; omega
   ·rw [if_neg e2] at h2 ⊢
    have : c3 a c = -1 := by omega
    rw [if_neg (by omega), this]; omega
theorem zj1 (a b : Int) : (bif decide (a < b) then some (-1 : Int) else bif decide (a > b) then some 1 else some 0) = some (c3 a b) := by
 unfold c3
 by_cases h : a < b
 ·rw [decide_eq_true h, if_pos h]; rfl
 ·rw [decide_eq_false h, if_neg h, cond_false]
  by_cases h2 : a > b
  ·rw [decide_eq_true h2, if_pos h2]; rfl
  ·rw [decide_eq_false h2, if_neg h2]; rfl
def cmpS (a b : Str) : Int := if Op.bytesLess a b then -1 else if a == b then 0 else 1
def z90 : Str → List Int
 | [] => [0]
 | c :: r => ((c.toNat : Int) + 1) :: z90 r
theorem Z0j (a b : UInt8) (x y : Str) : Op.bytesLess (a :: x) (b :: y) = (a < b || (a == b && Op.bytesLess x y)) := rfl
theorem zj0 (a b : UInt8) (x y : Str) : cmpS (a :: x) (b :: y) = th (c3 ((a.toNat : Int) + 1) ((b.toNat : Int) + 1)) (cmpS x y) := by
 unfold cmpS
 rw [Z0j]
 rcases Nat.lt_trichotomy a.toNat b.toNat with h | h | h
 ·have h1 : a < b := UInt8.lt_iff_toNat_lt.2 h
  have : c3 ((a.toNat : Int) + 1) ((b.toNat : Int) + 1) = -1 := c3_lt.2 (by omega)
  rw [this]; simp [h1, th]
 ·have h1 : a = b := UInt8.toNat_inj.1 h
  subst h1
  have : c3 ((a.toNat : Int) + 1) ((a.toNat : Int) + 1) = 0 := zkj _
  rw [this]
  have h2 : ¬ a < a := by rw [UInt8.lt_iff_toNat_lt]; omega
  simp [h2, th]
 ·have h1 : ¬ a < b := by rw [UInt8.lt_iff_toNat_lt]; omega
  have h2 : (a == b) = false := by rw [beq_eq_false_iff_ne]; intro e; subst e; omega
  have : c3 ((a.toNat : Int) + 1) ((b.toNat : Int) + 1) = 1 := by unfold c3; rw [if_neg (by omega), if_pos (by omega)]
  have h3 : a ≠ b := by simpa using h2
  rw [this]; simp [h1, h2, th, h3]
theorem zex : ∀ (a b : Str) (r s : List Int), z54 (z90 a ++ r) (z90 b ++ s) = th (cmpS a b) (z54 r s)
 | [], [], r, s => by show th (c3 0 0) _ = _; rfl
 | [], b :: y, r, s => by
  have : c3 0 ((b.toNat : Int) + 1) = -1 := c3_lt.2 (by omega)
  show th (c3 0 ((b.toNat : Int) + 1)) _ = _
  rw [this]; rfl
 | a :: x, [], r, s => by
  have : c3 ((a.toNat : Int) + 1) 0 = 1 := by unfold c3; rw [if_neg (by omega), if_pos (by omega)]
  show th (c3 ((a.toNat : Int) + 1) 0) _ = _
  rw [this]; rfl
 | a :: x, b :: y, r, s => by
  show th (c3 ((a.toNat : Int) + 1) ((b.toNat : Int) + 1)) (z54 (z90 x ++ r) (z90 y ++ s)) = _
  rw [zex x y r s, zj0, z83]
theorem zpt (a b : Str) : zk0 a b = some (cmpS a b) := by
 simp only [zk0, cmpS]
 cases h : Op.bytesLess a b with
 | true => rfl
 | false => simp only [cond_false, Bool.false_or, Bool.false_eq_true, if_false]; cases a == b <;> rfl
def trI (b : Bool) : Int := if b then 1 else 0
noncomputable def plV (f : Nat) : Int := if znc .u64 (f : Int) 63 = 1 then Z8r .u64 f else orK .u64 f 9223372036854775808
mutual
noncomputable def z4y : V → V → Int
 | .bool a, y => match y with | .bool b => c3 (trI a) (trI b) | y => c3 2 (z1k y)
 | .int a, y => match y with | .int b => c3 a b | y => c3 3 (z1k y)
 | .float a, y => match y with | .float b => c3 (plV a) (plV b) | y => c3 4 (z1k y)
 | .text a, y => match y with | .text b => cmpS a b | y => c3 5 (z1k y)
 | .bytes a, y => match y with | .bytes b => cmpS a b | y => c3 6 (z1k y)
 | .ref a, y => match y with | .ref b => c3 a b | y => c3 7 (z1k y)
 | .list a, y => match y with | .list b => z60 a b | y => c3 8 (z1k y)
 | .dict a, y => match y with | .dict b => zft a b | y => c3 9 (z1k y)
 | .record c v a, y => match y with | .record c' v' b => th (cmpS c c') (th (c3 v v') (zft a b)) | y => c3 10 (z1k y)
 | .nil, y => c3 1 (z1k y)
 | .nothing, y => c3 11 (z1k y)
 | .alien _, y => c3 0 (z1k y)
noncomputable def z60 : List V → List V → Int
 | [], y => match y with | [] => 0 | _ :: _ => -1
 | a :: x, y => match y with | [] => 1 | b :: y => th (z4y a b) (z60 x y)
noncomputable def zft : List (Str × V) → List (Str × V) → Int
 | [], y => match y with | [] => 0 | _ :: _ => -1
 | (s, a) :: x, y => match y with | [] => 1 | (t, b) :: y => th (th (cmpS s t) (z4y a b)) (zft x y)
end
mutual
noncomputable def key : V → List Int
 | .nil => [1]
 | .bool b => [2, trI b]
 | .int i => [3, i]
 | .float f => [4, plV f]
 | .text s => 5 :: z90 s
 | .bytes s => 6 :: z90 s
 | .ref i => [7, i]
 | .list l => 8 :: zkc l
 | .dict l => 9 :: zey l
 | .record c v l => 10 :: (z90 c ++ (v :: zey l))
 | .nothing => [11]
 | .alien _ => [0]
noncomputable def zkc : List V → List Int
 | [] => [0]
 | x :: r => 1 :: (key x ++ zkc r)
noncomputable def zey : List (Str × V) → List Int
 | [] => [0]
 | (s, x) :: r => 1 :: (z90 s ++ (key x ++ zey r))
end
theorem z4s (a b : Int) : th (c3 a a) b = b := by rw [zkj]; rfl
theorem zp4 (b : Int) : th b 0 = b := by unfold th; split <;> simp_all
theorem zm8 (x : V) : ∃ r, key x = z1k x :: r := by cases x <;> exact ⟨_, by rw [key]; rfl⟩
theorem z6h {x y : V} (h : z1k x ≠ z1k y) (r s : List Int) : z54 (key x ++ r) (key y ++ s) = th (c3 (z1k x) (z1k y)) (z54 r s) := by
 obtain ⟨a, ha⟩ := zm8 x
 obtain ⟨b, hb⟩ := zm8 y
 rw [ha, hb]
 show th (c3 _ _) _ = _
 have : c3 (z1k x) (z1k y) ≠ 0 := fun e => h (c3_zero.1 e)
 unfold th; rw [if_neg this, if_neg this]
mutual
theorem zzm : ∀ (x y : V) (r s : List Int), z54 (key x ++ r) (key y ++ s) = th (z4y x y) (z54 r s)
  | .nil, y, r, s => by
    cases y <;> first | (refine z6h (x := .nil) ?_ r s; simp [z1k]; done) | (rw [key]; show th (c3 1 1) _ = _; rw [z4y]; rfl)
  | .nothing, y, r, s => by
    cases y <;> first | (refine z6h (x := .nothing) ?_ r s; simp [z1k]; done) | (rw [key]; show th (c3 11 11) _ = _; rw [z4y]; rfl)
  | .alien t, y, r, s => by
    cases y <;> first | (refine z6h (x := .alien t) ?_ r s; simp [z1k]; done) | (rw [key, key]; show th (c3 0 0) _ = _; rw [z4y]; rfl)
  | .bool a, y, r, s => by
    cases y <;> first | (refine z6h (x := .bool a) ?_ r s; simp [z1k]; done) | (rw [key, key, z4y]; show th (c3 2 2) (th _ _) = _; rw [z4s]; rfl)
  | .int a, y, r, s => by
    cases y <;> first | (refine z6h (x := .int a) ?_ r s; simp [z1k]; done) | (rw [key, key, z4y]; show th (c3 3 3) (th _ _) = _; rw [z4s]; rfl)
  | .float a, y, r, s => by
    cases y <;> first | (refine z6h (x := .float a) ?_ r s; simp [z1k]; done) | (rw [key, key, z4y]; show th (c3 4 4) (th _ _) = _; rw [z4s]; rfl)
  | .ref a, y, r, s => by
    cases y <;> first | (refine z6h (x := .ref a) ?_ r s; simp [z1k]; done) | (rw [key, key, z4y]; show th (c3 7 7) (th _ _) = _; rw [z4s]; rfl)
  | .text a, y, r, s => by
    cases y <;> first | (refine z6h (x := .text a) ?_ r s; simp [z1k]; done) | (rw [key, key, z4y]; show th (c3 5 5) (z54 (z90 _ ++ r) (z90 _ ++ s)) = _; rw [z4s, zex])
  | .bytes a, y, r, s => by
    cases y <;> first | (refine z6h (x := .bytes a) ?_ r s; simp [z1k]; done) | (rw [key, key, z4y]; show th (c3 6 6) (z54 (z90 _ ++ r) (z90 _ ++ s)) = _; rw [z4s, zex])
  | .list a, y, r, s => by
    cases y <;> first | (refine z6h (x := .list a) ?_ r s; simp [z1k]; done) | (rw [key, key, z4y]; show th (c3 8 8) (z54 (zkc _ ++ r) (zkc _ ++ s)) = _; rw [z4s, zxe])
  | .dict a, y, r, s => by
    cases y <;> first | (refine z6h (x := .dict a) ?_ r s; simp [z1k]; done) | (rw [key, key, z4y]; show th (c3 9 9) (z54 (zey _ ++ r) (zey _ ++ s)) = _; rw [z4s, zrx])
  | .record c v a, y, r, s => by
    cases y <;> first
      | (refine z6h (x := .record c v a) ?_ r s; simp [z1k]; done)
      | (rw [key, key, z4y]
         show th (c3 10 10) (z54 ((z90 _ ++ (_ :: zey _)) ++ r) ((z90 _ ++ (_ :: zey _)) ++ s)) = _
         rw [z4s, List.append_assoc, List.append_assoc, zex]
         show th _ (th (c3 _ _) (z54 (zey _ ++ r) (zey _ ++ s))) = _
         rw [zrx, z83, z83])
theorem zxe : ∀ (x y : List V) (r s : List Int), z54 (zkc x ++ r) (zkc y ++ s) = th (z60 x y) (z54 r s)
 | [], [], r, s => by rw [zkc, z60]; rfl
 | [], b :: y, r, s => by rw [zkc, zkc, z60]; rfl
 | a :: x, [], r, s => by rw [zkc, zkc, z60]; rfl
 | a :: x, b :: y, r, s => by
  rw [zkc, zkc, z60]
  show th (c3 1 1) (z54 ((key a ++ zkc x) ++ r) ((key b ++ zkc y) ++ s)) = _
  rw [z4s, List.append_assoc, List.append_assoc, zzm a b, zxe x y r s, z83]
theorem zrx : ∀ (x y : List (Str × V)) (r s : List Int), z54 (zey x ++ r) (zey y ++ s) = th (zft x y) (z54 r s)
 | [], [], r, s => by rw [zey, zft]; rfl
 | [], (t, b) :: y, r, s => by rw [zey, zey, zft]; rfl
 | (u, a) :: x, [], r, s => by rw [zey, zey, zft]; rfl
 | (u, a) :: x, (t, b) :: y, r, s => by
  rw [zey, zey, zft]
  show th (c3 1 1) (z54 ((z90 u ++ (key a ++ zey x)) ++ r) ((z90 t ++ (key b ++ zey y)) ++ s)) = _
  simp only [List.append_assoc]
  rw [z4s, zex, zzm a b, zrx x y r s, z83, z83]
end
theorem zk4 (x y : V) : z4y x y = z54 (key x) (key y) := by
 have := zzm x y [] []
 rw [List.append_nil, List.append_nil] at this
 rw [this]; exact (zp4 _).symm
end Go.Proofs.YthidgpcbnieleaaGreatDoor

namespace Go.Proofs.YthidgpcbnieleaaGreatDoor
open Go Aw
set_option linter.unusedVariables false
set_option linter.unusedSimpArgs false
set_option maxRecDepth 8000
def Fine (x : V) : Prop := ∃ n dp d, (z2i x n dp d).ok = true
theorem zi2 {d : Int} : ∀ {l : List V} {n dp : Int}, (z3b l n dp d).ok = true → ∀ y, y ∈ l → ∃ n dp, (z2i y n dp d).ok = true
 | x :: r, n, dp, h, y, hy => by
  rw [z3n] at h
  cases hk : (z2i x n dp d).ok with
  | false => rw [if_neg (by simp [hk])] at h; rw [hk] at h; cases h
  | true =>
   rw [if_pos hk] at h
   rcases List.mem_cons.1 hy with rfl | hy
   ·exact ⟨n, dp, hk⟩
   ·exact zi2 h y hy
theorem Fine.own {x : V} (h : Fine x) : z4f x = 0 ∧ ∀ y, y ∈ x.parts → Fine y := by
 obtain ⟨n, dp, d, h⟩ := h
 rw [z88] at h
 split at h
 ·rename_i ho
  exact ⟨(z9t ho).2.2, fun y hy => let ⟨n', dp', h'⟩ := zi2 h y hy; ⟨n', dp', _, h'⟩⟩
 ·cases h
theorem zf6 {x : V} (h : (z1o x).2 = 0) : Fine x ∧ z1o x = (0, 0) := by
 unfold z1o at h ⊢
 cases hk : (z2i x 0 0 1).ok with
 | true => exact ⟨⟨0, 0, 1, hk⟩, rfl⟩
 | false =>
  rw [if_neg (by simp [hk])] at h
  exact absurd h ((z87 x 1 0 0).bad hk)
theorem zt5 {a : Int} (h : a ≠ 0) : (a != 0) = true := by simpa using h
theorem zdl {l : List Str} (h : z3e l = 0) : l.length ≤ 4096 := by
 unfold z3e at h
 split at h
 ·cases h
 ·omega
theorem z6c {l : List V} (h : z4f (.list l) = 0) : l.length ≤ 4096 := by
 simp only [z4f] at h
 split at h
 ·cases h
 ·omega
theorem zm1 {c : Str} {v : Int} {l : List (Str × V)} (h : z4f (.record c v l) = 0) : (1 ≤ v ∧ v ≤ 1000) ∧ l.length ≤ 4096 := by
 simp only [z4f] at h
 split at h
 ·cases h
 ·split at h
  ·cases h
  ·have := zdl h; rw [List.length_map] at this; omega
theorem zie {l : List (Str × V)} (h : z4f (.dict l) = 0) : l.length ≤ 4096 := by
 have := zdl h; rwa [List.length_map] at this
end Go.Proofs.YthidgpcbnieleaaGreatDoor

namespace Go.Proofs.YthidgpcbnieleaaGreatDoor
open Go Aw
set_option linter.unusedVariables false
set_option linter.unusedSimpArgs false
set_option maxRecDepth 8000
theorem zpo (a b : Int) : zny a b = some (c3 a b) := zj1 a b
theorem Z2c (a b : Int) : zu3 a b = some (c3 a b) := zj1 a b
theorem Z2d (a b : Int) : zu6 a b = some (c3 a b) := zj1 a b
theorem zbo (a b : Int) : zu8 a b = some (c3 a b) := zj1 a b
theorem Z2b (b : Bool) : zqq b = some (trI b) := by cases b <;> rfl
theorem Z29 (f : Nat) : znw f = some (plV f) := by
 unfold znw plV
 by_cases h : znc .u64 (f : Int) 63 = 1
 ·rw [if_pos h, h]; rfl
 ·rw [if_neg h]
  have : (znc .u64 (f : Int) 63 == 1) = false := by simpa using h
  rw [this]; rfl
theorem Z6r {i n : Nat} (h : n ≤ i) : decide ((i : Int) ≥ (n : Int)) = true := decide_eq_true (by omega)
theorem Z6s {i n : Nat} (h : ¬ n ≤ i) : decide ((i : Int) ≥ (n : Int)) = false := decide_eq_false (by omega)
theorem zcb (c d : Int) : (bif c != 0 then some c else some d) = some (th c d) := by
 unfold th
 by_cases h : c = 0
 ·subst h; rfl
 ·have : (c != 0) = true := by simpa using h
  rw [this, if_neg h]; rfl
theorem zkk (a b : UInt8) : zqr a b = some (c3 ((a.toNat : Int) + 1) ((b.toNat : Int) + 1)) := by
 have h1 : ∀ x : UInt8, znz x = some false := fun x => by unfold znz; simp
 simp only [zqr, h1, Option.bind_some, cond_false, zvz]
 exact zj1 _ _
theorem zsx (a b : Str) : ∀ k i, k + i = a.length → i ≤ b.length → zhu a b i = some (cmpS (a.drop i) (b.drop i))
 | 0, i, h, hb => by
  rw [zht]
  simp only [z6w, z9z (by omega : ¬ i < a.length), cond_false]
  rw [List.drop_of_length_le (by omega : a.length ≤ i)]
  by_cases hl : a.length < b.length
  ·obtain ⟨y, hy, hd⟩ := dropc (by omega : i < b.length)
   rw [zab hl, hd]; rfl
  ·rw [z9z hl, List.drop_of_length_le (by omega : b.length ≤ i)]; rfl
 | k + 1, i, h, hb => by
  obtain ⟨x, hx, hdx⟩ := dropc (by omega : i < a.length)
  rw [zht]
  simp only [z6w, zab (by omega : i < a.length), cond_true, hx, Option.bind_some]
  by_cases hl : i < b.length
  ·obtain ⟨y, hy, hdy⟩ := dropc hl
   rw [Z6s (by omega : ¬ b.length ≤ i), hdx, hdy, zj0]
   simp only [cond_false, hy, Option.bind_some, zkk, zsx a b k (i + 1) (by omega) (by omega), zcb]
  ·rw [Z6r (by omega : b.length ≤ i), hdx, List.drop_of_length_le (by omega : b.length ≤ i)]; rfl
theorem zj2 (a b : Str) : zu9 a b = some (cmpS a b) := zsx a b a.length 0 (by omega) (by omega)
theorem Z8n (a b : List V) (hab : ∀ x, x ∈ a → ∀ y, y ∈ b → z9s x y = some (z4y x y)) : ∀ k i, k + i = a.length → i ≤ b.length → zeo z9s a b i = some (z60 (a.drop i) (b.drop i))
 | 0, i, h, hb => by
  rw [zhx]
  simp only [z5w, z9z (by omega : ¬ i < a.length), cond_false]
  rw [List.drop_of_length_le (by omega : a.length ≤ i)]
  by_cases hl : a.length < b.length
  ·obtain ⟨y, hy, hd⟩ := dropc (by omega : i < b.length)
   rw [zab hl, hd, z60]; rfl
  ·rw [z9z hl, List.drop_of_length_le (by omega : b.length ≤ i), z60]; rfl
 | k + 1, i, h, hb => by
  obtain ⟨x, hx, hdx⟩ := dropc (by omega : i < a.length)
  rw [zhx]
  simp only [z5w, zab (by omega : i < a.length), cond_true, hx, Option.bind_some]
  by_cases hl : i < b.length
  ·obtain ⟨y, hy, hdy⟩ := dropc hl
   rw [Z6s (by omega : ¬ b.length ≤ i), hdx, hdy, z60]
   simp only [cond_false, hy, Option.bind_some, hab x (List.mem_of_getElem? hx) y (List.mem_of_getElem? hy), Z8n a b hab k (i + 1) (by omega) (by omega), zcb]
  ·rw [Z6r (by omega : b.length ≤ i), hdx, List.drop_of_length_le (by omega : b.length ≤ i), z60]; rfl
theorem zvd (p q : Str × V) (h : z9s p.2 q.2 = some (z4y p.2 q.2)) : zjw p q = some (th (cmpS p.1 q.1) (z4y p.2 q.2)) := by
 rw [Z7u, zkr]
 simp only [zpt, Option.bind_some, h, zcb]
theorem Z8p (a b : List (Str × V)) (hab : ∀ x, x ∈ a → ∀ y, y ∈ b → z9s x.2 y.2 = some (z4y x.2 y.2)) : ∀ k i, k + i = a.length → i ≤ b.length → zep zjw a b i = some (zft (a.drop i) (b.drop i))
 | 0, i, h, hb => by
  rw [zi0]
  simp only [z5x, z9z (by omega : ¬ i < a.length), cond_false]
  rw [List.drop_of_length_le (by omega : a.length ≤ i)]
  by_cases hl : a.length < b.length
  ·obtain ⟨y, hy, hd⟩ := dropc (by omega : i < b.length)
   rw [zab hl, hd, zft]; rfl
  ·rw [z9z hl, List.drop_of_length_le (by omega : b.length ≤ i), zft]; rfl
 | k + 1, i, h, hb => by
  obtain ⟨x, hx, hdx⟩ := dropc (by omega : i < a.length)
  rw [zi0]
  simp only [z5x, zab (by omega : i < a.length), cond_true, hx, Option.bind_some]
  obtain ⟨sx, vx⟩ := x
  by_cases hl : i < b.length
  ·obtain ⟨y, hy, hdy⟩ := dropc hl
   obtain ⟨sy, vy⟩ := y
   rw [Z6s (by omega : ¬ b.length ≤ i), hdx, hdy, zft]
   simp only [cond_false, hy, Option.bind_some, zvd _ _ (hab _ (List.mem_of_getElem? hx) _ (List.mem_of_getElem? hy)), Z8p a b hab k (i + 1) (by omega) (by omega), zcb]
  ·rw [Z6r (by omega : b.length ≤ i), hdx, List.drop_of_length_le (by omega : b.length ≤ i), zft]; rfl
theorem zsh (a b : List (Str × V)) (hab : ∀ x, x ∈ a → ∀ y, y ∈ b → z9s x.2 y.2 = some (z4y x.2 y.2)) : zoa a b = some (zft a b) := by
 rw [Z8c, zl7]
 exact Z8p a b hab a.length 0 (by omega) (by omega)
theorem zzj (a b : List V) (hab : ∀ x, x ∈ a → ∀ y, y ∈ b → z9s x y = some (z4y x y)) : zo9 a b = some (z60 a b) := by
 rw [Z8b, zl6]
 exact Z8n a b hab a.length 0 (by omega) (by omega)
theorem zr1 {x y : V} (h : z1k x ≠ z1k y) : z4y x y = c3 (z1k x) (z1k y) := by
 rw [zk4]
 have := z6h h [] []
 rw [List.append_nil, List.append_nil] at this
 rw [this]; exact zp4 _
theorem Z2a (x : V) : ∀ y, Fine x → Fine y → z9s x y = some (z4y x y) := by
  induction x using V.byParts with
  | _ x ih =>
  intro y hx hy
  have hpx := hx.own.2
  have hpy := hy.own.2
  have e0 : ((0 : Int) != 0) = false := rfl
  rw [Z7v, zks]
  simp only [zx8, zpo, Option.bind_some]
  by_cases hk : z1k x = z1k y
  · rw [hk, zkj, e0, cond_false]
    cases x with
    | nil => cases y <;> first | (simp [z1k] at hk; done) | (rw [z4y]; rfl)
    | nothing => have := hx.own.1; simp [z4f] at this
    | alien t => have := hx.own.1; simp [z4f] at this
    | bool a => cases y <;> first | (simp [z1k] at hk; done) | (rw [z4y]; simp only [V.isBool, V.asBool, V.theBool, cond_true, Z2b, Option.bind_some, zpo])
    | int a => cases y <;> first | (simp [z1k] at hk; done) | (rw [z4y]; simp only [V.isBool, V.isInt, V.asInt, V.theInt, cond_true, cond_false, Option.bind_some, Z2c])
    | float a => cases y <;> first | (simp [z1k] at hk; done) | (rw [z4y]; simp only [V.isBool, V.isInt, V.isFloat, V.asFloat, V.theFloat, cond_true, cond_false, Option.bind_some, Z29, Z2d])
    | text a => cases y <;> first | (simp [z1k] at hk; done) | (rw [z4y]; simp only [V.isBool, V.isInt, V.isFloat, V.isText, V.asText, V.theText, cond_true, cond_false, Option.bind_some, zpt])
    | bytes a => cases y <;> first | (simp [z1k] at hk; done) | (rw [z4y]; simp only [V.isBool, V.isInt, V.isFloat, V.isText, V.isBytes, V.asBytes, V.theBytes, cond_true, cond_false, Option.bind_some, zj2])
    | ref a => cases y <;> first | (simp [z1k] at hk; done) | (rw [z4y]; simp only [V.isBool, V.isInt, V.isFloat, V.isText, V.isBytes, V.isRef, V.asRef, V.theRef, cond_true, cond_false, Option.bind_some, zbo])
    | list a =>
      cases y <;> first
        | (simp [z1k] at hk; done)
        | (rename_i b
           rw [z4y]
           simp only [V.isBool, V.isInt, V.isFloat, V.isText, V.isBytes, V.isRef, V.isList, V.asList, V.theList, cond_true, cond_false, Option.bind_some]
           rw [zzj a b (fun u hu v hv => ih u hu v (hpx u hu) (hpy v hv))]; rfl)
    | dict a =>
      cases y <;> first
        | (simp [z1k] at hk; done)
        | (rename_i b
           rw [z4y]
           simp only [V.isBool, V.isInt, V.isFloat, V.isText, V.isBytes, V.isRef, V.isList, V.isDict, V.asDict, V.theDict, cond_true, cond_false, Option.bind_some]
           rw [zsh a b (fun u hu v hv => ih u.2 (List.mem_map_of_mem hu) v.2 (hpx _ (List.mem_map_of_mem hu)) (hpy _ (List.mem_map_of_mem hv)))]; rfl)
    | record c v a =>
      cases y <;> first
        | (simp [z1k] at hk; done)
        | (rename_i b
           rw [z4y]
           simp only [V.isBool, V.isInt, V.isFloat, V.isText, V.isBytes, V.isRef, V.isList, V.isDict, V.isRec, V.asRec, V.theRec, cond_true, cond_false, Option.bind_some, zpt, zpo]
           rw [zsh a b (fun u hu v hv => ih u.2 (List.mem_map_of_mem hu) v.2 (hpx _ (List.mem_map_of_mem hu)) (hpy _ (List.mem_map_of_mem hv)))]
           simp only [Option.bind_some, zcb])
  · have h2 : c3 (z1k x) (z1k y) ≠ 0 := fun e => hk (c3_zero.1 e)
    have e1 : (c3 (z1k x) (z1k y) != 0) = true := by simpa using h2
    rw [e1, cond_true, zr1 hk]
noncomputable def zbq (x y : V) : Bool := (z1o x).2 == 0 && ((z1o y).2 == 0 && z4y x y == 0)
theorem z8j (x y : V) : zdv x y = some (zbq x y) := by
 simp only [zdv, zlu, Option.bind_some, zbq]
 by_cases hx : (z1o x).2 = 0
 ·have ex : ((z1o x).2 == 0) = true := by simpa using hx
  rw [ex, cond_true, Bool.true_and]
  by_cases hy : (z1o y).2 = 0
  ·have ey : ((z1o y).2 == 0) = true := by simpa using hy
   rw [ey, cond_true, Bool.true_and, Z2a x y (zf6 hx).1 (zf6 hy).1]; rfl
  ·have ey : ((z1o y).2 == 0) = false := by simpa using hy
   rw [ey]; rfl
 ·have ex : ((z1o x).2 == 0) = false := by simpa using hx
  rw [ex]; rfl
end Go.Proofs.YthidgpcbnieleaaGreatDoor

namespace Go.Proofs.YthidgpcbnieleaaGreatDoor
open Go Aw
set_option linter.unusedVariables false
set_option linter.unusedSimpArgs false
set_option maxRecDepth 8000
mutual
def cnt : V → Int
 | .list l => 1 + cntL l
 | .dict l => 1 + cntD l
 | .record _ _ l => 1 + cntD l
 | _ => 1
def cntL : List V → Int
 | [] => 0
 | x :: r => cnt x + cntL r
def cntD : List (Str × V) → Int
 | [] => 0
 | (_, x) :: r => cnt x + cntD r
end
mutual
def dpt : V → Int
 | .list l => 1 + dptL l
 | .dict l => 1 + zvr l
 | .record _ _ l => 1 + zvr l
 | _ => 1
def dptL : List V → Int
 | [] => 0
 | x :: r => max (dpt x) (dptL r)
def zvr : List (Str × V) → Int
 | [] => 0
 | (_, x) :: r => max (dpt x) (zvr r)
end
theorem zmr : ∀ l, cntD l = cntL (l.map (·.2))
 | [] => by simp only [cntD, cntL, List.map_nil]
 | (s, x) :: r => by simp only [cntD, cntL, List.map_cons, zmr r]
theorem zmo : ∀ l, zvr l = dptL (l.map (·.2))
 | [] => by simp only [zvr, dptL, List.map_nil]
 | (s, x) :: r => by simp only [zvr, dptL, List.map_cons, zmo r]
theorem zmq (x : V) : cnt x = 1 + cntL x.parts := by cases x <;> simp only [cnt, V.parts, zmr, cntL] <;> rfl
theorem zdp (x : V) : dpt x = 1 + dptL x.parts := by cases x <;> simp only [dpt, V.parts, zmo, dptL] <;> rfl
inductive Near : V → Prop
 | mk {x : V} : z4f x = 0 → (∀ y, y ∈ x.parts → Near y) → Near x
theorem Near.own {x : V} (h : Near x) : z4f x = 0 := by cases h; assumption
theorem Near.part {x : V} (h : Near x) : ∀ y, y ∈ x.parts → Near y := by cases h; assumption
theorem z2b (x : V) : 1 ≤ cnt x ∧ 1 ≤ dpt x := by
 induction x using V.byParts with
 | _ x ih =>
  rw [zmq, zdp]
  have : ∀ l : List V, (∀ y, y ∈ l → 1 ≤ cnt y ∧ 1 ≤ dpt y) → 0 ≤ cntL l ∧ 0 ≤ dptL l := by
   intro l
   induction l with
   | nil => intro _; simp [cntL, dptL]
   | cons y r ihr =>
    intro h
    have h1 := h y (by simp)
    have h2 := ihr (fun z hz => h z (by simp [hz]))
    simp only [cntL, dptL]; omega
  have := this x.parts ih
  omega
theorem own_iff {x : V} {n d : Int} : zbv x n d = 0 ↔ n < 16384 ∧ d ≤ 64 ∧ z4f x = 0 := by
 constructor
 ·exact z9t
 ·rintro ⟨h1, h2, h3⟩
  unfold zbv; rw [if_neg (by omega)]; exact h3
theorem zv1 {x : V} (h : z4f x = 0) : zzx x = 2 := by cases x <;> first | rfl | (simp [z4f] at h)
structure Goes (x : V) : Prop where
 yes : ∀ n dp d, Near x → d - 1 ≤ dp → n + cnt x ≤ 16384 → d + dpt x - 1 ≤ 64 → z2i x n dp d = ⟨true, n + cnt x, max dp (d + dpt x - 1), 0⟩
 ok : ∀ n dp d, (z2i x n dp d).ok = true → Near x ∧ n + cnt x ≤ 16384 ∧ d + dpt x - 1 ≤ 64 ∧ (z2i x n dp d).n = n + cnt x
 long : ∀ n dp d, Near x → (z2i x n dp d).ok = false → (z2i x n dp d).why = 2
theorem Z36 {l : List V} (h : ∀ y, y ∈ l → Goes y) :
 (∀ n dp d, (∀ y, y ∈ l → Near y) → d - 1 ≤ dp → n + cntL l ≤ 16384 → d + dptL l - 1 ≤ 64 → z3b l n dp d = ⟨true, n + cntL l, max dp (d + dptL l - 1), 0⟩) ∧
 (∀ n dp d, n ≤ 16384 → d ≤ 65 → (z3b l n dp d).ok = true → (∀ y, y ∈ l → Near y) ∧ n + cntL l ≤ 16384 ∧ d + dptL l - 1 ≤ 64 ∧ (z3b l n dp d).n = n + cntL l) ∧
 (∀ n dp d, (∀ y, y ∈ l → Near y) → (z3b l n dp d).ok = false → (z3b l n dp d).why = 2) := by
 induction l with
 | nil =>
  refine ⟨fun n dp d _ hd _ _ => ?_, fun n dp d hn hd _ => ?_, fun n dp d _ hk => ?_⟩
  ·rw [z44, cntL, dptL]; congr 1 <;> omega
  ·rw [z44, cntL, dptL]; exact ⟨by simp, by omega, by omega, by simp⟩
  ·rw [z44] at hk; cases hk
 | cons x r ih =>
  have hx := h x (by simp)
  obtain ⟨i1, i2, i3⟩ := ih (fun y hy => h y (by simp [hy]))
  have hp := z2b x
  have hr : 0 ≤ cntL r ∧ 0 ≤ dptL r := by
   clear i1 i2 i3 ih h hx
   induction r with
   | nil => simp [cntL, dptL]
   | cons y q ihq => have := z2b y; simp only [cntL, dptL]; omega
  refine ⟨fun n dp d hnr hd hn hdd => ?_, fun n dp d hn hd hk => ?_, fun n dp d hnr hk => ?_⟩
  ·rw [cntL] at hn ⊢
   rw [dptL] at hdd ⊢
   have e := hx.yes n dp d (hnr x (by simp)) hd (by omega) (by omega)
   rw [z3n, e, if_pos rfl]
   rw [i1 _ _ d (fun y hy => hnr y (by simp [hy])) (by simp only; omega) (by simp only; omega) (by omega)]
   congr 1
   ·simp only; omega
   ·simp only; omega
  ·rw [z3n] at hk ⊢
   cases hk1 : (z2i x n dp d).ok with
   | false => rw [if_neg (by simp [hk1])] at hk; rw [hk1] at hk; cases hk
   | true =>
    rw [if_pos hk1] at hk
    rw [if_pos rfl]
    obtain ⟨a1, a2, a3, a4⟩ := hx.ok n dp d hk1
    rw [a4] at hk ⊢
    obtain ⟨b1, b2, b3, b4⟩ := i2 _ _ d (by omega) hd hk
    rw [cntL, dptL]
    refine ⟨fun y hy => ?_, by omega, by omega, by omega⟩
    rcases List.mem_cons.1 hy with rfl | hy
    ·exact a1
    ·exact b1 y hy
  ·rw [z3n] at hk ⊢
   cases hk1 : (z2i x n dp d).ok with
   | false => rw [if_neg (by simp [hk1])]; exact hx.long n dp d (hnr x (by simp)) hk1
   | true =>
    rw [if_pos hk1] at hk
    rw [if_pos rfl]
    exact i3 _ _ d (fun y hy => hnr y (by simp [hy])) hk
theorem goes (x : V) : Goes x := by
 induction x using V.byParts with
 | _ x ih =>
  obtain ⟨i1, i2, i3⟩ := Z36 ih
  have hp := z2b x
  refine ⟨fun n dp d hnr hd hn hdd => ?_, fun n dp d hk => ?_, fun n dp d hnr hk => ?_⟩
  ·rw [z88, if_pos (own_iff.2 ⟨by omega, by omega, hnr.own⟩)]
   rw [zmq] at hn ⊢
   rw [zdp] at hdd ⊢
   have hd0 := hp.2
   rw [zdp] at hd0
   rw [i1 _ _ (d + 1) hnr.part (by omega) (by omega) (by omega)]
   congr 1 <;> omega
  ·rw [z88] at hk ⊢
   by_cases ho : zbv x n d = 0
   ·rw [if_pos ho] at hk ⊢
    have h0 := z9t ho
    obtain ⟨b1, b2, b3, b4⟩ := i2 _ _ (d + 1) (by omega) (by omega) hk
    rw [zmq, zdp]
    exact ⟨.mk h0.2.2 b1, by omega, by omega, by omega⟩
   ·rw [if_neg ho] at hk; cases hk
  ·rw [z88] at hk ⊢
   by_cases ho : zbv x n d = 0
   ·rw [if_pos ho] at hk ⊢; exact i3 _ _ _ hnr.part hk
   ·rw [if_neg ho]
    have : zbv x n d = zzx x := by
     unfold zbv at ho ⊢
     split
     ·rfl
     ·rename_i hc; rw [if_neg hc] at ho; exact absurd hnr.own ho
    show zbv x n d = 2
    rw [this]; exact zv1 hnr.own
def Can (x : V) : Prop := Near x ∧ cnt x ≤ 16384 ∧ dpt x ≤ 64
theorem can_ok {x : V} : (z2i x 0 0 1).ok = true ↔ Can x := by
 constructor
 ·intro h
  obtain ⟨a, b, c, _⟩ := (goes x).ok 0 0 1 h
  exact ⟨a, by omega, by omega⟩
 ·rintro ⟨a, b, c⟩
  rw [(goes x).yes 0 0 1 a (by omega) (by omega) (by omega)]
theorem zta {x : V} (h : Can x) : znb x = (cnt x, dpt x, 0) := by
 have hp := z2b x
 unfold znb
 rw [if_pos (can_ok.2 h), (goes x).yes 0 0 1 h.1 (by omega) (by have := h.2.1; omega) (by have := h.2.2; omega)]
 simp only [Prod.mk.injEq, and_true]
 omega
theorem z2g {x : V} (h : Can x) : z1o x = (0, 0) := by unfold z1o; rw [if_pos (can_ok.2 h)]
theorem z5e {x : V} (h : ¬ Can x) : (z1o x).2 ≠ 0 := by
 unfold z1o
 have hk : (z2i x 0 0 1).ok = false := by
  cases hk : (z2i x 0 0 1).ok with
  | false => rfl
  | true => exact absurd (can_ok.1 hk) h
 rw [if_neg (by simp [hk])]
 exact (z87 x 1 0 0).bad hk
theorem zjg {x : V} (h : ¬ Can x) : znb x = (0, 0, (z1o x).2) ∧ (z1o x).2 ≠ 0 := by
 refine ⟨?_, z5e h⟩
 have hk : (z2i x 0 0 1).ok = false := by
  cases hk : (z2i x 0 0 1).ok with
  | false => rfl
  | true => exact absurd (can_ok.1 hk) h
 unfold znb z1o
 rw [if_neg (by simp [hk]), if_neg (by simp [hk])]
theorem zvx {x : V} (h : Can x) : Fine x := ⟨0, 0, 1, can_ok.2 h⟩
end Go.Proofs.YthidgpcbnieleaaGreatDoor

namespace Go.Proofs.YthidgpcbnieleaaGreatDoor
open Go Aw
set_option linter.unusedVariables false
set_option linter.unusedSimpArgs false
set_option maxRecDepth 8000
theorem zoh {b : Str} (h : z4f (.bytes b) = 0) : b.length ≤ 65536 := by
 simp only [z4f] at h; split at h <;> omega
end Go.Proofs.YthidgpcbnieleaaGreatDoor

namespace Go.Proofs.YthidgpcbnieleaaGreatDoor
open Go Aw
set_option linter.unusedVariables false
set_option linter.unusedSimpArgs false
set_option maxRecDepth 8000
theorem Z26 {n b : Nat} (hb : b ≤ 1024) (hn : n ≤ 1073741824) : zjl n b = some () := by
 have h1 : n * b ≤ 1073741824 * 1024 := Nat.mul_le_mul hn hb
 unfold zjl
 rw [Nat.ble_eq_true_of_le (by omega), Nat.ble_eq_true_of_le (by omega)]; rfl
theorem zff {α : Type} {l : List α} {i : Nat} {x : α} (h : l[i]? = some x) : l.take i ++ [x] = l.take (i + 1) := by
 rw [List.take_add_one, h]; rfl
theorem Z94 (l : List V) (hl : ∀ u, u ∈ l → zd4 u = some u) (hb : l.length ≤ 1073741824) : ∀ k i, k + i = l.length → zeb zd4 (.list l) (l.take i) i = some (.list l)
 | 0, i, h => by
  rw [zhe]
  simp only [z5l, V.asList, z9z (by omega : ¬ i < l.length), cond_false]
  rw [List.take_of_length_le (by omega)]
 | k + 1, i, h => by
  obtain ⟨x, hx, _⟩ := dropc (by omega : i < l.length)
  rw [zhe]
  simp only [z5l, V.asList, zab (by omega : i < l.length), cond_true, hx, Option.bind_some, hl x (List.mem_of_getElem? hx), zl8 (b := 16) (by omega) (show (l.take i).length ≤ 1073741824 by simp; omega), zff hx]
  exact Z94 l hl hb k (i + 1) (by omega)
theorem Z95 (l : List (Str × V)) (hl : ∀ u, u ∈ l → zd4 u.2 = some u.2) (hb : l.length ≤ 1073741824) : ∀ k i, k + i = l.length → zeg zd4 l (l.take i) i = some l
 | 0, i, h => by
  rw [zhl]
  simp only [z5p, z9z (by omega : ¬ i < l.length), cond_false]
  rw [List.take_of_length_le (by omega)]
 | k + 1, i, h => by
  obtain ⟨x, hx, _⟩ := dropc (by omega : i < l.length)
  rw [zhl]
  simp only [z5p, zab (by omega : i < l.length), cond_true, hx, Option.bind_some, hl x (List.mem_of_getElem? hx), zl8 (b := 32) (x := (x.1, x.2)) (by omega) (show (l.take i).length ≤ 1073741824 by simp; omega)]
  rw [show l.take i ++ [(x.1, x.2)] = l.take (i + 1) from zff hx]
  exact Z95 l hl hb k (i + 1) (by omega)
theorem zso (x : V) : Fine x → zd4 x = some x := by
 induction x using V.byParts with
 | _ x ih =>
 intro hx
 have hn := hx.own.1
 have hp : ∀ u, u ∈ x.parts → zd4 u = some u := fun u hu => ih u hu (hx.own.2 u hu)
 have hD : ∀ l : List (Str × V), l.length ≤ 4096 → (∀ u, u ∈ l → u.2 ∈ x.parts) → zu7 l = some l := fun l hl h => by
  rw [Z82, zkz, Z26 (by omega) (by omega), Option.bind_some]
  exact Z95 l (fun u hu => hp _ (h u hu)) (by omega) l.length 0 (by omega)
 rw [Z7w, zkt]
 cases x with
 | bytes b =>
  have hb := zoh hn
  simp only [V.isBytes, V.asBytes, cond_true, zws (by omega : 1 ≤ 1024) (show b.length ≤ 1073741824 by omega), Option.bind_some]
 | list l =>
  have hb := z6c hn
  simp only [V.isBytes, V.isList, V.asList, cond_true, cond_false, Z26 (by omega : 16 ≤ 1024) (show l.length ≤ 1073741824 by omega), Option.bind_some]
  exact Z94 l hp (by omega) l.length 0 (by omega)
 | dict l =>
  have hb := zie hn
  simp only [V.isBytes, V.isList, V.isDict, V.asDict, cond_true, cond_false, hD l hb (fun u hu => List.mem_map_of_mem hu), Option.bind_some]
 | record c v l =>
  have hb := (zm1 hn).2
  simp only [V.isBytes, V.isList, V.isDict, V.isRec, V.asRec, cond_true, cond_false, Option.bind_some, hD l hb (fun u hu => List.mem_map_of_mem hu)]
 | nothing => simp [z4f] at hn
 | _ => rfl
theorem z7b {x : V} (h : Can x) : z8q x = some (x, 0) := by
 simp only [z8q, zlu, z2g h, Option.bind_some]
 rw [show ((0 : Int) != 0) = false from rfl, cond_false, zso x (zvx h)]; rfl
theorem zvs {x : V} (h : ¬ Can x) : z8q x = some (.nil, (z1o x).2) := by
 simp only [z8q, zlu, Option.bind_some]
 rw [zt5 (z5e h), cond_true]
end Go.Proofs.YthidgpcbnieleaaGreatDoor

namespace Go.Proofs.YthidgpcbnieleaaGreatDoor
open Go Aw
set_option linter.unusedVariables false
set_option linter.unusedSimpArgs false
set_option maxRecDepth 8000
abbrev Stp := S_api_Step
def stN (n : Str) : Stp := S_api_Step.mk n false 0
def stA (i : Nat) : Stp := S_api_Step.mk [] true ((i : Nat) : Int)
theorem zbt : ∀ {l : List V} {y : V}, y ∈ l → cnt y ≤ cntL l ∧ dpt y ≤ dptL l
 | x :: r, y, h => by
  have hp : 0 ≤ cntL r ∧ 0 ≤ dptL r := by
   clear h
   induction r with
   | nil => simp [cntL, dptL]
   | cons z q ih => have := z2b z; simp only [cntL, dptL]; omega
  have hx := z2b x
  simp only [cntL, dptL]
  rcases List.mem_cons.1 h with rfl | h
  ·omega
  ·have := zbt h; omega
theorem z7j {x y : V} (h : Can x) (hy : y ∈ x.parts) : Can y := by
 have h1 := zbt hy
 have h2 := zmq x
 have h3 := zdp x
 obtain ⟨a, b, c⟩ := h
 exact ⟨a.part y hy, by omega, by omega⟩
theorem zc3 (l : List V) : 0 ≤ cntL l := by
 induction l with
 | nil => simp [cntL]
 | cons z q ih => have := z2b z; simp only [cntL]; omega
theorem zth {c : Int} : th c 0 = c := by
 unfold th; by_cases h : c = 0
 ·rw [if_pos h, h]
 ·rw [if_neg h]
theorem z92 (a b : Str) : cmpS a b = z54 (z90 a) (z90 b) := by
 have h := zex a b [] []
 rw [List.append_nil, List.append_nil] at h
 rw [h, show z54 [] [] = 0 from rfl, zth]
def zlt (a b : Str) : Prop := cmpS a b = -1
theorem z91 {a b c : Str} (h : zlt a b) (k : zlt b c) : zlt a c := by
 unfold zlt at *
 rw [z92] at *
 have := zew (z90 a) (z90 b) (z90 c) (by omega) (by omega)
 have h2 := this.2 (.inl (by omega))
 have := zm7 (z90 a) (z90 c)
 omega
theorem zvu (s : Str) : cmpS s s = 0 := by
 rw [z92]; have := za0 (z90 s) (z90 s); omega
theorem zj8 (a : Str) : ¬ zlt a a := by unfold zlt; rw [zvu]; omega
theorem Z9f {a b : Str} (h : leB b a = false) : zlt a b := by
 simp only [leB, Bool.or_eq_false_iff] at h
 have h1 : cmpS b a = 1 := by unfold cmpS; rw [if_neg (by simp [h.1]), if_neg (by simp [h.2])]
 unfold zlt
 rw [z92] at h1 ⊢
 have := za0 (z90 b) (z90 a)
 omega
theorem Z8l : ∀ {l : List Str} {p : Option Str}, zaj p l = true → l.Pairwise zlt ∧ ∀ q, p = some q → ∀ s, s ∈ l → zlt q s
 | [], _, _ => ⟨.nil, fun _ _ s hs => by cases hs⟩
 | s :: r, p, h => by
  simp only [zaj, Bool.and_eq_true] at h
  have ih := Z8l h.2
  refine ⟨.cons (fun x hx => ih.2 s rfl x hx) ih.1, fun q hq x hx => ?_⟩
  subst hq
  have h1 : zlt q s := Z9f (by simpa using h.1.2)
  rcases List.mem_cons.1 hx with rfl | hx
  ·exact h1
  ·exact z91 h1 (ih.2 s rfl x hx)
theorem zba {l : List Str} (h : z3e l = 0) : l.Pairwise zlt := by
 unfold z3e at h
 split at h
 ·cases h
 ·split at h
  ·rename_i h2; exact (Z8l h2).1
  ·cases h
end Go.Proofs.YthidgpcbnieleaaGreatDoor

namespace Go.Proofs.YthidgpcbnieleaaGreatDoor
open Go Aw
set_option linter.unusedVariables false
set_option linter.unusedSimpArgs false
set_option maxRecDepth 8000
theorem zry (s : Str) (c : UInt8) : decide (ixB s c ≥ 0) = s.contains c := by
 unfold ixB
 cases h : (List.range s.length).find? fun i => s.toArray[i]! == c with
 | some i =>
  have h1 := List.find?_some h
  have h2 := List.mem_of_find?_eq_some h
  rw [List.mem_range] at h2
  have h3 : s.toArray[i]! = s[i] := by rw [getElem!_pos _ _ (by simpa using h2)]; rfl
  rw [h3] at h1
  have h4 : s[i] = c := by simpa using h1
  rw [decide_eq_true (by simp : ((i : Nat) : Int) ≥ 0)]
  exact (List.contains_iff_mem.2 (by rw [← h4]; exact List.getElem_mem h2)).symm
 | none =>
  rw [List.find?_eq_none] at h
  cases hc : s.contains c with
  | false => rfl
  | true =>
   have hm := List.contains_iff_mem.1 hc
   obtain ⟨i, hi, e⟩ := List.mem_iff_getElem.1 hm
   have h3 : s.toArray[i]! = s[i] := by rw [getElem!_pos _ _ (by simpa using hi)]; rfl
   exact absurd (by rw [h3, e]; simp : (s.toArray[i]! == c) = true) (h i (List.mem_range.2 hi))
theorem zmg (s : Str) (c : UInt8) : zqs s c = some (ixB s c) := rfl
def zpc (p : UInt8 → Bool) (s : Str) (n : Nat) : Nat := ((s.drop n).takeWhile p).length
theorem zx3 (s of : Str) (a : Int) (hl : s.length ≤ 4611686018427387904) : ∀ k n, n + k = s.length → zh6 s a of (n : Int) = ziz s a ((n + zpc of.contains s n : Nat) : Int)
 | 0, n, h => by
  rw [zh5]
  simp only [z6t, z9z (by omega : ¬ n < s.length), cond_false, z9b]
  have e : zpc of.contains s n = 0 := by unfold zpc; rw [List.drop_of_length_le (by omega)]; rfl
  rw [e, Nat.add_zero]
  cases ziz s a (n : Int) <;> rfl
 | k + 1, n, h => by
  obtain ⟨c, hc, hd⟩ := dropc (by omega : n < s.length)
  rw [zh5]
  simp only [z6t, zab (by omega : n < s.length), cond_true, z3y, hc, Option.bind_some, zmg, zry, z9b]
  have e : zpc of.contains s n = if of.contains c then 1 + zpc of.contains s (n + 1) else 0 := by
   unfold zpc
   rw [hd, List.takeWhile_cons]
   cases of.contains c with
   | true => rw [if_pos rfl, if_pos rfl, List.length_cons]; omega
   | false => rfl
  cases hm : of.contains c with
  | true =>
   rw [hm, if_pos rfl] at e
   rw [cond_true, z4r (by omega) (by omega), show ((n : Int) + 1) = ((n + 1 : Nat) : Int) from by omega, zx3 s of a hl k (n + 1) (by omega), e]
   congr 2; omega
  | false =>
   rw [hm] at e
   rw [cond_false, e]
   show _ = ziz s a ((n + 0 : Nat) : Int)
   rw [Nat.add_zero]
   cases ziz s a (n : Int) <;> rfl
theorem zsl {α : Type} {s : List α} {a b : Nat} (h1 : a ≤ b) (h2 : b ≤ s.length) : ziz s (a : Int) (b : Int) = some ((s.take b).drop a) := by
 unfold ziz
 rw [decide_eq_true (by omega : (0 : Int) ≤ (a : Int)), decide_eq_true (by omega : (a : Int) ≤ (b : Int)), decide_eq_true (by omega : (b : Int) ≤ (s.length : Int))]; rfl
theorem Z24 (p : UInt8 → Bool) (s : Str) (n : Nat) (h : n ≤ s.length) : n + zpc p s n ≤ s.length := by
 unfold zpc
 have : ((s.drop n).takeWhile p).length ≤ (s.drop n).length := (List.takeWhile_prefix p).length_le
 rw [List.length_drop] at this; omega
theorem zje {s of : Str} {n : Nat} (hl : s.length ≤ 4611686018427387904) (h : n ≤ s.length) : zd1 s (n : Int) of = some ((s.drop n).takeWhile of.contains) := by
 have := Z24 of.contains s n h
 unfold zd1
 rw [zx3 s of _ hl (s.length - n) n (by omega), zsl (by omega) (by omega)]
 congr 1
 rw [List.drop_take, show n + zpc of.contains s n - n = zpc of.contains s n from by omega]
 unfold zpc
 exact (List.prefix_iff_eq_take.1 (List.takeWhile_prefix _)).symm
abbrev lowS : Str := [97, 98, 99, 100, 101, 102, 103, 104, 105, 106, 107, 108, 109, 110, 111, 112, 113, 114, 115, 116, 117, 118, 119, 120, 121, 122]
abbrev nmS : Str := [97, 98, 99, 100, 101, 102, 103, 104, 105, 106, 107, 108, 109, 110, 111, 112, 113, 114, 115, 116, 117, 118, 119, 120, 121, 122, 48, 49, 50, 51, 52, 53, 54, 55, 56, 57, 95]
theorem Z9d {p : UInt8 → Bool} (h : (List.range 256).all (fun n => p (UInt8.ofNat n)) = true) (c : UInt8) : p c = true := by
 have := List.all_eq_true.1 h c.toNat (List.mem_range.2 c.toNat_lt)
 rwa [UInt8.ofNat_toNat] at this
theorem zzh (c : UInt8) : lowS.contains c = zzi c := by
 have := Z9d (p := fun c => lowS.contains c == zzi c) (by decide +kernel) c
 simpa using this
theorem Z2i (c : UInt8) : nmS.contains c = zvw c := by
 have := Z9d (p := fun c => nmS.contains c == zvw c) (by decide +kernel) c
 simpa using this
theorem zlh {p : UInt8 → Bool} : ∀ s : Str, (s.takeWhile p == s) = s.all p
 | [] => rfl
 | c :: r => by
  rw [List.takeWhile_cons, List.all_cons]
  cases p c with
  | true => rw [if_pos rfl, ← zlh r]; simp
  | false => rfl
theorem zio (s : Str) : zju s = some (z3h s) := by
 unfold zju
 cases s with
 | nil => rfl
 | cons c r =>
  have he : ((c :: r) == ([] : Str)) = false := rfl
  have h0 : (c :: r)[0]? = some c := rfl
  rw [he]
  simp only [Bool.not_false, cond_true, h0, Option.bind_some, zmg, zry, zzh]
  by_cases h32 : (c :: r).length ≤ 32
  ·rw [decide_eq_true (by omega : (((c :: r).length : Nat) : Int) ≤ 32), cond_true]
   have hs := zje (s := c :: r) (of := nmS) (n := 0) (by omega) (by omega)
   rw [show ((0 : Nat) : Int) = 0 from rfl, List.drop_zero] at hs
   have hf : (nmS.contains : UInt8 → Bool) = zvw := funext Z2i
   rw [hf] at hs
   unfold z3h
   rw [Nat.ble_eq_true_of_le h32, Nat.ble_eq_true_of_le (by simp : 1 ≤ (c :: r).length), List.headD_cons]
   cases zzi c with
   | true => rw [cond_true, hs, Option.bind_some, zlh]; rfl
   | false => rfl
  ·rw [decide_eq_false (by omega : ¬ (((c :: r).length : Nat) : Int) ≤ 32), cond_false]
   have e2 : Nat.ble (c :: r).length 32 = false := by
    cases hb : Nat.ble (c :: r).length 32 with
    | false => rfl
    | true => exact absurd (Nat.le_of_ble_eq_true hb) h32
   unfold z3h
   rw [e2, Bool.and_false, Bool.false_and, Bool.false_and]
def z61 (s : Stp) : Int :=
 if s.f_At = false ∧ z3h s.f_Name = false then 8 else if s.f_At = false ∧ s.f_Index ≠ 0 then 1 else if s.f_At = true ∧ s.f_Name ≠ [] then 8 else if s.f_At = true ∧ (s.f_Index < 0 ∨ 4096 ≤ s.f_Index) then 1 else 0
theorem Z42 (s : Stp) : zqj s = some (z61 s) := by
 unfold zqj z61
 cases ha : s.f_At with
 | false =>
  simp only [Bool.not_false, cond_true, zio, Option.bind_some, zcq, zcp, zco, zbe, ha, cond_false]
  cases z3h s.f_Name with
  | false => rfl
  | true =>
   simp only [Bool.not_true, cond_false]
   by_cases hi : s.f_Index = 0
   ·rw [hi]; rfl
   ·rw [show (s.f_Index != 0) = true from by simpa using hi, cond_true]; simp [hi]
 | true =>
  simp only [Bool.not_true, cond_false, zcq, zcp, zco, zbe, ha, cond_true]
  by_cases hn : s.f_Name = []
  ·rw [hn]
   simp only [beq_self_eq_true, Bool.not_true, cond_false]
   by_cases h1 : s.f_Index < 0
   ·rw [decide_eq_true h1]; simp [h1]
   ·rw [decide_eq_false h1, cond_false]
    by_cases h2 : s.f_Index ≥ 4096
    ·rw [decide_eq_true h2]; have h3 : 4096 ≤ s.f_Index := h2; simp [h3]
    ·rw [decide_eq_false h2]; have h3 : ¬ 4096 ≤ s.f_Index := h2; simp [h1, h3]
  ·rw [show (s.f_Name == ([] : Str)) = false from by simpa using hn]; simp [hn]
def zcf : List Stp → Int
 | [] => 0
 | s :: r => if z61 s ≠ 0 then z61 s else zcf r
def z3f (w : List Stp) : Int := if 64 < w.length then 2 else zcf w
theorem zp1 (w : List Stp) : ∀ k i, k + i = w.length → zhc w i = some (zcf (w.drop i))
 | 0, i, h => by
  rw [zhb]
  simp only [z6u, z9z (by omega : ¬ i < w.length), cond_false]
  rw [List.drop_of_length_le (by omega)]; rfl
 | k + 1, i, h => by
  obtain ⟨s, hs, hd⟩ := dropc (by omega : i < w.length)
  rw [zhb]
  simp only [z6u, zab (by omega : i < w.length), cond_true, hs, Option.bind_some, Z42, zp1 w k (i + 1) (by omega)]
  rw [hd, zcf]
  by_cases he : z61 s = 0
  ·rw [he]; rfl
  ·rw [show (z61 s != 0) = true from by simpa using he, cond_true, if_pos he]
theorem zt9 (w : List Stp) : zqn w = some (z3f w) := by
 unfold zqn z3f
 by_cases h : 64 < w.length
 ·rw [decide_eq_true (by omega : ((w.length : Nat) : Int) > 64), if_pos h]; rfl
 ·rw [decide_eq_false (by omega : ¬ ((w.length : Nat) : Int) > 64), if_neg h, cond_false]
  have := zp1 w w.length 0 (by omega)
  rw [List.drop_zero] at this; exact this
theorem steps_zero {w : List Stp} : zcf w = 0 ↔ ∀ s, s ∈ w → z61 s = 0 := by
 induction w with
 | nil => simp [zcf]
 | cons s r ih =>
  rw [zcf]
  by_cases h : z61 s = 0
  ·rw [if_neg (by simp [h]), ih]; simp [h]
  ·rw [if_pos h]; simp [h]
theorem zsw {s : Stp} (h : z61 s = 0) (ha : s.f_At = true) : s = stA s.f_Index.toNat ∧ 0 ≤ s.f_Index ∧ s.f_Index < 4096 := by
 unfold z61 at h
 rw [if_neg (by simp [ha]), if_neg (by simp [ha])] at h
 split at h
 ·cases h
 ·split at h
  ·cases h
  ·rename_i h1 h2
   obtain ⟨n, a, i⟩ := s
   simp only at ha h1 h2
   subst ha
   have hn : n = [] := Classical.byContradiction fun hn => h1 ⟨rfl, hn⟩
   subst hn
   have h3 : 0 ≤ i ∧ i < 4096 := by constructor <;> (apply Classical.byContradiction; intro h4; apply h2; refine ⟨rfl, ?_⟩; omega)
   refine ⟨?_, h3⟩
   simp only [stA]; congr 1; omega
theorem zsu {n : Str} : z61 (stN n) = if z3h n = true then 0 else 8 := by
 unfold z61 stN
 cases z3h n <;> simp
theorem zdr {i : Nat} : z61 (stA i) = if i < 4096 then 0 else 1 := by
 unfold z61 stA
 by_cases h : i < 4096
 ·rw [if_pos h]; simp; omega
 ·rw [if_neg h]; simp; omega
end Go.Proofs.YthidgpcbnieleaaGreatDoor

namespace Go.Proofs.YthidgpcbnieleaaGreatDoor
open Go Aw
set_option linter.unusedVariables false
set_option linter.unusedSimpArgs false
set_option maxRecDepth 8000
abbrev Fds := List (Str × V)
def fget (d : Fds) (n : Str) : Option V := (d.find? (fun f => f.1 == n)).map (·.2)
theorem z2s {f : Str × V} {r : Fds} {n : Str} : fget (f :: r) n = if f.1 = n then some f.2 else fget r n := by
 unfold fget
 rw [List.find?_cons]
 by_cases h : f.1 = n
 ·rw [show (f.1 == n) = true from by simpa using h, if_pos h]; rfl
 ·rw [show (f.1 == n) = false from by simpa using h, if_neg h]
theorem zbx {d : Fds} {n : Str} {v : V} (h : fget d n = some v) : (n, v) ∈ d := by
 induction d with
 | nil => cases h
 | cons f r ih =>
  rw [z2s] at h
  by_cases he : f.1 = n
  ·rw [if_pos he] at h; injection h with h; subst h; subst he; simp
  ·rw [if_neg he] at h; simp [ih h]
theorem zs6 {d : Fds} {n : Str} : fget d n = none ↔ n ∉ d.map (·.1) := by
 induction d with
 | nil => simp [fget]
 | cons f r ih =>
  rw [z2s]
  by_cases he : f.1 = n
  ·rw [if_pos he]; simp [he]
  ·rw [if_neg he, ih, List.map_cons, List.mem_cons, not_or]
   exact ⟨fun h => ⟨fun e => he e.symm, h⟩, fun h => h.2⟩
theorem bl_lt {a b : Str} : Op.bytesLess a b = true ↔ zlt a b := by
 unfold zlt cmpS
 cases Op.bytesLess a b with
 | true => simp
 | false => rw [if_neg (by simp)]; split <;> simp
structure Cut (d : Fds) (n : Str) (c : Nat) : Prop where
 le : c ≤ d.length
 lo : ∀ k x, d[k]? = some x → k < c → Op.bytesLess x.1 n = true
 hi : ∀ k x, d[k]? = some x → c ≤ k → Op.bytesLess x.1 n = false
theorem Z3b (x : Str × V) (n : Str) : znx x n = some (if Op.bytesLess x.1 n = true then -1 else if x.1 = n then 0 else 1) := by
 unfold znx
 cases h : Op.bytesLess x.1 n with
 | true => rfl
 | false =>
  rw [cond_false, Bool.false_or]
  by_cases he : x.1 = n
  ·rw [show (x.1 == n) = true from by simpa using he, if_neg (by simp), if_pos he]; rfl
  ·rw [show (x.1 == n) = false from by simpa using he, if_neg (by simp), if_neg he]; rfl
theorem Z9m {i j : Nat} (h : i + j ≤ 1073741824) : IntKind.i64.wrap (znc .u64 (IntKind.u64.wrap (IntKind.i64.wrap ((i : Int) + (j : Int)))) 1) = (((i + j) / 2 : Nat) : Int) := by
 have e1 : IntKind.i64.wrap ((i : Int) + (j : Int)) = ((i + j : Nat) : Int) := by rw [z4r (by omega) (by omega)]; omega
 have e2 : IntKind.u64.wrap ((i + j : Nat) : Int) = ((i + j : Nat) : Int) := by
  have h : IntKind.u64.wrap ((i + j : Nat) : Int) = ((i + j : Nat) : Int) % 18446744073709551616 := rfl
  rw [h]; omega
 have e3 : znc .u64 ((i + j : Nat) : Int) 1 = ((i + j : Nat) : Int).fdiv 2 := rfl
 rw [e1, e2, e3, Int.fdiv_eq_ediv_of_nonneg _ (by omega), z4r (by omega) (by omega)]
 omega
theorem bs_l (d : Fds) (n : Str) (hs : (d.map (·.1)).Pairwise zlt) (hd : d.length ≤ 268435456) : ∀ m i j, j - i ≤ m → i ≤ j → j ≤ d.length →
 (∀ k x, d[k]? = some x → k < i → Op.bytesLess x.1 n = true) → (∀ k x, d[k]? = some x → j ≤ k → Op.bytesLess x.1 n = false) →
 ∃ c, Cut d n c ∧ zhz d n (i : Int) (j : Int) = some ((c : Int), decide ((d[c]?).map (·.1) = some n)) := by
 have sorted : ∀ (a b : Nat) (x y : Str × V), a < b → d[a]? = some x → d[b]? = some y → zlt x.1 y.1 := by
  intro a b x y hab hx hy
  have := List.pairwise_iff_getElem.1 hs a b (by simp [(List.getElem?_eq_some_iff.1 hx).1]) (by simp [(List.getElem?_eq_some_iff.1 hy).1]) hab
  simp only [List.getElem_map] at this
  rwa [(List.getElem?_eq_some_iff.1 hx).2, (List.getElem?_eq_some_iff.1 hy).2] at this
 intro m
 induction m with
 | zero =>
  intro i j h1 h2 h3 hlo hhi
  have e : i = j := by omega
  subst e
  refine ⟨i, ⟨h3, hlo, hhi⟩, ?_⟩
  rw [zhy]
  simp only [z6x, z9z (by omega : ¬ i < i), cond_false]
  by_cases hi : i < d.length
  ·obtain ⟨x, hx, _⟩ := dropc hi
   rw [zab hi, cond_true, z3y, hx, Option.bind_some, Z3b, Option.bind_some, if_neg (by rw [hhi i x hx (Nat.le_refl _)]; simp)]
   by_cases hn : x.1 = n
   ·rw [if_pos hn]; simp [hn]
   ·rw [if_neg hn]; simp [hn]
  ·rw [z9z hi, cond_false, List.getElem?_eq_none (by omega)]; rfl
 | succ m ih =>
  intro i j h1 h2 h3 hlo hhi
  by_cases hij : i < j
  ·have hmid : (i + j) / 2 < d.length := by omega
   obtain ⟨x, hx, _⟩ := dropc hmid
   rw [zhy]
   simp only [z6x, zab hij, cond_true, Z9m (by omega : i + j ≤ 1073741824), z3y, hx, Option.bind_some, Z3b]
   cases hb : Op.bytesLess x.1 n with
   | true =>
    rw [if_pos rfl, show decide ((-1 : Int) < 0) = true from rfl, cond_true, z4r (by omega) (by omega), show ((((i + j) / 2 : Nat) : Int) + 1) = (((i + j) / 2 + 1 : Nat) : Int) from by omega]
    refine ih _ j (by omega) (by omega) h3 (fun k y hy hk => ?_) hhi
    rcases Nat.lt_or_ge k ((i + j) / 2) with h | h
    ·exact bl_lt.2 (z91 (sorted _ _ _ _ h hy hx) (bl_lt.1 hb))
    ·have : k = (i + j) / 2 := by omega
     subst this
     rw [hx] at hy; injection hy with hy; subst hy; exact hb
   | false =>
    have hz : decide ((if False then (-1 : Int) else if x.1 = n then 0 else 1) < 0) = false := by
     rw [if_neg (by simp)]; split <;> rfl
    rw [if_neg (by simp)]
    have hz2 : decide ((if x.1 = n then (0 : Int) else 1) < 0) = false := by split <;> rfl
    rw [hz2, cond_false]
    refine ih i _ (by omega) (by omega) (by omega) hlo (fun k y hy hk => ?_)
    rcases Nat.lt_or_ge ((i + j) / 2) k with h | h
    ·cases hc : Op.bytesLess y.1 n with
     | false => rfl
     | true =>
      have := bl_lt.2 (z91 (sorted _ _ _ _ h hx hy) (bl_lt.1 hc))
      rw [hb] at this; cases this
    ·have : k = (i + j) / 2 := by omega
     subst this
     rw [hx] at hy; injection hy with hy; subst hy; exact hb
  ·exact ih i j (by omega) h2 h3 hlo hhi
theorem zke {d : Fds} {n : Str} (hs : (d.map (·.1)).Pairwise zlt) (hd : d.length ≤ 268435456) : ∃ c, Cut d n c ∧ zjo d n = some ((c : Int), decide ((d[c]?).map (·.1) = some n)) := by
 obtain ⟨c, h1, h2⟩ := bs_l d n hs hd d.length 0 d.length (by omega) (by omega) (by omega) (fun k x _ h => by omega) (fun k x hx h => by have := (List.getElem?_eq_some_iff.1 hx).1; omega)
 refine ⟨c, h1, ?_⟩
 unfold zjo zub
 rw [show ((0 : Nat) : Int) = 0 from rfl] at h2
 rw [h2]; rfl
theorem zsm {d : Fds} {n : Str} {c : Nat} (hs : (d.map (·.1)).Pairwise zlt) (h : Cut d n c) : fget d n = match d[c]? with | some x => if x.1 = n then some x.2 else none | none => none := by
 have key : ∀ (d : Fds) (c : Nat), (d.map (·.1)).Pairwise zlt → (∀ k x, d[k]? = some x → k < c → Op.bytesLess x.1 n = true) → (∀ k x, d[k]? = some x → c ≤ k → Op.bytesLess x.1 n = false) → fget d n = match d[c]? with | some x => if x.1 = n then some x.2 else none | none => none := by
  intro d
  induction d with
  | nil => intro c _ _ _; simp [fget]
  | cons f r ih =>
   intro c hs hlo hhi
   rw [List.map_cons, List.pairwise_cons] at hs
   rw [z2s]
   cases c with
   | zero =>
    rw [List.getElem?_cons_zero]
    simp only
    by_cases he : f.1 = n
    ·rw [if_pos he, if_pos he]
    ·rw [if_neg he, if_neg he, zs6]
     intro hm
     have h1 := hs.1 n hm
     rw [← bl_lt, hhi 0 f rfl (Nat.le_refl _)] at h1; cases h1
   | succ c =>
    have h0 := hlo 0 f rfl (by omega)
    rw [if_neg (fun e => by rw [e] at h0; exact zj8 _ (bl_lt.1 h0)), List.getElem?_cons_succ]
    exact ih c hs.2 (fun k x hx hk => hlo (k + 1) x (by simpa using hx) (by omega)) (fun k x hx hk => hhi (k + 1) x (by simpa using hx) (by omega))
 exact key d c hs h.lo h.hi
def fdF : V → Option Fds
 | .dict d => some d
 | .record _ _ d => some d
 | _ => none
theorem zve {v : V} (h : v ≠ .nothing) : zfq v = some (match fdF v with | some d => (d, true) | none => ([], false)) := by
 cases v with
 | nothing => exact absurd rfl h
 | _ => rfl
theorem zsv {v : V} (h : Can v) : v ≠ .nothing := by
 rintro rfl
 have := z2g h
 simp [z1o, z2i, zbv, z4f] at this
theorem zf4 {l : List Str} (h : z3e l = 0) : l.length ≤ 4096 := by
 unfold z3e at h
 split at h
 ·cases h
 ·omega
theorem zln : ∀ {l : List Str} {p : Option Str}, zaj p l = true → ∀ s, s ∈ l → z3h s = true
 | s :: r, p, h, t, ht => by
  simp only [zaj, Bool.and_eq_true] at h
  rcases List.mem_cons.1 ht with rfl | ht
  ·exact h.1.1
  ·exact zln h.2 t ht
theorem ziv {l : List Str} (h : z3e l = 0) : ∀ s, s ∈ l → z3h s = true := by
 unfold z3e at h
 split at h
 ·cases h
 ·split at h
  ·rename_i h2; exact zln h2
  ·cases h
theorem zgb {v : V} {d : Fds} (hc : Can v) (h : fdF v = some d) : z3e (d.map (·.1)) = 0 := by
 have hn := hc.1.own
 cases v with
 | dict x => cases h; exact hn
 | record c k x =>
  cases h
  simp only [z4f] at hn
  split at hn
  ·cases hn
  ·split at hn
   ·cases hn
   ·exact hn
 | _ => cases h
theorem za5 {v : V} {d : Fds} (h : fdF v = some d) : v.parts = d.map (·.2) := by
 cases v <;> first | (cases h; rfl) | cases h
def z1c (v : V) (s : Stp) : V × Int :=
 match v with
 | .list l => if s.f_At = true then (match l[s.f_Index.toNat]? with | some x => (x, 0) | none => (.nil, 42)) else (.nil, 41)
 | v => match fdF v with
  | some d => if s.f_At = true then (.nil, 41) else (match fget d s.f_Name with | some x => (x, 0) | none => (.nil, 40))
  | none => (.nil, 41)
theorem z6q {v : V} {d : Fds} (h : fdF v = some d) (s : Stp) : z1c v s = if s.f_At = true then (V.nil, (41 : Int)) else (match fget d s.f_Name with | some x => (x, (0 : Int)) | none => (V.nil, 40)) := by
 cases v <;> first | (cases h; rfl) | cases h
theorem zy9 {v : V} {d : Fds} (h : fdF v = some d) (n : Str) : z1c v (stN n) = match fget d n with | some x => (x, 0) | none => (.nil, 40) := by
 rw [z6q h, if_neg (by simp [stN])]; rfl
theorem zai (l : List V) (i : Nat) : z1c (.list l) (stA i) = match l[i]? with | some x => (x, 0) | none => (.nil, 42) := by
 simp only [z1c]
 rw [if_pos (by rfl), show (stA i).f_Index.toNat = i from by simp [stA]]
structure Wv (N : Nat) (v : V) : Prop where
 nn : v ≠ .nothing
 fd : ∀ d, fdF v = some d → (d.map (·.1)).Pairwise zlt ∧ d.length ≤ N
 li : ∀ l, v = .list l → l.length ≤ N
inductive Wd (N : Nat) : V → Prop
 | mk {v : V} : Wv N v → (∀ x, x ∈ v.parts → Wd N x) → Wd N v
theorem Wd.v {N : Nat} {v : V} (h : Wd N v) : Wv N v := by cases h; assumption
theorem Wd.part {N : Nat} {v : V} (h : Wd N v) : ∀ x, x ∈ v.parts → Wd N x := by cases h; assumption
theorem zxv {v : V} (hc : Can v) : Wv 4096 v := ⟨zsv hc, fun d hd => ⟨zba (zgb hc hd), by have := zf4 (zgb hc hd); rwa [List.length_map] at this⟩, fun l hl => by subst hl; exact z6c hc.1.own⟩
theorem zzd {v : V} (h : Near v) : Wd 4096 v := by
 induction h with
 | @mk x h1 h2 ih =>
  refine .mk ⟨fun e => (by subst e; cases h1), fun d hd => ?_, fun l hl => (by subst hl; exact z6c h1)⟩ ih
  have hf : z3e (d.map (·.1)) = 0 := by
   cases x with
   | dict y => cases hd; exact h1
   | record c k y =>
    cases hd
    simp only [z4f] at h1
    split at h1
    ·cases h1
    ·split at h1
     ·cases h1
     ·exact h1
   | _ => cases hd
  exact ⟨zba hf, by have := zf4 hf; rwa [List.length_map] at this⟩
theorem zst {v : V} (hc : Can v) : Wd 4096 v := zzd hc.1
theorem zzc {N : Nat} {v : V} {s : Stp} (hw : Wv N v) (hN : N ≤ 268435456) (hs : z61 s = 0) : z8p v s = some (z1c v s) := by
 have flds : ∀ d, fdF v = some d → v.isList = false → z8p v s = some (z1c v s) := by
  intro d hd hl
  unfold z8p
  rw [hl, cond_false]
  unfold zbd
  rw [cond_false, zve hw.nn, hd, Option.bind_some, z6q hd]
  simp only [Bool.not_true, cond_false]
  unfold ze8
  cases s.f_At with
  | true => rfl
  | false =>
   obtain ⟨c, h1, h2⟩ := zke (n := s.f_Name) (hw.fd d hd).1 (Nat.le_trans (hw.fd d hd).2 hN)
   rw [cond_false, if_neg (by simp), h2, Option.bind_some, zsm (hw.fd d hd).1 h1]
   simp only
   cases hx : d[c]? with
   | none => rfl
   | some x =>
    simp only [Option.map_some, Option.some.injEq]
    by_cases he : x.1 = s.f_Name
    ·rw [decide_eq_true he, if_pos he, Bool.not_true, cond_false, z3y, hx]; rfl
    ·rw [decide_eq_false he, if_neg he]; rfl
 have none_ : fdF v = none → v.isList = false → z1c v s = (.nil, 41) → z8p v s = some (z1c v s) := by
  intro hd hl he
  unfold z8p
  rw [hl, cond_false]
  unfold zbd
  rw [cond_false, zve hw.nn, hd, he]; rfl
 cases v with
 | list l =>
  unfold z8p z1c
  simp only [V.isList, cond_true, V.asList]
  cases ha : s.f_At with
  | true =>
   obtain ⟨_, h1, h2⟩ := zsw hs ha
   unfold zbd
   rw [cond_true, if_pos rfl]
   simp only [V.asList]
   have e : s.f_Index = ((s.f_Index.toNat : Nat) : Int) := by omega
   by_cases hl : s.f_Index.toNat < l.length
   ·obtain ⟨x, hx, _⟩ := dropc hl
    rw [decide_eq_false (by omega : ¬ s.f_Index ≥ ((l.length : Nat) : Int)), cond_false, e, z3y, Int.toNat_natCast, hx]; rfl
   ·rw [decide_eq_true (by omega : s.f_Index ≥ ((l.length : Nat) : Int)), cond_true, List.getElem?_eq_none (by omega)]
  | false => rfl
 | dict d => exact flds d rfl rfl
 | record c k d => exact flds d rfl rfl
 | nothing => exact absurd rfl hw.nn
 | _ => exact none_ rfl rfl rfl
theorem z7k {v x : V} {s : Stp} (h : z1c v s = (x, 0)) : x ∈ v.parts := by
 have flds : ∀ d, fdF v = some d → x ∈ v.parts := by
  intro d hd
  rw [z6q hd] at h
  rw [za5 hd]
  split at h
  ·cases h
  ·cases hg : fget d s.f_Name with
   | none => rw [hg] at h; cases h
   | some y => rw [hg] at h; injection h with h; subst h; exact List.mem_map.2 ⟨_, zbx hg, rfl⟩
 cases v with
 | list l =>
  simp only [z1c] at h
  split at h
  ·cases hg : l[s.f_Index.toNat]? with
   | none => rw [hg] at h; cases h
   | some y => rw [hg] at h; injection h with h; subst h; exact List.mem_of_getElem? hg
  ·cases h
 | dict d => exact flds d rfl
 | record c k d => exact flds d rfl
 | _ => cases h
def z4j (v : V) : List Stp → V × Int
 | [] => (v, 0)
 | s :: r => if (z1c v s).2 ≠ 0 then (.nil, (z1c v s).2) else z4j (z1c v s).1 r
theorem Z37 {N : Nat} (hN : N ≤ 268435456) (w : List Stp) : ∀ k i v, k + i = w.length → Wd N v → (∀ s, s ∈ w → z61 s = 0) → zh2 w v i = some (z4j v (w.drop i))
 | 0, i, v, h, hc, hw => by
  rw [zh1]
  simp only [z6s, z9z (by omega : ¬ i < w.length), cond_false]
  rw [List.drop_of_length_le (by omega)]; rfl
 | k + 1, i, v, h, hc, hw => by
  obtain ⟨s, hs, hd⟩ := dropc (by omega : i < w.length)
  rw [zh1]
  simp only [z6s, zab (by omega : i < w.length), cond_true, hs, Option.bind_some, zzc hc.v hN (hw s (List.mem_of_getElem? hs))]
  rw [hd, z4j]
  by_cases he : (z1c v s).2 = 0
  ·rw [if_neg (by simp [he]), show ((z1c v s).2 != 0) = false from by simp [he], cond_false]
   have hp : z1c v s = ((z1c v s).1, 0) := Prod.ext rfl he
   exact Z37 hN w k (i + 1) _ (by omega) (hc.part _ (z7k hp)) hw
  ·rw [if_pos he, show ((z1c v s).2 != 0) = true from by simpa using he, cond_true]
theorem Z6q {N : Nat} {v : V} {w : List Stp} (hc : Wd N v) (hN : N ≤ 268435456) (hw : ∀ s, s ∈ w → z61 s = 0) : zqi v w = some (z4j v w) := by
 have := Z37 hN w w.length 0 v (by omega) hc hw
 rw [List.drop_zero] at this; exact this
theorem Z38 {v : V} {w : List Stp} (hc : Can v) (hw : ∀ s, s ∈ w → z61 s = 0) : zqi v w = some (z4j v w) := Z6q (zst hc) (by omega) hw
theorem zmh : ∀ {w : List Stp} {v x : V}, Can v → z4j v w = (x, 0) → Can x
 | [], v, x, hc, h => by injection h with h; subst h; exact hc
 | s :: r, v, x, hc, h => by
  rw [z4j] at h
  by_cases he : (z1c v s).2 = 0
  ·rw [if_neg (by simp [he])] at h
   exact zmh (z7j hc (z7k (Prod.ext rfl he : z1c v s = ((z1c v s).1, 0)))) h
  ·rw [if_pos he] at h; injection h with h1 h2; exact absurd h2 he
theorem zmi : ∀ (w u : List Stp) (v : V), z4j v (w ++ u) = if (z4j v w).2 ≠ 0 then (.nil, (z4j v w).2) else z4j (z4j v w).1 u
 | [], u, v => by simp [z4j]
 | s :: r, u, v => by
  by_cases he : (z1c v s).2 = 0
  ·have e1 : ∀ q, z4j v (s :: q) = z4j (z1c v s).1 q := fun q => by rw [z4j, if_neg (by simp [he])]
   rw [List.cons_append, e1, e1]; exact zmi r u _
  ·have e1 : ∀ q, z4j v (s :: q) = (.nil, (z1c v s).2) := fun q => by rw [z4j, if_pos he]
   rw [List.cons_append, e1, e1, if_pos he]
theorem zc8 {w : List Stp} (h : z3f w = 0) : w.length ≤ 64 ∧ ∀ s, s ∈ w → z61 s = 0 := by
 unfold z3f at h
 split at h
 ·cases h
 ·exact ⟨by omega, steps_zero.1 h⟩
theorem z8y {x : V} (h : (z1o x).2 = 0) : Can x := Classical.byContradiction fun hc => z5e hc h
def Z8i (s : Stp) : Prop := (∃ n, s = stN n) ∨ ∃ i, s = stA i
theorem zv0 {v x : V} {s : Stp} (hc : Can v) (hn : Z8i s) (h : z1c v s = (x, 0)) : z61 s = 0 := by
 have flds : ∀ d, fdF v = some d → z61 s = 0 := by
  intro d hd
  rw [z6q hd] at h
  rcases hn with ⟨n, rfl⟩ | ⟨i, rfl⟩
  ·rw [if_neg (by simp [stN])] at h
   cases hg : fget d (stN n).f_Name with
   | none => rw [hg] at h; cases h
   | some y => rw [zsu, if_pos (ziv (zgb hc hd) n (List.mem_map.2 ⟨_, zbx hg, rfl⟩))]
  ·rw [if_pos (by rfl)] at h; cases h
 cases v with
 | list l =>
  simp only [z1c] at h
  rcases hn with ⟨n, rfl⟩ | ⟨i, rfl⟩
  ·rw [if_neg (by simp [stN])] at h; cases h
  ·rw [if_pos (by rfl)] at h
   cases hg : l[(stA i).f_Index.toNat]? with
   | none => rw [hg] at h; cases h
   | some y =>
    have h1 := (List.getElem?_eq_some_iff.1 hg).1
    have h2 := z6c hc.1.own
    simp only [stA, Int.toNat_natCast] at h1
    rw [zdr, if_pos (by omega)]
 | dict d => exact flds d rfl
 | record c k d => exact flds d rfl
 | _ => cases h
theorem zf0 : ∀ {w : List Stp} {v x : V}, Can v → (∀ s, s ∈ w → Z8i s) → z4j v w = (x, 0) → (∀ s, s ∈ w → z61 s = 0) ∧ (w.length : Int) < dpt v
 | [], v, x, hc, hn, h => ⟨fun s hs => (by cases hs), by have := (z2b v).2; simp only [List.length_nil]; omega⟩
 | s :: r, v, x, hc, hn, h => by
  rw [z4j] at h
  by_cases he : (z1c v s).2 = 0
  ·rw [if_neg (by simp [he])] at h
   have hp : z1c v s = ((z1c v s).1, 0) := Prod.ext rfl he
   obtain ⟨h1, h2⟩ := zf0 (z7j hc (z7k hp)) (fun t ht => hn t (by simp [ht])) h
   have h3 := (zbt (z7k hp)).2
   have h4 := zdp v
   refine ⟨fun t ht => ?_, by rw [List.length_cons]; omega⟩
   rcases List.mem_cons.1 ht with rfl | ht
   ·exact zv0 hc (hn t (by simp)) hp
   ·exact h1 t ht
  ·rw [if_pos he] at h; injection h with h1 h2; exact absurd h2 he
end Go.Proofs.YthidgpcbnieleaaGreatDoor

namespace Go.Proofs.YthidgpcbnieleaaGreatDoor
open Go Aw
set_option linter.unusedVariables false
set_option linter.unusedSimpArgs false
set_option maxRecDepth 8000
def Z13 (v : V) (w : List Stp) : V × Int := if (z1o v).2 ≠ 0 then (.nil, (z1o v).2) else if z3f w ≠ 0 then (.nil, z3f w) else if (z4j v w).2 ≠ 0 then (.nil, (z4j v w).2) else z4j v w
theorem zgl (v : V) (w : List Stp) : zjr v w = some (if (z1o v).2 ≠ 0 then (z1o v).2 else z3f w) := by
 unfold zjr
 rw [zbj, Option.bind_some]
 by_cases h : (z1o v).2 = 0
 ·rw [show ((z1o v).2 != 0) = false from by simp [h], cond_false, zt9, if_neg (by simp [h])]; rfl
 ·rw [show ((z1o v).2 != 0) = true from by simpa using h, cond_true, if_pos h]
theorem zxz (v : V) (w : List Stp) : zi3 v w = some (Z13 v w) := by
 unfold zi3 Z13
 rw [zgl, Option.bind_some]
 by_cases h : (z1o v).2 = 0
 ·rw [if_neg (by simp [h]), if_neg (by simp [h])]
  by_cases h2 : z3f w = 0
  ·rw [show (z3f w != 0) = false from by simp [h2], cond_false, if_neg (by simp [h2]), Z38 (z8y h) (zc8 h2).2, Option.bind_some]
   by_cases h3 : (z4j v w).2 = 0
   ·rw [show ((z4j v w).2 != 0) = false from by simp [h3], cond_false, if_neg (by simp [h3]), z7b (zmh (z8y h) (Prod.ext rfl h3 : z4j v w = ((z4j v w).1, 0)))]
    rw [Option.bind_some, ← h3]
   ·rw [show ((z4j v w).2 != 0) = true from by simpa using h3, cond_true, if_pos h3]
  ·rw [show (z3f w != 0) = true from by simpa using h2, cond_true, if_pos h2]
 ·rw [if_pos h, if_pos h, show ((z1o v).2 != 0) = true from by simpa using h, cond_true]
theorem zwv {v x : V} {w : List Stp} (hc : Can v) (hn : ∀ s, s ∈ w → Z8i s) (h : z4j v w = (x, 0)) : Z13 v w = (x, 0) := by
 obtain ⟨h1, h2⟩ := zf0 hc hn h
 have h3 := hc.2.2
 unfold Z13 z3f
 rw [if_neg (by simp [z2g hc]), if_neg (by rw [if_neg (by omega)]; simp [steps_zero.2 h1]), if_neg (by simp [h]), h]
end Go.Proofs.YthidgpcbnieleaaGreatDoor

namespace Go.Proofs.YthidgpcbnieleaaGreatDoor
open Go Aw
set_option linter.unusedVariables false
set_option linter.unusedSimpArgs false
set_option maxRecDepth 8000
theorem zxw {x : V} (h : (z1o x).2 = 0) : Can x := Classical.byContradiction fun hc => z5e hc h
theorem zuc (x y : V) : z4y y x = - z4y x y := by rw [zk4, zk4, za0]
theorem zlx (x : V) : z4y x x = 0 := by have := zuc x x; omega
theorem z4v {x : V} (h : Can x) : zbq x x = true := by
 unfold zbq; rw [z2g h, zlx]; rfl
theorem zfk {x y : V} (h : zbq x y = true) : Can x ∧ Can y ∧ z4y x y = 0 := by
 unfold zbq at h
 simp only [Bool.and_eq_true, beq_iff_eq] at h
 exact ⟨zxw h.1, zxw h.2.1, h.2.2⟩
theorem th0 {c d : Int} (h : th c d = 0) : c = 0 ∧ d = 0 := by
 unfold th at h
 by_cases hc : c = 0
 ·rw [if_pos hc] at h; exact ⟨hc, h⟩
 ·rw [if_neg hc] at h; exact absurd h hc
theorem c30 {a b : Int} (h : c3 a b = 0) : a = b := by
 unfold c3 at h
 by_cases h1 : a < b
 ·rw [if_pos h1] at h; cases h
 ·rw [if_neg h1] at h
  by_cases h2 : a > b
  ·rw [if_pos h2] at h; cases h
  ·omega
theorem Z9q {s t : Str} (h : cmpS s t = 0) : s = t := by
 unfold cmpS at h
 split at h
 ·cases h
 ·split at h
  ·rename_i h2; simpa using h2
  ·cases h
theorem ordL0 : ∀ {a b : List V}, z60 a b = 0 → a.length = b.length ∧ ∀ (i : Nat) x y, a[i]? = some x → b[i]? = some y → z4y x y = 0
 | [], [], _ => ⟨rfl, fun i x y h => by simp at h⟩
 | [], _ :: _, h => by simp [z60] at h
 | _ :: _, [], h => by simp [z60] at h
 | x :: r, y :: s, h => by
  rw [z60] at h
  obtain ⟨h1, h2⟩ := th0 h
  obtain ⟨h3, h4⟩ := ordL0 h2
  refine ⟨by simp [h3], fun i p q hp hq => ?_⟩
  cases i with
  | zero => simp at hp hq; subst hp; subst hq; exact h1
  | succ i => exact h4 i p q (by simpa using hp) (by simpa using hq)
theorem ordD1 : ∀ {a b : List (Str × V)}, zft a b = 0 → a.map (·.1) = b.map (·.1) ∧ z60 (a.map (·.2)) (b.map (·.2)) = 0
 | [], [], _ => ⟨rfl, by simp [z60]⟩
 | [], _ :: _, h => by simp [zft] at h
 | _ :: _, [], h => by simp [zft] at h
 | (s, x) :: r, (t, y) :: q, h => by
  rw [zft] at h
  obtain ⟨h1, h2⟩ := th0 h
  obtain ⟨h3, h4⟩ := th0 h1
  obtain ⟨h5, h6⟩ := ordD1 h2
  have e := Z9q h3
  subst e
  exact ⟨by simp only [List.map_cons, h5], by simp only [List.map_cons]; rw [z60, h4, h6]; rfl⟩
theorem zzl {x y : V} (h : z4y x y = 0) : z1k x = z1k y := Classical.byContradiction fun hn => by
 rw [zr1 hn] at h; exact hn (c30 h)
end Go.Proofs.YthidgpcbnieleaaGreatDoor

namespace Go.Proofs.YthidgpcbnieleaaGreatDoor
open Go Aw
set_option linter.unusedVariables false
set_option linter.unusedSimpArgs false
set_option maxRecDepth 8000
def z8g : Fds → Str → V → Fds
 | [], n, x => [(n, x)]
 | f :: r, n, x => if f.1 = n then (n, x) :: r else if Op.bytesLess f.1 n = true then f :: z8g r n x else (n, x) :: f :: r
def zzw : Fds → Str → Fds
 | [], _ => []
 | f :: r, n => if f.1 = n then r else f :: zzw r n
theorem zsj {f : Str × V} {r : Fds} {n : Str} {c : Nat} (h : Cut (f :: r) n (c + 1)) : Cut r n c :=
 ⟨by have := h.le; simp at this; omega, fun k x hx hk => h.lo (k + 1) x (by simpa using hx) (by omega), fun k x hx hk => h.hi (k + 1) x (by simpa using hx) (by omega)⟩
theorem zsk {f : Str × V} {r : Fds} {n : Str} {c : Nat} (h : Cut (f :: r) n (c + 1)) : Op.bytesLess f.1 n = true ∧ f.1 ≠ n := by
 have h0 := h.lo 0 f rfl (by omega)
 exact ⟨h0, fun e => by rw [e] at h0; exact zj8 _ (bl_lt.1 h0)⟩
theorem zi1 {n : Str} {x : V} : ∀ {d : Fds} {c : Nat} {y : Str × V}, Cut d n c → d[c]? = some y → y.1 = n → z8g d n x = d.set c (y.1, x)
 | [], c, y, _, h, _ => by simp at h
 | f :: r, 0, y, h, hx, hy => by
  simp at hx; subst hx; subst hy
  rw [z8g, if_pos rfl]; rfl
 | f :: r, c + 1, y, h, hx, hy => by
  obtain ⟨h1, h2⟩ := zsk h
  rw [z8g, if_neg h2, if_pos h1, zi1 (zsj h) (by simpa using hx) hy]; rfl
theorem zq8 {n : Str} {x : V} : ∀ {d : Fds} {c : Nat}, Cut d n c → (d[c]?).map (·.1) ≠ some n → z8g d n x = d.take c ++ [(n, x)] ++ d.drop c
 | [], c, h, _ => by simp [z8g]
 | f :: r, 0, h, hn => by
  have h0 := h.hi 0 f rfl (Nat.le_refl _)
  rw [z8g, if_neg (fun e => hn (by simp [e])), if_neg (by rw [h0]; simp)]; rfl
 | f :: r, c + 1, h, hn => by
  obtain ⟨h1, h2⟩ := zsk h
  rw [z8g, if_neg h2, if_pos h1, zq8 (zsj h) (by simpa using hn)]; rfl
theorem ziw {n : Str} : ∀ {d : Fds} {c : Nat} {y : Str × V}, Cut d n c → d[c]? = some y → y.1 = n → zzw d n = d.take c ++ d.drop (c + 1)
 | [], c, y, _, h, _ => by simp at h
 | f :: r, 0, y, h, hx, hy => by
  simp at hx; subst hx; subst hy
  rw [zzw, if_pos rfl]; rfl
 | f :: r, c + 1, y, h, hx, hy => by
  obtain ⟨h1, h2⟩ := zsk h
  rw [zzw, if_neg h2, ziw (zsj h) (by simpa using hx) hy]; rfl
theorem Z2y {α : Type} {b : Nat} {l : List α} {k : Nat} {a : α} (hk : k ≤ l.length) (hb : b ≤ 1024) (hl : l.length ≤ 268435456) : Z0z b l (k : Int) a = some (l.take k ++ [a] ++ l.drop k) := by
 unfold Z0z
 have h1 : (l.length + 1) * b ≤ 268435457 * 1024 := Nat.mul_le_mul (by omega) hb
 rw [decide_eq_true (by omega : (0 : Int) ≤ (k : Int)), decide_eq_true (by omega : (k : Int) ≤ (l.length : Int)), Nat.ble_eq_true_of_le (by omega : (l.length + 1) * b ≤ 140737488355328), Nat.ble_eq_true_of_le (by omega : l.length ≤ 4611686018427387904)]
 simp only [Bool.and_self, cond_true, Int.toNat_natCast]
theorem zxt {α : Type} {l : List α} {k : Nat} (hk : k < l.length) (hl : l.length ≤ 268435456) : Z0b l (k : Int) (IntKind.i64.wrap ((k : Int) + 1)) = some (l.take k ++ l.drop (k + 1)) := by
 unfold Z0b
 rw [z4r (by omega) (by omega), decide_eq_true (by omega : (0 : Int) ≤ (k : Int)), decide_eq_true (by omega : (k : Int) < (l.length : Int)), decide_eq_true rfl]
 simp only [Bool.and_self, cond_true, Int.toNat_natCast]
theorem zgp {d : Fds} {n : Str} {x : V} (hs : (d.map (·.1)).Pairwise zlt) (hl : d.length ≤ 268435456) : zo1 d n x = some (z8g d n x) := by
 unfold zo1 zo8
 rw [zws (by omega) (by omega), Option.bind_some, Option.bind_some]
 obtain ⟨c, h1, h2⟩ := zke (n := n) hs hl
 rw [h2, Option.bind_some]
 by_cases he : (d[c]?).map (·.1) = some n
 ·obtain ⟨y, hy, hn⟩ := Option.map_eq_some_iff.1 he
  rw [decide_eq_true he, cond_true, z3y, hy, Option.bind_some, zi1 h1 hy hn, Int.toNat_natCast]
 ·rw [decide_eq_false he, cond_false, Z2y h1.le (by omega) hl, Option.bind_some, zq8 h1 he]
theorem zc6 {d : Fds} {s : Stp} (hs : (d.map (·.1)).Pairwise zlt) (hl : d.length ≤ 268435456) {y : V} (hy : fget d s.f_Name = some y) : zo0 d s = some (zzw d s.f_Name) := by
 unfold zo0 zo8
 obtain ⟨c, h1, h2⟩ := zke (n := s.f_Name) hs hl
 rw [h2, Option.bind_some, zws (by omega) (by omega), Option.bind_some, Option.bind_some]
 rw [zsm hs h1] at hy
 cases hx : d[c]? with
 | none => rw [hx] at hy; cases hy
 | some z =>
  rw [hx] at hy
  simp only at hy
  by_cases hz : z.1 = s.f_Name
  ·rw [zxt (List.getElem?_eq_some_iff.1 hx).1 hl, Option.bind_some, ziw h1 hx hz]
  ·rw [if_neg hz] at hy; cases hy
def z7l (v : V) (d : Fds) : V :=
 match v with
 | .dict _ => .dict d
 | .record c k _ => .record c k d
 | v => v
def withF (v : V) (s : Stp) (x : V) : V :=
 match v with
 | .list l => if s.f_Index = ((l.length : Nat) : Int) then .list (l ++ [x]) else .list (l.set s.f_Index.toNat x)
 | v => match fdF v with
  | some d => z7l v (z8g d s.f_Name x)
  | none => v
def z6o (v : V) (s : Stp) : V :=
 match v with
 | .list l => .list (l.take s.f_Index.toNat ++ l.drop (s.f_Index.toNat + 1))
 | v => match fdF v with
  | some d => z7l v (zzw d s.f_Name)
  | none => v
def zyq (room : Bool) (v : V) (s : Stp) : Prop := (z1c v s).2 = 0 ∨ (room = true ∧ ((z1c v s).2 = 40 ∨ ((z1c v s).2 = 42 ∧ v.isList = true ∧ s.f_Index = ((v.asList.length : Nat) : Int))))
theorem z8n {v : V} {d : Fds} (h : fdF v = some d) (s : Stp) (x : V) : withF v s x = z7l v (z8g d s.f_Name x) := by
 cases v <;> first | (cases h; rfl) | cases h
theorem zn5 {v : V} {d : Fds} (h : fdF v = some d) (s : Stp) : z6o v s = z7l v (zzw d s.f_Name) := by
 cases v <;> first | (cases h; rfl) | cases h
theorem zp7 {v : V} {d e : Fds} (h : fdF v = some d) : fdF (z7l v e) = some e := by
 cases v <;> first | (cases h; rfl) | cases h
theorem set_set {v : V} {d e : Fds} : z7l (z7l v d) e = z7l v e := by cases v <;> rfl
theorem ztb {v : V} {d : Fds} (h : fdF v = some d) : z7l v d = v := by
 cases v <;> first | (cases h; rfl) | cases h
theorem zil {room : Bool} {l : List V} {s : Stp} (hs : z61 s = 0) (h : zyq room (.list l) s) : s = stA s.f_Index.toNat ∧ s.f_Index = ((s.f_Index.toNat : Nat) : Int) ∧ s.f_Index.toNat ≤ l.length := by
 cases ha : s.f_At with
 | false =>
  have e : (z1c (.list l) s).2 = 41 := by simp only [z1c]; rw [if_neg (by rw [ha]; simp)]
  rcases h with h | ⟨_, h | ⟨h, _⟩⟩ <;> rw [e] at h <;> cases h
 | true =>
  obtain ⟨h1, h2, h3⟩ := zsw hs ha
  refine ⟨h1, by omega, ?_⟩
  have e := zai l s.f_Index.toNat
  rw [← h1] at e
  cases hx : l[s.f_Index.toNat]? with
  | some y => have := (List.getElem?_eq_some_iff.1 hx).1; omega
  | none =>
   rw [hx] at e
   rcases h with h | ⟨_, h | ⟨h, _, h4⟩⟩
   ·rw [e] at h; cases h
   ·rw [e] at h; cases h
   ·simp only [V.asList] at h4; omega
theorem zja {N : Nat} {room : Bool} {v : V} {s : Stp} {x : V} (hv : Wv N v) (hN : N ≤ 268435456) (hs : z61 s = 0) (h : zyq room v s) : zd0 v s x = some (withF v s x) := by
 have flds : ∀ d, fdF v = some d → v.isList = false → zd0 v s x = some (withF v s x) := by
  intro d hd hl
  obtain ⟨h1, h2⟩ := hv.fd d hd
  have hw := zgp (n := s.f_Name) (x := x) h1 (Nat.le_trans h2 hN)
  unfold zd0
  rw [hl, cond_false, z8n hd]
  cases v with
  | dict y => cases hd; simp only [V.isDict, cond_true, V.asDict, hw, Option.bind_some, z7l]
  | record c k y =>
   cases hd
   simp only [V.isDict, cond_false, V.isRec, cond_true, V.asRec, Option.bind_some, hw, z7l]
  | _ => cases hd
 cases v with
 | list l =>
  obtain ⟨h1, h2, h3⟩ := zil hs h
  have hlen := Nat.le_trans (hv.li l rfl) hN
  unfold zd0 zo7
  simp only [V.isList, cond_true, V.asList]
  rw [zws (by omega) (by omega), Option.bind_some, Option.bind_some]
  by_cases he : s.f_Index = ((l.length : Nat) : Int)
  ·rw [show (s.f_Index == ((l.length : Nat) : Int)) = true from by simpa using he, cond_true, zl8 (by omega) (by omega), Option.bind_some]
   simp only [withF]; rw [if_pos he]
  ·rw [show (s.f_Index == ((l.length : Nat) : Int)) = false from by simpa using he, cond_false]
   have hlt : s.f_Index.toNat < l.length := by omega
   have hi : z7g l s.f_Index = some l[s.f_Index.toNat] := by
    have := z3y l s.f_Index.toNat
    rw [← h2] at this
    rw [this]; exact List.getElem?_eq_getElem hlt
   rw [hi, Option.bind_some]
   simp only [withF]; rw [if_neg he]
 | dict d => exact flds d rfl rfl
 | record c k d => exact flds d rfl rfl
 | nothing => exact absurd rfl hv.nn
 | _ => rfl
theorem zn6 {N : Nat} {v : V} {s : Stp} (hv : Wv N v) (hN : N ≤ 268435456) (hs : z61 s = 0) (h : (z1c v s).2 = 0) : zi5 v s = some (z6o v s) := by
 have flds : ∀ d, fdF v = some d → v.isList = false → zi5 v s = some (z6o v s) := by
  intro d hd hl
  obtain ⟨h1, h2⟩ := hv.fd d hd
  rw [z6q hd] at h
  cases ha : s.f_At with
  | true => rw [if_pos ha] at h; cases h
  | false =>
   rw [if_neg (by rw [ha]; simp)] at h
   cases hg : fget d s.f_Name with
   | none => rw [hg] at h; cases h
   | some y =>
    have hw := zc6 h1 (Nat.le_trans h2 hN) hg
    unfold zi5
    rw [hl, cond_false, zn5 hd]
    cases v with
    | dict y => cases hd; simp only [V.isDict, cond_true, V.asDict, hw, Option.bind_some, z7l]
    | record c k y =>
     cases hd
     simp only [V.isDict, cond_false, V.isRec, cond_true, V.asRec, Option.bind_some, hw, z7l]
    | _ => cases hd
 cases v with
 | list l =>
  obtain ⟨h1, h2, h3⟩ := zil (room := false) hs (.inl h)
  have hlen := Nat.le_trans (hv.li l rfl) hN
  have hlt : s.f_Index.toNat < l.length := by
   rw [h1, zai] at h
   cases hx : l[s.f_Index.toNat]? with
   | some y => exact (List.getElem?_eq_some_iff.1 hx).1
   | none => rw [hx] at h; cases h
  unfold zi5 zo7
  simp only [V.isList, cond_true, V.asList]
  have hd := zxt hlt hlen
  rw [← h2] at hd
  rw [zws (by omega) (by omega), Option.bind_some, Option.bind_some, hd, Option.bind_some]
  rfl
 | dict d => exact flds d rfl rfl
 | record c k d => exact flds d rfl rfl
 | nothing => exact absurd rfl hv.nn
 | _ => rfl
end Go.Proofs.YthidgpcbnieleaaGreatDoor

namespace Go.Proofs.YthidgpcbnieleaaGreatDoor
open Go Aw
set_option linter.unusedVariables false
set_option linter.unusedSimpArgs false
set_option maxRecDepth 8000
abbrev Ed := S_api_Edit
def z66 (room : Bool) (v : V) (s : Stp) : Bool := ((z1c v s).2 == 0) || (room && ((z1c v s).2 == 40 || ((z1c v s).2 == 42 && (v.isList && s.f_Index == ((v.asList.length : Nat) : Int)))))
theorem Z25 {room : Bool} {v : V} {s : Stp} (h : z66 room v s = true) : zyq room v s := by
 unfold z66 at h
 simp only [Bool.or_eq_true, Bool.and_eq_true, beq_iff_eq] at h
 exact h
def chF (room : Bool) (fin : V → Stp → V) : V → List Stp → V × Int
 | _, [] => (.nil, 0)
 | v, [s] => if z66 room v s = true then (fin v s, 0) else (.nil, (z1c v s).2)
 | v, s :: t :: r => if (z1c v s).2 ≠ 0 then (.nil, (z1c v s).2) else if (chF room fin (z1c v s).1 (t :: r)).2 ≠ 0 then (.nil, (chF room fin (z1c v s).1 (t :: r)).2) else (withF v s (chF room fin (z1c v s).1 (t :: r)).1, 0)
def chK (f : V → Stp → Option V) (a0 : V) (x1 : Stp) (s4 : Int) : Option (V × Int) := bif s4 != 0 then some (V.nil, s4) else Option.bind (f a0 x1) fun x6 => some (x6, 0)
def chJ (f : V → Stp → Option V) (a0 : V) (x1 : Stp) (x3 : V × Int) (s7 : Bool) : Option (V × Int) := bif s7 then chK f a0 x1 0 else chK f a0 x1 x3.2
noncomputable def chB (f : V → Stp → Option V) (F : V → List Stp → Bool → Option (V × Int)) (a0 : V) (a1 : List Stp) (a2 : Bool) : Option (V × Int) :=
 Option.bind (a1[0]?) fun x1 =>
 bif (((a1.length : Nat) : Int) == 1) then
  Option.bind (z8p a0 x1) fun x3 =>
  bif a2 then (bif x3.2 == 40 then chJ f a0 x1 x3 true else bif x3.2 == 42 then (bif a0.isList then chJ f a0 x1 x3 (x1.f_Index == ((a0.asList.length : Nat) : Int)) else chJ f a0 x1 x3 false) else chJ f a0 x1 x3 false) else chJ f a0 x1 x3 false
 else
  Option.bind (z8p a0 x1) fun x13 =>
  bif x13.2 != 0 then some (V.nil, x13.2) else
   Option.bind (ziz a1 1 (a1.length : Int)) fun x15 =>
   Option.bind (F x13.1 x15 a2) fun x16 =>
   bif x16.2 != 0 then some (V.nil, x16.2) else
    Option.bind (zd0 a0 x1 x16.1) fun x18 => some (x18, 0)
theorem Z15 {a b : Int} (h : a = b) : (a == b) = true := by simpa using h
theorem zy2 {a b : Int} (h : ¬ a = b) : (a == b) = false := by simpa using h
theorem zy0 {a : Int} (h : a = 0) : (a != 0) = false := by simp [h]
theorem Z41 {f : V → Stp → Option V} {fin : V → Stp → V} {v : V} {s : Stp} {b : Bool} (h : b = true ∨ (z1c v s).2 = 0 → f v s = some (fin v s)) :
 chJ f v s (z1c v s) b = some (if b = true ∨ (z1c v s).2 = 0 then (fin v s, 0) else (.nil, (z1c v s).2)) := by
 unfold chJ chK
 cases b with
 | true => rw [if_pos (.inl rfl), cond_true, show ((0 : Int) != 0) = false from rfl, cond_false, h (.inl rfl)]; rfl
 | false =>
  rw [cond_false]
  by_cases he : (z1c v s).2 = 0
  ·rw [if_pos (.inr he), zy0 he, cond_false, h (.inr he)]; rfl
  ·rw [if_neg (by simp [he]), zt5 he, cond_true]
theorem Z0f {f : V → Stp → Option V} {fin : V → Stp → V} {v : V} {s : Stp} {room : Bool} (h : z66 room v s = true → f v s = some (fin v s)) :
 (bif room then (bif (z1c v s).2 == 40 then chJ f v s (z1c v s) true else bif (z1c v s).2 == 42 then (bif v.isList then chJ f v s (z1c v s) (s.f_Index == ((v.asList.length : Nat) : Int)) else chJ f v s (z1c v s) false) else chJ f v s (z1c v s) false) else chJ f v s (z1c v s) false) =
  some (if z66 room v s = true then (fin v s, 0) else (.nil, (z1c v s).2)) := by
 have key : ∀ b : Bool, (b || (z1c v s).2 == 0) = z66 room v s → chJ f v s (z1c v s) b = some (if z66 room v s = true then (fin v s, 0) else (.nil, (z1c v s).2)) := by
  intro b hb
  have e : (b = true ∨ (z1c v s).2 = 0) ↔ z66 room v s = true := by rw [← hb]; simp
  rw [Z41 (fun hh => h (e.1 hh))]
  by_cases hr : z66 room v s = true
  ·rw [if_pos hr, if_pos (e.2 hr)]
  ·rw [if_neg hr, if_neg (fun hh => hr (e.1 hh))]
 cases room with
 | false => rw [cond_false]; exact key false (by simp [z66])
 | true =>
  rw [cond_true]
  by_cases h40 : (z1c v s).2 = 40
  ·rw [Z15 h40, cond_true]; exact key true (by simp [z66, h40])
  ·rw [zy2 h40, cond_false]
   by_cases h42 : (z1c v s).2 = 42
   ·rw [Z15 h42, cond_true]
    cases hl : v.isList with
    | true => rw [cond_true]; exact key _ (by simp [z66, h42, hl])
    | false => rw [cond_false]; exact key false (by simp [z66, h42, hl])
   ·rw [zy2 h42, cond_false]; exact key false (by simp [z66, h40, h42])
theorem Z0g {N : Nat} (hN : N ≤ 268435456) {f : V → Stp → Option V} {fin : V → Stp → V} {F : V → List Stp → Bool → Option (V × Int)} {room : Bool} (hF : ∀ v w, F v w room = chB f F v w room)
 (hf : ∀ v s, Wv N v → z61 s = 0 → z66 room v s = true → f v s = some (fin v s)) : ∀ (w : List Stp) (v : V), Wd N v → (∀ s, s ∈ w → z61 s = 0) → w ≠ [] → w.length ≤ 268435456 → F v w room = some (chF room fin v w)
 | [], v, _, _, hne, _ => absurd rfl hne
 | [s], v, hv, hw, _, _ => by
  have hs := hw s (by simp)
  rw [hF, chB, chF]
  rw [show [s][0]? = some s from rfl, Option.bind_some, show ((([s].length : Nat) : Int) == 1) = true from rfl, cond_true, zzc hv.v hN hs, Option.bind_some]
  exact Z0f (fun h => hf v s hv.v hs h)
 | s :: t :: r, v, hv, hw, _, hlen => by
  have hs := hw s (by simp)
  rw [hF, chB, chF]
  have hl : ((((s :: t :: r).length : Nat) : Int) == 1) = false := zy2 (by simp only [List.length_cons]; omega)
  rw [show (s :: t :: r)[0]? = some s from rfl, Option.bind_some, hl, cond_false, zzc hv.v hN hs, Option.bind_some]
  by_cases he : (z1c v s).2 = 0
  ·have hp : z1c v s = ((z1c v s).1, 0) := Prod.ext rfl he
   have hc : ziz (s :: t :: r) 1 (((s :: t :: r).length : Nat) : Int) = some (t :: r) := by
    have := zsl (s := s :: t :: r) (a := 1) (b := (s :: t :: r).length) (by simp) (Nat.le_refl _)
    rw [List.take_of_length_le (Nat.le_refl _)] at this; exact this
   rw [zy0 he, cond_false, hc, Option.bind_some, Z0g hN hF hf (t :: r) (z1c v s).1 (hv.part _ (z7k hp)) (fun x hx => hw x (by simp [hx])) (by simp) (by simp only [List.length_cons] at hlen ⊢; omega), Option.bind_some, if_neg (by simp [he])]
   by_cases h2 : (chF room fin (z1c v s).1 (t :: r)).2 = 0
   ·rw [zy0 h2, cond_false, zja (room := false) hv.v hN hs (.inl he), Option.bind_some, if_neg (by simp [h2])]
   ·rw [zt5 h2, cond_true, if_pos h2]
  ·rw [zt5 he, cond_true, if_pos he]
theorem zng {v : V} {s : Stp} (h : z66 false v s = true) : (z1c v s).2 = 0 := by simpa [z66] using h
theorem zoq {N : Nat} {v : V} {w : List Stp} (hv : Wd N v) (hN : N ≤ 268435456) (hw : ∀ s, s ∈ w → z61 s = 0) (hne : w ≠ []) (hl : w.length ≤ 268435456) : zo6 v w false = some (chF false z6o v w) :=
 Z0g (f := zi5) (F := zo6) hN (fun v w => by rw [Z87]; rfl) (fun v s hv hs hr => zn6 hv hN hs (zng hr)) w v hv hw hne hl
def apC (v : V) (what : Int) (w : List Stp) (x : V) : V × Int :=
 match w.getLast? with
 | none => if what = 1 then (x, 0) else (.nil, 1)
 | some s =>
  if what = 1 then chF false (fun p s => withF p s x) v w
  else if (z4j v w.dropLast).2 ≠ 0 then (.nil, (z4j v w.dropLast).2)
  else if what = 2 then (if (z1c (z4j v w.dropLast).1 s).2 = 0 then (.nil, 1) else chF true (fun p s => withF p s x) v w)
  else if (z1c (z4j v w.dropLast).1 s).2 ≠ 0 then (.nil, (z1c (z4j v w.dropLast).1 s).2)
  else if (z4j v w.dropLast).1.isList = true ∧ s.f_Index ≠ (((z4j v w.dropLast).1.asList.length : Nat) : Int) - 1 then (.nil, 1)
  else chF false z6o v w
end Go.Proofs.YthidgpcbnieleaaGreatDoor

