/- Plain laws, one behind the other. -/
import Derived.Test.YthidgpcbnieleaaGreatDoorRd
import Derived.Test.YthidgpcbnieleaaGreatDoorG8
namespace Go.Proofs.YthidgpcbnieleaaGreatDoor
open Go Aw
set_option linter.unusedVariables false
set_option linter.unusedSimpArgs false
theorem zd1 {i n : Nat} (h : i < n) : decide ((i : Int) < (n : Int)) = true := decide_eq_true (by omega)
theorem zco {i n : Nat} (h : ¬ i < n) : decide ((i : Int) < (n : Int)) = false := decide_eq_false (by omega)
theorem dropc {α : Type} {l : List α} {i : Nat} (h : i < l.length) : ∃ x, l[i]? = some x ∧ l.drop i = x :: l.drop (i + 1) :=
 ⟨l[i], List.getElem?_eq_getElem h, List.drop_eq_getElem_cons h⟩
theorem z4f {x : Int} (h1 : -9223372036854775808 ≤ x) (h2 : x ≤ 9223372036854775807) : IntKind.i64.wrap x = x := z9s h1 h2
theorem z3d {α : Type} (l : List α) (i : Nat) : z6n l (i : Int) = l[i]? := by
 unfold z6n; rw [decide_eq_true (by omega : (0 : Int) ≤ (i : Nat))]; rfl
def zu2 (c : UInt8) : Bool := (Nat.ble 97 c.toNat && Nat.ble c.toNat 122) || (Nat.ble 48 c.toNat && Nat.ble c.toNat 57) || Nat.beq c.toNat 95
def zx9 (c : UInt8) : Bool := Nat.ble 97 c.toNat && Nat.ble c.toNat 122
def z2f (s : Str) : Bool := Nat.ble 1 s.length && Nat.ble s.length 32 && zx9 (s.headD 0) && s.all zu2
theorem zu1 {c : UInt8} : zu2 c = true ↔ (97 ≤ c.toNat ∧ c.toNat ≤ 122) ∨ (48 ≤ c.toNat ∧ c.toNat ≤ 57) ∨ c.toNat = 95 := by
 simp only [zu2, Bool.or_eq_true, Bool.and_eq_true, Nat.ble_eq, Nat.beq_eq]; omega
theorem loOk_iff {c : UInt8} : zx9 c = true ↔ 97 ≤ c.toNat ∧ c.toNat ≤ 122 := by
 simp only [zx9, Bool.and_eq_true, Nat.ble_eq]
theorem zw0 (c : UInt8) (g : Nat → Option Bool) (i : Nat) (s : Str) (hi : i < s.length) (hc : s[i]? = some c) : z5c s g i = bif zu2 c then g (i + 1) else some false := by
 have h97 : (97 : UInt8).toNat = 97 := rfl
 have h122 : (122 : UInt8).toNat = 122 := rfl
 have h48 : (48 : UInt8).toNat = 48 := rfl
 have h57 : (57 : UInt8).toNat = 57 := rfl
 have h95 : (95 : UInt8).toNat = 95 := rfl
 simp only [z5c, zd1 hi, hc, cond_true, Option.bind_some, z5v, h97, h122, h48, h57, h95]
 simp only [Bool.cond_eq_ite, decide_eq_true_eq, bne_iff_ne, ne_eq, Bool.false_eq_true, if_false, zu1]
 repeat (split <;> (try (first | rfl | (exfalso; omega))))
theorem Z4q (s : Str) : ∀ k i, k + i = s.length → zg9 s i = some ((s.drop i).all zu2)
 | 0, i, h => by
  rw [zg8]
  simp only [z5c, zco (by omega : ¬ i < s.length), cond_false]
  rw [List.drop_of_length_le (by omega)]; rfl
 | k + 1, i, h => by
  obtain ⟨c, hc, hd⟩ := dropc (by omega : i < s.length)
  rw [zg8, zw0 c _ i s (by omega) hc, Z4q s k (i + 1) (by omega), hd, List.all_cons]
  cases zu2 c <;> rfl
theorem zv7 (s : Str) : ziq s = some (z2f s) := by
 have h97 : (97 : UInt8).toNat = 97 := rfl
 have h122 : (122 : UInt8).toNat = 122 := rfl
 cases s with
 | nil => rfl
 | cons c r =>
  have hl := Z4q (c :: r) (c :: r).length 0 (by simp)
  rw [List.drop_zero] at hl
  simp only [ziq, zao, h97, h122]
  have he : ((c :: r) == ([] : Str)) = false := rfl
  have h0 : (c :: r)[0]? = some c := rfl
  simp only [he, h0, cond_true, cond_false, Option.bind_some]
  by_cases h32 : (c :: r).length ≤ 32
  ·have hs : zdc (c :: r).length = some () := by unfold zdc; rw [Nat.ble_eq_true_of_le (by omega)]; rfl
   simp only [hs, hl, Option.bind_some]
   have e1 : decide (((c :: r).length : Int) > 32) = false := decide_eq_false (by omega)
   rw [e1]
   simp only [cond_false, z2f, List.headD_cons, Nat.ble_eq_true_of_le h32, Nat.ble_eq_true_of_le (by simp : 1 ≤ (c :: r).length), Bool.true_and]
   cases hlo : zx9 c with
   | true =>
    have := loOk_iff.1 hlo
    have e2 : decide ((c.toNat : Int) < (97 : Nat)) = false := decide_eq_false (by omega)
    have e3 : decide ((c.toNat : Int) > (122 : Nat)) = false := decide_eq_false (by omega)
    rw [e2, e3]; rfl
   | false =>
    have h2 : ¬ (97 ≤ c.toNat ∧ c.toNat ≤ 122) := fun h => by rw [loOk_iff.2 h] at hlo; cases hlo
    by_cases h3 : c.toNat < 97
    ·have e2 : decide ((c.toNat : Int) < (97 : Nat)) = true := decide_eq_true (by omega)
     rw [e2]; rfl
    ·have e2 : decide ((c.toNat : Int) < (97 : Nat)) = false := decide_eq_false (by omega)
     have e3 : decide ((c.toNat : Int) > (122 : Nat)) = true := decide_eq_true (by omega)
     rw [e2, e3]; rfl
  ·have e1 : decide (((c :: r).length : Int) > 32) = true := decide_eq_true (by omega)
   have e2 : Nat.ble (c :: r).length 32 = false := by
    cases hb : Nat.ble (c :: r).length 32 with
    | false => rfl
    | true => exact absurd (Nat.le_of_ble_eq_true hb) h32
   rw [e1]
   simp only [cond_true, z2f, e2, Bool.and_false, Bool.false_and]
end Go.Proofs.YthidgpcbnieleaaGreatDoor

namespace Go.Proofs.YthidgpcbnieleaaGreatDoor
open Go Aw
set_option linter.unusedVariables false
set_option linter.unusedSimpArgs false
set_option maxRecDepth 8000
def leB (a b : Str) : Bool := Op.bytesLess a b || a == b
def z81 : Option Str → List Str → Bool
 | _, [] => true
 | p, s :: r => z2f s && (match p with | none => true | some q => !(leB s q)) && z81 (some s) r
def z92 (l : List Str) (i : Nat) : Option Str := if i = 0 then none else l[i - 1]?
def z2m (l : List Str) : Int := if 4096 < l.length then 2 else if z81 none l then 0 else 8
theorem zlx {l : List Str} {i : Nat} {s : Str} (h : l[i]? = some s) (p : Option Str) : z81 p (l.drop i) = (z2f s && (match p with | none => true | some q => !(leB s q)) && z81 (z92 l (i + 1)) (l.drop (i + 1))) := by
 have hi := (List.getElem?_eq_some_iff.1 h).1
 have hd : l.drop i = s :: l.drop (i + 1) := by rw [List.drop_eq_getElem_cons hi, (List.getElem?_eq_some_iff.1 h).2]
 have : z92 l (i + 1) = some s := by simp [z92, h]
 rw [hd, this]
 cases p <;> simp only [z81]
theorem zfx (p : Option Str) : z81 p [] = true := by cases p <;> rfl
def r08 (b : Bool) : Int := if b then 0 else 8
theorem zhr {α : Type} (l : List (Str × α)) (i : Nat) (hi : i < l.length) (hb : l.length ≤ 4096) (g : Option Int) (hg : g = some (r08 (z81 (z92 (l.map (·.1)) (i + 1)) ((l.map (·.1)).drop (i + 1))))) (x : Str × α) (hx : l[i]? = some x) :
 (bif !(z2f x.1) then some 8 else (bif decide (((i : Nat) : Int) > 0) then Option.bind (z6n l (IntKind.i64.wrap (((i : Nat) : Int) - 1))) fun y => (bif (Op.bytesLess x.1 y.1 || x.1 == y.1) then some 8 else g) else g)) = some (r08 (z81 (z92 (l.map (·.1)) i) ((l.map (·.1)).drop i))) := by
 have hs : (l.map (·.1))[i]? = some x.1 := by rw [List.getElem?_map, hx]; rfl
 rw [zlx hs]
 cases hn : z2f x.1 with
 | false => rfl
 | true =>
  simp only [Bool.not_true, cond_false, Bool.true_and]
  by_cases h0 : i = 0
  ·subst h0
   have e : decide (((0 : Nat) : Int) > 0) = false := rfl
   rw [e, hg]
   simp only [cond_false, z92, if_pos, Bool.true_and]
  ·have e : decide ((i : Int) > 0) = true := decide_eq_true (by omega)
   have hw : IntKind.i64.wrap ((i : Int) - 1) = ((i - 1 : Nat) : Int) := by rw [z4f (by omega) (by omega)]; omega
   obtain ⟨y, hy, _⟩ := dropc (by omega : i - 1 < l.length)
   rw [e, hw, z3d, hy]
   have hp : z92 (l.map (·.1)) i = some y.1 := by simp only [z92, if_neg h0, List.getElem?_map, hy, Option.map_some]
   simp only [cond_true, Option.bind_some, hp, hg]
   show (bif leB x.1 y.1 then _ else _) = _
   cases leB x.1 y.1 <;> rfl
theorem Z4s (l : List (Str × V)) (hb : l.length ≤ 4096) : ∀ k i, k + i = l.length → zgg l i = some (r08 (z81 (z92 (l.map (·.1)) i) ((l.map (·.1)).drop i)))
 | 0, i, h => by
  rw [zgf]
  simp only [z6c, zco (by omega : ¬ i < l.length), cond_false]
  rw [List.drop_of_length_le (by simp; omega), zfx]; rfl
 | k + 1, i, h => by
  obtain ⟨x, hx, _⟩ := dropc (by omega : i < l.length)
  have hr := zhr l i (by omega) hb _ (Z4s l hb k (i + 1) (by omega)) x hx
  rw [zgf]
  simp only [z6c, zd1 (by omega : i < l.length), cond_true, hx, Option.bind_some, zv7, z8z, cond_false]
  exact hr
theorem zv8 (l : List (Str × V)) : zit l = some (z2m (l.map (·.1))) := by
 simp only [zit, z2m, List.length_map]
 by_cases h : 4096 < l.length
 ·rw [decide_eq_true (by omega : (l.length : Int) > 4096), if_pos h]; rfl
 ·rw [decide_eq_false (by omega : ¬ (l.length : Int) > 4096), if_neg h, cond_false, Z4s l (by omega) l.length 0 (by omega)]; rfl
def z1b : V → Int
 | .nil => 1
 | .bool _ => 2
 | .int _ => 3
 | .float _ => 4
 | .text _ => 5
 | .bytes _ => 6
 | .ref _ => 7
 | .list _ => 8
 | .dict _ => 9
 | .record _ _ _ => 10
 | .nothing => 11
 | .alien _ => 0
theorem zv6 (x : V) : zio x = some (z1b x) := by cases x <;> rfl
def zvi : V → Int
 | .nothing => 7
 | .alien _ => 6
 | _ => 2
def z3q : V → Int
 | .text s => if 65536 < s.length then 2 else 0
 | .bytes b => if 65536 < b.length then 2 else 0
 | .list l => if 4096 < l.length then 2 else 0
 | .dict l => z2m (l.map (·.1))
 | .record c v l => if z2f c = false then 8 else if v < 1 ∨ 1000 < v then 1 else z2m (l.map (·.1))
 | .nothing => 7
 | .alien _ => 6
 | _ => 0
def zaw (x : V) (n deep : Int) : Int := if 16384 ≤ n ∨ 64 < deep then zvi x else z3q x
theorem Z0o (x : V) : z86 x true = some (zvi x) := by
 simp only [z86, cond_true, zv6, Option.bind_some]
 cases x <;> rfl
theorem zr8 (n m : Nat) : (bif decide ((n : Int) > (m : Int)) then some (2 : Int) else zan) = some (if m < n then 2 else 0) := by
 by_cases h : m < n
 ·rw [decide_eq_true (by omega : (n : Int) > m), if_pos h]; rfl
 ·rw [decide_eq_false (by omega : ¬ (n : Int) > m), if_neg h]; rfl
theorem zzw (x : V) : z86 x false = some (z3q x) := by
 cases x with
 | text s => exact zr8 s.length 65536
 | bytes s => exact zr8 s.length 65536
 | list s => exact zr8 s.length 4096
 | dict l =>
  have : z86 (.dict l) false = Option.bind (zit l) fun x => some x := rfl
  rw [this, zv8]; rfl
 | record c v l =>
  have : z86 (.record c v l) false = Option.bind (ziq c) fun x17 => bif !x17 then some 8 else bif decide (v < 1) then zam ⟨c, v, l⟩ true else zam ⟨c, v, l⟩ (decide (v > 1000)) := rfl
  rw [this, zv7]
  simp only [Option.bind_some, z3q, zam, zv8]
  cases hn : z2f c with
  | false => rfl
  | true =>
   simp only [Bool.not_true, cond_false, cond_true]
   by_cases h1 : v < 1
   ·rw [decide_eq_true h1, cond_true, if_neg (by simp), if_pos (Or.inl h1)]
   ·rw [decide_eq_false h1, cond_false, if_neg (by simp)]
    by_cases h2 : v > 1000
    ·rw [decide_eq_true h2, cond_true, if_pos (Or.inr h2)]
    ·rw [decide_eq_false h2, cond_false, if_neg (by omega)]
 | _ => rfl
theorem zzk (x : V) (n d : Int) : zp2 x n d = some (zaw x n d) := by
 simp only [zp2, zaw]
 by_cases h1 : n ≥ 16384
 ·rw [decide_eq_true h1, cond_true, if_pos (Or.inl h1), Z0o]
 ·rw [decide_eq_false h1, cond_false]
  by_cases h2 : d > 64
  ·rw [decide_eq_true h2, if_pos (Or.inr h2), Z0o]
  ·rw [decide_eq_false h2, if_neg (by omega), zzw]
theorem zyi {c : Bool} {x y : Option V} (h1 : ∃ a, x = some (.alien a)) (h2 : ∃ a, y = some (.alien a)) : ∃ a, (bif c then x else y) = some (.alien a) := by cases c <;> assumption
theorem zld (n : Int) : ∃ a, zma n = some (.alien a) := by
 unfold zma
 repeat (first | exact ⟨_, rfl⟩ | refine zyi ⟨_, rfl⟩ ?_)
noncomputable def alT (n : Int) : {t : Nat // zi3 t = true} := (zld n).choose
theorem zup (n : Int) : zma n = some (.alien (alT n)) := (zld n).choose_spec
mutual
noncomputable def bu : Term → V
 | .mk k b i f t y r l d c v => if k = 1 then .nil else if k = 2 then .bool b else if k = 3 then .int i else if k = 4 then .float f else if k = 5 then .text t else if k = 6 then .bytes y else if k = 7 then .ref r
  else if k = 8 then .list (Z1f l) else if k = 9 then .dict (zyl d) else if k = 10 then .record c v (zyl d) else if k = 11 then .nothing else .alien (alT i)
noncomputable def Z1f : List Term → List V
 | [] => []
 | x :: r => bu x :: Z1f r
noncomputable def zyl : List (Str × Term) → List (Str × V)
 | [] => []
 | (s, x) :: r => (s, bu x) :: zyl r
end
noncomputable def buE (p : Str × Term) : Str × V := (p.1, bu p.2)
theorem zl6 : ∀ l, Z1f l = l.map bu
 | [] => by rw [Z1f]; rfl
 | x :: r => by rw [Z1f, zl6 r]; rfl
theorem zl7 : ∀ l, zyl l = l.map buE
 | [] => by rw [zyl]; rfl
 | (s, x) :: r => by rw [zyl, zl7 r]; rfl
inductive BuC (t : Term) : V → Prop
 | nil : t.kind = 1 → BuC t .nil
 | bool : t.kind = 2 → BuC t (.bool t.bool)
 | int : t.kind = 3 → BuC t (.int t.int)
 | float : t.kind = 4 → BuC t (.float t.float)
 | text : t.kind = 5 → BuC t (.text t.text)
 | bytes : t.kind = 6 → BuC t (.bytes t.bytes)
 | ref : t.kind = 7 → BuC t (.ref t.ref)
 | list : t.kind = 8 → BuC t (.list (t.list.map bu))
 | dict : t.kind = 9 → BuC t (.dict (t.fields.map buE))
 | record : t.kind = 10 → BuC t (.record t.cls t.ver (t.fields.map buE))
 | nothing : t.kind = 11 → BuC t .nothing
 | alien : t.kind < 1 ∨ 11 < t.kind → BuC t (.alien (alT t.int))
theorem Z5w (t : Term) : BuC t (bu t) := by
 cases t with
 | mk k b i f t y r l d c v =>
  rw [bu, zl6, zl7]
  by_cases h1 : k = 1; · rw [if_pos h1]; exact .nil h1
  by_cases h2 : k = 2; · rw [if_neg h1, if_pos h2]; exact .bool h2
  by_cases h3 : k = 3; · rw [if_neg h1, if_neg h2, if_pos h3]; exact .int h3
  by_cases h4 : k = 4; · rw [if_neg h1, if_neg h2, if_neg h3, if_pos h4]; exact .float h4
  by_cases h5 : k = 5; · rw [if_neg h1, if_neg h2, if_neg h3, if_neg h4, if_pos h5]; exact .text h5
  by_cases h6 : k = 6; · rw [if_neg h1, if_neg h2, if_neg h3, if_neg h4, if_neg h5, if_pos h6]; exact .bytes h6
  by_cases h7 : k = 7; · rw [if_neg h1, if_neg h2, if_neg h3, if_neg h4, if_neg h5, if_neg h6, if_pos h7]; exact .ref h7
  by_cases h8 : k = 8; · rw [if_neg h1, if_neg h2, if_neg h3, if_neg h4, if_neg h5, if_neg h6, if_neg h7, if_pos h8]; exact .list h8
  by_cases h9 : k = 9; · rw [if_neg h1, if_neg h2, if_neg h3, if_neg h4, if_neg h5, if_neg h6, if_neg h7, if_neg h8, if_pos h9]; exact .dict h9
  by_cases h10 : k = 10; · rw [if_neg h1, if_neg h2, if_neg h3, if_neg h4, if_neg h5, if_neg h6, if_neg h7, if_neg h8, if_neg h9, if_pos h10]; exact .record h10
  by_cases h11 : k = 11; · rw [if_neg h1, if_neg h2, if_neg h3, if_neg h4, if_neg h5, if_neg h6, if_neg h7, if_neg h8, if_neg h9, if_neg h10, if_pos h11]; exact .nothing h11
  rw [if_neg h1, if_neg h2, if_neg h3, if_neg h4, if_neg h5, if_neg h6, if_neg h7, if_neg h8, if_neg h9, if_neg h10, if_neg h11]
  exact .alien (by show k < 1 ∨ 11 < k; omega)
end Go.Proofs.YthidgpcbnieleaaGreatDoor

namespace Go.Proofs.YthidgpcbnieleaaGreatDoor
open Go Aw
set_option linter.unusedVariables false
set_option linter.unusedSimpArgs false
set_option maxRecDepth 8000
structure Ct where
 ok : Bool
 n : Int
 dp : Int
 why : Int
mutual
def z2g : V → Int → Int → Int → Ct
 | .list l, n, dp, d => if zaw (.list l) n d = 0 then z2v l (n + 1) (max dp d) (d + 1) else ⟨false, n, dp, zaw (.list l) n d⟩
 | .dict l, n, dp, d => if zaw (.dict l) n d = 0 then zaf l (n + 1) (max dp d) (d + 1) else ⟨false, n, dp, zaw (.dict l) n d⟩
 | .record c v l, n, dp, d => if zaw (.record c v l) n d = 0 then zaf l (n + 1) (max dp d) (d + 1) else ⟨false, n, dp, zaw (.record c v l) n d⟩
 | x, n, dp, d => if zaw x n d = 0 then ⟨true, n + 1, max dp d, 0⟩ else ⟨false, n, dp, zaw x n d⟩
def z2v : List V → Int → Int → Int → Ct
 | [], n, dp, d => ⟨true, n, dp, 0⟩
 | x :: r, n, dp, d => if (z2g x n dp d).ok then z2v r (z2g x n dp d).n (z2g x n dp d).dp d else z2g x n dp d
def zaf : List (Str × V) → Int → Int → Int → Ct
 | [], n, dp, d => ⟨true, n, dp, 0⟩
 | (s, x) :: r, n, dp, d => if (z2g x n dp d).ok then zaf r (z2g x n dp d).n (z2g x n dp d).dp d else z2g x n dp d
end
def V.parts : V → List V
 | .list l => l
 | .dict l => l.map (·.2)
 | .record _ _ l => l.map (·.2)
 | _ => []
theorem zcu : ∀ (l : List (Str × V)) (n dp d : Int), zaf l n dp d = z2v (l.map (·.2)) n dp d
 | [], n, dp, d => by simp only [zaf, z2v, List.map_nil]
 | (s, x) :: r, n, dp, d => by simp only [zaf, z2v, List.map_cons, zcu r]
theorem z6f (x : V) (n dp d : Int) : z2g x n dp d = if zaw x n d = 0 then z2v x.parts (n + 1) (max dp d) (d + 1) else ⟨false, n, dp, zaw x n d⟩ := by
 cases x <;> simp only [z2g, V.parts, zcu, z2v]
theorem z30 (x : V) (r : List V) (n dp d : Int) : z2v (x :: r) n dp d = if (z2g x n dp d).ok then z2v r (z2g x n dp d).n (z2g x n dp d).dp d else z2g x n dp d := by simp only [z2v]
theorem z3i (n dp d : Int) : z2v [] n dp d = ⟨true, n, dp, 0⟩ := by simp only [z2v]
theorem Z0n (x : V) : zvi x ≠ 0 := by cases x <;> simp [zvi]
theorem z98 {x : V} {n d : Int} (h : zaw x n d = 0) : n < 16384 ∧ d ≤ 64 ∧ z3q x = 0 := by
 unfold zaw at h
 split at h
 ·exact absurd h (Z0n x)
 ·rename_i hc; exact ⟨by omega, by omega, h⟩
theorem zs3 {x y : V} (h : y ∈ x.parts) : SizeOf.sizeOf y < SizeOf.sizeOf x := by
 cases x <;> simp only [V.parts, List.not_mem_nil] at h
 ·have := List.sizeOf_lt_of_mem h; simp; omega
 ·obtain ⟨⟨s, z⟩, hz, rfl⟩ := List.mem_map.1 h
  have := List.sizeOf_lt_of_mem hz; simp at this ⊢; omega
 ·obtain ⟨⟨s, z⟩, hz, rfl⟩ := List.mem_map.1 h
  have := List.sizeOf_lt_of_mem hz; simp at this ⊢; omega
theorem V.byParts {P : V → Prop} (h : ∀ x, (∀ y, y ∈ x.parts → P y) → P x) (x : V) : P x :=
 h x (fun y hy => V.byParts h y)
termination_by SizeOf.sizeOf x
decreasing_by exact zs3 hy
structure CtOk (c : Ct) (n : Int) : Prop where
 lo : n ≤ c.n
 ok : c.ok = true → c.n ≤ 16384 ∧ c.why = 0
 bad : c.ok = false → c.why ≠ 0
theorem zca {d : Int} : ∀ (l : List V), (∀ y, y ∈ l → ∀ n dp, CtOk (z2g y n dp d) n) → ∀ n dp, n ≤ 16384 → CtOk (z2v l n dp d) n
 | [], _, n, dp, hm => by rw [z3i]; exact ⟨Int.le_refl _, fun _ => ⟨hm, rfl⟩, by simp⟩
 | x :: r, h, n, dp, hm => by
  have h1 := h x (by simp) n dp
  rw [z30]
  split
  ·rename_i hk
   have h2 := zca r (fun y hy => h y (by simp [hy])) _ (z2g x n dp d).dp (h1.ok hk).1
   exact ⟨Int.le_trans h1.lo h2.lo, h2.ok, h2.bad⟩
  ·exact h1
theorem z7s (x : V) : ∀ d n dp, CtOk (z2g x n dp d) n := by
 induction x using V.byParts with
 | _ x ih =>
 intro d n dp
 rw [z6f]
 split
 ·rename_i h
  have := z98 h
  have h2 := zca x.parts (fun y hy n dp => ih y hy (d + 1) n dp) (n + 1) (max dp d) (by omega)
  exact ⟨by have := h2.lo; omega, h2.ok, h2.bad⟩
 ·rename_i h; exact ⟨Int.le_refl _, by simp, fun _ => h⟩
def ctS (c : Ct) : Bool × S_value_count := (c.ok, ⟨c.n, c.dp, c.why⟩)
def zle (x : V) : Prop := ∀ n dp w d, -4611686018427387904 ≤ n → n ≤ 16384 → -4611686018427387904 ≤ d → d ≤ 65 → zh0 ⟨n, dp, w⟩ x d = some (ctS (z2g x n dp d))
theorem Z55 (l : List V) (d : Int) (hl : ∀ y, y ∈ l → zle y) (hd : -4611686018427387904 ≤ d) (hd' : d ≤ 64) : ∀ k i n dp, k + i = l.length → -4611686018427387904 ≤ n → n ≤ 16384 → zdm zh0 (.list l) d i n dp 0 = some (ctS (z2v (l.drop i) n dp (d + 1)))
 | 0, i, n, dp, h, hn, hm => by
  rw [zgi]
  simp only [z5g, V.asList, zco (by omega : ¬ i < l.length), cond_false, zdn]
  rw [List.drop_of_length_le (by omega), z3i]; rfl
 | k + 1, i, n, dp, h, hn, hm => by
  obtain ⟨x, hx, hdr⟩ := dropc (by omega : i < l.length)
  have hp := hl x (List.mem_of_getElem? hx) n dp 0 (d + 1) hn hm (by omega) (by omega)
  have hw : IntKind.i64.wrap (d + 1) = d + 1 := z4f (by omega) (by omega)
  rw [zgi]
  simp only [z5g, V.asList, zd1 (by omega : i < l.length), cond_true, hx, Option.bind_some, hw, hp, ctS]
  rw [hdr, z30]
  have hf := z7s x (d + 1) n dp
  cases hk : (z2g x n dp (d + 1)).ok with
  | false => simp only [Bool.not_false, cond_true, Bool.false_eq_true, if_false, hk]
  | true =>
   have h1 := hf.ok hk
   have h2 := hf.lo
   simp only [Bool.not_true, cond_false, if_true]
   rw [h1.2, Z55 l d hl hd hd' k (i + 1) _ _ (by omega) (by omega) h1.1]; rfl
theorem Z57 (l : List (Str × V)) (d : Int) (hl : ∀ y, y ∈ l.map (·.2) → zle y) (hd : -4611686018427387904 ≤ d) (hd' : d ≤ 64) : ∀ k i n dp, k + i = l.length → -4611686018427387904 ≤ n → n ≤ 16384 → zdl zh0 l d i n dp 0 = some (ctS (z2v ((l.map (·.2)).drop i) n dp (d + 1)))
 | 0, i, n, dp, h, hn, hm => by
  rw [zgh]
  simp only [z5f, zco (by omega : ¬ i < l.length), cond_false]
  rw [List.drop_of_length_le (by simp; omega), z3i]; rfl
 | k + 1, i, n, dp, h, hn, hm => by
  obtain ⟨x, hx, _⟩ := dropc (by omega : i < l.length)
  have hx2 : (l.map (·.2))[i]? = some x.2 := by rw [List.getElem?_map, hx]; rfl
  obtain ⟨x', hx', hdr⟩ := dropc (by rw [List.length_map]; omega : i < (l.map (·.2)).length)
  rw [hx2] at hx'; injection hx' with hx'; subst hx'
  have hp := hl x.2 (List.mem_of_getElem? hx2) n dp 0 (d + 1) hn hm (by omega) (by omega)
  have hw : IntKind.i64.wrap (d + 1) = d + 1 := z4f (by omega) (by omega)
  rw [zgh]
  simp only [z5f, zd1 (by omega : i < l.length), cond_true, hx, Option.bind_some, hw, hp, ctS]
  rw [hdr, z30]
  have hf := z7s x.2 (d + 1) n dp
  cases hk : (z2g x.2 n dp (d + 1)).ok with
  | false => simp only [Bool.not_false, cond_true, Bool.false_eq_true, if_false, hk]
  | true =>
   have h1 := hf.ok hk
   have h2 := hf.lo
   simp only [Bool.not_true, cond_false, if_true]
   rw [h1.2, Z57 l d hl hd hd' k (i + 1) _ _ (by omega) (by omega) h1.1]; rfl
theorem zv9 (l : List (Str × V)) (d n dp : Int) (hl : ∀ y, y ∈ l.map (·.2) → zle y) (hd : -4611686018427387904 ≤ d) (hd' : d ≤ 64) (hn : -4611686018427387904 ≤ n) (hm : n ≤ 16384) : zmk ⟨n, dp, 0⟩ l d = some (ctS (z2v (l.map (·.2)) n dp (d + 1))) := by
 rw [Z48, zji]
 exact Z57 l d hl hd hd' l.length 0 n dp (by omega) hn hm
theorem zzq (x : V) : zle x := by
 induction x using V.byParts with
 | _ x ih =>
 intro n dp w d hn hm hd hd'
 rw [Z49, zjj, z6f]
 simp only [zzk, Option.bind_some]
 by_cases h : zaw x n d = 0
 ·have h0 := z98 h
  have hw : IntKind.i64.wrap (n + 1) = n + 1 := z4f (by omega) (by omega)
  have hmx : (if d > dp then d else dp) = max dp d := by omega
  rw [if_pos h, h, hw, hmx]
  have e0 : ((0 : Int) != 0) = false := rfl
  rw [e0, cond_false]
  cases x with
  | list l => exact Z55 l d ih hd (by omega) l.length 0 (n + 1) (max dp d) (by omega) (by omega) (by omega)
  | dict l =>
   show Option.bind (zmk ⟨n + 1, max dp d, 0⟩ l d) (fun x => some (x.1, x.2)) = _
   rw [zv9 l d _ _ ih hd (by omega) (by omega) (by omega)]; rfl
  | record c v l =>
   show Option.bind (zmk ⟨n + 1, max dp d, 0⟩ l d) (fun x => some (x.1, x.2)) = _
   rw [zv9 l d _ _ ih hd (by omega) (by omega) (by omega)]; rfl
  | nothing => have := h0.2.2; simp [z3q] at this
  | _ => simp only [V.parts, z3i]; rfl
 ·rw [if_neg h]
  have e0 : (zaw x n d != 0) = true := by simpa using h
  rw [e0]; rfl
def z1c (x : V) : Int × Int := if (z2g x 0 0 1).ok then (0, 0) else ((z2g x 0 0 1).n, (z2g x 0 0 1).why)
theorem zk7 (x : V) : zgy x = some (z1c x) := by
 simp only [zgy, zzq x 0 0 0 1 (by omega) (by omega) (by omega) (by omega), Option.bind_some, ctS, z1c]
 cases (z2g x 0 0 1).ok <;> rfl
theorem zc1 (x : V) : zd5 x = some (z1c x) := by simp only [zd5, zk7, Option.bind_some]
def zoz (t : Term) : List Term := if t.kind = 8 then t.list else if t.kind = 9 ∨ t.kind = 10 then t.fields.map (·.2) else []
theorem zoy {t u : Term} (h : u ∈ zoz t) : SizeOf.sizeOf u < SizeOf.sizeOf t := by
 cases t with
 | mk k b i f s y r l d c v =>
 unfold zoz at h
 split at h
 ·have := List.sizeOf_lt_of_mem h; simp [Term.list] at this ⊢; omega
 ·split at h
  ·obtain ⟨⟨s, z⟩, hz, rfl⟩ := List.mem_map.1 h
   have := List.sizeOf_lt_of_mem hz; simp [Term.fields] at this ⊢; omega
  ·cases h
theorem Term.byParts {P : Term → Prop} (h : ∀ t, (∀ u, u ∈ zoz t → P u) → P t) (t : Term) : P t :=
 h t (fun u hu => Term.byParts h u)
termination_by SizeOf.sizeOf t
decreasing_by exact zoy hu
end Go.Proofs.YthidgpcbnieleaaGreatDoor

namespace Go.Proofs.YthidgpcbnieleaaGreatDoor
open Go Aw
set_option linter.unusedVariables false
set_option linter.unusedSimpArgs false
set_option maxRecDepth 8000
theorem zrd {α : Type} {b : Nat} {acc : List α} {x : α} (hb : b ≤ 1024) (h : acc.length ≤ 1073741824) : z9p b acc [x] = some (acc ++ [x]) := by
 have h1 : (acc.length + 1) * b ≤ (1073741824 + 1) * 1024 := Nat.mul_le_mul (by omega) hb
 unfold z9p
 rw [Nat.ble_eq_true_of_le (by simp only [List.length_cons, List.length_nil, Nat.zero_add]; omega)]; rfl
theorem zvu {α : Type} {b : Nat} {l : List α} (hb : b ≤ 1024) (h : l.length ≤ 1073741824) : z9p b [] l = some l := by
 have h1 : l.length * b ≤ 1073741824 * 1024 := Nat.mul_le_mul h hb
 unfold z9p
 rw [Nat.ble_eq_true_of_le (by simp only [List.length_nil, Nat.zero_add]; omega)]; rfl
theorem zl8 : ∀ {l : List Term} {u : Term}, u ∈ l → bkT u ≤ zrh l
 | x :: r, u, h => by
  rw [zrh]; rcases List.mem_cons.1 h with rfl | h
  ·omega
  ·have := zl8 h; omega
theorem zla : ∀ {l : List (Str × Term)} {u : Str × Term}, u ∈ l → bkT u.2 ≤ zri l
 | (s, x) :: r, u, h => by
  rw [zri]; rcases List.mem_cons.1 h with rfl | h
  ·show bkT x ≤ _; omega
  ·have := zla h; omega
theorem zl9 : ∀ (l : List Term), l.length ≤ zrh l
 | [] => by simp
 | .mk k b i f s y r l dd c v :: q => by rw [zrh, List.length_cons, bkT]; have := zl9 q; omega
theorem zlb : ∀ (l : List (Str × Term)), l.length ≤ zri l
 | [] => by simp
 | (s, x) :: q => by rw [zri, List.length_cons]; have := zlb q; omega
theorem zec (t : Term) : bkT t = t.text.length + t.bytes.length + t.cls.length + zrh t.list + zri t.fields + 12 := by cases t; rw [bkT]; rfl
theorem zy9 {t u : Term} (h : u ∈ t.list) : bkT u < bkT t := by have := zl8 h; have := zec t; omega
theorem zr5 {t : Term} {u : Str × Term} (h : u ∈ t.fields) : bkT u.2 < bkT t := by have := zla h; have := zec t; omega
theorem ztd (t : Term) : t.list.length ≤ bkT t := by have := zl9 t.list; have := zec t; omega
theorem zn1 (t : Term) : t.fields.length ≤ bkT t := by have := zlb t.fields; have := zec t; omega
theorem zq5 (t : Term) : t.bytes.length ≤ bkT t := by have := zec t; omega
theorem zbe {α β : Type} {l : List α} {f : α → β} {i : Nat} {x : α} (h : l[i]? = some x) : (l.take i).map f ++ [f x] = (l.take (i + 1)).map f := by
 obtain ⟨hi, rfl⟩ := List.getElem?_eq_some_iff.1 h
 rw [List.take_add_one, List.getElem?_eq_getElem hi, List.map_append]; rfl
end Go.Proofs.YthidgpcbnieleaaGreatDoor

namespace Go.Proofs.YthidgpcbnieleaaGreatDoor
open Go Aw
set_option linter.unusedVariables false
set_option linter.unusedSimpArgs false
set_option maxRecDepth 8000
theorem Z58 (t : Term) (hl : ∀ u, u ∈ t.list → z8b u = some (bu u)) (hb : t.list.length ≤ 1073741824) : ∀ k i, k + i = t.list.length → zbv z8b t ((t.list.take i).map bu) i = some (.list (t.list.map bu))
 | 0, i, h => by
  rw [zg1]
  simp only [z5b, zco (by omega : ¬ i < t.list.length), cond_false]
  rw [List.take_of_length_le (by omega)]
 | k + 1, i, h => by
  obtain ⟨x, hx, _⟩ := dropc (by omega : i < t.list.length)
  rw [zg1]
  simp only [z5b, zd1 (by omega : i < t.list.length), cond_true, hx, Option.bind_some, hl x (List.mem_of_getElem? hx), zrd (b := 16) (by omega) (show ((t.list.take i).map bu).length ≤ 1073741824 by simp; omega), zbe hx]
  exact Z58 t hl hb k (i + 1) (by omega)
theorem Z5a (l : List (Str × Term)) (hl : ∀ u, u ∈ l → z8b u.2 = some (bu u.2)) (hb : l.length ≤ 1073741824) : ∀ k i, k + i = l.length → zdh z8b l ((l.take i).map buE) i = some (l.map buE)
 | 0, i, h => by
  rw [zfy]
  simp only [z5a, zco (by omega : ¬ i < l.length), cond_false]
  rw [List.take_of_length_le (by omega)]
 | k + 1, i, h => by
  obtain ⟨x, hx, _⟩ := dropc (by omega : i < l.length)
  rw [zfy]
  simp only [z5a, zd1 (by omega : i < l.length), cond_true, hx, Option.bind_some, hl x (List.mem_of_getElem? hx), zrd (b := 32) (x := (x.1, bu x.2)) (by omega) (show ((l.take i).map buE).length ≤ 1073741824 by simp; omega)]
  have : ((l.take i).map buE) ++ [(x.1, bu x.2)] = (l.take (i + 1)).map buE := zbe (f := buE) hx
  rw [this]
  exact Z5a l hl hb k (i + 1) (by omega)
theorem zhd : ∀ (n : Nat) (t : Term), bkT t ≤ n → n ≤ 268435456 → z8b t = some (bu t) := by
 intro n
 induction n with
 | zero => intro t h _; have := zec t; omega
 | succ n ih =>
  intro t h hn
  have hl : ∀ u, u ∈ t.list → z8b u = some (bu u) := fun u hu => ih u (by have := zy9 hu; omega) (by omega)
  have hf : ∀ u, u ∈ t.fields → z8b u.2 = some (bu u.2) := fun u hu => ih u.2 (by have := zr5 hu; omega) (by omega)
  have hd : zs4 t.fields = some (t.fields.map buE) := by
   rw [Z43, zjd]
   exact Z5a t.fields hf (by have := zn1 t; omega) t.fields.length 0 (by omega)
  have hll : zbv z8b t [] 0 = some (.list (t.list.map bu)) := Z58 t hl (by have := ztd t; omega) t.list.length 0 (by omega)
  have hb := Z5w t
  rw [Z44, zje]
  generalize bu t = x at hb
  cases hb with
  | bytes hk => simp only [hk, zvu (by omega : 1 ≤ 1024) (show t.bytes.length ≤ 1073741824 by have := zq5 t; omega)]; rfl
  | list hk => simp only [hk, hll]; rfl
  | dict hk => simp only [hk, hd]; rfl
  | record hk => simp only [hk, hd]; rfl
  | alien hk =>
   have e : ∀ k : Int, 1 ≤ k → k ≤ 11 → (t.kind == k) = false := fun k h1 h2 => by simp; omega
   simp only [e 1 (by omega) (by omega), e 2 (by omega) (by omega), e 3 (by omega) (by omega), e 4 (by omega) (by omega), e 5 (by omega) (by omega), e 6 (by omega) (by omega), e 7 (by omega) (by omega), e 8 (by omega) (by omega),
    e 9 (by omega) (by omega), e 10 (by omega) (by omega), e 11 (by omega) (by omega), cond_false, zup, Option.bind_some]
  | _ hk => simp only [hk]; rfl
theorem zv5 (t : Term) (h : bkT t ≤ 268435456) : z8b t = some (bu t) := zhd _ t h (Nat.le_refl _)
end Go.Proofs.YthidgpcbnieleaaGreatDoor

namespace Go.Proofs.YthidgpcbnieleaaGreatDoor
open Go Aw
set_option linter.unusedVariables false
set_option linter.unusedSimpArgs false
set_option maxRecDepth 8000
def c3 (a b : Int) : Int := if a < b then -1 else if a > b then 1 else 0
def th (c d : Int) : Int := if c = 0 then d else c
def z4m : List Int → List Int → Int
 | [], [] => 0
 | [], _ :: _ => -1
 | _ :: _, [] => 1
 | a :: x, b :: y => th (c3 a b) (z4m x y)
theorem zl3 (a b : Int) : c3 a b = -1 ∨ c3 a b = 0 ∨ c3 a b = 1 := by unfold c3; split; (· exact .inl rfl); split; (· exact .inr (.inr rfl)); exact .inr (.inl rfl)
theorem Z1e (a b : Int) : c3 b a = - c3 a b := by unfold c3; split <;> split <;> (try split) <;> (try split) <;> omega
theorem c3_zero {a b : Int} : c3 a b = 0 ↔ a = b := by unfold c3; split <;> (try split) <;> omega
theorem zj9 (a : Int) : c3 a a = 0 := c3_zero.2 rfl
theorem c3_lt {a b : Int} : c3 a b = -1 ↔ a < b := by unfold c3; split <;> (try split) <;> omega
theorem zu5 (a b k : Int) : c3 (a + k) (b + k) = c3 a b := by unfold c3; split <;> split <;> (try split) <;> (try split) <;> omega
theorem z7o (a b c : Int) : th (th a b) c = th a (th b c) := by unfold th; by_cases h : a = 0 <;> by_cases h2 : b = 0 <;> simp_all
theorem zki : ∀ x y, z4m x y = -1 ∨ z4m x y = 0 ∨ z4m x y = 1
 | [], [] => .inr (.inl rfl)
 | [], _ :: _ => .inl rfl
 | _ :: _, [] => .inr (.inr rfl)
 | a :: x, b :: y => by
  rw [z4m]; unfold th; split
  ·exact zki x y
  ·exact zl3 a b
theorem z9f : ∀ x y, z4m y x = - z4m x y
 | [], [] => rfl
 | [], _ :: _ => rfl
 | _ :: _, [] => rfl
 | a :: x, b :: y => by
  have := z9f x y
  have := Z1e a b
  rw [z4m, z4m]; unfold th; split <;> split <;> omega
theorem ze0 : ∀ x y z, z4m x y ≤ 0 → z4m y z ≤ 0 → z4m x z ≤ 0 ∧ (z4m x y < 0 ∨ z4m y z < 0 → z4m x z < 0)
 | [], [], [], _, _ => by simp [z4m]
 | [], [], _ :: _, _, _ => by simp [z4m]
 | [], _ :: _, [], _, h => by simp [z4m] at h
 | [], _ :: _, _ :: _, _, _ => by simp [z4m]
 | _ :: _, [], _, h, _ => by simp [z4m] at h
 | _ :: _, _ :: _, [], _, h => by simp [z4m] at h
 | a :: x, b :: y, c :: z, h1, h2 => by
  have ih := ze0 x y z
  have ra := zl3 a b; have rb := zl3 b c; have rc := zl3 a c
  have za := @c3_zero a b; have zb := @c3_zero b c; have zc := @c3_zero a c
  have la := @c3_lt a b; have lb := @c3_lt b c; have lc := @c3_lt a c
  rw [z4m] at h1 h2
  rw [z4m, z4m, z4m]
  unfold th at h1 h2 ⊢
  by_cases e1 : c3 a b = 0
  ·rw [if_pos e1] at h1 ⊢
   by_cases e2 : c3 b c = 0
   ·rw [if_pos e2] at h2 ⊢
    rw [if_pos (by omega : c3 a c = 0)]
    exact ih h1 h2
   ·rw [if_neg e2] at h2 ⊢
    have : c3 a c = -1 := by omega
    rw [if_neg (by omega), this]; omega
  ·rw [if_neg e1] at h1 ⊢
   by_cases e2 : c3 b c = 0
   ·rw [if_pos e2] at h2 ⊢
    have : c3 a c = -1 := by omega
    rw [if_neg (by omega), this]; omega
   ·rw [if_neg e2] at h2 ⊢
    have : c3 a c = -1 := by omega
    rw [if_neg (by omega), this]; omega
theorem zhx (a b : Int) : (bif decide (a < b) then some (-1 : Int) else bif decide (a > b) then some 1 else some 0) = some (c3 a b) := by
 unfold c3
 by_cases h : a < b
 ·rw [decide_eq_true h, if_pos h]; rfl
 ·rw [decide_eq_false h, if_neg h, cond_false]
  by_cases h2 : a > b
  ·rw [decide_eq_true h2, if_pos h2]; rfl
  ·rw [decide_eq_false h2, if_neg h2]; rfl
def cmpS (a b : Str) : Int := if Op.bytesLess a b then -1 else if a == b then 0 else 1
def z8n : Str → List Int
 | [] => [0]
 | c :: r => ((c.toNat : Int) + 1) :: z8n r
theorem zy8 (a b : UInt8) (x y : Str) : Op.bytesLess (a :: x) (b :: y) = (a < b || (a == b && Op.bytesLess x y)) := rfl
theorem zhw (a b : UInt8) (x y : Str) : cmpS (a :: x) (b :: y) = th (c3 ((a.toNat : Int) + 1) ((b.toNat : Int) + 1)) (cmpS x y) := by
 unfold cmpS
 rw [zy8]
 rcases Nat.lt_trichotomy a.toNat b.toNat with h | h | h
 ·have h1 : a < b := UInt8.lt_iff_toNat_lt.2 h
  have : c3 ((a.toNat : Int) + 1) ((b.toNat : Int) + 1) = -1 := c3_lt.2 (by omega)
  rw [this]; simp [h1, th]
 ·have h1 : a = b := UInt8.toNat_inj.1 h
  subst h1
  have : c3 ((a.toNat : Int) + 1) ((a.toNat : Int) + 1) = 0 := zj9 _
  rw [this]
  have h2 : ¬ a < a := by rw [UInt8.lt_iff_toNat_lt]; omega
  simp [h2, th]
 ·have h1 : ¬ a < b := by rw [UInt8.lt_iff_toNat_lt]; omega
  have h2 : (a == b) = false := by rw [beq_eq_false_iff_ne]; intro e; subst e; omega
  have : c3 ((a.toNat : Int) + 1) ((b.toNat : Int) + 1) = 1 := by unfold c3; rw [if_neg (by omega), if_pos (by omega)]
  have h3 : a ≠ b := by simpa using h2
  rw [this]; simp [h1, h2, th, h3]
theorem ze1 : ∀ (a b : Str) (r s : List Int), z4m (z8n a ++ r) (z8n b ++ s) = th (cmpS a b) (z4m r s)
 | [], [], r, s => by show th (c3 0 0) _ = _; rfl
 | [], b :: y, r, s => by
  have : c3 0 ((b.toNat : Int) + 1) = -1 := c3_lt.2 (by omega)
  show th (c3 0 ((b.toNat : Int) + 1)) _ = _
  rw [this]; rfl
 | a :: x, [], r, s => by
  have : c3 ((a.toNat : Int) + 1) 0 = 1 := by unfold c3; rw [if_neg (by omega), if_pos (by omega)]
  show th (c3 ((a.toNat : Int) + 1) 0) _ = _
  rw [this]; rfl
 | a :: x, b :: y, r, s => by
  show th (c3 ((a.toNat : Int) + 1) ((b.toNat : Int) + 1)) (z4m (z8n x ++ r) (z8n y ++ s)) = _
  rw [ze1 x y r s, zhw, z7o]
theorem zoc (a b : Str) : ziu a b = some (cmpS a b) := by
 simp only [ziu, cmpS]
 cases h : Op.bytesLess a b with
 | true => rfl
 | false => simp only [cond_false, Bool.false_or, Bool.false_eq_true, if_false]; cases a == b <;> rfl
def trI (b : Bool) : Int := if b then 1 else 0
noncomputable def plV (f : Nat) : Int := if zlp .u64 (f : Int) 63 = 1 then Z4v .u64 f else orK .u64 f 9223372036854775808
mutual
noncomputable def z4j : V → V → Int
 | .bool a, y => match y with | .bool b => c3 (trI a) (trI b) | y => c3 2 (z1b y)
 | .int a, y => match y with | .int b => c3 a b | y => c3 3 (z1b y)
 | .float a, y => match y with | .float b => c3 (plV a) (plV b) | y => c3 4 (z1b y)
 | .text a, y => match y with | .text b => cmpS a b | y => c3 5 (z1b y)
 | .bytes a, y => match y with | .bytes b => cmpS a b | y => c3 6 (z1b y)
 | .ref a, y => match y with | .ref b => c3 a b | y => c3 7 (z1b y)
 | .list a, y => match y with | .list b => z5r a b | y => c3 8 (z1b y)
 | .dict a, y => match y with | .dict b => zew a b | y => c3 9 (z1b y)
 | .record c v a, y => match y with | .record c' v' b => th (cmpS c c') (th (c3 v v') (zew a b)) | y => c3 10 (z1b y)
 | .nil, y => c3 1 (z1b y)
 | .nothing, y => c3 11 (z1b y)
 | .alien _, y => c3 0 (z1b y)
noncomputable def z5r : List V → List V → Int
 | [], y => match y with | [] => 0 | _ :: _ => -1
 | a :: x, y => match y with | [] => 1 | b :: y => th (z4j a b) (z5r x y)
noncomputable def zew : List (Str × V) → List (Str × V) → Int
 | [], y => match y with | [] => 0 | _ :: _ => -1
 | (s, a) :: x, y => match y with | [] => 1 | (t, b) :: y => th (th (cmpS s t) (z4j a b)) (zew x y)
end
mutual
noncomputable def key : V → List Int
 | .nil => [1]
 | .bool b => [2, trI b]
 | .int i => [3, i]
 | .float f => [4, plV f]
 | .text s => 5 :: z8n s
 | .bytes s => 6 :: z8n s
 | .ref i => [7, i]
 | .list l => 8 :: zj4 l
 | .dict l => 9 :: ze2 l
 | .record c v l => 10 :: (z8n c ++ (v :: ze2 l))
 | .nothing => [11]
 | .alien _ => [0]
noncomputable def zj4 : List V → List Int
 | [] => [0]
 | x :: r => 1 :: (key x ++ zj4 r)
noncomputable def ze2 : List (Str × V) → List Int
 | [] => [0]
 | (s, x) :: r => 1 :: (z8n s ++ (key x ++ ze2 r))
end
theorem z4g (a b : Int) : th (c3 a a) b = b := by rw [zj9]; rfl
theorem znr (b : Int) : th b 0 = b := by unfold th; split <;> simp_all
theorem zkj (x : V) : ∃ r, key x = z1b x :: r := by cases x <;> exact ⟨_, by rw [key]; rfl⟩
theorem z60 {x y : V} (h : z1b x ≠ z1b y) (r s : List Int) : z4m (key x ++ r) (key y ++ s) = th (c3 (z1b x) (z1b y)) (z4m r s) := by
 obtain ⟨a, ha⟩ := zkj x
 obtain ⟨b, hb⟩ := zkj y
 rw [ha, hb]
 show th (c3 _ _) _ = _
 have : c3 (z1b x) (z1b y) ≠ 0 := fun e => h (c3_zero.1 e)
 unfold th; rw [if_neg this, if_neg this]
mutual
theorem zxe : ∀ (x y : V) (r s : List Int), z4m (key x ++ r) (key y ++ s) = th (z4j x y) (z4m r s)
  | .nil, y, r, s => by
    cases y <;> first | (refine z60 (x := .nil) ?_ r s; simp [z1b]; done) | (rw [key]; show th (c3 1 1) _ = _; rw [z4j]; rfl)
  | .nothing, y, r, s => by
    cases y <;> first | (refine z60 (x := .nothing) ?_ r s; simp [z1b]; done) | (rw [key]; show th (c3 11 11) _ = _; rw [z4j]; rfl)
  | .alien t, y, r, s => by
    cases y <;> first | (refine z60 (x := .alien t) ?_ r s; simp [z1b]; done) | (rw [key, key]; show th (c3 0 0) _ = _; rw [z4j]; rfl)
  | .bool a, y, r, s => by
    cases y <;> first | (refine z60 (x := .bool a) ?_ r s; simp [z1b]; done) | (rw [key, key, z4j]; show th (c3 2 2) (th _ _) = _; rw [z4g]; rfl)
  | .int a, y, r, s => by
    cases y <;> first | (refine z60 (x := .int a) ?_ r s; simp [z1b]; done) | (rw [key, key, z4j]; show th (c3 3 3) (th _ _) = _; rw [z4g]; rfl)
  | .float a, y, r, s => by
    cases y <;> first | (refine z60 (x := .float a) ?_ r s; simp [z1b]; done) | (rw [key, key, z4j]; show th (c3 4 4) (th _ _) = _; rw [z4g]; rfl)
  | .ref a, y, r, s => by
    cases y <;> first | (refine z60 (x := .ref a) ?_ r s; simp [z1b]; done) | (rw [key, key, z4j]; show th (c3 7 7) (th _ _) = _; rw [z4g]; rfl)
  | .text a, y, r, s => by
    cases y <;> first | (refine z60 (x := .text a) ?_ r s; simp [z1b]; done) | (rw [key, key, z4j]; show th (c3 5 5) (z4m (z8n _ ++ r) (z8n _ ++ s)) = _; rw [z4g, ze1])
  | .bytes a, y, r, s => by
    cases y <;> first | (refine z60 (x := .bytes a) ?_ r s; simp [z1b]; done) | (rw [key, key, z4j]; show th (c3 6 6) (z4m (z8n _ ++ r) (z8n _ ++ s)) = _; rw [z4g, ze1])
  | .list a, y, r, s => by
    cases y <;> first | (refine z60 (x := .list a) ?_ r s; simp [z1b]; done) | (rw [key, key, z4j]; show th (c3 8 8) (z4m (zj4 _ ++ r) (zj4 _ ++ s)) = _; rw [z4g, zvc])
  | .dict a, y, r, s => by
    cases y <;> first | (refine z60 (x := .dict a) ?_ r s; simp [z1b]; done) | (rw [key, key, z4j]; show th (c3 9 9) (z4m (ze2 _ ++ r) (ze2 _ ++ s)) = _; rw [z4g, zq8])
  | .record c v a, y, r, s => by
    cases y <;> first
      | (refine z60 (x := .record c v a) ?_ r s; simp [z1b]; done)
      | (rw [key, key, z4j]
         show th (c3 10 10) (z4m ((z8n _ ++ (_ :: ze2 _)) ++ r) ((z8n _ ++ (_ :: ze2 _)) ++ s)) = _
         rw [z4g, List.append_assoc, List.append_assoc, ze1]
         show th _ (th (c3 _ _) (z4m (ze2 _ ++ r) (ze2 _ ++ s))) = _
         rw [zq8, z7o, z7o])
theorem zvc : ∀ (x y : List V) (r s : List Int), z4m (zj4 x ++ r) (zj4 y ++ s) = th (z5r x y) (z4m r s)
 | [], [], r, s => by rw [zj4, z5r]; rfl
 | [], b :: y, r, s => by rw [zj4, zj4, z5r]; rfl
 | a :: x, [], r, s => by rw [zj4, zj4, z5r]; rfl
 | a :: x, b :: y, r, s => by
  rw [zj4, zj4, z5r]
  show th (c3 1 1) (z4m ((key a ++ zj4 x) ++ r) ((key b ++ zj4 y) ++ s)) = _
  rw [z4g, List.append_assoc, List.append_assoc, zxe a b, zvc x y r s, z7o]
theorem zq8 : ∀ (x y : List (Str × V)) (r s : List Int), z4m (ze2 x ++ r) (ze2 y ++ s) = th (zew x y) (z4m r s)
 | [], [], r, s => by rw [ze2, zew]; rfl
 | [], (t, b) :: y, r, s => by rw [ze2, ze2, zew]; rfl
 | (u, a) :: x, [], r, s => by rw [ze2, ze2, zew]; rfl
 | (u, a) :: x, (t, b) :: y, r, s => by
  rw [ze2, ze2, zew]
  show th (c3 1 1) (z4m ((z8n u ++ (key a ++ ze2 x)) ++ r) ((z8n t ++ (key b ++ ze2 y)) ++ s)) = _
  simp only [List.append_assoc]
  rw [z4g, ze1, zxe a b, zq8 x y r s, z7o, z7o]
end
theorem ziw (x y : V) : z4j x y = z4m (key x) (key y) := by
 have := zxe x y [] []
 rw [List.append_nil, List.append_nil] at this
 rw [this]; exact (znr _).symm
end Go.Proofs.YthidgpcbnieleaaGreatDoor

namespace Go.Proofs.YthidgpcbnieleaaGreatDoor
open Go Aw
set_option linter.unusedVariables false
set_option linter.unusedSimpArgs false
set_option maxRecDepth 8000
def Fine (x : V) : Prop := ∃ n dp d, (z2g x n dp d).ok = true
theorem zgw {d : Int} : ∀ {l : List V} {n dp : Int}, (z2v l n dp d).ok = true → ∀ y, y ∈ l → ∃ n dp, (z2g y n dp d).ok = true
 | x :: r, n, dp, h, y, hy => by
  rw [z30] at h
  cases hk : (z2g x n dp d).ok with
  | false => rw [if_neg (by simp [hk])] at h; rw [hk] at h; cases h
  | true =>
   rw [if_pos hk] at h
   rcases List.mem_cons.1 hy with rfl | hy
   ·exact ⟨n, dp, hk⟩
   ·exact zgw h y hy
theorem Fine.own {x : V} (h : Fine x) : z3q x = 0 ∧ ∀ y, y ∈ x.parts → Fine y := by
 obtain ⟨n, dp, d, h⟩ := h
 rw [z6f] at h
 split at h
 ·rename_i ho
  exact ⟨(z98 ho).2.2, fun y hy => let ⟨n', dp', h'⟩ := zgw h y hy; ⟨n', dp', _, h'⟩⟩
 ·cases h
theorem ze8 {x : V} (h : (z1c x).2 = 0) : Fine x ∧ z1c x = (0, 0) := by
 unfold z1c at h ⊢
 cases hk : (z2g x 0 0 1).ok with
 | true => exact ⟨⟨0, 0, 1, hk⟩, rfl⟩
 | false =>
  rw [if_neg (by simp [hk])] at h
  exact absurd h ((z7s x 1 0 0).bad hk)
theorem zh9 {a : Int} (h : a ≠ 0) : (a != 0) = true := by simpa using h
theorem zcv {l : List Str} (h : z2m l = 0) : l.length ≤ 4096 := by
 unfold z2m at h
 split at h
 ·cases h
 ·omega
theorem zcn {l : List V} (h : z3q (.list l) = 0) : l.length ≤ 4096 := by
 simp only [z3q] at h
 split at h
 ·cases h
 ·omega
theorem zt8 {c : Str} {v : Int} {l : List (Str × V)} (h : z3q (.record c v l) = 0) : (1 ≤ v ∧ v ≤ 1000) ∧ l.length ≤ 4096 := by
 simp only [z3q] at h
 split at h
 ·cases h
 ·split at h
  ·cases h
  ·have := zcv h; rw [List.length_map] at this; omega
theorem zpw {l : List (Str × V)} (h : z3q (.dict l) = 0) : l.length ≤ 4096 := by
 have := zcv h; rwa [List.length_map] at this
end Go.Proofs.YthidgpcbnieleaaGreatDoor

namespace Go.Proofs.YthidgpcbnieleaaGreatDoor
open Go Aw
set_option linter.unusedVariables false
set_option linter.unusedSimpArgs false
set_option maxRecDepth 8000
theorem zoa (a b : Int) : zmg a b = some (c3 a b) := zhx a b
theorem zzo (a b : Int) : zs9 a b = some (c3 a b) := zhx a b
theorem zzp (a b : Int) : zsb a b = some (c3 a b) := zhx a b
theorem zax (a b : Int) : zsd a b = some (c3 a b) := zhx a b
theorem zzm (b : Bool) : zp7 b = some (trI b) := by cases b <;> rfl
theorem zzn (f : Nat) : zme f = some (plV f) := by
 unfold zme plV
 by_cases h : zlp .u64 (f : Int) 63 = 1
 ·rw [if_pos h, h]; rfl
 ·rw [if_neg h]
  have : (zlp .u64 (f : Int) 63 == 1) = false := by simpa using h
  rw [this]; rfl
theorem Z37 {i n : Nat} (h : n ≤ i) : decide ((i : Int) ≥ (n : Int)) = true := decide_eq_true (by omega)
theorem Z38 {i n : Nat} (h : ¬ n ≤ i) : decide ((i : Int) ≥ (n : Int)) = false := decide_eq_false (by omega)
theorem zbd (c d : Int) : (bif c != 0 then some c else some d) = some (th c d) := by
 unfold th
 by_cases h : c = 0
 ·subst h; rfl
 ·have : (c != 0) = true := by simpa using h
  rw [this, if_neg h]; rfl
theorem zja (a b : UInt8) : zp9 a b = some (c3 ((a.toNat : Int) + 1) ((b.toNat : Int) + 1)) := by
 have h1 : ∀ x : UInt8, zmh x = some false := fun x => by unfold zmh; simp
 simp only [zp9, h1, Option.bind_some, cond_false, zu5]
 exact zhx _ _
theorem zr2 (a b : Str) : ∀ k i, k + i = a.length → i ≤ b.length → zgp a b i = some (cmpS (a.drop i) (b.drop i))
 | 0, i, h, hb => by
  rw [zgo]
  simp only [z6d, zco (by omega : ¬ i < a.length), cond_false]
  rw [List.drop_of_length_le (by omega : a.length ≤ i)]
  by_cases hl : a.length < b.length
  ·obtain ⟨y, hy, hd⟩ := dropc (by omega : i < b.length)
   rw [zd1 hl, hd]; rfl
  ·rw [zco hl, List.drop_of_length_le (by omega : b.length ≤ i)]; rfl
 | k + 1, i, h, hb => by
  obtain ⟨x, hx, hdx⟩ := dropc (by omega : i < a.length)
  rw [zgo]
  simp only [z6d, zd1 (by omega : i < a.length), cond_true, hx, Option.bind_some]
  by_cases hl : i < b.length
  ·obtain ⟨y, hy, hdy⟩ := dropc hl
   rw [Z38 (by omega : ¬ b.length ≤ i), hdx, hdy, zhw]
   simp only [cond_false, hy, Option.bind_some, zja, zr2 a b k (i + 1) (by omega) (by omega), zbd]
  ·rw [Z37 (by omega : b.length ≤ i), hdx, List.drop_of_length_le (by omega : b.length ≤ i)]; rfl
theorem zhy (a b : Str) : zse a b = some (cmpS a b) := zr2 a b a.length 0 (by omega) (by omega)
theorem Z4r (a b : List V) (hab : ∀ x, x ∈ a → ∀ y, y ∈ b → z97 x y = some (z4j x y)) : ∀ k i, k + i = a.length → i ≤ b.length → zdq z97 a b i = some (z5r (a.drop i) (b.drop i))
 | 0, i, h, hb => by
  rw [zgr]
  simp only [z5j, zco (by omega : ¬ i < a.length), cond_false]
  rw [List.drop_of_length_le (by omega : a.length ≤ i)]
  by_cases hl : a.length < b.length
  ·obtain ⟨y, hy, hd⟩ := dropc (by omega : i < b.length)
   rw [zd1 hl, hd, z5r]; rfl
  ·rw [zco hl, List.drop_of_length_le (by omega : b.length ≤ i), z5r]; rfl
 | k + 1, i, h, hb => by
  obtain ⟨x, hx, hdx⟩ := dropc (by omega : i < a.length)
  rw [zgr]
  simp only [z5j, zd1 (by omega : i < a.length), cond_true, hx, Option.bind_some]
  by_cases hl : i < b.length
  ·obtain ⟨y, hy, hdy⟩ := dropc hl
   rw [Z38 (by omega : ¬ b.length ≤ i), hdx, hdy, z5r]
   simp only [cond_false, hy, Option.bind_some, hab x (List.mem_of_getElem? hx) y (List.mem_of_getElem? hy), Z4r a b hab k (i + 1) (by omega) (by omega), zbd]
  ·rw [Z37 (by omega : b.length ≤ i), hdx, List.drop_of_length_le (by omega : b.length ≤ i), z5r]; rfl
theorem ztn (p q : Str × V) (h : z97 p.2 q.2 = some (z4j p.2 q.2)) : zir p q = some (th (cmpS p.1 q.1) (z4j p.2 q.2)) := by
 rw [Z45, zjf]
 simp only [zoc, Option.bind_some, h, zbd]
theorem Z4t (a b : List (Str × V)) (hab : ∀ x, x ∈ a → ∀ y, y ∈ b → z97 x.2 y.2 = some (z4j x.2 y.2)) : ∀ k i, k + i = a.length → i ≤ b.length → zdr zir a b i = some (zew (a.drop i) (b.drop i))
 | 0, i, h, hb => by
  rw [zgu]
  simp only [z5k, zco (by omega : ¬ i < a.length), cond_false]
  rw [List.drop_of_length_le (by omega : a.length ≤ i)]
  by_cases hl : a.length < b.length
  ·obtain ⟨y, hy, hd⟩ := dropc (by omega : i < b.length)
   rw [zd1 hl, hd, zew]; rfl
  ·rw [zco hl, List.drop_of_length_le (by omega : b.length ≤ i), zew]; rfl
 | k + 1, i, h, hb => by
  obtain ⟨x, hx, hdx⟩ := dropc (by omega : i < a.length)
  rw [zgu]
  simp only [z5k, zd1 (by omega : i < a.length), cond_true, hx, Option.bind_some]
  obtain ⟨sx, vx⟩ := x
  by_cases hl : i < b.length
  ·obtain ⟨y, hy, hdy⟩ := dropc hl
   obtain ⟨sy, vy⟩ := y
   rw [Z38 (by omega : ¬ b.length ≤ i), hdx, hdy, zew]
   simp only [cond_false, hy, Option.bind_some, ztn _ _ (hab _ (List.mem_of_getElem? hx) _ (List.mem_of_getElem? hy)), Z4t a b hab k (i + 1) (by omega) (by omega), zbd]
  ·rw [Z37 (by omega : b.length ≤ i), hdx, List.drop_of_length_le (by omega : b.length ≤ i), zew]; rfl
theorem zqo (a b : List (Str × V)) (hab : ∀ x, x ∈ a → ∀ y, y ∈ b → z97 x.2 y.2 = some (z4j x.2 y.2)) : zmr a b = some (zew a b) := by
 rw [Z4g, zjm]
 exact Z4t a b hab a.length 0 (by omega) (by omega)
theorem zxa (a b : List V) (hab : ∀ x, x ∈ a → ∀ y, y ∈ b → z97 x y = some (z4j x y)) : zmq a b = some (z5r a b) := by
 rw [Z4f, zjl]
 exact Z4r a b hab a.length 0 (by omega) (by omega)
theorem zpb {x y : V} (h : z1b x ≠ z1b y) : z4j x y = c3 (z1b x) (z1b y) := by
 rw [ziw]
 have := z60 h [] []
 rw [List.append_nil, List.append_nil] at this
 rw [this]; exact znr _
theorem zzl (x : V) : ∀ y, Fine x → Fine y → z97 x y = some (z4j x y) := by
  induction x using V.byParts with
  | _ x ih =>
  intro y hx hy
  have hpx := hx.own.2
  have hpy := hy.own.2
  have e0 : ((0 : Int) != 0) = false := rfl
  rw [Z46, zjg]
  simp only [zv6, zoa, Option.bind_some]
  by_cases hk : z1b x = z1b y
  · rw [hk, zj9, e0, cond_false]
    cases x with
    | nil => cases y <;> first | (simp [z1b] at hk; done) | (rw [z4j]; rfl)
    | nothing => have := hx.own.1; simp [z3q] at this
    | alien t => have := hx.own.1; simp [z3q] at this
    | bool a => cases y <;> first | (simp [z1b] at hk; done) | (rw [z4j]; simp only [V.isBool, V.asBool, V.theBool, cond_true, zzm, Option.bind_some, zoa])
    | int a => cases y <;> first | (simp [z1b] at hk; done) | (rw [z4j]; simp only [V.isBool, V.isInt, V.asInt, V.theInt, cond_true, cond_false, Option.bind_some, zzo])
    | float a => cases y <;> first | (simp [z1b] at hk; done) | (rw [z4j]; simp only [V.isBool, V.isInt, V.isFloat, V.asFloat, V.theFloat, cond_true, cond_false, Option.bind_some, zzn, zzp])
    | text a => cases y <;> first | (simp [z1b] at hk; done) | (rw [z4j]; simp only [V.isBool, V.isInt, V.isFloat, V.isText, V.asText, V.theText, cond_true, cond_false, Option.bind_some, zoc])
    | bytes a => cases y <;> first | (simp [z1b] at hk; done) | (rw [z4j]; simp only [V.isBool, V.isInt, V.isFloat, V.isText, V.isBytes, V.asBytes, V.theBytes, cond_true, cond_false, Option.bind_some, zhy])
    | ref a => cases y <;> first | (simp [z1b] at hk; done) | (rw [z4j]; simp only [V.isBool, V.isInt, V.isFloat, V.isText, V.isBytes, V.isRef, V.asRef, V.theRef, cond_true, cond_false, Option.bind_some, zax])
    | list a =>
      cases y <;> first
        | (simp [z1b] at hk; done)
        | (rename_i b
           rw [z4j]
           simp only [V.isBool, V.isInt, V.isFloat, V.isText, V.isBytes, V.isRef, V.isList, V.asList, V.theList, cond_true, cond_false, Option.bind_some]
           rw [zxa a b (fun u hu v hv => ih u hu v (hpx u hu) (hpy v hv))]; rfl)
    | dict a =>
      cases y <;> first
        | (simp [z1b] at hk; done)
        | (rename_i b
           rw [z4j]
           simp only [V.isBool, V.isInt, V.isFloat, V.isText, V.isBytes, V.isRef, V.isList, V.isDict, V.asDict, V.theDict, cond_true, cond_false, Option.bind_some]
           rw [zqo a b (fun u hu v hv => ih u.2 (List.mem_map_of_mem hu) v.2 (hpx _ (List.mem_map_of_mem hu)) (hpy _ (List.mem_map_of_mem hv)))]; rfl)
    | record c v a =>
      cases y <;> first
        | (simp [z1b] at hk; done)
        | (rename_i b
           rw [z4j]
           simp only [V.isBool, V.isInt, V.isFloat, V.isText, V.isBytes, V.isRef, V.isList, V.isDict, V.isRec, V.asRec, V.theRec, cond_true, cond_false, Option.bind_some, zoc, zoa]
           rw [zqo a b (fun u hu v hv => ih u.2 (List.mem_map_of_mem hu) v.2 (hpx _ (List.mem_map_of_mem hu)) (hpy _ (List.mem_map_of_mem hv)))]
           simp only [Option.bind_some, zbd])
  · have h2 : c3 (z1b x) (z1b y) ≠ 0 := fun e => hk (c3_zero.1 e)
    have e1 : (c3 (z1b x) (z1b y) != 0) = true := by simpa using h2
    rw [e1, cond_true, zpb hk]
noncomputable def z9y (x y : V) : Bool := (z1c x).2 == 0 && ((z1c y).2 == 0 && z4j x y == 0)
theorem zc0 (x y : V) : zgx x y = some (z9y x y) := by
 simp only [zgx, zk7, Option.bind_some, z9y]
 by_cases hx : (z1c x).2 = 0
 ·have ex : ((z1c x).2 == 0) = true := by simpa using hx
  rw [ex, cond_true, Bool.true_and]
  by_cases hy : (z1c y).2 = 0
  ·have ey : ((z1c y).2 == 0) = true := by simpa using hy
   rw [ey, cond_true, Bool.true_and, zzl x y (ze8 hx).1 (ze8 hy).1]; rfl
  ·have ey : ((z1c y).2 == 0) = false := by simpa using hy
   rw [ey]; rfl
 ·have ex : ((z1c x).2 == 0) = false := by simpa using hx
  rw [ex]; rfl
end Go.Proofs.YthidgpcbnieleaaGreatDoor

namespace Go.Proofs.YthidgpcbnieleaaGreatDoor
open Go Aw
set_option linter.unusedVariables false
set_option linter.unusedSimpArgs false
set_option maxRecDepth 8000
mutual
def cnt : V → Int
 | .list l => 1 + cntL l
 | .dict l => 1 + ztx l
 | .record _ _ l => 1 + ztx l
 | _ => 1
def cntL : List V → Int
 | [] => 0
 | x :: r => cnt x + cntL r
def ztx : List (Str × V) → Int
 | [] => 0
 | (_, x) :: r => cnt x + ztx r
end
mutual
def dpt : V → Int
 | .list l => 1 + dptL l
 | .dict l => 1 + ztv l
 | .record _ _ l => 1 + ztv l
 | _ => 1
def dptL : List V → Int
 | [] => 0
 | x :: r => max (dpt x) (dptL r)
def ztv : List (Str × V) → Int
 | [] => 0
 | (_, x) :: r => max (dpt x) (ztv r)
end
theorem zl1 : ∀ l, ztx l = cntL (l.map (·.2))
 | [] => by simp only [ztx, cntL, List.map_nil]
 | (s, x) :: r => by simp only [ztx, cntL, List.map_cons, zl1 r]
theorem zkx : ∀ l, ztv l = dptL (l.map (·.2))
 | [] => by simp only [ztv, dptL, List.map_nil]
 | (s, x) :: r => by simp only [ztv, dptL, List.map_cons, zkx r]
theorem zl0 (x : V) : cnt x = 1 + cntL x.parts := by cases x <;> simp only [cnt, V.parts, zl1, cntL] <;> rfl
theorem ze7 (x : V) : dpt x = 1 + dptL x.parts := by cases x <;> simp only [dpt, V.parts, zkx, dptL] <;> rfl
inductive Near : V → Prop
 | mk {x : V} : z3q x = 0 → (∀ y, y ∈ x.parts → Near y) → Near x
theorem Near.own {x : V} (h : Near x) : z3q x = 0 := by cases h; assumption
theorem Near.part {x : V} (h : Near x) : ∀ y, y ∈ x.parts → Near y := by cases h; assumption
theorem z4s (x : V) : 1 ≤ cnt x ∧ 1 ≤ dpt x := by
 induction x using V.byParts with
 | _ x ih =>
  rw [zl0, ze7]
  have : ∀ l : List V, (∀ y, y ∈ l → 1 ≤ cnt y ∧ 1 ≤ dpt y) → 0 ≤ cntL l ∧ 0 ≤ dptL l := by
   intro l
   induction l with
   | nil => intro _; simp [cntL, dptL]
   | cons y r ihr =>
    intro h
    have h1 := h y (by simp)
    have h2 := ihr (fun z hz => h z (by simp [hz]))
    simp only [cntL, dptL]; omega
  have := this x.parts ih
  omega
theorem own_iff {x : V} {n d : Int} : zaw x n d = 0 ↔ n < 16384 ∧ d ≤ 64 ∧ z3q x = 0 := by
 constructor
 ·exact z98
 ·rintro ⟨h1, h2, h3⟩
  unfold zaw; rw [if_neg (by omega)]; exact h3
theorem zt9 {x : V} (h : z3q x = 0) : zvi x = 2 := by cases x <;> first | rfl | (simp [z3q] at h)
structure Goes (x : V) : Prop where
 yes : ∀ n dp d, Near x → d - 1 ≤ dp → n + cnt x ≤ 16384 → d + dpt x - 1 ≤ 64 → z2g x n dp d = ⟨true, n + cnt x, max dp (d + dpt x - 1), 0⟩
 ok : ∀ n dp d, (z2g x n dp d).ok = true → Near x ∧ n + cnt x ≤ 16384 ∧ d + dpt x - 1 ≤ 64 ∧ (z2g x n dp d).n = n + cnt x
 long : ∀ n dp d, Near x → (z2g x n dp d).ok = false → (z2g x n dp d).why = 2
theorem Z0i {l : List V} (h : ∀ y, y ∈ l → Goes y) :
 (∀ n dp d, (∀ y, y ∈ l → Near y) → d - 1 ≤ dp → n + cntL l ≤ 16384 → d + dptL l - 1 ≤ 64 → z2v l n dp d = ⟨true, n + cntL l, max dp (d + dptL l - 1), 0⟩) ∧
 (∀ n dp d, n ≤ 16384 → d ≤ 65 → (z2v l n dp d).ok = true → (∀ y, y ∈ l → Near y) ∧ n + cntL l ≤ 16384 ∧ d + dptL l - 1 ≤ 64 ∧ (z2v l n dp d).n = n + cntL l) ∧
 (∀ n dp d, (∀ y, y ∈ l → Near y) → (z2v l n dp d).ok = false → (z2v l n dp d).why = 2) := by
 induction l with
 | nil =>
  refine ⟨fun n dp d _ hd _ _ => ?_, fun n dp d hn hd _ => ?_, fun n dp d _ hk => ?_⟩
  ·rw [z3i, cntL, dptL]; congr 1 <;> omega
  ·rw [z3i, cntL, dptL]; exact ⟨by simp, by omega, by omega, by simp⟩
  ·rw [z3i] at hk; cases hk
 | cons x r ih =>
  have hx := h x (by simp)
  obtain ⟨i1, i2, i3⟩ := ih (fun y hy => h y (by simp [hy]))
  have hp := z4s x
  have hr : 0 ≤ cntL r ∧ 0 ≤ dptL r := by
   clear i1 i2 i3 ih h hx
   induction r with
   | nil => simp [cntL, dptL]
   | cons y q ihq => have := z4s y; simp only [cntL, dptL]; omega
  refine ⟨fun n dp d hnr hd hn hdd => ?_, fun n dp d hn hd hk => ?_, fun n dp d hnr hk => ?_⟩
  ·rw [cntL] at hn ⊢
   rw [dptL] at hdd ⊢
   have e := hx.yes n dp d (hnr x (by simp)) hd (by omega) (by omega)
   rw [z30, e, if_pos rfl]
   rw [i1 _ _ d (fun y hy => hnr y (by simp [hy])) (by simp only; omega) (by simp only; omega) (by omega)]
   congr 1
   ·simp only; omega
   ·simp only; omega
  ·rw [z30] at hk ⊢
   cases hk1 : (z2g x n dp d).ok with
   | false => rw [if_neg (by simp [hk1])] at hk; rw [hk1] at hk; cases hk
   | true =>
    rw [if_pos hk1] at hk
    rw [if_pos rfl]
    obtain ⟨a1, a2, a3, a4⟩ := hx.ok n dp d hk1
    rw [a4] at hk ⊢
    obtain ⟨b1, b2, b3, b4⟩ := i2 _ _ d (by omega) hd hk
    rw [cntL, dptL]
    refine ⟨fun y hy => ?_, by omega, by omega, by omega⟩
    rcases List.mem_cons.1 hy with rfl | hy
    ·exact a1
    ·exact b1 y hy
  ·rw [z30] at hk ⊢
   cases hk1 : (z2g x n dp d).ok with
   | false => rw [if_neg (by simp [hk1])]; exact hx.long n dp d (hnr x (by simp)) hk1
   | true =>
    rw [if_pos hk1] at hk
    rw [if_pos rfl]
    exact i3 _ _ d (fun y hy => hnr y (by simp [hy])) hk
theorem goes (x : V) : Goes x := by
 induction x using V.byParts with
 | _ x ih =>
  obtain ⟨i1, i2, i3⟩ := Z0i ih
  have hp := z4s x
  refine ⟨fun n dp d hnr hd hn hdd => ?_, fun n dp d hk => ?_, fun n dp d hnr hk => ?_⟩
  ·rw [z6f, if_pos (own_iff.2 ⟨by omega, by omega, hnr.own⟩)]
   rw [zl0] at hn ⊢
   rw [ze7] at hdd ⊢
   have hd0 := hp.2
   rw [ze7] at hd0
   rw [i1 _ _ (d + 1) hnr.part (by omega) (by omega) (by omega)]
   congr 1 <;> omega
  ·rw [z6f] at hk ⊢
   by_cases ho : zaw x n d = 0
   ·rw [if_pos ho] at hk ⊢
    have h0 := z98 ho
    obtain ⟨b1, b2, b3, b4⟩ := i2 _ _ (d + 1) (by omega) (by omega) hk
    rw [zl0, ze7]
    exact ⟨.mk h0.2.2 b1, by omega, by omega, by omega⟩
   ·rw [if_neg ho] at hk; cases hk
  ·rw [z6f] at hk ⊢
   by_cases ho : zaw x n d = 0
   ·rw [if_pos ho] at hk ⊢; exact i3 _ _ _ hnr.part hk
   ·rw [if_neg ho]
    have : zaw x n d = zvi x := by
     unfold zaw at ho ⊢
     split
     ·rfl
     ·rename_i hc; rw [if_neg hc] at ho; exact absurd hnr.own ho
    show zaw x n d = 2
    rw [this]; exact zt9 hnr.own
def Can (x : V) : Prop := Near x ∧ cnt x ≤ 16384 ∧ dpt x ≤ 64
theorem can_ok {x : V} : (z2g x 0 0 1).ok = true ↔ Can x := by
 constructor
 ·intro h
  obtain ⟨a, b, c, _⟩ := (goes x).ok 0 0 1 h
  exact ⟨a, by omega, by omega⟩
 ·rintro ⟨a, b, c⟩
  rw [(goes x).yes 0 0 1 a (by omega) (by omega) (by omega)]
theorem z33 {x : V} (h : Can x) : z1c x = (0, 0) := by unfold z1c; rw [if_pos (can_ok.2 h)]
theorem z7j {x : V} (h : ¬ Can x) : (z1c x).2 ≠ 0 := by
 unfold z1c
 have hk : (z2g x 0 0 1).ok = false := by
  cases hk : (z2g x 0 0 1).ok with
  | false => rfl
  | true => exact absurd (can_ok.1 hk) h
 rw [if_neg (by simp [hk])]
 exact (z7s x 1 0 0).bad hk
theorem zu3 {x : V} (h : Can x) : Fine x := ⟨0, 0, 1, can_ok.2 h⟩
end Go.Proofs.YthidgpcbnieleaaGreatDoor

namespace Go.Proofs.YthidgpcbnieleaaGreatDoor
open Go Aw
set_option linter.unusedVariables false
set_option linter.unusedSimpArgs false
set_option maxRecDepth 8000
theorem zmx {b : Str} (h : z3q (.bytes b) = 0) : b.length ≤ 65536 := by
 simp only [z3q] at h; split at h <;> omega
end Go.Proofs.YthidgpcbnieleaaGreatDoor

namespace Go.Proofs.YthidgpcbnieleaaGreatDoor
open Go Aw
set_option linter.unusedVariables false
set_option linter.unusedSimpArgs false
set_option maxRecDepth 8000
theorem zzj {n b : Nat} (hb : b ≤ 1024) (hn : n ≤ 1073741824) : zii n b = some () := by
 have h1 : n * b ≤ 1073741824 * 1024 := Nat.mul_le_mul hn hb
 unfold zii
 rw [Nat.ble_eq_true_of_le (by omega), Nat.ble_eq_true_of_le (by omega)]; rfl
theorem zen {α : Type} {l : List α} {i : Nat} {x : α} (h : l[i]? = some x) : l.take i ++ [x] = l.take (i + 1) := by
 rw [List.take_add_one, h]; rfl
theorem Z53 (l : List V) (hl : ∀ u, u ∈ l → zce u = some u) (hb : l.length ≤ 1073741824) : ∀ k i, k + i = l.length → zdk zce (.list l) (l.take i) i = some (.list l)
 | 0, i, h => by
  rw [zge]
  simp only [z5e, V.asList, zco (by omega : ¬ i < l.length), cond_false]
  rw [List.take_of_length_le (by omega)]
 | k + 1, i, h => by
  obtain ⟨x, hx, _⟩ := dropc (by omega : i < l.length)
  rw [zge]
  simp only [z5e, V.asList, zd1 (by omega : i < l.length), cond_true, hx, Option.bind_some, hl x (List.mem_of_getElem? hx), zrd (b := 16) (by omega) (show (l.take i).length ≤ 1073741824 by simp; omega), zen hx]
  exact Z53 l hl hb k (i + 1) (by omega)
theorem Z54 (l : List (Str × V)) (hl : ∀ u, u ∈ l → zce u.2 = some u.2) (hb : l.length ≤ 1073741824) : ∀ k i, k + i = l.length → zdo zce l (l.take i) i = some l
 | 0, i, h => by
  rw [zgj]
  simp only [z5h, zco (by omega : ¬ i < l.length), cond_false]
  rw [List.take_of_length_le (by omega)]
 | k + 1, i, h => by
  obtain ⟨x, hx, _⟩ := dropc (by omega : i < l.length)
  rw [zgj]
  simp only [z5h, zd1 (by omega : i < l.length), cond_true, hx, Option.bind_some, hl x (List.mem_of_getElem? hx), zrd (b := 32) (x := (x.1, x.2)) (by omega) (show (l.take i).length ≤ 1073741824 by simp; omega)]
  rw [show l.take i ++ [(x.1, x.2)] = l.take (i + 1) from zen hx]
  exact Z54 l hl hb k (i + 1) (by omega)
theorem zqv (x : V) : Fine x → zce x = some x := by
 induction x using V.byParts with
 | _ x ih =>
 intro hx
 have hn := hx.own.1
 have hp : ∀ u, u ∈ x.parts → zce u = some u := fun u hu => ih u hu (hx.own.2 u hu)
 have hD : ∀ l : List (Str × V), l.length ≤ 4096 → (∀ u, u ∈ l → u.2 ∈ x.parts) → zsc l = some l := fun l hl h => by
  rw [Z4a, zjk, zzj (by omega) (by omega), Option.bind_some]
  exact Z54 l (fun u hu => hp _ (h u hu)) (by omega) l.length 0 (by omega)
 rw [Z47, zjh]
 cases x with
 | bytes b =>
  have hb := zmx hn
  simp only [V.isBytes, V.asBytes, cond_true, zvu (by omega : 1 ≤ 1024) (show b.length ≤ 1073741824 by omega), Option.bind_some]
 | list l =>
  have hb := zcn hn
  simp only [V.isBytes, V.isList, V.asList, cond_true, cond_false, zzj (by omega : 16 ≤ 1024) (show l.length ≤ 1073741824 by omega), Option.bind_some]
  exact Z53 l hp (by omega) l.length 0 (by omega)
 | dict l =>
  have hb := zpw hn
  simp only [V.isBytes, V.isList, V.isDict, V.asDict, cond_true, cond_false, hD l hb (fun u hu => List.mem_map_of_mem hu), Option.bind_some]
 | record c v l =>
  have hb := (zt8 hn).2
  simp only [V.isBytes, V.isList, V.isDict, V.isRec, V.asRec, cond_true, cond_false, Option.bind_some, hD l hb (fun u hu => List.mem_map_of_mem hu)]
 | nothing => simp [z3q] at hn
 | _ => rfl
theorem z80 {x : V} (h : Can x) : z73 x = some (x, 0) := by
 simp only [z73, zk7, z33 h, Option.bind_some]
 rw [show ((0 : Int) != 0) = false from rfl, cond_false, zqv x (zu3 h)]; rfl
theorem zky {x : V} (h : ¬ Can x) : z73 x = some (.nil, (z1c x).2) := by
 simp only [z73, zk7, Option.bind_some]
 rw [zh9 (z7j h), cond_true]
end Go.Proofs.YthidgpcbnieleaaGreatDoor

namespace Go.Proofs.YthidgpcbnieleaaGreatDoor
open Go Aw
set_option linter.unusedVariables false
set_option linter.unusedSimpArgs false
set_option maxRecDepth 8000
abbrev Stp := S_api_Step
def stN (n : Str) : Stp := S_api_Step.mk n false 0
def stA (i : Nat) : Stp := S_api_Step.mk [] true ((i : Nat) : Int)
theorem zeg : ∀ {l : List V} {y : V}, y ∈ l → cnt y ≤ cntL l ∧ dpt y ≤ dptL l
 | x :: r, y, h => by
  have hp : 0 ≤ cntL r ∧ 0 ≤ dptL r := by
   clear h
   induction r with
   | nil => simp [cntL, dptL]
   | cons z q ih => have := z4s z; simp only [cntL, dptL]; omega
  have hx := z4s x
  simp only [cntL, dptL]
  rcases List.mem_cons.1 h with rfl | h
  ·omega
  ·have := zeg h; omega
theorem zfl {x y : V} (h : Can x) (hy : y ∈ x.parts) : Can y := by
 have h1 := zeg hy
 have h2 := zl0 x
 have h3 := ze7 x
 obtain ⟨a, b, c⟩ := h
 exact ⟨a.part y hy, by omega, by omega⟩
theorem zb7 (l : List V) : 0 ≤ cntL l := by
 induction l with
 | nil => simp [cntL]
 | cons z q ih => have := z4s z; simp only [cntL]; omega
theorem zth {c : Int} : th c 0 = c := by
 unfold th; by_cases h : c = 0
 ·rw [if_pos h, h]
 ·rw [if_neg h]
theorem z8o (a b : Str) : cmpS a b = z4m (z8n a) (z8n b) := by
 have h := ze1 a b [] []
 rw [List.append_nil, List.append_nil] at h
 rw [h, show z4m [] [] = 0 from rfl, zth]
def zlt (a b : Str) : Prop := cmpS a b = -1
theorem z6w {a b c : Str} (h : zlt a b) (k : zlt b c) : zlt a c := by
 unfold zlt at *
 rw [z8o] at *
 have := ze0 (z8n a) (z8n b) (z8n c) (by omega) (by omega)
 have h2 := this.2 (.inl (by omega))
 have := zki (z8n a) (z8n c)
 omega
theorem zty (s : Str) : cmpS s s = 0 := by
 rw [z8o]; have := z9f (z8n s) (z8n s); omega
theorem zef (a : Str) : ¬ zlt a a := by unfold zlt; rw [zty]; omega
theorem Z5f {a b : Str} (h : leB b a = false) : zlt a b := by
 simp only [leB, Bool.or_eq_false_iff] at h
 have h1 : cmpS b a = 1 := by unfold cmpS; rw [if_neg (by simp [h.1]), if_neg (by simp [h.2])]
 unfold zlt
 rw [z8o] at h1 ⊢
 have := z9f (z8n b) (z8n a)
 omega
theorem Z4p : ∀ {l : List Str} {p : Option Str}, z81 p l = true → l.Pairwise zlt ∧ ∀ q, p = some q → ∀ s, s ∈ l → zlt q s
 | [], _, _ => ⟨.nil, fun _ _ s hs => by cases hs⟩
 | s :: r, p, h => by
  simp only [z81, Bool.and_eq_true] at h
  have ih := Z4p h.2
  refine ⟨.cons (fun x hx => ih.2 s rfl x hx) ih.1, fun q hq x hx => ?_⟩
  subst hq
  have h1 : zlt q s := Z5f (by simpa using h.1.2)
  rcases List.mem_cons.1 hx with rfl | hx
  ·exact h1
  ·exact z6w h1 (ih.2 s rfl x hx)
theorem zn4 {l : List Str} (h : z2m l = 0) : l.Pairwise zlt := by
 unfold z2m at h
 split at h
 ·cases h
 ·split at h
  ·rename_i h2; exact (Z4p h2).1
  ·cases h
end Go.Proofs.YthidgpcbnieleaaGreatDoor

namespace Go.Proofs.YthidgpcbnieleaaGreatDoor
open Go Aw
set_option linter.unusedVariables false
set_option linter.unusedSimpArgs false
set_option maxRecDepth 8000
theorem zq9 (s : Str) (c : UInt8) : decide (ixB s c ≥ 0) = s.contains c := by
 unfold ixB
 cases h : (List.range s.length).find? fun i => s.toArray[i]! == c with
 | some i =>
  have h1 := List.find?_some h
  have h2 := List.mem_of_find?_eq_some h
  rw [List.mem_range] at h2
  have h3 : s.toArray[i]! = s[i] := by rw [getElem!_pos _ _ (by simpa using h2)]; rfl
  rw [h3] at h1
  have h4 : s[i] = c := by simpa using h1
  rw [decide_eq_true (by simp : ((i : Nat) : Int) ≥ 0)]
  exact (List.contains_iff_mem.2 (by rw [← h4]; exact List.getElem_mem h2)).symm
 | none =>
  rw [List.find?_eq_none] at h
  cases hc : s.contains c with
  | false => rfl
  | true =>
   have hm := List.contains_iff_mem.1 hc
   obtain ⟨i, hi, e⟩ := List.mem_iff_getElem.1 hm
   have h3 : s.toArray[i]! = s[i] := by rw [getElem!_pos _ _ (by simpa using hi)]; rfl
   exact absurd (by rw [h3, e]; simp : (s.toArray[i]! == c) = true) (h i (List.mem_range.2 hi))
theorem zkr (s : Str) (c : UInt8) : zpa s c = some (ixB s c) := rfl
def znz (p : UInt8 → Bool) (s : Str) (n : Nat) : Nat := ((s.drop n).takeWhile p).length
theorem zuz (s of : Str) (a : Int) (hl : s.length ≤ 4611686018427387904) : ∀ k n, n + k = s.length → zg4 s a of (n : Int) = zah s a ((n + znz of.contains s n : Nat) : Int)
 | 0, n, h => by
  rw [zg3]
  simp only [z68, zco (by omega : ¬ n < s.length), cond_false, z8y]
  have e : znz of.contains s n = 0 := by unfold znz; rw [List.drop_of_length_le (by omega)]; rfl
  rw [e, Nat.add_zero]
  cases zah s a (n : Int) <;> rfl
 | k + 1, n, h => by
  obtain ⟨c, hc, hd⟩ := dropc (by omega : n < s.length)
  rw [zg3]
  simp only [z68, zd1 (by omega : n < s.length), cond_true, z3d, hc, Option.bind_some, zkr, zq9, z8y]
  have e : znz of.contains s n = if of.contains c then 1 + znz of.contains s (n + 1) else 0 := by
   unfold znz
   rw [hd, List.takeWhile_cons]
   cases of.contains c with
   | true => rw [if_pos rfl, if_pos rfl, List.length_cons]; omega
   | false => rfl
  cases hm : of.contains c with
  | true =>
   rw [hm, if_pos rfl] at e
   rw [cond_true, z4f (by omega) (by omega), show ((n : Int) + 1) = ((n + 1 : Nat) : Int) from by omega, zuz s of a hl k (n + 1) (by omega), e]
   congr 2; omega
  | false =>
   rw [hm] at e
   rw [cond_false, e]
   show _ = zah s a ((n + 0 : Nat) : Int)
   rw [Nat.add_zero]
   cases zah s a (n : Int) <;> rfl
theorem zag {α : Type} {s : List α} {a b : Nat} (h1 : a ≤ b) (h2 : b ≤ s.length) : zah s (a : Int) (b : Int) = some ((s.take b).drop a) := by
 unfold zah
 rw [decide_eq_true (by omega : (0 : Int) ≤ (a : Int)), decide_eq_true (by omega : (a : Int) ≤ (b : Int)), decide_eq_true (by omega : (b : Int) ≤ (s.length : Int))]; rfl
theorem zzi (p : UInt8 → Bool) (s : Str) (n : Nat) (h : n ≤ s.length) : n + znz p s n ≤ s.length := by
 unfold znz
 have : ((s.drop n).takeWhile p).length ≤ (s.drop n).length := (List.takeWhile_prefix p).length_le
 rw [List.length_drop] at this; omega
theorem zib {s of : Str} {n : Nat} (hl : s.length ≤ 4611686018427387904) (h : n ≤ s.length) : zcd s (n : Int) of = some ((s.drop n).takeWhile of.contains) := by
 have := zzi of.contains s n h
 unfold zcd
 rw [zuz s of _ hl (s.length - n) n (by omega), zag (by omega) (by omega)]
 congr 1
 rw [List.drop_take, show n + znz of.contains s n - n = znz of.contains s n from by omega]
 unfold znz
 exact (List.prefix_iff_eq_take.1 (List.takeWhile_prefix _)).symm
abbrev lowS : Str := [97, 98, 99, 100, 101, 102, 103, 104, 105, 106, 107, 108, 109, 110, 111, 112, 113, 114, 115, 116, 117, 118, 119, 120, 121, 122]
abbrev nmS : Str := [97, 98, 99, 100, 101, 102, 103, 104, 105, 106, 107, 108, 109, 110, 111, 112, 113, 114, 115, 116, 117, 118, 119, 120, 121, 122, 48, 49, 50, 51, 52, 53, 54, 55, 56, 57, 95]
theorem Z5c {p : UInt8 → Bool} (h : (List.range 256).all (fun n => p (UInt8.ofNat n)) = true) (c : UInt8) : p c = true := by
 have := List.all_eq_true.1 h c.toNat (List.mem_range.2 c.toNat_lt)
 rwa [UInt8.ofNat_toNat] at this
theorem zx8 (c : UInt8) : lowS.contains c = zx9 c := by
 have := Z5c (p := fun c => lowS.contains c == zx9 c) (by decide +kernel) c
 simpa using this
theorem zzu (c : UInt8) : nmS.contains c = zu2 c := by
 have := Z5c (p := fun c => nmS.contains c == zu2 c) (by decide +kernel) c
 simpa using this
theorem zju {p : UInt8 → Bool} : ∀ s : Str, (s.takeWhile p == s) = s.all p
 | [] => rfl
 | c :: r => by
  rw [List.takeWhile_cons, List.all_cons]
  cases p c with
  | true => rw [if_pos rfl, ← zju r]; simp
  | false => rfl
theorem zhk (s : Str) : zis s = some (z2f s) := by
 unfold zis
 cases s with
 | nil => rfl
 | cons c r =>
  have he : ((c :: r) == ([] : Str)) = false := rfl
  have h0 : (c :: r)[0]? = some c := rfl
  rw [he]
  simp only [Bool.not_false, cond_true, h0, Option.bind_some, zkr, zq9, zx8]
  by_cases h32 : (c :: r).length ≤ 32
  ·rw [decide_eq_true (by omega : (((c :: r).length : Nat) : Int) ≤ 32), cond_true]
   have hs := zib (s := c :: r) (of := nmS) (n := 0) (by omega) (by omega)
   rw [show ((0 : Nat) : Int) = 0 from rfl, List.drop_zero] at hs
   have hf : (nmS.contains : UInt8 → Bool) = zu2 := funext zzu
   rw [hf] at hs
   unfold z2f
   rw [Nat.ble_eq_true_of_le h32, Nat.ble_eq_true_of_le (by simp : 1 ≤ (c :: r).length), List.headD_cons]
   cases zx9 c with
   | true => rw [cond_true, hs, Option.bind_some, zju]; rfl
   | false => rfl
  ·rw [decide_eq_false (by omega : ¬ (((c :: r).length : Nat) : Int) ≤ 32), cond_false]
   have e2 : Nat.ble (c :: r).length 32 = false := by
    cases hb : Nat.ble (c :: r).length 32 with
    | false => rfl
    | true => exact absurd (Nat.le_of_ble_eq_true hb) h32
   unfold z2f
   rw [e2, Bool.and_false, Bool.false_and, Bool.false_and]
def z58 (s : Stp) : Int :=
 if s.f_At = false ∧ z2f s.f_Name = false then 8 else if s.f_At = false ∧ s.f_Index ≠ 0 then 1 else if s.f_At = true ∧ s.f_Name ≠ [] then 8 else if s.f_At = true ∧ (s.f_Index < 0 ∨ 4096 ≤ s.f_Index) then 1 else 0
theorem Z1c (s : Stp) : zp0 s = some (z58 s) := by
 unfold zp0 z58
 cases ha : s.f_At with
 | false =>
  simp only [Bool.not_false, cond_true, zhk, Option.bind_some, zbu, zbt, zbs, zak, ha, cond_false]
  cases z2f s.f_Name with
  | false => rfl
  | true =>
   simp only [Bool.not_true, cond_false]
   by_cases hi : s.f_Index = 0
   ·rw [hi]; rfl
   ·rw [show (s.f_Index != 0) = true from by simpa using hi, cond_true]; simp [hi]
 | true =>
  simp only [Bool.not_true, cond_false, zbu, zbt, zbs, zak, ha, cond_true]
  by_cases hn : s.f_Name = []
  ·rw [hn]
   simp only [beq_self_eq_true, Bool.not_true, cond_false]
   by_cases h1 : s.f_Index < 0
   ·rw [decide_eq_true h1]; simp [h1]
   ·rw [decide_eq_false h1, cond_false]
    by_cases h2 : s.f_Index ≥ 4096
    ·rw [decide_eq_true h2]; have h3 : 4096 ≤ s.f_Index := h2; simp [h3]
    ·rw [decide_eq_false h2]; have h3 : ¬ 4096 ≤ s.f_Index := h2; simp [h1, h3]
  ·rw [show (s.f_Name == ([] : Str)) = false from by simpa using hn]; simp [hn]
def zbg : List Stp → Int
 | [] => 0
 | s :: r => if z58 s ≠ 0 then z58 s else zbg r
def z2z (w : List Stp) : Int := if 64 < w.length then 2 else zbg w
theorem zno (w : List Stp) : ∀ k i, k + i = w.length → zg7 w i = some (zbg (w.drop i))
 | 0, i, h => by
  rw [zg6]
  simp only [z69, zco (by omega : ¬ i < w.length), cond_false]
  rw [List.drop_of_length_le (by omega)]; rfl
 | k + 1, i, h => by
  obtain ⟨s, hs, hd⟩ := dropc (by omega : i < w.length)
  rw [zg6]
  simp only [z69, zd1 (by omega : i < w.length), cond_true, hs, Option.bind_some, Z1c, zno w k (i + 1) (by omega)]
  rw [hd, zbg]
  by_cases he : z58 s = 0
  ·rw [he]; rfl
  ·rw [show (z58 s != 0) = true from by simpa using he, cond_true, if_pos he]
theorem zjt (w : List Stp) : zmd w = some (z2z w) := by
 unfold zmd z2z
 by_cases h : 64 < w.length
 ·rw [decide_eq_true (by omega : ((w.length : Nat) : Int) > 64), if_pos h]; rfl
 ·rw [decide_eq_false (by omega : ¬ ((w.length : Nat) : Int) > 64), if_neg h, cond_false]
  have := zno w w.length 0 (by omega)
  rw [List.drop_zero] at this; exact this
theorem steps_zero {w : List Stp} : zbg w = 0 ↔ ∀ s, s ∈ w → z58 s = 0 := by
 induction w with
 | nil => simp [zbg]
 | cons s r ih =>
  rw [zbg]
  by_cases h : z58 s = 0
  ·rw [if_neg (by simp [h]), ih]; simp [h]
  ·rw [if_pos h]; simp [h]
theorem zr1 {s : Stp} (h : z58 s = 0) (ha : s.f_At = true) : s = stA s.f_Index.toNat ∧ 0 ≤ s.f_Index ∧ s.f_Index < 4096 := by
 unfold z58 at h
 rw [if_neg (by simp [ha]), if_neg (by simp [ha])] at h
 split at h
 ·cases h
 ·split at h
  ·cases h
  ·rename_i h1 h2
   obtain ⟨n, a, i⟩ := s
   simp only at ha h1 h2
   subst ha
   have hn : n = [] := Classical.byContradiction fun hn => h1 ⟨rfl, hn⟩
   subst hn
   have h3 : 0 ≤ i ∧ i < 4096 := by constructor <;> (apply Classical.byContradiction; intro h4; apply h2; refine ⟨rfl, ?_⟩; omega)
   refine ⟨?_, h3⟩
   simp only [stA]; congr 1; omega
theorem Z1b {s : Stp} (h : z58 s = 0) (ha : s.f_At = false) : s = stN s.f_Name ∧ z2f s.f_Name = true := by
 unfold z58 at h
 split at h
 ·cases h
 ·split at h
  ·cases h
  ·rename_i h1 h2
   obtain ⟨n, a, i⟩ := s
   simp only at ha h1 h2
   subst ha
   have h3 : z2f n = true := by cases hn : z2f n with
    | true => rfl
    | false => exact absurd ⟨rfl, hn⟩ h1
   have h4 : i = 0 := Classical.byContradiction fun hn => h2 ⟨rfl, hn⟩
   subst h4
   exact ⟨rfl, h3⟩
theorem zy5 {n : Str} : z58 (stN n) = if z2f n = true then 0 else 8 := by
 unfold z58 stN
 cases z2f n <;> simp
theorem zfe {i : Nat} : z58 (stA i) = if i < 4096 then 0 else 1 := by
 unfold z58 stA
 by_cases h : i < 4096
 ·rw [if_pos h]; simp; omega
 ·rw [if_neg h]; simp; omega
end Go.Proofs.YthidgpcbnieleaaGreatDoor

namespace Go.Proofs.YthidgpcbnieleaaGreatDoor
open Go Aw
set_option linter.unusedVariables false
set_option linter.unusedSimpArgs false
set_option maxRecDepth 8000
abbrev Fds := List (Str × V)
def fget (d : Fds) (n : Str) : Option V := (d.find? (fun f => f.1 == n)).map (·.2)
theorem z32 {f : Str × V} {r : Fds} {n : Str} : fget (f :: r) n = if f.1 = n then some f.2 else fget r n := by
 unfold fget
 rw [List.find?_cons]
 by_cases h : f.1 = n
 ·rw [show (f.1 == n) = true from by simpa using h, if_pos h]; rfl
 ·rw [show (f.1 == n) = false from by simpa using h, if_neg h]
theorem zb4 {d : Fds} {n : Str} {v : V} (h : fget d n = some v) : (n, v) ∈ d := by
 induction d with
 | nil => cases h
 | cons f r ih =>
  rw [z32] at h
  by_cases he : f.1 = n
  ·rw [if_pos he] at h; injection h with h; subst h; subst he; simp
  ·rw [if_neg he] at h; simp [ih h]
theorem zqg {d : Fds} {n : Str} : fget d n = none ↔ n ∉ d.map (·.1) := by
 induction d with
 | nil => simp [fget]
 | cons f r ih =>
  rw [z32]
  by_cases he : f.1 = n
  ·rw [if_pos he]; simp [he]
  ·rw [if_neg he, ih, List.map_cons, List.mem_cons, not_or]
   exact ⟨fun h => ⟨fun e => he e.symm, h⟩, fun h => h.2⟩
theorem bl_lt {a b : Str} : Op.bytesLess a b = true ↔ zlt a b := by
 unfold zlt cmpS
 cases Op.bytesLess a b with
 | true => simp
 | false => rw [if_neg (by simp)]; split <;> simp
structure Cut (d : Fds) (n : Str) (c : Nat) : Prop where
 le : c ≤ d.length
 lo : ∀ k x, d[k]? = some x → k < c → Op.bytesLess x.1 n = true
 hi : ∀ k x, d[k]? = some x → c ≤ k → Op.bytesLess x.1 n = false
theorem Z0p (x : Str × V) (n : Str) : zmf x n = some (if Op.bytesLess x.1 n = true then -1 else if x.1 = n then 0 else 1) := by
 unfold zmf
 cases h : Op.bytesLess x.1 n with
 | true => rfl
 | false =>
  rw [cond_false, Bool.false_or]
  by_cases he : x.1 = n
  ·rw [show (x.1 == n) = true from by simpa using he, if_neg (by simp), if_pos he]; rfl
  ·rw [show (x.1 == n) = false from by simpa using he, if_neg (by simp), if_neg he]; rfl
theorem Z5o {i j : Nat} (h : i + j ≤ 1073741824) : IntKind.i64.wrap (zlp .u64 (IntKind.u64.wrap (IntKind.i64.wrap ((i : Int) + (j : Int)))) 1) = (((i + j) / 2 : Nat) : Int) := by
 have e1 : IntKind.i64.wrap ((i : Int) + (j : Int)) = ((i + j : Nat) : Int) := by rw [z4f (by omega) (by omega)]; omega
 have e2 : IntKind.u64.wrap ((i + j : Nat) : Int) = ((i + j : Nat) : Int) := by
  have h : IntKind.u64.wrap ((i + j : Nat) : Int) = ((i + j : Nat) : Int) % 18446744073709551616 := rfl
  rw [h]; omega
 have e3 : zlp .u64 ((i + j : Nat) : Int) 1 = ((i + j : Nat) : Int).fdiv 2 := rfl
 rw [e1, e2, e3, Int.fdiv_eq_ediv_of_nonneg _ (by omega), z4f (by omega) (by omega)]
 omega
theorem bs_l (d : Fds) (n : Str) (hs : (d.map (·.1)).Pairwise zlt) (hd : d.length ≤ 268435456) : ∀ m i j, j - i ≤ m → i ≤ j → j ≤ d.length →
 (∀ k x, d[k]? = some x → k < i → Op.bytesLess x.1 n = true) → (∀ k x, d[k]? = some x → j ≤ k → Op.bytesLess x.1 n = false) →
 ∃ c, Cut d n c ∧ zgt d n (i : Int) (j : Int) = some ((c : Int), decide ((d[c]?).map (·.1) = some n)) := by
 have sorted : ∀ (a b : Nat) (x y : Str × V), a < b → d[a]? = some x → d[b]? = some y → zlt x.1 y.1 := by
  intro a b x y hab hx hy
  have := List.pairwise_iff_getElem.1 hs a b (by simp [(List.getElem?_eq_some_iff.1 hx).1]) (by simp [(List.getElem?_eq_some_iff.1 hy).1]) hab
  simp only [List.getElem_map] at this
  rwa [(List.getElem?_eq_some_iff.1 hx).2, (List.getElem?_eq_some_iff.1 hy).2] at this
 intro m
 induction m with
 | zero =>
  intro i j h1 h2 h3 hlo hhi
  have e : i = j := by omega
  subst e
  refine ⟨i, ⟨h3, hlo, hhi⟩, ?_⟩
  rw [zgs]
  simp only [z6e, zco (by omega : ¬ i < i), cond_false]
  by_cases hi : i < d.length
  ·obtain ⟨x, hx, _⟩ := dropc hi
   rw [zd1 hi, cond_true, z3d, hx, Option.bind_some, Z0p, Option.bind_some, if_neg (by rw [hhi i x hx (Nat.le_refl _)]; simp)]
   by_cases hn : x.1 = n
   ·rw [if_pos hn]; simp [hn]
   ·rw [if_neg hn]; simp [hn]
  ·rw [zco hi, cond_false, List.getElem?_eq_none (by omega)]; rfl
 | succ m ih =>
  intro i j h1 h2 h3 hlo hhi
  by_cases hij : i < j
  ·have hmid : (i + j) / 2 < d.length := by omega
   obtain ⟨x, hx, _⟩ := dropc hmid
   rw [zgs]
   simp only [z6e, zd1 hij, cond_true, Z5o (by omega : i + j ≤ 1073741824), z3d, hx, Option.bind_some, Z0p]
   cases hb : Op.bytesLess x.1 n with
   | true =>
    rw [if_pos rfl, show decide ((-1 : Int) < 0) = true from rfl, cond_true, z4f (by omega) (by omega), show ((((i + j) / 2 : Nat) : Int) + 1) = (((i + j) / 2 + 1 : Nat) : Int) from by omega]
    refine ih _ j (by omega) (by omega) h3 (fun k y hy hk => ?_) hhi
    rcases Nat.lt_or_ge k ((i + j) / 2) with h | h
    ·exact bl_lt.2 (z6w (sorted _ _ _ _ h hy hx) (bl_lt.1 hb))
    ·have : k = (i + j) / 2 := by omega
     subst this
     rw [hx] at hy; injection hy with hy; subst hy; exact hb
   | false =>
    have hz : decide ((if False then (-1 : Int) else if x.1 = n then 0 else 1) < 0) = false := by
     rw [if_neg (by simp)]; split <;> rfl
    rw [if_neg (by simp)]
    have hz2 : decide ((if x.1 = n then (0 : Int) else 1) < 0) = false := by split <;> rfl
    rw [hz2, cond_false]
    refine ih i _ (by omega) (by omega) (by omega) hlo (fun k y hy hk => ?_)
    rcases Nat.lt_or_ge ((i + j) / 2) k with h | h
    ·cases hc : Op.bytesLess y.1 n with
     | false => rfl
     | true =>
      have := bl_lt.2 (z6w (sorted _ _ _ _ h hx hy) (bl_lt.1 hc))
      rw [hb] at this; cases this
    ·have : k = (i + j) / 2 := by omega
     subst this
     rw [hx] at hy; injection hy with hy; subst hy; exact hb
  ·exact ih i j (by omega) h2 h3 hlo hhi
theorem zj6 {d : Fds} {n : Str} (hs : (d.map (·.1)).Pairwise zlt) (hd : d.length ≤ 268435456) : ∃ c, Cut d n c ∧ zin d n = some ((c : Int), decide ((d[c]?).map (·.1) = some n)) := by
 obtain ⟨c, h1, h2⟩ := bs_l d n hs hd d.length 0 d.length (by omega) (by omega) (by omega) (fun k x _ h => by omega) (fun k x hx h => by have := (List.getElem?_eq_some_iff.1 hx).1; omega)
 refine ⟨c, h1, ?_⟩
 unfold zin zsh
 rw [show ((0 : Nat) : Int) = 0 from rfl] at h2
 rw [h2]; rfl
theorem zqt {d : Fds} {n : Str} {c : Nat} (hs : (d.map (·.1)).Pairwise zlt) (h : Cut d n c) : fget d n = match d[c]? with | some x => if x.1 = n then some x.2 else none | none => none := by
 have key : ∀ (d : Fds) (c : Nat), (d.map (·.1)).Pairwise zlt → (∀ k x, d[k]? = some x → k < c → Op.bytesLess x.1 n = true) → (∀ k x, d[k]? = some x → c ≤ k → Op.bytesLess x.1 n = false) → fget d n = match d[c]? with | some x => if x.1 = n then some x.2 else none | none => none := by
  intro d
  induction d with
  | nil => intro c _ _ _; simp [fget]
  | cons f r ih =>
   intro c hs hlo hhi
   rw [List.map_cons, List.pairwise_cons] at hs
   rw [z32]
   cases c with
   | zero =>
    rw [List.getElem?_cons_zero]
    simp only
    by_cases he : f.1 = n
    ·rw [if_pos he, if_pos he]
    ·rw [if_neg he, if_neg he, zqg]
     intro hm
     have h1 := hs.1 n hm
     rw [← bl_lt, hhi 0 f rfl (Nat.le_refl _)] at h1; cases h1
   | succ c =>
    have h0 := hlo 0 f rfl (by omega)
    rw [if_neg (fun e => by rw [e] at h0; exact zef _ (bl_lt.1 h0)), List.getElem?_cons_succ]
    exact ih c hs.2 (fun k x hx hk => hlo (k + 1) x (by simpa using hx) (by omega)) (fun k x hx hk => hhi (k + 1) x (by simpa using hx) (by omega))
 exact key d c hs h.lo h.hi
def fdF : V → Option Fds
 | .dict d => some d
 | .record _ _ d => some d
 | _ => none
theorem Z0m {v : V} (h : v ≠ .nothing) : zs8 v = some (match fdF v with | some d => (d, true) | none => ([], false)) := by
 cases v with
 | nothing => exact absurd rfl h
 | _ => rfl
theorem zn5 {l : List Str} (h : z2m l = 0) : l.length ≤ 4096 := by
 unfold z2m at h
 split at h
 ·cases h
 ·omega
theorem zk1 : ∀ {l : List Str} {p : Option Str}, z81 p l = true → ∀ s, s ∈ l → z2f s = true
 | s :: r, p, h, t, ht => by
  simp only [z81, Bool.and_eq_true] at h
  rcases List.mem_cons.1 ht with rfl | ht
  ·exact h.1.1
  ·exact zk1 h.2 t ht
theorem zhs {l : List Str} (h : z2m l = 0) : ∀ s, s ∈ l → z2f s = true := by
 unfold z2m at h
 split at h
 ·cases h
 ·split at h
  ·rename_i h2; exact zk1 h2
  ·cases h
theorem zxn {v : V} {d : Fds} (hc : Can v) (h : fdF v = some d) : z2m (d.map (·.1)) = 0 := by
 have hn := hc.1.own
 cases v with
 | dict x => cases h; exact hn
 | record c k x =>
  cases h
  simp only [z3q] at hn
  split at hn
  ·cases hn
  ·split at hn
   ·cases hn
   ·exact hn
 | _ => cases h
theorem z7y {v : V} {d : Fds} (h : fdF v = some d) : v.parts = d.map (·.2) := by
 cases v <;> first | (cases h; rfl) | cases h
def z11 (v : V) (s : Stp) : V × Int :=
 match v with
 | .list l => if s.f_At = true then (match l[s.f_Index.toNat]? with | some x => (x, 0) | none => (.nil, 42)) else (.nil, 41)
 | v => match fdF v with
  | some d => if s.f_At = true then (.nil, 41) else (match fget d s.f_Name with | some x => (x, 0) | none => (.nil, 40))
  | none => (.nil, 41)
theorem z65 {v : V} {d : Fds} (h : fdF v = some d) (s : Stp) : z11 v s = if s.f_At = true then (V.nil, (41 : Int)) else (match fget d s.f_Name with | some x => (x, (0 : Int)) | none => (V.nil, 40)) := by
 cases v <;> first | (cases h; rfl) | cases h
theorem zbh (l : List V) (i : Nat) : z11 (.list l) (stA i) = match l[i]? with | some x => (x, 0) | none => (.nil, 42) := by
 simp only [z11]
 rw [if_pos (by rfl), show (stA i).f_Index.toNat = i from by simp [stA]]
structure Wv (N : Nat) (v : V) : Prop where
 nn : v ≠ .nothing
 fd : ∀ d, fdF v = some d → (d.map (·.1)).Pairwise zlt ∧ d.length ≤ N
 li : ∀ l, v = .list l → l.length ≤ N
inductive Wd (N : Nat) : V → Prop
 | mk {v : V} : Wv N v → (∀ x, x ∈ v.parts → Wd N x) → Wd N v
theorem Wd.v {N : Nat} {v : V} (h : Wd N v) : Wv N v := by cases h; assumption
theorem Wd.part {N : Nat} {v : V} (h : Wd N v) : ∀ x, x ∈ v.parts → Wd N x := by cases h; assumption
theorem zx3 {v : V} (h : Near v) : Wd 4096 v := by
 induction h with
 | @mk x h1 h2 ih =>
  refine .mk ⟨fun e => (by subst e; cases h1), fun d hd => ?_, fun l hl => (by subst hl; exact zcn h1)⟩ ih
  have hf : z2m (d.map (·.1)) = 0 := by
   cases x with
   | dict y => cases hd; exact h1
   | record c k y =>
    cases hd
    simp only [z3q] at h1
    split at h1
    ·cases h1
    ·split at h1
     ·cases h1
     ·exact h1
   | _ => cases hd
  exact ⟨zn4 hf, by have := zn5 hf; rwa [List.length_map] at this⟩
theorem zea {v : V} (hc : Can v) : Wd 4096 v := zx3 hc.1
theorem zpr {N : Nat} {v : V} {s : Stp} (hw : Wv N v) (hN : N ≤ 268435456) (hs : z58 s = 0) : z5m v s = some (z11 v s) := by
 have flds : ∀ d, fdF v = some d → v.isList = false → z5m v s = some (z11 v s) := by
  intro d hd hl
  unfold z5m
  rw [hl, cond_false]
  unfold zal
  rw [cond_false, Z0m hw.nn, hd, Option.bind_some, z65 hd]
  simp only [Bool.not_true, cond_false]
  unfold zdi
  cases s.f_At with
  | true => rfl
  | false =>
   obtain ⟨c, h1, h2⟩ := zj6 (n := s.f_Name) (hw.fd d hd).1 (Nat.le_trans (hw.fd d hd).2 hN)
   rw [cond_false, if_neg (by simp), h2, Option.bind_some, zqt (hw.fd d hd).1 h1]
   simp only
   cases hx : d[c]? with
   | none => rfl
   | some x =>
    simp only [Option.map_some, Option.some.injEq]
    by_cases he : x.1 = s.f_Name
    ·rw [decide_eq_true he, if_pos he, Bool.not_true, cond_false, z3d, hx]; rfl
    ·rw [decide_eq_false he, if_neg he]; rfl
 have none_ : fdF v = none → v.isList = false → z11 v s = (.nil, 41) → z5m v s = some (z11 v s) := by
  intro hd hl he
  unfold z5m
  rw [hl, cond_false]
  unfold zal
  rw [cond_false, Z0m hw.nn, hd, he]; rfl
 cases v with
 | list l =>
  unfold z5m z11
  simp only [V.isList, cond_true, V.asList]
  cases ha : s.f_At with
  | true =>
   obtain ⟨_, h1, h2⟩ := zr1 hs ha
   unfold zal
   rw [cond_true, if_pos rfl]
   simp only [V.asList]
   have e : s.f_Index = ((s.f_Index.toNat : Nat) : Int) := by omega
   by_cases hl : s.f_Index.toNat < l.length
   ·obtain ⟨x, hx, _⟩ := dropc hl
    rw [decide_eq_false (by omega : ¬ s.f_Index ≥ ((l.length : Nat) : Int)), cond_false, e, z3d, Int.toNat_natCast, hx]; rfl
   ·rw [decide_eq_true (by omega : s.f_Index ≥ ((l.length : Nat) : Int)), cond_true, List.getElem?_eq_none (by omega)]
  | false => rfl
 | dict d => exact flds d rfl rfl
 | record c k d => exact flds d rfl rfl
 | nothing => exact absurd rfl hw.nn
 | _ => exact none_ rfl rfl rfl
theorem z3z {v x : V} {s : Stp} (h : z11 v s = (x, 0)) : x ∈ v.parts := by
 have flds : ∀ d, fdF v = some d → x ∈ v.parts := by
  intro d hd
  rw [z65 hd] at h
  rw [z7y hd]
  split at h
  ·cases h
  ·cases hg : fget d s.f_Name with
   | none => rw [hg] at h; cases h
   | some y => rw [hg] at h; injection h with h; subst h; exact List.mem_map.2 ⟨_, zb4 hg, rfl⟩
 cases v with
 | list l =>
  simp only [z11] at h
  split at h
  ·cases hg : l[s.f_Index.toNat]? with
   | none => rw [hg] at h; cases h
   | some y => rw [hg] at h; injection h with h; subst h; exact List.mem_of_getElem? hg
  ·cases h
 | dict d => exact flds d rfl
 | record c k d => exact flds d rfl
 | _ => cases h
def getF (v : V) : List Stp → V × Int
 | [] => (v, 0)
 | s :: r => if (z11 v s).2 ≠ 0 then (.nil, (z11 v s).2) else getF (z11 v s).1 r
theorem Z0k {N : Nat} (hN : N ≤ 268435456) (w : List Stp) : ∀ k i v, k + i = w.length → Wd N v → (∀ s, s ∈ w → z58 s = 0) → zg0 w v i = some (getF v (w.drop i))
 | 0, i, v, h, hc, hw => by
  rw [zfz]
  simp only [z67, zco (by omega : ¬ i < w.length), cond_false]
  rw [List.drop_of_length_le (by omega)]; rfl
 | k + 1, i, v, h, hc, hw => by
  obtain ⟨s, hs, hd⟩ := dropc (by omega : i < w.length)
  rw [zfz]
  simp only [z67, zd1 (by omega : i < w.length), cond_true, hs, Option.bind_some, zpr hc.v hN (hw s (List.mem_of_getElem? hs))]
  rw [hd, getF]
  by_cases he : (z11 v s).2 = 0
  ·rw [if_neg (by simp [he]), show ((z11 v s).2 != 0) = false from by simp [he], cond_false]
   have hp : z11 v s = ((z11 v s).1, 0) := Prod.ext rfl he
   exact Z0k hN w k (i + 1) _ (by omega) (hc.part _ (z3z hp)) hw
  ·rw [if_pos he, show ((z11 v s).2 != 0) = true from by simpa using he, cond_true]
theorem Z0j {N : Nat} {v : V} {w : List Stp} (hc : Wd N v) (hN : N ≤ 268435456) (hw : ∀ s, s ∈ w → z58 s = 0) : zil v w = some (getF v w) := by
 have := Z0k hN w w.length 0 v (by omega) hc hw
 rw [List.drop_zero] at this; exact this
theorem Z0l {v : V} {w : List Stp} (hc : Can v) (hw : ∀ s, s ∈ w → z58 s = 0) : zil v w = some (getF v w) := Z0j (zea hc) (by omega) hw
theorem zks : ∀ {w : List Stp} {v x : V}, Can v → getF v w = (x, 0) → Can x
 | [], v, x, hc, h => by injection h with h; subst h; exact hc
 | s :: r, v, x, hc, h => by
  rw [getF] at h
  by_cases he : (z11 v s).2 = 0
  ·rw [if_neg (by simp [he])] at h
   exact zks (zfl hc (z3z (Prod.ext rfl he : z11 v s = ((z11 v s).1, 0)))) h
  ·rw [if_pos he] at h; injection h with h1 h2; exact absurd h2 he
theorem z64 {w : List Stp} (h : z2z w = 0) : w.length ≤ 64 ∧ ∀ s, s ∈ w → z58 s = 0 := by
 unfold z2z at h
 split at h
 ·cases h
 ·exact ⟨by omega, steps_zero.1 h⟩
theorem z5q {x : V} (h : (z1c x).2 = 0) : Can x := Classical.byContradiction fun hc => z7j hc h
def Z4m (s : Stp) : Prop := (∃ n, s = stN n) ∨ ∃ i, s = stA i
theorem zt7 {v x : V} {s : Stp} (hc : Can v) (hn : Z4m s) (h : z11 v s = (x, 0)) : z58 s = 0 := by
 have flds : ∀ d, fdF v = some d → z58 s = 0 := by
  intro d hd
  rw [z65 hd] at h
  rcases hn with ⟨n, rfl⟩ | ⟨i, rfl⟩
  ·rw [if_neg (by simp [stN])] at h
   cases hg : fget d (stN n).f_Name with
   | none => rw [hg] at h; cases h
   | some y => rw [zy5, if_pos (zhs (zxn hc hd) n (List.mem_map.2 ⟨_, zb4 hg, rfl⟩))]
  ·rw [if_pos (by rfl)] at h; cases h
 cases v with
 | list l =>
  simp only [z11] at h
  rcases hn with ⟨n, rfl⟩ | ⟨i, rfl⟩
  ·rw [if_neg (by simp [stN])] at h; cases h
  ·rw [if_pos (by rfl)] at h
   cases hg : l[(stA i).f_Index.toNat]? with
   | none => rw [hg] at h; cases h
   | some y =>
    have h1 := (List.getElem?_eq_some_iff.1 hg).1
    have h2 := zcn hc.1.own
    simp only [stA, Int.toNat_natCast] at h1
    rw [zfe, if_pos (by omega)]
 | dict d => exact flds d rfl
 | record c k d => exact flds d rfl
 | _ => cases h
theorem ze3 : ∀ {w : List Stp} {v x : V}, Can v → (∀ s, s ∈ w → Z4m s) → getF v w = (x, 0) → (∀ s, s ∈ w → z58 s = 0) ∧ (w.length : Int) < dpt v
 | [], v, x, hc, hn, h => ⟨fun s hs => (by cases hs), by have := (z4s v).2; simp only [List.length_nil]; omega⟩
 | s :: r, v, x, hc, hn, h => by
  rw [getF] at h
  by_cases he : (z11 v s).2 = 0
  ·rw [if_neg (by simp [he])] at h
   have hp : z11 v s = ((z11 v s).1, 0) := Prod.ext rfl he
   obtain ⟨h1, h2⟩ := ze3 (zfl hc (z3z hp)) (fun t ht => hn t (by simp [ht])) h
   have h3 := (zeg (z3z hp)).2
   have h4 := ze7 v
   refine ⟨fun t ht => ?_, by rw [List.length_cons]; omega⟩
   rcases List.mem_cons.1 ht with rfl | ht
   ·exact zt7 hc (hn t (by simp)) hp
   ·exact h1 t ht
  ·rw [if_pos he] at h; injection h with h1 h2; exact absurd h2 he
end Go.Proofs.YthidgpcbnieleaaGreatDoor

namespace Go.Proofs.YthidgpcbnieleaaGreatDoor
open Go Aw
set_option linter.unusedVariables false
set_option linter.unusedSimpArgs false
set_option maxRecDepth 8000
def Z1r (v : V) (w : List Stp) : V × Int := if (z1c v).2 ≠ 0 then (.nil, (z1c v).2) else if z2z w ≠ 0 then (.nil, z2z w) else if (getF v w).2 ≠ 0 then (.nil, (getF v w).2) else getF v w
theorem zfi (v : V) (w : List Stp) : zip v w = some (if (z1c v).2 ≠ 0 then (z1c v).2 else z2z w) := by
 unfold zip
 rw [zc1, Option.bind_some]
 by_cases h : (z1c v).2 = 0
 ·rw [show ((z1c v).2 != 0) = false from by simp [h], cond_false, zjt, if_neg (by simp [h])]; rfl
 ·rw [show ((z1c v).2 != 0) = true from by simpa using h, cond_true, if_pos h]
theorem Z1o (v : V) (w : List Stp) : zim v w = some (Z1r v w) := by
 unfold zim Z1r
 rw [zfi, Option.bind_some]
 by_cases h : (z1c v).2 = 0
 ·rw [if_neg (by simp [h]), if_neg (by simp [h])]
  by_cases h2 : z2z w = 0
  ·rw [show (z2z w != 0) = false from by simp [h2], cond_false, if_neg (by simp [h2]), Z0l (z5q h) (z64 h2).2, Option.bind_some]
   by_cases h3 : (getF v w).2 = 0
   ·rw [show ((getF v w).2 != 0) = false from by simp [h3], cond_false, if_neg (by simp [h3]), z80 (zks (z5q h) (Prod.ext rfl h3 : getF v w = ((getF v w).1, 0)))]
    rw [Option.bind_some, ← h3]
   ·rw [show ((getF v w).2 != 0) = true from by simpa using h3, cond_true, if_pos h3]
  ·rw [show (z2z w != 0) = true from by simpa using h2, cond_true, if_pos h2]
 ·rw [if_pos h, if_pos h, show ((z1c v).2 != 0) = true from by simpa using h, cond_true]
theorem zuq {v x : V} {w : List Stp} (hc : Can v) (hn : ∀ s, s ∈ w → Z4m s) (h : getF v w = (x, 0)) : Z1r v w = (x, 0) := by
 obtain ⟨h1, h2⟩ := ze3 hc hn h
 have h3 := hc.2.2
 unfold Z1r z2z
 rw [if_neg (by simp [z33 hc]), if_neg (by rw [if_neg (by omega)]; simp [steps_zero.2 h1]), if_neg (by simp [h]), h]
end Go.Proofs.YthidgpcbnieleaaGreatDoor

namespace Go.Proofs.YthidgpcbnieleaaGreatDoor
open Go Aw
set_option linter.unusedVariables false
set_option linter.unusedSimpArgs false
set_option maxRecDepth 8000
theorem zvs {x : V} (h : (z1c x).2 = 0) : Can x := Classical.byContradiction fun hc => z7j hc h
theorem zsi (x y : V) : z4j y x = - z4j x y := by rw [ziw, ziw, z9f]
theorem zk9 (x : V) : z4j x x = 0 := by have := zsi x x; omega
theorem z8t {x : V} (h : Can x) : z9y x x = true := by
 unfold z9y; rw [z33 h, zk9]; rfl
theorem zer {x y : V} (h : z9y x y = true) : Can x ∧ Can y ∧ z4j x y = 0 := by
 unfold z9y at h
 simp only [Bool.and_eq_true, beq_iff_eq] at h
 exact ⟨zvs h.1, zvs h.2.1, h.2.2⟩
theorem th0 {c d : Int} (h : th c d = 0) : c = 0 ∧ d = 0 := by
 unfold th at h
 by_cases hc : c = 0
 ·rw [if_pos hc] at h; exact ⟨hc, h⟩
 ·rw [if_neg hc] at h; exact absurd h hc
theorem c30 {a b : Int} (h : c3 a b = 0) : a = b := by
 unfold c3 at h
 by_cases h1 : a < b
 ·rw [if_pos h1] at h; cases h
 ·rw [if_neg h1] at h
  by_cases h2 : a > b
  ·rw [if_pos h2] at h; cases h
  ·omega
theorem Z5v {s t : Str} (h : cmpS s t = 0) : s = t := by
 unfold cmpS at h
 split at h
 ·cases h
 ·split at h
  ·rename_i h2; simpa using h2
  ·cases h
theorem ordL0 : ∀ {a b : List V}, z5r a b = 0 → a.length = b.length ∧ ∀ (i : Nat) x y, a[i]? = some x → b[i]? = some y → z4j x y = 0
 | [], [], _ => ⟨rfl, fun i x y h => by simp at h⟩
 | [], _ :: _, h => by simp [z5r] at h
 | _ :: _, [], h => by simp [z5r] at h
 | x :: r, y :: s, h => by
  rw [z5r] at h
  obtain ⟨h1, h2⟩ := th0 h
  obtain ⟨h3, h4⟩ := ordL0 h2
  refine ⟨by simp [h3], fun i p q hp hq => ?_⟩
  cases i with
  | zero => simp at hp hq; subst hp; subst hq; exact h1
  | succ i => exact h4 i p q (by simpa using hp) (by simpa using hq)
theorem ordD1 : ∀ {a b : List (Str × V)}, zew a b = 0 → a.map (·.1) = b.map (·.1) ∧ z5r (a.map (·.2)) (b.map (·.2)) = 0
 | [], [], _ => ⟨rfl, by simp [z5r]⟩
 | [], _ :: _, h => by simp [zew] at h
 | _ :: _, [], h => by simp [zew] at h
 | (s, x) :: r, (t, y) :: q, h => by
  rw [zew] at h
  obtain ⟨h1, h2⟩ := th0 h
  obtain ⟨h3, h4⟩ := th0 h1
  obtain ⟨h5, h6⟩ := ordD1 h2
  have e := Z5v h3
  subst e
  exact ⟨by simp only [List.map_cons, h5], by simp only [List.map_cons]; rw [z5r, h4, h6]; rfl⟩
theorem zxd {x y : V} (h : z4j x y = 0) : z1b x = z1b y := Classical.byContradiction fun hn => by
 rw [zpb hn] at h; exact hn (c30 h)
end Go.Proofs.YthidgpcbnieleaaGreatDoor

namespace Go.Proofs.YthidgpcbnieleaaGreatDoor
open Go Aw
set_option linter.unusedVariables false
set_option linter.unusedSimpArgs false
set_option maxRecDepth 8000
def z6p : Fds → Str → V → Fds
 | [], n, x => [(n, x)]
 | f :: r, n, x => if f.1 = n then (n, x) :: r else if Op.bytesLess f.1 n = true then f :: z6p r n x else (n, x) :: f :: r
def zrg : Fds → Str → Fds
 | [], _ => []
 | f :: r, n => if f.1 = n then r else f :: zrg r n
theorem zqr {f : Str × V} {r : Fds} {n : Str} {c : Nat} (h : Cut (f :: r) n (c + 1)) : Cut r n c :=
 ⟨by have := h.le; simp at this; omega, fun k x hx hk => h.lo (k + 1) x (by simpa using hx) (by omega), fun k x hx hk => h.hi (k + 1) x (by simpa using hx) (by omega)⟩
theorem zqs {f : Str × V} {r : Fds} {n : Str} {c : Nat} (h : Cut (f :: r) n (c + 1)) : Op.bytesLess f.1 n = true ∧ f.1 ≠ n := by
 have h0 := h.lo 0 f rfl (by omega)
 exact ⟨h0, fun e => by rw [e] at h0; exact zef _ (bl_lt.1 h0)⟩
theorem zgv {n : Str} {x : V} : ∀ {d : Fds} {c : Nat} {y : Str × V}, Cut d n c → d[c]? = some y → y.1 = n → z6p d n x = d.set c (y.1, x)
 | [], c, y, _, h, _ => by simp at h
 | f :: r, 0, y, h, hx, hy => by
  simp at hx; subst hx; subst hy
  rw [z6p, if_pos rfl]; rfl
 | f :: r, c + 1, y, h, hx, hy => by
  obtain ⟨h1, h2⟩ := zqs h
  rw [z6p, if_neg h2, if_pos h1, zgv (zqr h) (by simpa using hx) hy]; rfl
theorem zop {n : Str} {x : V} : ∀ {d : Fds} {c : Nat}, Cut d n c → (d[c]?).map (·.1) ≠ some n → z6p d n x = d.take c ++ [(n, x)] ++ d.drop c
 | [], c, h, _ => by simp [z6p]
 | f :: r, 0, h, hn => by
  have h0 := h.hi 0 f rfl (Nat.le_refl _)
  rw [z6p, if_neg (fun e => hn (by simp [e])), if_neg (by rw [h0]; simp)]; rfl
 | f :: r, c + 1, h, hn => by
  obtain ⟨h1, h2⟩ := zqs h
  rw [z6p, if_neg h2, if_pos h1, zop (zqr h) (by simpa using hn)]; rfl
theorem zhu {n : Str} : ∀ {d : Fds} {c : Nat} {y : Str × V}, Cut d n c → d[c]? = some y → y.1 = n → zrg d n = d.take c ++ d.drop (c + 1)
 | [], c, y, _, h, _ => by simp at h
 | f :: r, 0, y, h, hx, hy => by
  simp at hx; subst hx; subst hy
  rw [zrg, if_pos rfl]; rfl
 | f :: r, c + 1, y, h, hx, hy => by
  obtain ⟨h1, h2⟩ := zqs h
  rw [zrg, if_neg h2, zhu (zqr h) (by simpa using hx) hy]; rfl
theorem Z09 {α : Type} {b : Nat} {l : List α} {k : Nat} {a : α} (hk : k ≤ l.length) (hb : b ≤ 1024) (hl : l.length ≤ 268435456) : zyk b l (k : Int) a = some (l.take k ++ [a] ++ l.drop k) := by
 unfold zyk
 have h1 : (l.length + 1) * b ≤ 268435457 * 1024 := Nat.mul_le_mul (by omega) hb
 rw [decide_eq_true (by omega : (0 : Int) ≤ (k : Int)), decide_eq_true (by omega : (k : Int) ≤ (l.length : Int)), Nat.ble_eq_true_of_le (by omega : (l.length + 1) * b ≤ 140737488355328), Nat.ble_eq_true_of_le (by omega : l.length ≤ 4611686018427387904)]
 simp only [Bool.and_self, cond_true, Int.toNat_natCast]
theorem zvp {α : Type} {l : List α} {k : Nat} (hk : k < l.length) (hl : l.length ≤ 268435456) : zy0 l (k : Int) (IntKind.i64.wrap ((k : Int) + 1)) = some (l.take k ++ l.drop (k + 1)) := by
 unfold zy0
 rw [z4f (by omega) (by omega), decide_eq_true (by omega : (0 : Int) ≤ (k : Int)), decide_eq_true (by omega : (k : Int) < (l.length : Int)), decide_eq_true rfl]
 simp only [Bool.and_self, cond_true, Int.toNat_natCast]
theorem zfn {d : Fds} {n : Str} {x : V} (hs : (d.map (·.1)).Pairwise zlt) (hl : d.length ≤ 268435456) : zmj d n x = some (z6p d n x) := by
 unfold zmj zmp
 rw [zvu (by omega) (by omega), Option.bind_some, Option.bind_some]
 obtain ⟨c, h1, h2⟩ := zj6 (n := n) hs hl
 rw [h2, Option.bind_some]
 by_cases he : (d[c]?).map (·.1) = some n
 ·obtain ⟨y, hy, hn⟩ := Option.map_eq_some_iff.1 he
  rw [decide_eq_true he, cond_true, z3d, hy, Option.bind_some, zgv h1 hy hn, Int.toNat_natCast]
 ·rw [decide_eq_false he, cond_false, Z09 h1.le (by omega) hl, Option.bind_some, zop h1 he]
theorem zba {d : Fds} {s : Stp} (hs : (d.map (·.1)).Pairwise zlt) (hl : d.length ≤ 268435456) {y : V} (hy : fget d s.f_Name = some y) : zmi d s = some (zrg d s.f_Name) := by
 unfold zmi zmp
 obtain ⟨c, h1, h2⟩ := zj6 (n := s.f_Name) hs hl
 rw [h2, Option.bind_some, zvu (by omega) (by omega), Option.bind_some, Option.bind_some]
 rw [zqt hs h1] at hy
 cases hx : d[c]? with
 | none => rw [hx] at hy; cases hy
 | some z =>
  rw [hx] at hy
  simp only at hy
  by_cases hz : z.1 = s.f_Name
  ·rw [zvp (List.getElem?_eq_some_iff.1 hx).1 hl, Option.bind_some, zhu h1 hx hz]
  ·rw [if_neg hz] at hy; cases hy
def z50 (v : V) (d : Fds) : V :=
 match v with
 | .dict _ => .dict d
 | .record c k _ => .record c k d
 | v => v
def withF (v : V) (s : Stp) (x : V) : V :=
 match v with
 | .list l => if s.f_Index = ((l.length : Nat) : Int) then .list (l ++ [x]) else .list (l.set s.f_Index.toNat x)
 | v => match fdF v with
  | some d => z50 v (z6p d s.f_Name x)
  | none => v
def z2u (v : V) (s : Stp) : V :=
 match v with
 | .list l => .list (l.take s.f_Index.toNat ++ l.drop (s.f_Index.toNat + 1))
 | v => match fdF v with
  | some d => z50 v (zrg d s.f_Name)
  | none => v
def zrv (room : Bool) (v : V) (s : Stp) : Prop := (z11 v s).2 = 0 ∨ (room = true ∧ ((z11 v s).2 = 40 ∨ ((z11 v s).2 = 42 ∧ v.isList = true ∧ s.f_Index = ((v.asList.length : Nat) : Int))))
theorem z63 {v : V} {d : Fds} (h : fdF v = some d) (s : Stp) (x : V) : withF v s x = z50 v (z6p d s.f_Name x) := by
 cases v <;> first | (cases h; rfl) | cases h
theorem z9u {v : V} {d : Fds} (h : fdF v = some d) (s : Stp) : z2u v s = z50 v (zrg d s.f_Name) := by
 cases v <;> first | (cases h; rfl) | cases h
theorem zdd {v : V} {d e : Fds} (h : fdF v = some d) : fdF (z50 v e) = some e := by
 cases v <;> first | (cases h; rfl) | cases h
theorem set_set {v : V} {d e : Fds} : z50 (z50 v d) e = z50 v e := by cases v <;> rfl
theorem zrm {v : V} {d : Fds} (h : fdF v = some d) : z50 v d = v := by
 cases v <;> first | (cases h; rfl) | cases h
theorem zhh {room : Bool} {l : List V} {s : Stp} (hs : z58 s = 0) (h : zrv room (.list l) s) : s = stA s.f_Index.toNat ∧ s.f_Index = ((s.f_Index.toNat : Nat) : Int) ∧ s.f_Index.toNat ≤ l.length := by
 cases ha : s.f_At with
 | false =>
  have e : (z11 (.list l) s).2 = 41 := by simp only [z11]; rw [if_neg (by rw [ha]; simp)]
  rcases h with h | ⟨_, h | ⟨h, _⟩⟩ <;> rw [e] at h <;> cases h
 | true =>
  obtain ⟨h1, h2, h3⟩ := zr1 hs ha
  refine ⟨h1, by omega, ?_⟩
  have e := zbh l s.f_Index.toNat
  rw [← h1] at e
  cases hx : l[s.f_Index.toNat]? with
  | some y => have := (List.getElem?_eq_some_iff.1 hx).1; omega
  | none =>
   rw [hx] at e
   rcases h with h | ⟨_, h | ⟨h, _, h4⟩⟩
   ·rw [e] at h; cases h
   ·rw [e] at h; cases h
   ·simp only [V.asList] at h4; omega
theorem zek {N : Nat} {room : Bool} {v : V} {s : Stp} {x : V} (hv : Wv N v) (hN : N ≤ 268435456) (hs : z58 s = 0) (h : zrv room v s) : z82 v s x = some (withF v s x) := by
 have flds : ∀ d, fdF v = some d → v.isList = false → z82 v s x = some (withF v s x) := by
  intro d hd hl
  obtain ⟨h1, h2⟩ := hv.fd d hd
  have hw := zfn (n := s.f_Name) (x := x) h1 (Nat.le_trans h2 hN)
  unfold z82
  rw [hl, cond_false, z63 hd]
  cases v with
  | dict y => cases hd; simp only [V.isDict, cond_true, V.asDict, hw, Option.bind_some, z50]
  | record c k y =>
   cases hd
   simp only [V.isDict, cond_false, V.isRec, cond_true, V.asRec, Option.bind_some, hw, z50]
  | _ => cases hd
 cases v with
 | list l =>
  obtain ⟨h1, h2, h3⟩ := zhh hs h
  have hlen := Nat.le_trans (hv.li l rfl) hN
  unfold z82 zmo
  simp only [V.isList, cond_true, V.asList]
  rw [zvu (by omega) (by omega), Option.bind_some, Option.bind_some]
  by_cases he : s.f_Index = ((l.length : Nat) : Int)
  ·rw [show (s.f_Index == ((l.length : Nat) : Int)) = true from by simpa using he, cond_true, zrd (by omega) (by omega), Option.bind_some]
   simp only [withF]; rw [if_pos he]
  ·rw [show (s.f_Index == ((l.length : Nat) : Int)) = false from by simpa using he, cond_false]
   have hlt : s.f_Index.toNat < l.length := by omega
   have hi : z6n l s.f_Index = some l[s.f_Index.toNat] := by
    have := z3d l s.f_Index.toNat
    rw [← h2] at this
    rw [this]; exact List.getElem?_eq_getElem hlt
   rw [hi, Option.bind_some]
   simp only [withF]; rw [if_neg he]
 | dict d => exact flds d rfl rfl
 | record c k d => exact flds d rfl rfl
 | nothing => exact absurd rfl hv.nn
 | _ => rfl
theorem zlj {N : Nat} {v : V} {s : Stp} (hv : Wv N v) (hN : N ≤ 268435456) (hs : z58 s = 0) (h : (z11 v s).2 = 0) : zgz v s = some (z2u v s) := by
 have flds : ∀ d, fdF v = some d → v.isList = false → zgz v s = some (z2u v s) := by
  intro d hd hl
  obtain ⟨h1, h2⟩ := hv.fd d hd
  rw [z65 hd] at h
  cases ha : s.f_At with
  | true => rw [if_pos ha] at h; cases h
  | false =>
   rw [if_neg (by rw [ha]; simp)] at h
   cases hg : fget d s.f_Name with
   | none => rw [hg] at h; cases h
   | some y =>
    have hw := zba h1 (Nat.le_trans h2 hN) hg
    unfold zgz
    rw [hl, cond_false, z9u hd]
    cases v with
    | dict y => cases hd; simp only [V.isDict, cond_true, V.asDict, hw, Option.bind_some, z50]
    | record c k y =>
     cases hd
     simp only [V.isDict, cond_false, V.isRec, cond_true, V.asRec, Option.bind_some, hw, z50]
    | _ => cases hd
 cases v with
 | list l =>
  obtain ⟨h1, h2, h3⟩ := zhh (room := false) hs (.inl h)
  have hlen := Nat.le_trans (hv.li l rfl) hN
  have hlt : s.f_Index.toNat < l.length := by
   rw [h1, zbh] at h
   cases hx : l[s.f_Index.toNat]? with
   | some y => exact (List.getElem?_eq_some_iff.1 hx).1
   | none => rw [hx] at h; cases h
  unfold zgz zmo
  simp only [V.isList, cond_true, V.asList]
  have hd := zvp hlt hlen
  rw [← h2] at hd
  rw [zvu (by omega) (by omega), Option.bind_some, Option.bind_some, hd, Option.bind_some]
  rfl
 | dict d => exact flds d rfl rfl
 | record c k d => exact flds d rfl rfl
 | nothing => exact absurd rfl hv.nn
 | _ => rfl
end Go.Proofs.YthidgpcbnieleaaGreatDoor

namespace Go.Proofs.YthidgpcbnieleaaGreatDoor
open Go Aw
set_option linter.unusedVariables false
set_option linter.unusedSimpArgs false
set_option maxRecDepth 8000
abbrev Ed := S_api_Edit
def z40 (room : Bool) (v : V) (s : Stp) : Bool := ((z11 v s).2 == 0) || (room && ((z11 v s).2 == 40 || ((z11 v s).2 == 42 && (v.isList && s.f_Index == ((v.asList.length : Nat) : Int)))))
theorem zjz {room : Bool} {v : V} {s : Stp} (h : z40 room v s = true) : zrv room v s := by
 unfold z40 at h
 simp only [Bool.or_eq_true, Bool.and_eq_true, beq_iff_eq] at h
 exact h
def chF (room : Bool) (fin : V → Stp → V) : V → List Stp → V × Int
 | _, [] => (.nil, 0)
 | v, [s] => if z40 room v s = true then (fin v s, 0) else (.nil, (z11 v s).2)
 | v, s :: t :: r => if (z11 v s).2 ≠ 0 then (.nil, (z11 v s).2) else if (chF room fin (z11 v s).1 (t :: r)).2 ≠ 0 then (.nil, (chF room fin (z11 v s).1 (t :: r)).2) else (withF v s (chF room fin (z11 v s).1 (t :: r)).1, 0)
def chK (f : V → Stp → Option V) (a0 : V) (x1 : Stp) (s4 : Int) : Option (V × Int) := bif s4 != 0 then some (V.nil, s4) else Option.bind (f a0 x1) fun x6 => some (x6, 0)
def chJ (f : V → Stp → Option V) (a0 : V) (x1 : Stp) (x3 : V × Int) (s7 : Bool) : Option (V × Int) := bif s7 then chK f a0 x1 0 else chK f a0 x1 x3.2
noncomputable def chB (f : V → Stp → Option V) (F : V → List Stp → Bool → Option (V × Int)) (a0 : V) (a1 : List Stp) (a2 : Bool) : Option (V × Int) :=
 Option.bind (a1[0]?) fun x1 =>
 bif (((a1.length : Nat) : Int) == 1) then
  Option.bind (z5m a0 x1) fun x3 =>
  bif a2 then (bif x3.2 == 40 then chJ f a0 x1 x3 true else bif x3.2 == 42 then (bif a0.isList then chJ f a0 x1 x3 (x1.f_Index == ((a0.asList.length : Nat) : Int)) else chJ f a0 x1 x3 false) else chJ f a0 x1 x3 false) else chJ f a0 x1 x3 false
 else
  Option.bind (z5m a0 x1) fun x13 =>
  bif x13.2 != 0 then some (V.nil, x13.2) else
   Option.bind (zah a1 1 (a1.length : Int)) fun x15 =>
   Option.bind (F x13.1 x15 a2) fun x16 =>
   bif x16.2 != 0 then some (V.nil, x16.2) else
    Option.bind (z82 a0 x1 x16.1) fun x18 => some (x18, 0)
theorem zlg {a b : Int} (h : a = b) : (a == b) = true := by simpa using h
theorem zfk {a b : Int} (h : ¬ a = b) : (a == b) = false := by simpa using h
theorem zee {a : Int} (h : a = 0) : (a != 0) = false := by simp [h]
theorem Z1a {f : V → Stp → Option V} {fin : V → Stp → V} {v : V} {s : Stp} {b : Bool} (h : b = true ∨ (z11 v s).2 = 0 → f v s = some (fin v s)) :
 chJ f v s (z11 v s) b = some (if b = true ∨ (z11 v s).2 = 0 then (fin v s, 0) else (.nil, (z11 v s).2)) := by
 unfold chJ chK
 cases b with
 | true => rw [if_pos (.inl rfl), cond_true, show ((0 : Int) != 0) = false from rfl, cond_false, h (.inl rfl)]; rfl
 | false =>
  rw [cond_false]
  by_cases he : (z11 v s).2 = 0
  ·rw [if_pos (.inr he), zee he, cond_false, h (.inr he)]; rfl
  ·rw [if_neg (by simp [he]), zh9 he, cond_true]
theorem zy4 {f : V → Stp → Option V} {fin : V → Stp → V} {v : V} {s : Stp} {room : Bool} (h : z40 room v s = true → f v s = some (fin v s)) :
 (bif room then (bif (z11 v s).2 == 40 then chJ f v s (z11 v s) true else bif (z11 v s).2 == 42 then (bif v.isList then chJ f v s (z11 v s) (s.f_Index == ((v.asList.length : Nat) : Int)) else chJ f v s (z11 v s) false) else chJ f v s (z11 v s) false) else chJ f v s (z11 v s) false) =
  some (if z40 room v s = true then (fin v s, 0) else (.nil, (z11 v s).2)) := by
 have key : ∀ b : Bool, (b || (z11 v s).2 == 0) = z40 room v s → chJ f v s (z11 v s) b = some (if z40 room v s = true then (fin v s, 0) else (.nil, (z11 v s).2)) := by
  intro b hb
  have e : (b = true ∨ (z11 v s).2 = 0) ↔ z40 room v s = true := by rw [← hb]; simp
  rw [Z1a (fun hh => h (e.1 hh))]
  by_cases hr : z40 room v s = true
  ·rw [if_pos hr, if_pos (e.2 hr)]
  ·rw [if_neg hr, if_neg (fun hh => hr (e.1 hh))]
 cases room with
 | false => rw [cond_false]; exact key false (by simp [z40])
 | true =>
  rw [cond_true]
  by_cases h40 : (z11 v s).2 = 40
  ·rw [zlg h40, cond_true]; exact key true (by simp [z40, h40])
  ·rw [zfk h40, cond_false]
   by_cases h42 : (z11 v s).2 = 42
   ·rw [zlg h42, cond_true]
    cases hl : v.isList with
    | true => rw [cond_true]; exact key _ (by simp [z40, h42, hl])
    | false => rw [cond_false]; exact key false (by simp [z40, h42, hl])
   ·rw [zfk h42, cond_false]; exact key false (by simp [z40, h40, h42])
theorem zqz {N : Nat} (hN : N ≤ 268435456) {f : V → Stp → Option V} {fin : V → Stp → V} {F : V → List Stp → Bool → Option (V × Int)} {room : Bool} (hF : ∀ v w, F v w room = chB f F v w room)
 (hf : ∀ v s, Wv N v → z58 s = 0 → z40 room v s = true → f v s = some (fin v s)) : ∀ (w : List Stp) (v : V), Wd N v → (∀ s, s ∈ w → z58 s = 0) → w ≠ [] → w.length ≤ 268435456 → F v w room = some (chF room fin v w)
 | [], v, _, _, hne, _ => absurd rfl hne
 | [s], v, hv, hw, _, _ => by
  have hs := hw s (by simp)
  rw [hF, chB, chF]
  rw [show [s][0]? = some s from rfl, Option.bind_some, show ((([s].length : Nat) : Int) == 1) = true from rfl, cond_true, zpr hv.v hN hs, Option.bind_some]
  exact zy4 (fun h => hf v s hv.v hs h)
 | s :: t :: r, v, hv, hw, _, hlen => by
  have hs := hw s (by simp)
  rw [hF, chB, chF]
  have hl : ((((s :: t :: r).length : Nat) : Int) == 1) = false := zfk (by simp only [List.length_cons]; omega)
  rw [show (s :: t :: r)[0]? = some s from rfl, Option.bind_some, hl, cond_false, zpr hv.v hN hs, Option.bind_some]
  by_cases he : (z11 v s).2 = 0
  ·have hp : z11 v s = ((z11 v s).1, 0) := Prod.ext rfl he
   have hc : zah (s :: t :: r) 1 (((s :: t :: r).length : Nat) : Int) = some (t :: r) := by
    have := zag (s := s :: t :: r) (a := 1) (b := (s :: t :: r).length) (by simp) (Nat.le_refl _)
    rw [List.take_of_length_le (Nat.le_refl _)] at this; exact this
   rw [zee he, cond_false, hc, Option.bind_some, zqz hN hF hf (t :: r) (z11 v s).1 (hv.part _ (z3z hp)) (fun x hx => hw x (by simp [hx])) (by simp) (by simp only [List.length_cons] at hlen ⊢; omega), Option.bind_some, if_neg (by simp [he])]
   by_cases h2 : (chF room fin (z11 v s).1 (t :: r)).2 = 0
   ·rw [zee h2, cond_false, zek (room := false) hv.v hN hs (.inl he), Option.bind_some, if_neg (by simp [h2])]
   ·rw [zh9 h2, cond_true, if_pos h2]
  ·rw [zh9 he, cond_true, if_pos he]
theorem zna {N : Nat} {v : V} {w : List Stp} {room : Bool} {e : Ed} (hv : Wd N v) (hN : N ≤ 268435456) (hw : ∀ s, s ∈ w → z58 s = 0) (hne : w ≠ []) (hl : w.length ≤ 268435456) : zmn v w room e = some (chF room (fun p s => withF p s e.f_Value) v w) :=
 zqz (f := fun p s => zs7 p s e) (F := fun v w room => zmn v w room e) hN (fun v w => by rw [Z4e]; rfl) (fun v s hv hs hr => by
  show Option.bind (z82 v s e.f_Value) (fun x1 => some x1) = _
  rw [zek hv hN hs (zjz hr)]; rfl) w v hv hw hne hl
theorem zn9 {N : Nat} {v : V} {w : List Stp} {room : Bool} {e : Ed} (hv : Wd N v) (hN : N ≤ 268435456) (hw : ∀ s, s ∈ w → z58 s = 0) (hne : w ≠ []) (hl : w.length ≤ 268435456) : zmm v w room e = some (chF room (fun p s => withF p s e.f_Value) v w) :=
 zqz (f := fun p s => zs6 p s e) (F := fun v w room => zmm v w room e) hN (fun v w => by rw [Z4d]; rfl) (fun v s hv hs hr => by
  show Option.bind (z82 v s e.f_Value) (fun x1 => some x1) = _
  rw [zek hv hN hs (zjz hr)]; rfl) w v hv hw hne hl
theorem zlv {v : V} {s : Stp} (h : z40 false v s = true) : (z11 v s).2 = 0 := by simpa [z40] using h
theorem ze9 {N : Nat} {v : V} {w : List Stp} (hv : Wd N v) (hN : N ≤ 268435456) (hw : ∀ s, s ∈ w → z58 s = 0) (hne : w ≠ []) (hl : w.length ≤ 268435456) : ziv v w false = some (chF false z2u v w) :=
 zqz (f := zgz) (F := ziv) hN (fun v w => by rw [Z4c]; rfl) (fun v s hv hs hr => zlj hv hN hs (zlv hr)) w v hv hw hne hl
def apC (v : V) (what : Int) (w : List Stp) (x : V) : V × Int :=
 match w.getLast? with
 | none => if what = 1 then (x, 0) else (.nil, 1)
 | some s =>
  if what = 1 then chF false (fun p s => withF p s x) v w
  else if (getF v w.dropLast).2 ≠ 0 then (.nil, (getF v w.dropLast).2)
  else if what = 2 then (if (z11 (getF v w.dropLast).1 s).2 = 0 then (.nil, 1) else chF true (fun p s => withF p s x) v w)
  else if (z11 (getF v w.dropLast).1 s).2 ≠ 0 then (.nil, (z11 (getF v w.dropLast).1 s).2)
  else if (getF v w.dropLast).1.isList = true ∧ s.f_Index ≠ (((getF v w.dropLast).1.asList.length : Nat) : Int) - 1 then (.nil, 1)
  else chF false z2u v w
noncomputable def z4w (v : V) (e : Ed) : V × Int :=
 if e.f_What < 1 ∨ e.f_What > 3 then (.nil, 1) else if z2z e.f_Way ≠ 0 then (.nil, z2z e.f_Way) else if e.f_What ≠ 3 ∧ (z1c e.f_Value).2 ≠ 0 then (.nil, (z1c e.f_Value).2) else apC v e.f_What e.f_Way e.f_Value
theorem zf8 {N : Nat} : ∀ {w : List Stp} {v x : V}, Wd N v → getF v w = (x, 0) → Wd N x
 | [], v, x, hc, h => by injection h with h; subst h; exact hc
 | s :: r, v, x, hc, h => by
  rw [getF] at h
  by_cases he : (z11 v s).2 = 0
  ·rw [if_neg (by simp [he])] at h
   exact zf8 (hc.part _ (z3z (Prod.ext rfl he : z11 v s = ((z11 v s).1, 0)))) h
  ·rw [if_pos he] at h; injection h with h1 h2; exact absurd h2 he
theorem zxc {w : List Stp} {s : Stp} (h : w.getLast? = some s) : w ≠ [] ∧ w[w.length - 1]? = some s ∧ 1 ≤ w.length := by
 cases w with
 | nil => cases h
 | cons a r => exact ⟨by simp, by rw [← List.getLast?_eq_getElem?]; exact h, by simp⟩
theorem zrc {N : Nat} {v : V} {e : Ed} (hv : Wd N v) (hN : N ≤ 268435456) (hw : ∀ s, s ∈ e.f_Way → z58 s = 0) (hl : e.f_Way.length ≤ 64) (hk : 1 ≤ e.f_What ∧ e.f_What ≤ 3) : zbx v e = some (apC v e.f_What e.f_Way e.f_Value) := by
 unfold zbx apC
 cases hg : e.f_Way.getLast? with
 | none =>
  have he : e.f_Way = [] := List.getLast?_eq_none_iff.1 hg
  rw [he, show ((([] : List Stp).length : Nat) : Int) = 0 from rfl, show ((0 : Int) == 0) = true from rfl, cond_true]
  by_cases h1 : e.f_What = 1
  ·rw [zlg h1, cond_true]; simp only; rw [if_pos h1]
  ·rw [zfk h1, cond_false]; simp only; rw [if_neg h1]
 | some s =>
  obtain ⟨hne, hs, h1l⟩ := zxc hg
  have hcs := hw s (List.mem_of_getElem? hs)
  have hwd : ∀ t, t ∈ e.f_Way.dropLast → z58 t = 0 := fun t ht => hw t ((List.dropLast_sublist _).subset ht)
  have e1 : IntKind.i64.wrap (((e.f_Way.length : Nat) : Int) - 1) = ((e.f_Way.length - 1 : Nat) : Int) := by rw [z4f (by omega) (by omega)]; omega
  have hcut : zah e.f_Way 0 ((e.f_Way.length - 1 : Nat) : Int) = some e.f_Way.dropLast := by
   have := zag (s := e.f_Way) (a := 0) (b := e.f_Way.length - 1) (by omega) (by omega)
   rw [List.drop_zero, ← List.dropLast_eq_take] at this; exact this
  rw [zfk (by omega : ¬ ((e.f_Way.length : Nat) : Int) = 0), cond_false, e1, hcut, Option.bind_some, z3d, hs, Option.bind_some]
  simp only
  by_cases h1 : e.f_What = 1
  ·rw [zlg h1, cond_true, if_pos h1, zna hv hN hw hne (by omega)]; rfl
  ·rw [zfk h1, cond_false, if_neg h1]
   have hget := Z0j hv hN hwd
   by_cases h2 : e.f_What = 2
   ·rw [zlg h2, cond_true, hget, Option.bind_some]
    by_cases h3 : (getF v e.f_Way.dropLast).2 = 0
    ·rw [zee h3, cond_false, if_neg (by simp [h3]), if_pos h2, zpr (zf8 hv (Prod.ext rfl h3)).v hN hcs, Option.bind_some]
     by_cases h4 : (z11 (getF v e.f_Way.dropLast).1 s).2 = 0
     ·rw [zlg h4, cond_true, if_pos h4]
     ·rw [zfk h4, cond_false, if_neg h4, zn9 hv hN hw hne (by omega)]; rfl
    ·rw [zh9 h3, cond_true, if_pos h3]
   ·rw [zfk h2, cond_false, hget, Option.bind_some]
    by_cases h3 : (getF v e.f_Way.dropLast).2 = 0
    ·rw [zee h3, cond_false, if_neg (by simp [h3]), if_neg h2, zpr (zf8 hv (Prod.ext rfl h3)).v hN hcs, Option.bind_some]
     have hW := (zf8 hv (Prod.ext rfl h3 : getF v e.f_Way.dropLast = ((getF v e.f_Way.dropLast).1, 0))).v
     by_cases h4 : (z11 (getF v e.f_Way.dropLast).1 s).2 = 0
     ·rw [zee h4, cond_false, if_neg (by simp [h4])]
      have hj : ∀ b : Bool, zbw v e b = some (if b = true then (.nil, 1) else chF false z2u v e.f_Way) := by
       intro b
       unfold zbw
       cases b with
       | true => rfl
       | false => rw [cond_false, ze9 hv hN hw hne (by omega)]; rfl
      cases hL : (getF v e.f_Way.dropLast).1.isList with
      | false => rw [cond_false, hj, if_neg (by simp), if_neg (by simp)]
      | true =>
       rw [cond_true, hj]
       have hll : (getF v e.f_Way.dropLast).1.asList.length ≤ 268435456 := by
        generalize (getF v e.f_Way.dropLast).1 = p at hW hL ⊢
        cases p with
        | list l => exact Nat.le_trans (hW.li l rfl) hN
        | _ => cases hL
       rw [z4f (by omega) (by omega)]
       by_cases h5 : s.f_Index = (((getF v e.f_Way.dropLast).1.asList.length : Nat) : Int) - 1
       ·rw [if_neg (by simp [h5]), if_neg (by simp [h5])]
       ·rw [if_pos (by simpa using h5), if_pos ⟨rfl, h5⟩]
     ·rw [zh9 h4, cond_true, if_pos h4]
    ·rw [zh9 h3, cond_true, if_pos h3]
theorem zuo {N : Nat} {v : V} {e : Ed} (hv : Wd N v) (hN : N ≤ 268435456) : zp3 v e = some (z4w v e) := by
 have hj : ∀ b : Bool, (b = true ∨ (1 ≤ e.f_What ∧ e.f_What ≤ 3)) → zby v e b = some (if b = true then (.nil, 1) else if z2z e.f_Way ≠ 0 then (.nil, z2z e.f_Way) else if e.f_What ≠ 3 ∧ (z1c e.f_Value).2 ≠ 0 then (.nil, (z1c e.f_Value).2) else apC v e.f_What e.f_Way e.f_Value) := by
  intro b hb
  unfold zby
  cases b with
  | true => rfl
  | false =>
   have hk := hb.resolve_left (by simp)
   rw [cond_false, zjt, Option.bind_some, if_neg (by simp)]
   by_cases hz : z2z e.f_Way = 0
   ·obtain ⟨h1, h2⟩ := z64 hz
    rw [zee hz, cond_false, if_neg (by simp [hz])]
    have ha := zrc hv hN h2 h1 hk
    by_cases h3 : e.f_What = 3
    ·rw [show (e.f_What != 3) = false from by simp [h3], cond_false, if_neg (by simp [h3]), ha]
    ·rw [show (e.f_What != 3) = true from by simpa using h3, cond_true, zc1, Option.bind_some]
     by_cases h4 : (z1c e.f_Value).2 = 0
     ·rw [zee h4, cond_false, if_neg (by simp [h4]), ha]
     ·rw [zh9 h4, cond_true, if_pos ⟨h3, h4⟩]
   ·rw [zh9 hz, cond_true, if_pos hz]
 unfold zp3 z4w
 by_cases h1 : e.f_What < 1
 ·rw [decide_eq_true h1, cond_true, hj true (.inl rfl), if_pos rfl, if_pos (.inl h1)]
 ·rw [decide_eq_false h1, cond_false]
  by_cases h3 : e.f_What > 3
  ·rw [decide_eq_true h3, hj true (.inl rfl), if_pos rfl, if_pos (.inr h3)]
  ·rw [decide_eq_false h3, hj false (.inr ⟨by omega, by omega⟩), if_neg (by simp), if_neg (c := e.f_What < 1 ∨ e.f_What > 3) (by omega)]
end Go.Proofs.YthidgpcbnieleaaGreatDoor

