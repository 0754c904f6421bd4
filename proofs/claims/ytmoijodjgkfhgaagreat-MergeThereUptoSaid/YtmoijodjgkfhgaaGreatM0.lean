/- Plain laws, one behind the other. -/
import Derived.Test.YtmoijodjgkfhgaaGreatRd
import Derived.Test.YtmoijodjgkfhgaaGreatG9
namespace Go.Proofs.YtmoijodjgkfhgaaGreat
open Go Aw
set_option linter.unusedVariables false
set_option linter.unusedSimpArgs false
theorem z9z {i n : Nat} (h : i < n) : decide ((i : Int) < (n : Int)) = true := decide_eq_true (by omega)
theorem zav {i n : Nat} (h : ¬ i < n) : decide ((i : Int) < (n : Int)) = false := decide_eq_false (by omega)
theorem dropc {α : Type} {l : List α} {i : Nat} (h : i < l.length) : ∃ x, l[i]? = some x ∧ l.drop i = x :: l.drop (i + 1) :=
 ⟨l[i], List.getElem?_eq_getElem h, List.drop_eq_getElem_cons h⟩
theorem z3y {x : Int} (h1 : -9223372036854775808 ≤ x) (h2 : x ≤ 9223372036854775807) : IntKind.i64.wrap x = x := zb9 h1 h2
theorem z21 {α : Type} (l : List α) (i : Nat) : z82 l (i : Int) = l[i]? := by
 unfold z82; rw [decide_eq_true (by omega : (0 : Int) ≤ (i : Nat))]; rfl
def zxy (c : UInt8) : Bool := (Nat.ble 97 c.toNat && Nat.ble c.toNat 122) || (Nat.ble 48 c.toNat && Nat.ble c.toNat 57) || Nat.beq c.toNat 95
def Z1q (c : UInt8) : Bool := Nat.ble 97 c.toNat && Nat.ble c.toNat 122
def z3z (s : Str) : Bool := Nat.ble 1 s.length && Nat.ble s.length 32 && Z1q (s.headD 0) && s.all zxy
theorem zxx {c : UInt8} : zxy c = true ↔ (97 ≤ c.toNat ∧ c.toNat ≤ 122) ∨ (48 ≤ c.toNat ∧ c.toNat ≤ 57) ∨ c.toNat = 95 := by
 simp only [zxy, Bool.or_eq_true, Bool.and_eq_true, Nat.ble_eq, Nat.beq_eq]; omega
theorem loOk_iff {c : UInt8} : Z1q c = true ↔ 97 ≤ c.toNat ∧ c.toNat ≤ 122 := by
 simp only [Z1q, Bool.and_eq_true, Nat.ble_eq]
theorem Z0c (c : UInt8) (g : Nat → Option Bool) (i : Nat) (s : Str) (hi : i < s.length) (hc : s[i]? = some c) : z65 s g i = bif zxy c then g (i + 1) else some false := by
 have h97 : (97 : UInt8).toNat = 97 := rfl
 have h122 : (122 : UInt8).toNat = 122 := rfl
 have h48 : (48 : UInt8).toNat = 48 := rfl
 have h57 : (57 : UInt8).toNat = 57 := rfl
 have h95 : (95 : UInt8).toNat = 95 := rfl
 simp only [z65, z9z hi, hc, cond_true, Option.bind_some, z6q, h97, h122, h48, h57, h95]
 simp only [Bool.cond_eq_ite, decide_eq_true_eq, bne_iff_ne, ne_eq, Bool.false_eq_true, if_false, zxx]
 repeat (split <;> (try (first | rfl | (exfalso; omega))))
theorem Z9e (s : Str) : ∀ k i, k + i = s.length → zi6 s i = some ((s.drop i).all zxy)
 | 0, i, h => by
  rw [zi5]
  simp only [z65, zav (by omega : ¬ i < s.length), cond_false]
  rw [List.drop_of_length_le (by omega)]; rfl
 | k + 1, i, h => by
  obtain ⟨c, hc, hd⟩ := dropc (by omega : i < s.length)
  rw [zi5, Z0c c _ i s (by omega) hc, Z9e s k (i + 1) (by omega), hd, List.all_cons]
  cases zxy c <;> rfl
theorem zzc (s : Str) : zkz s = some (z3z s) := by
 have h97 : (97 : UInt8).toNat = 97 := rfl
 have h122 : (122 : UInt8).toNat = 122 := rfl
 cases s with
 | nil => rfl
 | cons c r =>
  have hl := Z9e (c :: r) (c :: r).length 0 (by simp)
  rw [List.drop_zero] at hl
  simp only [zkz, zcb, h97, h122]
  have he : ((c :: r) == ([] : Str)) = false := rfl
  have h0 : (c :: r)[0]? = some c := rfl
  simp only [he, h0, cond_true, cond_false, Option.bind_some]
  by_cases h32 : (c :: r).length ≤ 32
  ·have hs : zf3 (c :: r).length = some () := by unfold zf3; rw [Nat.ble_eq_true_of_le (by omega)]; rfl
   simp only [hs, hl, Option.bind_some]
   have e1 : decide (((c :: r).length : Int) > 32) = false := decide_eq_false (by omega)
   rw [e1]
   simp only [cond_false, z3z, List.headD_cons, Nat.ble_eq_true_of_le h32, Nat.ble_eq_true_of_le (by simp : 1 ≤ (c :: r).length), Bool.true_and]
   cases hlo : Z1q c with
   | true =>
    have := loOk_iff.1 hlo
    have e2 : decide ((c.toNat : Int) < (97 : Nat)) = false := decide_eq_false (by omega)
    have e3 : decide ((c.toNat : Int) > (122 : Nat)) = false := decide_eq_false (by omega)
    rw [e2, e3]; rfl
   | false =>
    have h2 : ¬ (97 ≤ c.toNat ∧ c.toNat ≤ 122) := fun h => by rw [loOk_iff.2 h] at hlo; cases hlo
    by_cases h3 : c.toNat < 97
    ·have e2 : decide ((c.toNat : Int) < (97 : Nat)) = true := decide_eq_true (by omega)
     rw [e2]; rfl
    ·have e2 : decide ((c.toNat : Int) < (97 : Nat)) = false := decide_eq_false (by omega)
     have e3 : decide ((c.toNat : Int) > (122 : Nat)) = true := decide_eq_true (by omega)
     rw [e2, e3]; rfl
  ·have e1 : decide (((c :: r).length : Int) > 32) = true := decide_eq_true (by omega)
   have e2 : Nat.ble (c :: r).length 32 = false := by
    cases hb : Nat.ble (c :: r).length 32 with
    | false => rfl
    | true => exact absurd (Nat.le_of_ble_eq_true hb) h32
   rw [e1]
   simp only [cond_true, z3z, e2, Bool.and_false, Bool.false_and]
end Go.Proofs.YtmoijodjgkfhgaaGreat

namespace Go.Proofs.YtmoijodjgkfhgaaGreat
open Go Aw
set_option linter.unusedVariables false
set_option linter.unusedSimpArgs false
set_option maxRecDepth 8000
def leB (a b : Str) : Bool := Op.bytesLess a b || a == b
def zbe : Option Str → List Str → Bool
 | _, [] => true
 | p, s :: r => z3z s && (match p with | none => true | some q => !(leB s q)) && zbe (some s) r
def zai (l : List Str) (i : Nat) : Option Str := if i = 0 then none else l[i - 1]?
def z49 (l : List Str) : Int := if 4096 < l.length then 2 else if zbe none l then 0 else 8
theorem zoo {l : List Str} {i : Nat} {s : Str} (h : l[i]? = some s) (p : Option Str) : zbe p (l.drop i) = (z3z s && (match p with | none => true | some q => !(leB s q)) && zbe (zai l (i + 1)) (l.drop (i + 1))) := by
 have hi := (List.getElem?_eq_some_iff.1 h).1
 have hd : l.drop i = s :: l.drop (i + 1) := by rw [List.drop_eq_getElem_cons hi, (List.getElem?_eq_some_iff.1 h).2]
 have : zai l (i + 1) = some s := by simp [zai, h]
 rw [hd, this]
 cases p <;> simp only [zbe]
theorem zrb (p : Option Str) : zbe p [] = true := by cases p <;> rfl
def r08 (b : Bool) : Int := if b then 0 else 8
theorem zjv {α : Type} (l : List (Str × α)) (i : Nat) (hi : i < l.length) (hb : l.length ≤ 4096) (g : Option Int) (hg : g = some (r08 (zbe (zai (l.map (·.1)) (i + 1)) ((l.map (·.1)).drop (i + 1))))) (x : Str × α) (hx : l[i]? = some x) :
 (bif !(z3z x.1) then some 8 else (bif decide (((i : Nat) : Int) > 0) then Option.bind (z82 l (IntKind.i64.wrap (((i : Nat) : Int) - 1))) fun y => (bif (Op.bytesLess x.1 y.1 || x.1 == y.1) then some 8 else g) else g)) = some (r08 (zbe (zai (l.map (·.1)) i) ((l.map (·.1)).drop i))) := by
 have hs : (l.map (·.1))[i]? = some x.1 := by rw [List.getElem?_map, hx]; rfl
 rw [zoo hs]
 cases hn : z3z x.1 with
 | false => rfl
 | true =>
  simp only [Bool.not_true, cond_false, Bool.true_and]
  by_cases h0 : i = 0
  ·subst h0
   have e : decide (((0 : Nat) : Int) > 0) = false := rfl
   rw [e, hg]
   simp only [cond_false, zai, if_pos, Bool.true_and]
  ·have e : decide ((i : Int) > 0) = true := decide_eq_true (by omega)
   have hw : IntKind.i64.wrap ((i : Int) - 1) = ((i - 1 : Nat) : Int) := by rw [z3y (by omega) (by omega)]; omega
   obtain ⟨y, hy, _⟩ := dropc (by omega : i - 1 < l.length)
   rw [e, hw, z21, hy]
   have hp : zai (l.map (·.1)) i = some y.1 := by simp only [zai, if_neg h0, List.getElem?_map, hy, Option.map_some]
   simp only [cond_true, Option.bind_some, hp, hg]
   show (bif leB x.1 y.1 then _ else _) = _
   cases leB x.1 y.1 <;> rfl
theorem Z9g (l : List (Str × V)) (hb : l.length ≤ 4096) : ∀ k i, k + i = l.length → zic l i = some (r08 (zbe (zai (l.map (·.1)) i) ((l.map (·.1)).drop i)))
 | 0, i, h => by
  rw [zib]
  simp only [z7f, zav (by omega : ¬ i < l.length), cond_false]
  rw [List.drop_of_length_le (by simp; omega), zrb]; rfl
 | k + 1, i, h => by
  obtain ⟨x, hx, _⟩ := dropc (by omega : i < l.length)
  have hr := zjv l i (by omega) hb _ (Z9g l hb k (i + 1) (by omega)) x hx
  rw [zib]
  simp only [z7f, z9z (by omega : i < l.length), cond_true, hx, Option.bind_some, zzc, zaf, cond_false]
  exact hr
theorem zzd (l : List (Str × V)) : zl2 l = some (z49 (l.map (·.1))) := by
 simp only [zl2, z49, List.length_map]
 by_cases h : 4096 < l.length
 ·rw [decide_eq_true (by omega : (l.length : Int) > 4096), if_pos h]; rfl
 ·rw [decide_eq_false (by omega : ¬ (l.length : Int) > 4096), if_neg h, cond_false, Z9g l (by omega) l.length 0 (by omega)]; rfl
def z1d : V → Int
 | .nil => 1
 | .bool _ => 2
 | .int _ => 3
 | .float _ => 4
 | .text _ => 5
 | .bytes _ => 6
 | .ref _ => 7
 | .list _ => 8
 | .dict _ => 9
 | .record _ _ _ => 10
 | .nothing => 11
 | .alien _ => 0
theorem zzb (x : V) : zkx x = some (z1d x) := by cases x <;> rfl
def Z3c : V → Int
 | .nothing => 7
 | .alien _ => 6
 | _ => 2
def nearE : V → Int
 | .text s => if 65536 < s.length then 2 else 0
 | .bytes b => if 65536 < b.length then 2 else 0
 | .list l => if 4096 < l.length then 2 else 0
 | .dict l => z49 (l.map (·.1))
 | .record c v l => if z3z c = false then 8 else if v < 1 ∨ 1000 < v then 1 else z49 (l.map (·.1))
 | .nothing => 7
 | .alien _ => 6
 | _ => 0
def zcn (x : V) (n deep : Int) : Int := if 16384 ≤ n ∨ 64 < deep then Z3c x else nearE x
theorem Z58 (x : V) : z9o x true = some (Z3c x) := by
 simp only [z9o, cond_true, zzb, Option.bind_some]
 cases x <;> rfl
theorem zv1 (n m : Nat) : (bif decide ((n : Int) > (m : Int)) then some (2 : Int) else zca) = some (if m < n then 2 else 0) := by
 by_cases h : m < n
 ·rw [decide_eq_true (by omega : (n : Int) > m), if_pos h]; rfl
 ·rw [decide_eq_false (by omega : ¬ (n : Int) > m), if_neg h]; rfl
theorem Z4s (x : V) : z9o x false = some (nearE x) := by
 cases x with
 | text s => exact zv1 s.length 65536
 | bytes s => exact zv1 s.length 65536
 | list s => exact zv1 s.length 4096
 | dict l =>
  have : z9o (.dict l) false = Option.bind (zl2 l) fun x => some x := rfl
  rw [this, zzd]; rfl
 | record c v l =>
  have : z9o (.record c v l) false = Option.bind (zkz c) fun x17 => bif !x17 then some 8 else bif decide (v < 1) then zc9 ⟨c, v, l⟩ true else zc9 ⟨c, v, l⟩ (decide (v > 1000)) := rfl
  rw [this, zzc]
  simp only [Option.bind_some, nearE, zc9, zzd]
  cases hn : z3z c with
  | false => rfl
  | true =>
   simp only [Bool.not_true, cond_false, cond_true]
   by_cases h1 : v < 1
   ·rw [decide_eq_true h1, cond_true, if_neg (by simp), if_pos (Or.inl h1)]
   ·rw [decide_eq_false h1, cond_false, if_neg (by simp)]
    by_cases h2 : v > 1000
    ·rw [decide_eq_true h2, cond_true, if_pos (Or.inr h2)]
    ·rw [decide_eq_false h2, cond_false, if_neg (by omega)]
 | _ => rfl
theorem Z4g (x : V) (n d : Int) : zsg x n d = some (zcn x n d) := by
 simp only [zsg, zcn]
 by_cases h1 : n ≥ 16384
 ·rw [decide_eq_true h1, cond_true, if_pos (Or.inl h1), Z58]
 ·rw [decide_eq_false h1, cond_false]
  by_cases h2 : d > 64
  ·rw [decide_eq_true h2, if_pos (Or.inr h2), Z58]
  ·rw [decide_eq_false h2, if_neg (by omega), Z4s]
theorem Z35 {c : Bool} {x y : Option V} (h1 : ∃ a, x = some (.alien a)) (h2 : ∃ a, y = some (.alien a)) : ∃ a, (bif c then x else y) = some (.alien a) := by cases c <;> assumption
theorem zoa (n : Int) : ∃ a, zp1 n = some (.alien a) := by
 unfold zp1
 repeat (first | exact ⟨_, rfl⟩ | refine Z35 ⟨_, rfl⟩ ?_)
noncomputable def alT (n : Int) : {t : Nat // zkb t = true} := (zoa n).choose
theorem zyr (n : Int) : zp1 n = some (.alien (alT n)) := (zoa n).choose_spec
mutual
noncomputable def bu : Term → V
 | .mk k b i f t y r l d c v => if k = 1 then .nil else if k = 2 then .bool b else if k = 3 then .int i else if k = 4 then .float f else if k = 5 then .text t else if k = 6 then .bytes y else if k = 7 then .ref r
  else if k = 8 then .list (Z6d l) else if k = 9 then .dict (Z3d d) else if k = 10 then .record c v (Z3d d) else if k = 11 then .nothing else .alien (alT i)
noncomputable def Z6d : List Term → List V
 | [] => []
 | x :: r => bu x :: Z6d r
noncomputable def Z3d : List (Str × Term) → List (Str × V)
 | [] => []
 | (s, x) :: r => (s, bu x) :: Z3d r
end
noncomputable def buE (p : Str × Term) : Str × V := (p.1, bu p.2)
theorem zo3 : ∀ l, Z6d l = l.map bu
 | [] => by rw [Z6d]; rfl
 | x :: r => by rw [Z6d, zo3 r]; rfl
theorem zo4 : ∀ l, Z3d l = l.map buE
 | [] => by rw [Z3d]; rfl
 | (s, x) :: r => by rw [Z3d, zo4 r]; rfl
inductive BuC (t : Term) : V → Prop
 | nil : t.kind = 1 → BuC t .nil
 | bool : t.kind = 2 → BuC t (.bool t.bool)
 | int : t.kind = 3 → BuC t (.int t.int)
 | float : t.kind = 4 → BuC t (.float t.float)
 | text : t.kind = 5 → BuC t (.text t.text)
 | bytes : t.kind = 6 → BuC t (.bytes t.bytes)
 | ref : t.kind = 7 → BuC t (.ref t.ref)
 | list : t.kind = 8 → BuC t (.list (t.list.map bu))
 | dict : t.kind = 9 → BuC t (.dict (t.fields.map buE))
 | record : t.kind = 10 → BuC t (.record t.cls t.ver (t.fields.map buE))
 | nothing : t.kind = 11 → BuC t .nothing
 | alien : t.kind < 1 ∨ 11 < t.kind → BuC t (.alien (alT t.int))
theorem Zal (t : Term) : BuC t (bu t) := by
 cases t with
 | mk k b i f t y r l d c v =>
  rw [bu, zo3, zo4]
  by_cases h1 : k = 1; · rw [if_pos h1]; exact .nil h1
  by_cases h2 : k = 2; · rw [if_neg h1, if_pos h2]; exact .bool h2
  by_cases h3 : k = 3; · rw [if_neg h1, if_neg h2, if_pos h3]; exact .int h3
  by_cases h4 : k = 4; · rw [if_neg h1, if_neg h2, if_neg h3, if_pos h4]; exact .float h4
  by_cases h5 : k = 5; · rw [if_neg h1, if_neg h2, if_neg h3, if_neg h4, if_pos h5]; exact .text h5
  by_cases h6 : k = 6; · rw [if_neg h1, if_neg h2, if_neg h3, if_neg h4, if_neg h5, if_pos h6]; exact .bytes h6
  by_cases h7 : k = 7; · rw [if_neg h1, if_neg h2, if_neg h3, if_neg h4, if_neg h5, if_neg h6, if_pos h7]; exact .ref h7
  by_cases h8 : k = 8; · rw [if_neg h1, if_neg h2, if_neg h3, if_neg h4, if_neg h5, if_neg h6, if_neg h7, if_pos h8]; exact .list h8
  by_cases h9 : k = 9; · rw [if_neg h1, if_neg h2, if_neg h3, if_neg h4, if_neg h5, if_neg h6, if_neg h7, if_neg h8, if_pos h9]; exact .dict h9
  by_cases h10 : k = 10; · rw [if_neg h1, if_neg h2, if_neg h3, if_neg h4, if_neg h5, if_neg h6, if_neg h7, if_neg h8, if_neg h9, if_pos h10]; exact .record h10
  by_cases h11 : k = 11; · rw [if_neg h1, if_neg h2, if_neg h3, if_neg h4, if_neg h5, if_neg h6, if_neg h7, if_neg h8, if_neg h9, if_neg h10, if_pos h11]; exact .nothing h11
  rw [if_neg h1, if_neg h2, if_neg h3, if_neg h4, if_neg h5, if_neg h6, if_neg h7, if_neg h8, if_neg h9, if_neg h10, if_neg h11]
  exact .alien (by show k < 1 ∨ 11 < k; omega)
end Go.Proofs.YtmoijodjgkfhgaaGreat

namespace Go.Proofs.YtmoijodjgkfhgaaGreat
open Go Aw
set_option linter.unusedVariables false
set_option linter.unusedSimpArgs false
set_option maxRecDepth 8000
structure Ct where
 ok : Bool
 n : Int
 dp : Int
 why : Int
mutual
def z30 : V → Int → Int → Int → Ct
 | .list l, n, dp, d => if zcn (.list l) n d = 0 then z3m l (n + 1) (max dp d) (d + 1) else ⟨false, n, dp, zcn (.list l) n d⟩
 | .dict l, n, dp, d => if zcn (.dict l) n d = 0 then zc5 l (n + 1) (max dp d) (d + 1) else ⟨false, n, dp, zcn (.dict l) n d⟩
 | .record c v l, n, dp, d => if zcn (.record c v l) n d = 0 then zc5 l (n + 1) (max dp d) (d + 1) else ⟨false, n, dp, zcn (.record c v l) n d⟩
 | x, n, dp, d => if zcn x n d = 0 then ⟨true, n + 1, max dp d, 0⟩ else ⟨false, n, dp, zcn x n d⟩
def z3m : List V → Int → Int → Int → Ct
 | [], n, dp, d => ⟨true, n, dp, 0⟩
 | x :: r, n, dp, d => if (z30 x n dp d).ok then z3m r (z30 x n dp d).n (z30 x n dp d).dp d else z30 x n dp d
def zc5 : List (Str × V) → Int → Int → Int → Ct
 | [], n, dp, d => ⟨true, n, dp, 0⟩
 | (s, x) :: r, n, dp, d => if (z30 x n dp d).ok then zc5 r (z30 x n dp d).n (z30 x n dp d).dp d else z30 x n dp d
end
def V.parts : V → List V
 | .list l => l
 | .dict l => l.map (·.2)
 | .record _ _ l => l.map (·.2)
 | _ => []
theorem zel : ∀ (l : List (Str × V)) (n dp d : Int), zc5 l n dp d = z3m (l.map (·.2)) n dp d
 | [], n, dp, d => by simp only [zc5, z3m, List.map_nil]
 | (s, x) :: r, n, dp, d => by simp only [zc5, z3m, List.map_cons, zel r]
theorem z96 (x : V) (n dp d : Int) : z30 x n dp d = if zcn x n d = 0 then z3m x.parts (n + 1) (max dp d) (d + 1) else ⟨false, n, dp, zcn x n d⟩ := by
 cases x <;> simp only [z30, V.parts, zel, z3m]
theorem z3v (x : V) (r : List V) (n dp d : Int) : z3m (x :: r) n dp d = if (z30 x n dp d).ok then z3m r (z30 x n dp d).n (z30 x n dp d).dp d else z30 x n dp d := by simp only [z3m]
theorem z4d (n dp d : Int) : z3m [] n dp d = ⟨true, n, dp, 0⟩ := by simp only [z3m]
theorem Z57 (x : V) : Z3c x ≠ 0 := by cases x <;> simp [Z3c]
theorem zap {x : V} {n d : Int} (h : zcn x n d = 0) : n < 16384 ∧ d ≤ 64 ∧ nearE x = 0 := by
 unfold zcn at h
 split at h
 ·exact absurd h (Z57 x)
 ·rename_i hc; exact ⟨by omega, by omega, h⟩
theorem zvy {x y : V} (h : y ∈ x.parts) : SizeOf.sizeOf y < SizeOf.sizeOf x := by
 cases x <;> simp only [V.parts, List.not_mem_nil] at h
 ·have := List.sizeOf_lt_of_mem h; simp; omega
 ·obtain ⟨⟨s, z⟩, hz, rfl⟩ := List.mem_map.1 h
  have := List.sizeOf_lt_of_mem hz; simp at this ⊢; omega
 ·obtain ⟨⟨s, z⟩, hz, rfl⟩ := List.mem_map.1 h
  have := List.sizeOf_lt_of_mem hz; simp at this ⊢; omega
theorem V.byParts {P : V → Prop} (h : ∀ x, (∀ y, y ∈ x.parts → P y) → P x) (x : V) : P x :=
 h x (fun y hy => V.byParts h y)
termination_by SizeOf.sizeOf x
decreasing_by exact zvy hy
structure CtOk (c : Ct) (n : Int) : Prop where
 lo : n ≤ c.n
 ok : c.ok = true → c.n ≤ 16384 ∧ c.why = 0
 bad : c.ok = false → c.why ≠ 0
theorem ze0 {d : Int} : ∀ (l : List V), (∀ y, y ∈ l → ∀ n dp, CtOk (z30 y n dp d) n) → ∀ n dp, n ≤ 16384 → CtOk (z3m l n dp d) n
 | [], _, n, dp, hm => by rw [z4d]; exact ⟨Int.le_refl _, fun _ => ⟨hm, rfl⟩, by simp⟩
 | x :: r, h, n, dp, hm => by
  have h1 := h x (by simp) n dp
  rw [z3v]
  split
  ·rename_i hk
   have h2 := ze0 r (fun y hy => h y (by simp [hy])) _ (z30 x n dp d).dp (h1.ok hk).1
   exact ⟨Int.le_trans h1.lo h2.lo, h2.ok, h2.bad⟩
  ·exact h1
theorem z95 (x : V) : ∀ d n dp, CtOk (z30 x n dp d) n := by
 induction x using V.byParts with
 | _ x ih =>
 intro d n dp
 rw [z96]
 split
 ·rename_i h
  have := zap h
  have h2 := ze0 x.parts (fun y hy n dp => ih y hy (d + 1) n dp) (n + 1) (max dp d) (by omega)
  exact ⟨by have := h2.lo; omega, h2.ok, h2.bad⟩
 ·rename_i h; exact ⟨Int.le_refl _, by simp, fun _ => h⟩
def ctS (c : Ct) : Bool × S_value_count := (c.ok, ⟨c.n, c.dp, c.why⟩)
def zob (x : V) : Prop := ∀ n dp w d, -4611686018427387904 ≤ n → n ≤ 16384 → -4611686018427387904 ≤ d → d ≤ 65 → zj4 ⟨n, dp, w⟩ x d = some (ctS (z30 x n dp d))
theorem Z9x (l : List V) (d : Int) (hl : ∀ y, y ∈ l → zob y) (hd : -4611686018427387904 ≤ d) (hd' : d ≤ 64) : ∀ k i n dp, k + i = l.length → -4611686018427387904 ≤ n → n ≤ 16384 → zfd zj4 (.list l) d i n dp 0 = some (ctS (z3m (l.drop i) n dp (d + 1)))
 | 0, i, n, dp, h, hn, hm => by
  rw [zif]
  simp only [z69, V.asList, zav (by omega : ¬ i < l.length), cond_false, zfe]
  rw [List.drop_of_length_le (by omega), z4d]; rfl
 | k + 1, i, n, dp, h, hn, hm => by
  obtain ⟨x, hx, hdr⟩ := dropc (by omega : i < l.length)
  have hp := hl x (List.mem_of_getElem? hx) n dp 0 (d + 1) hn hm (by omega) (by omega)
  have hw : IntKind.i64.wrap (d + 1) = d + 1 := z3y (by omega) (by omega)
  rw [zif]
  simp only [z69, V.asList, z9z (by omega : i < l.length), cond_true, hx, Option.bind_some, hw, hp, ctS]
  rw [hdr, z3v]
  have hf := z95 x (d + 1) n dp
  cases hk : (z30 x n dp (d + 1)).ok with
  | false => simp only [Bool.not_false, cond_true, Bool.false_eq_true, if_false, hk]
  | true =>
   have h1 := hf.ok hk
   have h2 := hf.lo
   simp only [Bool.not_true, cond_false, if_true]
   rw [h1.2, Z9x l d hl hd hd' k (i + 1) _ _ (by omega) (by omega) h1.1]; rfl
theorem Z9z (l : List (Str × V)) (d : Int) (hl : ∀ y, y ∈ l.map (·.2) → zob y) (hd : -4611686018427387904 ≤ d) (hd' : d ≤ 64) : ∀ k i n dp, k + i = l.length → -4611686018427387904 ≤ n → n ≤ 16384 → zfb zj4 l d i n dp 0 = some (ctS (z3m ((l.map (·.2)).drop i) n dp (d + 1)))
 | 0, i, n, dp, h, hn, hm => by
  rw [zid]
  simp only [z67, zav (by omega : ¬ i < l.length), cond_false]
  rw [List.drop_of_length_le (by simp; omega), z4d]; rfl
 | k + 1, i, n, dp, h, hn, hm => by
  obtain ⟨x, hx, _⟩ := dropc (by omega : i < l.length)
  have hx2 : (l.map (·.2))[i]? = some x.2 := by rw [List.getElem?_map, hx]; rfl
  obtain ⟨x', hx', hdr⟩ := dropc (by rw [List.length_map]; omega : i < (l.map (·.2)).length)
  rw [hx2] at hx'; injection hx' with hx'; subst hx'
  have hp := hl x.2 (List.mem_of_getElem? hx2) n dp 0 (d + 1) hn hm (by omega) (by omega)
  have hw : IntKind.i64.wrap (d + 1) = d + 1 := z3y (by omega) (by omega)
  rw [zid]
  simp only [z67, z9z (by omega : i < l.length), cond_true, hx, Option.bind_some, hw, hp, ctS]
  rw [hdr, z3v]
  have hf := z95 x.2 (d + 1) n dp
  cases hk : (z30 x.2 n dp (d + 1)).ok with
  | false => simp only [Bool.not_false, cond_true, Bool.false_eq_true, if_false, hk]
  | true =>
   have h1 := hf.ok hk
   have h2 := hf.lo
   simp only [Bool.not_true, cond_false, if_true]
   rw [h1.2, Z9z l d hl hd hd' k (i + 1) _ _ (by omega) (by omega) h1.1]; rfl
theorem zze (l : List (Str × V)) (d n dp : Int) (hl : ∀ y, y ∈ l.map (·.2) → zob y) (hd : -4611686018427387904 ≤ d) (hd' : d ≤ 64) (hn : -4611686018427387904 ≤ n) (hm : n ≤ 16384) : zpa ⟨n, dp, 0⟩ l d = some (ctS (z3m (l.map (·.2)) n dp (d + 1))) := by
 rw [Z8y, zm2]
 exact Z9z l d hl hd hd' l.length 0 n dp (by omega) hn hm
theorem Z4m (x : V) : zob x := by
 induction x using V.byParts with
 | _ x ih =>
 intro n dp w d hn hm hd hd'
 rw [Z90, zm4, z96]
 simp only [Z4g, Option.bind_some]
 by_cases h : zcn x n d = 0
 ·have h0 := zap h
  have hw : IntKind.i64.wrap (n + 1) = n + 1 := z3y (by omega) (by omega)
  have hmx : (if d > dp then d else dp) = max dp d := by omega
  rw [if_pos h, h, hw, hmx]
  have e0 : ((0 : Int) != 0) = false := rfl
  rw [e0, cond_false]
  cases x with
  | list l => exact Z9x l d ih hd (by omega) l.length 0 (n + 1) (max dp d) (by omega) (by omega) (by omega)
  | dict l =>
   show Option.bind (zpa ⟨n + 1, max dp d, 0⟩ l d) (fun x => some (x.1, x.2)) = _
   rw [zze l d _ _ ih hd (by omega) (by omega) (by omega)]; rfl
  | record c v l =>
   show Option.bind (zpa ⟨n + 1, max dp d, 0⟩ l d) (fun x => some (x.1, x.2)) = _
   rw [zze l d _ _ ih hd (by omega) (by omega) (by omega)]; rfl
  | nothing => have := h0.2.2; simp [nearE] at this
  | _ => simp only [V.parts, z4d]; rfl
 ·rw [if_neg h]
  have e0 : (zcn x n d != 0) = true := by simpa using h
  rw [e0]; rfl
def z2a (x : V) : Int × Int := if (z30 x 0 0 1).ok then (0, 0) else ((z30 x 0 0 1).n, (z30 x 0 0 1).why)
theorem zmy (x : V) : zj1 x = some (z2a x) := by
 simp only [zj1, Z4m x 0 0 0 1 (by omega) (by omega) (by omega) (by omega), Option.bind_some, ctS, z2a]
 cases (z30 x 0 0 1).ok <;> rfl
theorem zi9 (x : V) : zgs x = some (z2a x) := by simp only [zgs, zmy, Option.bind_some]
def zsb (t : Term) : List Term := if t.kind = 8 then t.list else if t.kind = 9 ∨ t.kind = 10 then t.fields.map (·.2) else []
theorem zsa {t u : Term} (h : u ∈ zsb t) : SizeOf.sizeOf u < SizeOf.sizeOf t := by
 cases t with
 | mk k b i f s y r l d c v =>
 unfold zsb at h
 split at h
 ·have := List.sizeOf_lt_of_mem h; simp [Term.list] at this ⊢; omega
 ·split at h
  ·obtain ⟨⟨s, z⟩, hz, rfl⟩ := List.mem_map.1 h
   have := List.sizeOf_lt_of_mem hz; simp [Term.fields] at this ⊢; omega
  ·cases h
theorem Term.byParts {P : Term → Prop} (h : ∀ t, (∀ u, u ∈ zsb t → P u) → P t) (t : Term) : P t :=
 h t (fun u hu => Term.byParts h u)
termination_by SizeOf.sizeOf t
decreasing_by exact zsa hu
end Go.Proofs.YtmoijodjgkfhgaaGreat

namespace Go.Proofs.YtmoijodjgkfhgaaGreat
open Go Aw
set_option linter.unusedVariables false
set_option linter.unusedSimpArgs false
set_option maxRecDepth 8000
theorem zqa {α : Type} {b : Nat} {acc : List α} {x : α} (hb : b ≤ 1024) (h : acc.length ≤ 1073741824) : zch b acc [x] = some (acc ++ [x]) := by
 have h1 : (acc.length + 1) * b ≤ (1073741824 + 1) * 1024 := Nat.mul_le_mul (by omega) hb
 unfold zch
 rw [Nat.ble_eq_true_of_le (by simp only [List.length_cons, List.length_nil, Nat.zero_add]; omega)]; rfl
theorem Z05 {α : Type} {b : Nat} {l : List α} (hb : b ≤ 1024) (h : l.length ≤ 1073741824) : zch b [] l = some l := by
 have h1 : l.length * b ≤ 1073741824 * 1024 := Nat.mul_le_mul h hb
 unfold zch
 rw [Nat.ble_eq_true_of_le (by simp only [List.length_nil, Nat.zero_add]; omega)]; rfl
theorem zo5 : ∀ {l : List Term} {u : Term}, u ∈ l → bkT u ≤ zva l
 | x :: r, u, h => by
  rw [zva]; rcases List.mem_cons.1 h with rfl | h
  ·omega
  ·have := zo5 h; omega
theorem zo7 : ∀ {l : List (Str × Term)} {u : Str × Term}, u ∈ l → bkT u.2 ≤ zvb l
 | (s, x) :: r, u, h => by
  rw [zvb]; rcases List.mem_cons.1 h with rfl | h
  ·show bkT x ≤ _; omega
  ·have := zo7 h; omega
theorem zo6 : ∀ (l : List Term), l.length ≤ zva l
 | [] => by simp
 | .mk k b i f s y r l dd c v :: q => by rw [zva, List.length_cons, bkT]; have := zo6 q; omega
theorem zo8 : ∀ (l : List (Str × Term)), l.length ≤ zvb l
 | [] => by simp
 | (s, x) :: q => by rw [zvb, List.length_cons]; have := zo8 q; omega
theorem zg1 (t : Term) : bkT t = t.text.length + t.bytes.length + t.cls.length + zva t.list + zvb t.fields + 12 := by cases t; rw [bkT]; rfl
theorem Z2w {t u : Term} (h : u ∈ t.list) : bkT u < bkT t := by have := zo5 h; have := zg1 t; omega
theorem zuy {t : Term} {u : Str × Term} (h : u ∈ t.fields) : bkT u.2 < bkT t := by have := zo7 h; have := zg1 t; omega
theorem zx8 (t : Term) : t.list.length ≤ bkT t := by have := zo6 t.list; have := zg1 t; omega
theorem zpu (t : Term) : t.fields.length ≤ bkT t := by have := zo8 t.fields; have := zg1 t; omega
theorem ztm (t : Term) : t.bytes.length ≤ bkT t := by have := zg1 t; omega
theorem zhn {α β : Type} {l : List α} {f : α → β} {i : Nat} {x : α} (h : l[i]? = some x) : (l.take i).map f ++ [f x] = (l.take (i + 1)).map f := by
 obtain ⟨hi, rfl⟩ := List.getElem?_eq_some_iff.1 h
 rw [List.take_add_one, List.getElem?_eq_getElem hi, List.map_append]; rfl
end Go.Proofs.YtmoijodjgkfhgaaGreat

namespace Go.Proofs.YtmoijodjgkfhgaaGreat
open Go Aw
set_option linter.unusedVariables false
set_option linter.unusedSimpArgs false
set_option maxRecDepth 8000
theorem Za0 (t : Term) (hl : ∀ u, u ∈ t.list → z9h u = some (bu u)) (hb : t.list.length ≤ 1073741824) : ∀ k i, k + i = t.list.length → zdn z9h t ((t.list.take i).map bu) i = some (.list (t.list.map bu))
 | 0, i, h => by
  rw [zhy]
  simp only [z64, zav (by omega : ¬ i < t.list.length), cond_false]
  rw [List.take_of_length_le (by omega)]
 | k + 1, i, h => by
  obtain ⟨x, hx, _⟩ := dropc (by omega : i < t.list.length)
  rw [zhy]
  simp only [z64, z9z (by omega : i < t.list.length), cond_true, hx, Option.bind_some, hl x (List.mem_of_getElem? hx), zqa (b := 16) (by omega) (show ((t.list.take i).map bu).length ≤ 1073741824 by simp; omega), zhn hx]
  exact Za0 t hl hb k (i + 1) (by omega)
theorem Za2 (l : List (Str × Term)) (hl : ∀ u, u ∈ l → z9h u.2 = some (bu u.2)) (hb : l.length ≤ 1073741824) : ∀ k i, k + i = l.length → zf7 z9h l ((l.take i).map buE) i = some (l.map buE)
 | 0, i, h => by
  rw [zhv]
  simp only [z63, zav (by omega : ¬ i < l.length), cond_false]
  rw [List.take_of_length_le (by omega)]
 | k + 1, i, h => by
  obtain ⟨x, hx, _⟩ := dropc (by omega : i < l.length)
  rw [zhv]
  simp only [z63, z9z (by omega : i < l.length), cond_true, hx, Option.bind_some, hl x (List.mem_of_getElem? hx), zqa (b := 32) (x := (x.1, bu x.2)) (by omega) (show ((l.take i).map buE).length ≤ 1073741824 by simp; omega)]
  have : ((l.take i).map buE) ++ [(x.1, bu x.2)] = (l.take (i + 1)).map buE := zhn (f := buE) hx
  rw [this]
  exact Za2 l hl hb k (i + 1) (by omega)
theorem zjg : ∀ (n : Nat) (t : Term), bkT t ≤ n → n ≤ 268435456 → z9h t = some (bu t) := by
 intro n
 induction n with
 | zero => intro t h _; have := zg1 t; omega
 | succ n ih =>
  intro t h hn
  have hl : ∀ u, u ∈ t.list → z9h u = some (bu u) := fun u hu => ih u (by have := Z2w hu; omega) (by omega)
  have hf : ∀ u, u ∈ t.fields → z9h u.2 = some (bu u.2) := fun u hu => ih u.2 (by have := zuy hu; omega) (by omega)
  have hd : zvz t.fields = some (t.fields.map buE) := by
   rw [Z8t, zlx]
   exact Za2 t.fields hf (by have := zpu t; omega) t.fields.length 0 (by omega)
  have hll : zdn z9h t [] 0 = some (.list (t.list.map bu)) := Za0 t hl (by have := zx8 t; omega) t.list.length 0 (by omega)
  have hb := Zal t
  rw [Z8u, zly]
  generalize bu t = x at hb
  cases hb with
  | bytes hk => simp only [hk, Z05 (by omega : 1 ≤ 1024) (show t.bytes.length ≤ 1073741824 by have := ztm t; omega)]; rfl
  | list hk => simp only [hk, hll]; rfl
  | dict hk => simp only [hk, hd]; rfl
  | record hk => simp only [hk, hd]; rfl
  | alien hk =>
   have e : ∀ k : Int, 1 ≤ k → k ≤ 11 → (t.kind == k) = false := fun k h1 h2 => by simp; omega
   simp only [e 1 (by omega) (by omega), e 2 (by omega) (by omega), e 3 (by omega) (by omega), e 4 (by omega) (by omega), e 5 (by omega) (by omega), e 6 (by omega) (by omega), e 7 (by omega) (by omega), e 8 (by omega) (by omega),
    e 9 (by omega) (by omega), e 10 (by omega) (by omega), e 11 (by omega) (by omega), cond_false, zyr, Option.bind_some]
  | _ hk => simp only [hk]; rfl
theorem zrg (t : Term) (h : bkT t ≤ 268435456) : z9h t = some (bu t) := zjg _ t h (Nat.le_refl _)
end Go.Proofs.YtmoijodjgkfhgaaGreat

namespace Go.Proofs.YtmoijodjgkfhgaaGreat
open Go Aw
set_option linter.unusedVariables false
set_option linter.unusedSimpArgs false
set_option maxRecDepth 8000
def c3 (a b : Int) : Int := if a < b then -1 else if a > b then 1 else 0
def th (c d : Int) : Int := if c = 0 then d else c
def z5f : List Int → List Int → Int
 | [], [] => 0
 | [], _ :: _ => -1
 | _ :: _, [] => 1
 | a :: x, b :: y => th (c3 a b) (z5f x y)
theorem zo1 (a b : Int) : c3 a b = -1 ∨ c3 a b = 0 ∨ c3 a b = 1 := by unfold c3; split; (· exact .inl rfl); split; (· exact .inr (.inr rfl)); exact .inr (.inl rfl)
theorem Z6c (a b : Int) : c3 b a = - c3 a b := by unfold c3; split <;> split <;> (try split) <;> (try split) <;> omega
theorem c3_zero {a b : Int} : c3 a b = 0 ↔ a = b := by unfold c3; split <;> (try split) <;> omega
theorem zhg (a : Int) : c3 a a = 0 := c3_zero.2 rfl
theorem c3_lt {a b : Int} : c3 a b = -1 ↔ a < b := by unfold c3; split <;> (try split) <;> omega
theorem zy1 (a b k : Int) : c3 (a + k) (b + k) = c3 a b := by unfold c3; split <;> split <;> (try split) <;> (try split) <;> omega
theorem z91 (a b c : Int) : th (th a b) c = th a (th b c) := by unfold th; by_cases h : a = 0 <;> by_cases h2 : b = 0 <;> simp_all
theorem zni : ∀ x y, z5f x y = -1 ∨ z5f x y = 0 ∨ z5f x y = 1
 | [], [] => .inr (.inl rfl)
 | [], _ :: _ => .inl rfl
 | _ :: _, [] => .inr (.inr rfl)
 | a :: x, b :: y => by
  rw [z5f]; unfold th; split
  ·exact zni x y
  ·exact zo1 a b
theorem z5v : ∀ x y, z5f y x = - z5f x y
 | [], [] => rfl
 | [], _ :: _ => rfl
 | _ :: _, [] => rfl
 | a :: x, b :: y => by
  have := z5v x y
  have := Z6c a b
  rw [z5f, z5f]; unfold th; split <;> split <;> omega
theorem z9b : ∀ x y z, z5f x y ≤ 0 → z5f y z ≤ 0 → z5f x z ≤ 0 ∧ (z5f x y < 0 ∨ z5f y z < 0 → z5f x z < 0)
 | [], [], [], _, _ => by simp [z5f]
 | [], [], _ :: _, _, _ => by simp [z5f]
 | [], _ :: _, [], _, h => by simp [z5f] at h
 | [], _ :: _, _ :: _, _, _ => by simp [z5f]
 | _ :: _, [], _, h, _ => by simp [z5f] at h
 | _ :: _, _ :: _, [], _, h => by simp [z5f] at h
 | a :: x, b :: y, c :: z, h1, h2 => by
  have ih := z9b x y z
  have ra := zo1 a b; have rb := zo1 b c; have rc := zo1 a c
  have za := @c3_zero a b; have zb := @c3_zero b c; have zc := @c3_zero a c
  have la := @c3_lt a b; have lb := @c3_lt b c; have lc := @c3_lt a c
  rw [z5f] at h1 h2
  rw [z5f, z5f, z5f]
  unfold th at h1 h2 ⊢
  by_cases e1 : c3 a b = 0
  ·rw [if_pos e1] at h1 ⊢
   by_cases e2 : c3 b c = 0
   ·rw [if_pos e2] at h2 ⊢
    rw [if_pos (by omega : c3 a c = 0)]
    exact ih h1 h2
   ·rw [if_neg e2] at h2 ⊢
    have : c3 a c = -1 := by omega
    rw [if_neg (by omega), this]; omega
  ·rw [if_neg e1] at h1 ⊢
   by_cases e2 : c3 b c = 0
   ·rw [if_pos e2] at h2 ⊢
    have : c3 a c = -1 := by omega
    rw [if_neg (by omega), this]; omega
   ·rw [if_neg e2] at h2 ⊢
    have : c3 a c = -1 := by omega
    rw [if_neg (by omega), this]; omega
theorem zk5 (a b : Int) : (bif decide (a < b) then some (-1 : Int) else bif decide (a > b) then some 1 else some 0) = some (c3 a b) := by
 unfold c3
 by_cases h : a < b
 ·rw [decide_eq_true h, if_pos h]; rfl
 ·rw [decide_eq_false h, if_neg h, cond_false]
  by_cases h2 : a > b
  ·rw [decide_eq_true h2, if_pos h2]; rfl
  ·rw [decide_eq_false h2, if_neg h2]; rfl
def cmpS (a b : Str) : Int := if Op.bytesLess a b then -1 else if a == b then 0 else 1
def za0 : Str → List Int
 | [] => [0]
 | c :: r => ((c.toNat : Int) + 1) :: za0 r
theorem Z2v (a b : UInt8) (x y : Str) : Op.bytesLess (a :: x) (b :: y) = (a < b || (a == b && Op.bytesLess x y)) := rfl
theorem zk3 (a b : UInt8) (x y : Str) : cmpS (a :: x) (b :: y) = th (c3 ((a.toNat : Int) + 1) ((b.toNat : Int) + 1)) (cmpS x y) := by
 unfold cmpS
 rw [Z2v]
 rcases Nat.lt_trichotomy a.toNat b.toNat with h | h | h
 ·have h1 : a < b := UInt8.lt_iff_toNat_lt.2 h
  have : c3 ((a.toNat : Int) + 1) ((b.toNat : Int) + 1) = -1 := c3_lt.2 (by omega)
  rw [this]; simp [h1, th]
 ·have h1 : a = b := UInt8.toNat_inj.1 h
  subst h1
  have : c3 ((a.toNat : Int) + 1) ((a.toNat : Int) + 1) = 0 := zhg _
  rw [this]
  have h2 : ¬ a < a := by rw [UInt8.lt_iff_toNat_lt]; omega
  simp [h2, th]
 ·have h1 : ¬ a < b := by rw [UInt8.lt_iff_toNat_lt]; omega
  have h2 : (a == b) = false := by rw [beq_eq_false_iff_ne]; intro e; subst e; omega
  have : c3 ((a.toNat : Int) + 1) ((b.toNat : Int) + 1) = 1 := by unfold c3; rw [if_neg (by omega), if_pos (by omega)]
  have h3 : a ≠ b := by simpa using h2
  rw [this]; simp [h1, h2, th, h3]
theorem zfs : ∀ (a b : Str) (r s : List Int), z5f (za0 a ++ r) (za0 b ++ s) = th (cmpS a b) (z5f r s)
 | [], [], r, s => by show th (c3 0 0) _ = _; rfl
 | [], b :: y, r, s => by
  have : c3 0 ((b.toNat : Int) + 1) = -1 := c3_lt.2 (by omega)
  show th (c3 0 ((b.toNat : Int) + 1)) _ = _
  rw [this]; rfl
 | a :: x, [], r, s => by
  have : c3 ((a.toNat : Int) + 1) 0 = 1 := by unfold c3; rw [if_neg (by omega), if_pos (by omega)]
  show th (c3 ((a.toNat : Int) + 1) 0) _ = _
  rw [this]; rfl
 | a :: x, b :: y, r, s => by
  show th (c3 ((a.toNat : Int) + 1) ((b.toNat : Int) + 1)) (z5f (za0 x ++ r) (za0 y ++ s)) = _
  rw [zfs x y r s, zk3, z91]
theorem zrr (a b : Str) : zl4 a b = some (cmpS a b) := by
 simp only [zl4, cmpS]
 cases h : Op.bytesLess a b with
 | true => rfl
 | false => simp only [cond_false, Bool.false_or, Bool.false_eq_true, if_false]; cases a == b <;> rfl
def trI (b : Bool) : Int := if b then 1 else 0
noncomputable def plV (f : Nat) : Int := if zoj .u64 (f : Int) 63 = 1 then Z9k .u64 f else orK .u64 f 9223372036854775808
mutual
noncomputable def z3d : V → V → Int
 | .bool a, y => match y with | .bool b => c3 (trI a) (trI b) | y => c3 2 (z1d y)
 | .int a, y => match y with | .int b => c3 a b | y => c3 3 (z1d y)
 | .float a, y => match y with | .float b => c3 (plV a) (plV b) | y => c3 4 (z1d y)
 | .text a, y => match y with | .text b => cmpS a b | y => c3 5 (z1d y)
 | .bytes a, y => match y with | .bytes b => cmpS a b | y => c3 6 (z1d y)
 | .ref a, y => match y with | .ref b => c3 a b | y => c3 7 (z1d y)
 | .list a, y => match y with | .list b => z44 a b | y => c3 8 (z1d y)
 | .dict a, y => match y with | .dict b => z81 a b | y => c3 9 (z1d y)
 | .record c v a, y => match y with | .record c' v' b => th (cmpS c c') (th (c3 v v') (z81 a b)) | y => c3 10 (z1d y)
 | .nil, y => c3 1 (z1d y)
 | .nothing, y => c3 11 (z1d y)
 | .alien _, y => c3 0 (z1d y)
noncomputable def z44 : List V → List V → Int
 | [], y => match y with | [] => 0 | _ :: _ => -1
 | a :: x, y => match y with | [] => 1 | b :: y => th (z3d a b) (z44 x y)
noncomputable def z81 : List (Str × V) → List (Str × V) → Int
 | [], y => match y with | [] => 0 | _ :: _ => -1
 | (s, a) :: x, y => match y with | [] => 1 | (t, b) :: y => th (th (cmpS s t) (z3d a b)) (z81 x y)
end
mutual
noncomputable def key : V → List Int
 | .nil => [1]
 | .bool b => [2, trI b]
 | .int i => [3, i]
 | .float f => [4, plV f]
 | .text s => 5 :: za0 s
 | .bytes s => 6 :: za0 s
 | .ref i => [7, i]
 | .list l => 8 :: zle l
 | .dict l => 9 :: zft l
 | .record c v l => 10 :: (za0 c ++ (v :: zft l))
 | .nothing => [11]
 | .alien _ => [0]
noncomputable def zle : List V → List Int
 | [] => [0]
 | x :: r => 1 :: (key x ++ zle r)
noncomputable def zft : List (Str × V) → List Int
 | [] => [0]
 | (s, x) :: r => 1 :: (za0 s ++ (key x ++ zft r))
end
theorem z58 (a b : Int) : th (c3 a a) b = b := by rw [zhg]; rfl
theorem zqp (b : Int) : th b 0 = b := by unfold th; split <;> simp_all
theorem znj (x : V) : ∃ r, key x = z1d x :: r := by cases x <;> exact ⟨_, by rw [key]; rfl⟩
theorem z70 {x y : V} (h : z1d x ≠ z1d y) (r s : List Int) : z5f (key x ++ r) (key y ++ s) = th (c3 (z1d x) (z1d y)) (z5f r s) := by
 obtain ⟨a, ha⟩ := znj x
 obtain ⟨b, hb⟩ := znj y
 rw [ha, hb]
 show th (c3 _ _) _ = _
 have : c3 (z1d x) (z1d y) ≠ 0 := fun e => h (c3_zero.1 e)
 unfold th; rw [if_neg this, if_neg this]
mutual
theorem Z1v : ∀ (x y : V) (r s : List Int), z5f (key x ++ r) (key y ++ s) = th (z3d x y) (z5f r s)
  | .nil, y, r, s => by
    cases y <;> first | (refine z70 (x := .nil) ?_ r s; simp [z1d]; done) | (rw [key]; show th (c3 1 1) _ = _; rw [z3d]; rfl)
  | .nothing, y, r, s => by
    cases y <;> first | (refine z70 (x := .nothing) ?_ r s; simp [z1d]; done) | (rw [key]; show th (c3 11 11) _ = _; rw [z3d]; rfl)
  | .alien t, y, r, s => by
    cases y <;> first | (refine z70 (x := .alien t) ?_ r s; simp [z1d]; done) | (rw [key, key]; show th (c3 0 0) _ = _; rw [z3d]; rfl)
  | .bool a, y, r, s => by
    cases y <;> first | (refine z70 (x := .bool a) ?_ r s; simp [z1d]; done) | (rw [key, key, z3d]; show th (c3 2 2) (th _ _) = _; rw [z58]; rfl)
  | .int a, y, r, s => by
    cases y <;> first | (refine z70 (x := .int a) ?_ r s; simp [z1d]; done) | (rw [key, key, z3d]; show th (c3 3 3) (th _ _) = _; rw [z58]; rfl)
  | .float a, y, r, s => by
    cases y <;> first | (refine z70 (x := .float a) ?_ r s; simp [z1d]; done) | (rw [key, key, z3d]; show th (c3 4 4) (th _ _) = _; rw [z58]; rfl)
  | .ref a, y, r, s => by
    cases y <;> first | (refine z70 (x := .ref a) ?_ r s; simp [z1d]; done) | (rw [key, key, z3d]; show th (c3 7 7) (th _ _) = _; rw [z58]; rfl)
  | .text a, y, r, s => by
    cases y <;> first | (refine z70 (x := .text a) ?_ r s; simp [z1d]; done) | (rw [key, key, z3d]; show th (c3 5 5) (z5f (za0 _ ++ r) (za0 _ ++ s)) = _; rw [z58, zfs])
  | .bytes a, y, r, s => by
    cases y <;> first | (refine z70 (x := .bytes a) ?_ r s; simp [z1d]; done) | (rw [key, key, z3d]; show th (c3 6 6) (z5f (za0 _ ++ r) (za0 _ ++ s)) = _; rw [z58, zfs])
  | .list a, y, r, s => by
    cases y <;> first | (refine z70 (x := .list a) ?_ r s; simp [z1d]; done) | (rw [key, key, z3d]; show th (c3 8 8) (z5f (zle _ ++ r) (zle _ ++ s)) = _; rw [z58, zzh])
  | .dict a, y, r, s => by
    cases y <;> first | (refine z70 (x := .dict a) ?_ r s; simp [z1d]; done) | (rw [key, key, z3d]; show th (c3 9 9) (z5f (zft _ ++ r) (zft _ ++ s)) = _; rw [z58, ztq])
  | .record c v a, y, r, s => by
    cases y <;> first
      | (refine z70 (x := .record c v a) ?_ r s; simp [z1d]; done)
      | (rw [key, key, z3d]
         show th (c3 10 10) (z5f ((za0 _ ++ (_ :: zft _)) ++ r) ((za0 _ ++ (_ :: zft _)) ++ s)) = _
         rw [z58, List.append_assoc, List.append_assoc, zfs]
         show th _ (th (c3 _ _) (z5f (zft _ ++ r) (zft _ ++ s))) = _
         rw [ztq, z91, z91])
theorem zzh : ∀ (x y : List V) (r s : List Int), z5f (zle x ++ r) (zle y ++ s) = th (z44 x y) (z5f r s)
 | [], [], r, s => by rw [zle, z44]; rfl
 | [], b :: y, r, s => by rw [zle, zle, z44]; rfl
 | a :: x, [], r, s => by rw [zle, zle, z44]; rfl
 | a :: x, b :: y, r, s => by
  rw [zle, zle, z44]
  show th (c3 1 1) (z5f ((key a ++ zle x) ++ r) ((key b ++ zle y) ++ s)) = _
  rw [z58, List.append_assoc, List.append_assoc, Z1v a b, zzh x y r s, z91]
theorem ztq : ∀ (x y : List (Str × V)) (r s : List Int), z5f (zft x ++ r) (zft y ++ s) = th (z81 x y) (z5f r s)
 | [], [], r, s => by rw [zft, z81]; rfl
 | [], (t, b) :: y, r, s => by rw [zft, zft, z81]; rfl
 | (u, a) :: x, [], r, s => by rw [zft, zft, z81]; rfl
 | (u, a) :: x, (t, b) :: y, r, s => by
  rw [zft, zft, z81]
  show th (c3 1 1) (z5f ((za0 u ++ (key a ++ zft x)) ++ r) ((za0 t ++ (key b ++ zft y)) ++ s)) = _
  simp only [List.append_assoc]
  rw [z58, zfs, Z1v a b, ztq x y r s, z91, z91]
end
theorem zgv (x y : V) : z3d x y = z5f (key x) (key y) := by
 have := Z1v x y [] []
 rw [List.append_nil, List.append_nil] at this
 rw [this]; exact (zqp _).symm
end Go.Proofs.YtmoijodjgkfhgaaGreat

namespace Go.Proofs.YtmoijodjgkfhgaaGreat
open Go Aw
set_option linter.unusedVariables false
set_option linter.unusedSimpArgs false
set_option maxRecDepth 8000
def Fine (x : V) : Prop := ∃ n dp d, (z30 x n dp d).ok = true
theorem ziz {d : Int} : ∀ {l : List V} {n dp : Int}, (z3m l n dp d).ok = true → ∀ y, y ∈ l → ∃ n dp, (z30 y n dp d).ok = true
 | x :: r, n, dp, h, y, hy => by
  rw [z3v] at h
  cases hk : (z30 x n dp d).ok with
  | false => rw [if_neg (by simp [hk])] at h; rw [hk] at h; cases h
  | true =>
   rw [if_pos hk] at h
   rcases List.mem_cons.1 hy with rfl | hy
   ·exact ⟨n, dp, hk⟩
   ·exact ziz h y hy
theorem Fine.own {x : V} (h : Fine x) : nearE x = 0 ∧ ∀ y, y ∈ x.parts → Fine y := by
 obtain ⟨n, dp, d, h⟩ := h
 rw [z96] at h
 split at h
 ·rename_i ho
  exact ⟨(zap ho).2.2, fun y hy => let ⟨n', dp', h'⟩ := ziz h y hy; ⟨n', dp', _, h'⟩⟩
 ·cases h
theorem zfy {x : V} (h : (z2a x).2 = 0) : Fine x ∧ z2a x = (0, 0) := by
 unfold z2a at h ⊢
 cases hk : (z30 x 0 0 1).ok with
 | true => exact ⟨⟨0, 0, 1, hk⟩, rfl⟩
 | false =>
  rw [if_neg (by simp [hk])] at h
  exact absurd h ((z95 x 1 0 0).bad hk)
theorem zpq {a : Int} (h : a ≠ 0) : (a != 0) = true := by simpa using h
theorem zem {l : List Str} (h : z49 l = 0) : l.length ≤ 4096 := by
 unfold z49 at h
 split at h
 ·cases h
 ·omega
theorem z8o {l : List V} (h : nearE (.list l) = 0) : l.length ≤ 4096 := by
 simp only [nearE] at h
 split at h
 ·cases h
 ·omega
theorem znb {c : Str} {v : Int} {l : List (Str × V)} (h : nearE (.record c v l) = 0) : (1 ≤ v ∧ v ≤ 1000) ∧ l.length ≤ 4096 := by
 simp only [nearE] at h
 split at h
 ·cases h
 ·split at h
  ·cases h
  ·have := zem h; rw [List.length_map] at this; omega
theorem zje {l : List (Str × V)} (h : nearE (.dict l) = 0) : l.length ≤ 4096 := by
 have := zem h; rwa [List.length_map] at this
end Go.Proofs.YtmoijodjgkfhgaaGreat

namespace Go.Proofs.YtmoijodjgkfhgaaGreat
open Go Aw
set_option linter.unusedVariables false
set_option linter.unusedSimpArgs false
set_option maxRecDepth 8000
theorem zrl (a b : Int) : zp5 a b = some (c3 a b) := zk5 a b
theorem Z4k (a b : Int) : zw4 a b = some (c3 a b) := zk5 a b
theorem Z4l (a b : Int) : zw5 a b = some (c3 a b) := zk5 a b
theorem zck (a b : Int) : zw7 a b = some (c3 a b) := zk5 a b
theorem Z4i (b : Bool) : zsl b = some (trI b) := by cases b <;> rfl
theorem Z4j (f : Nat) : zp2 f = some (plV f) := by
 unfold zp2 plV
 by_cases h : zoj .u64 (f : Int) 63 = 1
 ·rw [if_pos h, h]; rfl
 ·rw [if_neg h]
  have : (zoj .u64 (f : Int) 63 == 1) = false := by simpa using h
  rw [this]; rfl
theorem Z85 {i n : Nat} (h : n ≤ i) : decide ((i : Int) ≥ (n : Int)) = true := decide_eq_true (by omega)
theorem Z86 {i n : Nat} (h : ¬ n ≤ i) : decide ((i : Int) ≥ (n : Int)) = false := decide_eq_false (by omega)
theorem zdb (c d : Int) : (bif c != 0 then some c else some d) = some (th c d) := by
 unfold th
 by_cases h : c = 0
 ·subst h; rfl
 ·have : (c != 0) = true := by simpa using h
  rw [this, if_neg h]; rfl
theorem zls (a b : UInt8) : zsn a b = some (c3 ((a.toNat : Int) + 1) ((b.toNat : Int) + 1)) := by
 have h1 : ∀ x : UInt8, zp7 x = some false := fun x => by unfold zp7; simp
 simp only [zsn, h1, Option.bind_some, cond_false, zy1]
 exact zk5 _ _
theorem zuw (a b : Str) : ∀ k i, k + i = a.length → i ≤ b.length → zin a b i = some (cmpS (a.drop i) (b.drop i))
 | 0, i, h, hb => by
  rw [zim]
  simp only [z7g, zav (by omega : ¬ i < a.length), cond_false]
  rw [List.drop_of_length_le (by omega : a.length ≤ i)]
  by_cases hl : a.length < b.length
  ·obtain ⟨y, hy, hd⟩ := dropc (by omega : i < b.length)
   rw [z9z hl, hd]; rfl
  ·rw [zav hl, List.drop_of_length_le (by omega : b.length ≤ i)]; rfl
 | k + 1, i, h, hb => by
  obtain ⟨x, hx, hdx⟩ := dropc (by omega : i < a.length)
  rw [zim]
  simp only [z7g, z9z (by omega : i < a.length), cond_true, hx, Option.bind_some]
  by_cases hl : i < b.length
  ·obtain ⟨y, hy, hdy⟩ := dropc hl
   rw [Z86 (by omega : ¬ b.length ≤ i), hdx, hdy, zk3]
   simp only [cond_false, hy, Option.bind_some, zls, zuw a b k (i + 1) (by omega) (by omega), zdb]
  ·rw [Z85 (by omega : b.length ≤ i), hdx, List.drop_of_length_le (by omega : b.length ≤ i)]; rfl
theorem zk6 (a b : Str) : zwb a b = some (cmpS a b) := zuw a b a.length 0 (by omega) (by omega)
theorem Z9f (a b : List V) (hab : ∀ x, x ∈ a → ∀ y, y ∈ b → zao x y = some (z3d x y)) : ∀ k i, k + i = a.length → i ≤ b.length → zfk zao a b i = some (z44 (a.drop i) (b.drop i))
 | 0, i, h, hb => by
  rw [zit]
  simp only [z6g, zav (by omega : ¬ i < a.length), cond_false]
  rw [List.drop_of_length_le (by omega : a.length ≤ i)]
  by_cases hl : a.length < b.length
  ·obtain ⟨y, hy, hd⟩ := dropc (by omega : i < b.length)
   rw [z9z hl, hd, z44]; rfl
  ·rw [zav hl, List.drop_of_length_le (by omega : b.length ≤ i), z44]; rfl
 | k + 1, i, h, hb => by
  obtain ⟨x, hx, hdx⟩ := dropc (by omega : i < a.length)
  rw [zit]
  simp only [z6g, z9z (by omega : i < a.length), cond_true, hx, Option.bind_some]
  by_cases hl : i < b.length
  ·obtain ⟨y, hy, hdy⟩ := dropc hl
   rw [Z86 (by omega : ¬ b.length ≤ i), hdx, hdy, z44]
   simp only [cond_false, hy, Option.bind_some, hab x (List.mem_of_getElem? hx) y (List.mem_of_getElem? hy), Z9f a b hab k (i + 1) (by omega) (by omega), zdb]
  ·rw [Z85 (by omega : b.length ≤ i), hdx, List.drop_of_length_le (by omega : b.length ≤ i), z44]; rfl
theorem zxg (p q : Str × V) (h : zao p.2 q.2 = some (z3d p.2 q.2)) : zl1 p q = some (th (cmpS p.1 q.1) (z3d p.2 q.2)) := by
 rw [Z8w, zm0]
 simp only [zrr, Option.bind_some, h, zdb]
theorem Z9h (a b : List (Str × V)) (hab : ∀ x, x ∈ a → ∀ y, y ∈ b → zao x.2 y.2 = some (z3d x.2 y.2)) : ∀ k i, k + i = a.length → i ≤ b.length → zfl zl1 a b i = some (z81 (a.drop i) (b.drop i))
 | 0, i, h, hb => by
  rw [ziw]
  simp only [z6h, zav (by omega : ¬ i < a.length), cond_false]
  rw [List.drop_of_length_le (by omega : a.length ≤ i)]
  by_cases hl : a.length < b.length
  ·obtain ⟨y, hy, hd⟩ := dropc (by omega : i < b.length)
   rw [z9z hl, hd, z81]; rfl
  ·rw [zav hl, List.drop_of_length_le (by omega : b.length ≤ i), z81]; rfl
 | k + 1, i, h, hb => by
  obtain ⟨x, hx, hdx⟩ := dropc (by omega : i < a.length)
  rw [ziw]
  simp only [z6h, z9z (by omega : i < a.length), cond_true, hx, Option.bind_some]
  obtain ⟨sx, vx⟩ := x
  by_cases hl : i < b.length
  ·obtain ⟨y, hy, hdy⟩ := dropc hl
   obtain ⟨sy, vy⟩ := y
   rw [Z86 (by omega : ¬ b.length ≤ i), hdx, hdy, z81]
   simp only [cond_false, hy, Option.bind_some, zxg _ _ (hab _ (List.mem_of_getElem? hx) _ (List.mem_of_getElem? hy)), Z9h a b hab k (i + 1) (by omega) (by omega), zdb]
  ·rw [Z85 (by omega : b.length ≤ i), hdx, List.drop_of_length_le (by omega : b.length ≤ i), z81]; rfl
theorem zuh (a b : List (Str × V)) (hab : ∀ x, x ∈ a → ∀ y, y ∈ b → zao x.2 y.2 = some (z3d x.2 y.2)) : zpi a b = some (z81 a b) := by
 rw [Z95, zm7]
 exact Z9h a b hab a.length 0 (by omega) (by omega)
theorem Z1r (a b : List V) (hab : ∀ x, x ∈ a → ∀ y, y ∈ b → zao x y = some (z3d x y)) : zph a b = some (z44 a b) := by
 rw [Z94, zm6]
 exact Z9f a b hab a.length 0 (by omega) (by omega)
theorem zsq {x y : V} (h : z1d x ≠ z1d y) : z3d x y = c3 (z1d x) (z1d y) := by
 rw [zgv]
 have := z70 h [] []
 rw [List.append_nil, List.append_nil] at this
 rw [this]; exact zqp _
theorem Z4h (x : V) : ∀ y, Fine x → Fine y → zao x y = some (z3d x y) := by
  induction x using V.byParts with
  | _ x ih =>
  intro y hx hy
  have hpx := hx.own.2
  have hpy := hy.own.2
  have e0 : ((0 : Int) != 0) = false := rfl
  rw [Z8v, zlz]
  simp only [zzb, zrl, Option.bind_some]
  by_cases hk : z1d x = z1d y
  · rw [hk, zhg, e0, cond_false]
    cases x with
    | nil => cases y <;> first | (simp [z1d] at hk; done) | (rw [z3d]; rfl)
    | nothing => have := hx.own.1; simp [nearE] at this
    | alien t => have := hx.own.1; simp [nearE] at this
    | bool a => cases y <;> first | (simp [z1d] at hk; done) | (rw [z3d]; simp only [V.isBool, V.asBool, V.theBool, cond_true, Z4i, Option.bind_some, zrl])
    | int a => cases y <;> first | (simp [z1d] at hk; done) | (rw [z3d]; simp only [V.isBool, V.isInt, V.asInt, V.theInt, cond_true, cond_false, Option.bind_some, Z4k])
    | float a => cases y <;> first | (simp [z1d] at hk; done) | (rw [z3d]; simp only [V.isBool, V.isInt, V.isFloat, V.asFloat, V.theFloat, cond_true, cond_false, Option.bind_some, Z4j, Z4l])
    | text a => cases y <;> first | (simp [z1d] at hk; done) | (rw [z3d]; simp only [V.isBool, V.isInt, V.isFloat, V.isText, V.asText, V.theText, cond_true, cond_false, Option.bind_some, zrr])
    | bytes a => cases y <;> first | (simp [z1d] at hk; done) | (rw [z3d]; simp only [V.isBool, V.isInt, V.isFloat, V.isText, V.isBytes, V.asBytes, V.theBytes, cond_true, cond_false, Option.bind_some, zk6])
    | ref a => cases y <;> first | (simp [z1d] at hk; done) | (rw [z3d]; simp only [V.isBool, V.isInt, V.isFloat, V.isText, V.isBytes, V.isRef, V.asRef, V.theRef, cond_true, cond_false, Option.bind_some, zck])
    | list a =>
      cases y <;> first
        | (simp [z1d] at hk; done)
        | (rename_i b
           rw [z3d]
           simp only [V.isBool, V.isInt, V.isFloat, V.isText, V.isBytes, V.isRef, V.isList, V.asList, V.theList, cond_true, cond_false, Option.bind_some]
           rw [Z1r a b (fun u hu v hv => ih u hu v (hpx u hu) (hpy v hv))]; rfl)
    | dict a =>
      cases y <;> first
        | (simp [z1d] at hk; done)
        | (rename_i b
           rw [z3d]
           simp only [V.isBool, V.isInt, V.isFloat, V.isText, V.isBytes, V.isRef, V.isList, V.isDict, V.asDict, V.theDict, cond_true, cond_false, Option.bind_some]
           rw [zuh a b (fun u hu v hv => ih u.2 (List.mem_map_of_mem hu) v.2 (hpx _ (List.mem_map_of_mem hu)) (hpy _ (List.mem_map_of_mem hv)))]; rfl)
    | record c v a =>
      cases y <;> first
        | (simp [z1d] at hk; done)
        | (rename_i b
           rw [z3d]
           simp only [V.isBool, V.isInt, V.isFloat, V.isText, V.isBytes, V.isRef, V.isList, V.isDict, V.isRec, V.asRec, V.theRec, cond_true, cond_false, Option.bind_some, zrr, zrl]
           rw [zuh a b (fun u hu v hv => ih u.2 (List.mem_map_of_mem hu) v.2 (hpx _ (List.mem_map_of_mem hu)) (hpy _ (List.mem_map_of_mem hv)))]
           simp only [Option.bind_some, zdb])
  · have h2 : c3 (z1d x) (z1d y) ≠ 0 := fun e => hk (c3_zero.1 e)
    have e1 : (c3 (z1d x) (z1d y) != 0) = true := by simpa using h2
    rw [e1, cond_true, zsq hk]
noncomputable def z9t (x y : V) : Bool := (z2a x).2 == 0 && ((z2a y).2 == 0 && z3d x y == 0)
theorem zf9 (x y : V) : zgr x y = some (z9t x y) := by
 simp only [zgr, zmy, Option.bind_some, z9t]
 by_cases hx : (z2a x).2 = 0
 ·have ex : ((z2a x).2 == 0) = true := by simpa using hx
  rw [ex, cond_true, Bool.true_and]
  by_cases hy : (z2a y).2 = 0
  ·have ey : ((z2a y).2 == 0) = true := by simpa using hy
   rw [ey, cond_true, Bool.true_and, Z4h x y (zfy hx).1 (zfy hy).1]; rfl
  ·have ey : ((z2a y).2 == 0) = false := by simpa using hy
   rw [ey]; rfl
 ·have ex : ((z2a x).2 == 0) = false := by simpa using hx
  rw [ex]; rfl
end Go.Proofs.YtmoijodjgkfhgaaGreat

namespace Go.Proofs.YtmoijodjgkfhgaaGreat
open Go Aw
set_option linter.unusedVariables false
set_option linter.unusedSimpArgs false
set_option maxRecDepth 8000
mutual
def cnt : V → Int
 | .list l => 1 + cntL l
 | .dict l => 1 + cntD l
 | .record _ _ l => 1 + cntD l
 | _ => 1
def cntL : List V → Int
 | [] => 0
 | x :: r => cnt x + cntL r
def cntD : List (Str × V) → Int
 | [] => 0
 | (_, x) :: r => cnt x + cntD r
end
mutual
def dpt : V → Int
 | .list l => 1 + dptL l
 | .dict l => 1 + dptD l
 | .record _ _ l => 1 + dptD l
 | _ => 1
def dptL : List V → Int
 | [] => 0
 | x :: r => max (dpt x) (dptL r)
def dptD : List (Str × V) → Int
 | [] => 0
 | (_, x) :: r => max (dpt x) (dptD r)
end
theorem zhf : ∀ l, cntD l = cntL (l.map (·.2))
 | [] => by simp only [cntD, cntL, List.map_nil]
 | (s, x) :: r => by simp only [cntD, cntL, List.map_cons, zhf r]
theorem znw : ∀ l, dptD l = dptL (l.map (·.2))
 | [] => by simp only [dptD, dptL, List.map_nil]
 | (s, x) :: r => by simp only [dptD, dptL, List.map_cons, znw r]
theorem z5y (x : V) : cnt x = 1 + cntL x.parts := by cases x <;> simp only [cnt, V.parts, zhf, cntL] <;> rfl
theorem z8v (x : V) : dpt x = 1 + dptL x.parts := by cases x <;> simp only [dpt, V.parts, znw, dptL] <;> rfl
inductive Near : V → Prop
 | mk {x : V} : nearE x = 0 → (∀ y, y ∈ x.parts → Near y) → Near x
theorem Near.own {x : V} (h : Near x) : nearE x = 0 := by cases h; assumption
theorem Near.part {x : V} (h : Near x) : ∀ y, y ∈ x.parts → Near y := by cases h; assumption
theorem z29 (x : V) : 1 ≤ cnt x ∧ 1 ≤ dpt x := by
 induction x using V.byParts with
 | _ x ih =>
  rw [z5y, z8v]
  have : ∀ l : List V, (∀ y, y ∈ l → 1 ≤ cnt y ∧ 1 ≤ dpt y) → 0 ≤ cntL l ∧ 0 ≤ dptL l := by
   intro l
   induction l with
   | nil => intro _; simp [cntL, dptL]
   | cons y r ihr =>
    intro h
    have h1 := h y (by simp)
    have h2 := ihr (fun z hz => h z (by simp [hz]))
    simp only [cntL, dptL]; omega
  have := this x.parts ih
  omega
theorem own_iff {x : V} {n d : Int} : zcn x n d = 0 ↔ n < 16384 ∧ d ≤ 64 ∧ nearE x = 0 := by
 constructor
 ·exact zap
 ·rintro ⟨h1, h2, h3⟩
  unfold zcn; rw [if_neg (by omega)]; exact h3
theorem zx4 {x : V} (h : nearE x = 0) : Z3c x = 2 := by cases x <;> first | rfl | (simp [nearE] at h)
structure Goes (x : V) : Prop where
 yes : ∀ n dp d, Near x → d - 1 ≤ dp → n + cnt x ≤ 16384 → d + dpt x - 1 ≤ 64 → z30 x n dp d = ⟨true, n + cnt x, max dp (d + dpt x - 1), 0⟩
 ok : ∀ n dp d, (z30 x n dp d).ok = true → Near x ∧ n + cnt x ≤ 16384 ∧ d + dpt x - 1 ≤ 64 ∧ (z30 x n dp d).n = n + cnt x
 long : ∀ n dp d, Near x → (z30 x n dp d).ok = false → (z30 x n dp d).why = 2
theorem Z54 {l : List V} (h : ∀ y, y ∈ l → Goes y) :
 (∀ n dp d, (∀ y, y ∈ l → Near y) → d - 1 ≤ dp → n + cntL l ≤ 16384 → d + dptL l - 1 ≤ 64 → z3m l n dp d = ⟨true, n + cntL l, max dp (d + dptL l - 1), 0⟩) ∧
 (∀ n dp d, n ≤ 16384 → d ≤ 65 → (z3m l n dp d).ok = true → (∀ y, y ∈ l → Near y) ∧ n + cntL l ≤ 16384 ∧ d + dptL l - 1 ≤ 64 ∧ (z3m l n dp d).n = n + cntL l) ∧
 (∀ n dp d, (∀ y, y ∈ l → Near y) → (z3m l n dp d).ok = false → (z3m l n dp d).why = 2) := by
 induction l with
 | nil =>
  refine ⟨fun n dp d _ hd _ _ => ?_, fun n dp d hn hd _ => ?_, fun n dp d _ hk => ?_⟩
  ·rw [z4d, cntL, dptL]; congr 1 <;> omega
  ·rw [z4d, cntL, dptL]; exact ⟨by simp, by omega, by omega, by simp⟩
  ·rw [z4d] at hk; cases hk
 | cons x r ih =>
  have hx := h x (by simp)
  obtain ⟨i1, i2, i3⟩ := ih (fun y hy => h y (by simp [hy]))
  have hp := z29 x
  have hr : 0 ≤ cntL r ∧ 0 ≤ dptL r := by
   clear i1 i2 i3 ih h hx
   induction r with
   | nil => simp [cntL, dptL]
   | cons y q ihq => have := z29 y; simp only [cntL, dptL]; omega
  refine ⟨fun n dp d hnr hd hn hdd => ?_, fun n dp d hn hd hk => ?_, fun n dp d hnr hk => ?_⟩
  ·rw [cntL] at hn ⊢
   rw [dptL] at hdd ⊢
   have e := hx.yes n dp d (hnr x (by simp)) hd (by omega) (by omega)
   rw [z3v, e, if_pos rfl]
   rw [i1 _ _ d (fun y hy => hnr y (by simp [hy])) (by simp only; omega) (by simp only; omega) (by omega)]
   congr 1
   ·simp only; omega
   ·simp only; omega
  ·rw [z3v] at hk ⊢
   cases hk1 : (z30 x n dp d).ok with
   | false => rw [if_neg (by simp [hk1])] at hk; rw [hk1] at hk; cases hk
   | true =>
    rw [if_pos hk1] at hk
    rw [if_pos rfl]
    obtain ⟨a1, a2, a3, a4⟩ := hx.ok n dp d hk1
    rw [a4] at hk ⊢
    obtain ⟨b1, b2, b3, b4⟩ := i2 _ _ d (by omega) hd hk
    rw [cntL, dptL]
    refine ⟨fun y hy => ?_, by omega, by omega, by omega⟩
    rcases List.mem_cons.1 hy with rfl | hy
    ·exact a1
    ·exact b1 y hy
  ·rw [z3v] at hk ⊢
   cases hk1 : (z30 x n dp d).ok with
   | false => rw [if_neg (by simp [hk1])]; exact hx.long n dp d (hnr x (by simp)) hk1
   | true =>
    rw [if_pos hk1] at hk
    rw [if_pos rfl]
    exact i3 _ _ d (fun y hy => hnr y (by simp [hy])) hk
theorem goes (x : V) : Goes x := by
 induction x using V.byParts with
 | _ x ih =>
  obtain ⟨i1, i2, i3⟩ := Z54 ih
  have hp := z29 x
  refine ⟨fun n dp d hnr hd hn hdd => ?_, fun n dp d hk => ?_, fun n dp d hnr hk => ?_⟩
  ·rw [z96, if_pos (own_iff.2 ⟨by omega, by omega, hnr.own⟩)]
   rw [z5y] at hn ⊢
   rw [z8v] at hdd ⊢
   have hd0 := hp.2
   rw [z8v] at hd0
   rw [i1 _ _ (d + 1) hnr.part (by omega) (by omega) (by omega)]
   congr 1 <;> omega
  ·rw [z96] at hk ⊢
   by_cases ho : zcn x n d = 0
   ·rw [if_pos ho] at hk ⊢
    have h0 := zap ho
    obtain ⟨b1, b2, b3, b4⟩ := i2 _ _ (d + 1) (by omega) (by omega) hk
    rw [z5y, z8v]
    exact ⟨.mk h0.2.2 b1, by omega, by omega, by omega⟩
   ·rw [if_neg ho] at hk; cases hk
  ·rw [z96] at hk ⊢
   by_cases ho : zcn x n d = 0
   ·rw [if_pos ho] at hk ⊢; exact i3 _ _ _ hnr.part hk
   ·rw [if_neg ho]
    have : zcn x n d = Z3c x := by
     unfold zcn at ho ⊢
     split
     ·rfl
     ·rename_i hc; rw [if_neg hc] at ho; exact absurd hnr.own ho
    show zcn x n d = 2
    rw [this]; exact zx4 hnr.own
def Can (x : V) : Prop := Near x ∧ cnt x ≤ 16384 ∧ dpt x ≤ 64
theorem can_ok {x : V} : (z30 x 0 0 1).ok = true ↔ Can x := by
 constructor
 ·intro h
  obtain ⟨a, b, c, _⟩ := (goes x).ok 0 0 1 h
  exact ⟨a, by omega, by omega⟩
 ·rintro ⟨a, b, c⟩
  rw [(goes x).yes 0 0 1 a (by omega) (by omega) (by omega)]
theorem z2m {x : V} (h : Can x) : z2a x = (0, 0) := by unfold z2a; rw [if_pos (can_ok.2 h)]
theorem z60 {x : V} (h : ¬ Can x) : (z2a x).2 ≠ 0 := by
 unfold z2a
 have hk : (z30 x 0 0 1).ok = false := by
  cases hk : (z30 x 0 0 1).ok with
  | false => rfl
  | true => exact absurd (can_ok.1 hk) h
 rw [if_neg (by simp [hk])]
 exact (z95 x 1 0 0).bad hk
theorem zxz {x : V} (h : Can x) : Fine x := ⟨0, 0, 1, can_ok.2 h⟩
end Go.Proofs.YtmoijodjgkfhgaaGreat

namespace Go.Proofs.YtmoijodjgkfhgaaGreat
open Go Aw
set_option linter.unusedVariables false
set_option linter.unusedSimpArgs false
set_option maxRecDepth 8000
theorem zpp {b : Str} (h : nearE (.bytes b) = 0) : b.length ≤ 65536 := by
 simp only [nearE] at h; split at h <;> omega
end Go.Proofs.YtmoijodjgkfhgaaGreat

namespace Go.Proofs.YtmoijodjgkfhgaaGreat
open Go Aw
set_option linter.unusedVariables false
set_option linter.unusedSimpArgs false
set_option maxRecDepth 8000
theorem Z4f {n b : Nat} (hb : b ≤ 1024) (hn : n ≤ 1073741824) : zkr n b = some () := by
 have h1 : n * b ≤ 1073741824 * 1024 := Nat.mul_le_mul hn hb
 unfold zkr
 rw [Nat.ble_eq_true_of_le (by omega), Nat.ble_eq_true_of_le (by omega)]; rfl
theorem z89 {α : Type} {l : List α} {i : Nat} {x : α} (h : l[i]? = some x) : l.take i ++ [x] = l.take (i + 1) := by
 rw [List.take_add_one, h]; rfl
theorem Z9v (l : List V) (hl : ∀ u, u ∈ l → ze2 u = some u) (hb : l.length ≤ 1073741824) : ∀ k i, k + i = l.length → zfa ze2 (.list l) (l.take i) i = some (.list l)
 | 0, i, h => by
  rw [zia]
  simp only [z66, V.asList, zav (by omega : ¬ i < l.length), cond_false]
  rw [List.take_of_length_le (by omega)]
 | k + 1, i, h => by
  obtain ⟨x, hx, _⟩ := dropc (by omega : i < l.length)
  rw [zia]
  simp only [z66, V.asList, z9z (by omega : i < l.length), cond_true, hx, Option.bind_some, hl x (List.mem_of_getElem? hx), zqa (b := 16) (by omega) (show (l.take i).length ≤ 1073741824 by simp; omega), z89 hx]
  exact Z9v l hl hb k (i + 1) (by omega)
theorem Z9w (l : List (Str × V)) (hl : ∀ u, u ∈ l → ze2 u.2 = some u.2) (hb : l.length ≤ 1073741824) : ∀ k i, k + i = l.length → zfc ze2 l (l.take i) i = some l
 | 0, i, h => by
  rw [zie]
  simp only [z68, zav (by omega : ¬ i < l.length), cond_false]
  rw [List.take_of_length_le (by omega)]
 | k + 1, i, h => by
  obtain ⟨x, hx, _⟩ := dropc (by omega : i < l.length)
  rw [zie]
  simp only [z68, z9z (by omega : i < l.length), cond_true, hx, Option.bind_some, hl x (List.mem_of_getElem? hx), zqa (b := 32) (x := (x.1, x.2)) (by omega) (show (l.take i).length ≤ 1073741824 by simp; omega)]
  rw [show l.take i ++ [(x.1, x.2)] = l.take (i + 1) from z89 hx]
  exact Z9w l hl hb k (i + 1) (by omega)
theorem zuo (x : V) : Fine x → ze2 x = some x := by
 induction x using V.byParts with
 | _ x ih =>
 intro hx
 have hn := hx.own.1
 have hp : ∀ u, u ∈ x.parts → ze2 u = some u := fun u hu => ih u hu (hx.own.2 u hu)
 have hD : ∀ l : List (Str × V), l.length ≤ 4096 → (∀ u, u ∈ l → u.2 ∈ x.parts) → zw6 l = some l := fun l hl h => by
  rw [Z8z, zm3, Z4f (by omega) (by omega), Option.bind_some]
  exact Z9w l (fun u hu => hp _ (h u hu)) (by omega) l.length 0 (by omega)
 rw [Z8x, zm1]
 cases x with
 | bytes b =>
  have hb := zpp hn
  simp only [V.isBytes, V.asBytes, cond_true, Z05 (by omega : 1 ≤ 1024) (show b.length ≤ 1073741824 by omega), Option.bind_some]
 | list l =>
  have hb := z8o hn
  simp only [V.isBytes, V.isList, V.asList, cond_true, cond_false, Z4f (by omega : 16 ≤ 1024) (show l.length ≤ 1073741824 by omega), Option.bind_some]
  exact Z9v l hp (by omega) l.length 0 (by omega)
 | dict l =>
  have hb := zje hn
  simp only [V.isBytes, V.isList, V.isDict, V.asDict, cond_true, cond_false, hD l hb (fun u hu => List.mem_map_of_mem hu), Option.bind_some]
 | record c v l =>
  have hb := (znb hn).2
  simp only [V.isBytes, V.isList, V.isDict, V.isRec, V.asRec, cond_true, cond_false, Option.bind_some, hD l hb (fun u hu => List.mem_map_of_mem hu)]
 | nothing => simp [nearE] at hn
 | _ => rfl
theorem zhd {x : V} (h : Can x) : ze1 x = some (x, 0) := by
 simp only [ze1, zmy, z2m h, Option.bind_some]
 rw [show ((0 : Int) != 0) = false from rfl, cond_false, zuo x (zxz h)]; rfl
theorem zxr {x : V} (h : ¬ Can x) : ze1 x = some (.nil, (z2a x).2) := by
 simp only [ze1, zmy, Option.bind_some]
 rw [zpq (z60 h), cond_true]
end Go.Proofs.YtmoijodjgkfhgaaGreat

namespace Go.Proofs.YtmoijodjgkfhgaaGreat
open Go Aw
set_option linter.unusedVariables false
set_option linter.unusedSimpArgs false
set_option maxRecDepth 8000
abbrev Stp := S_api_Step
def stN (n : Str) : Stp := S_api_Step.mk n false 0
def stA (i : Nat) : Stp := S_api_Step.mk [] true ((i : Nat) : Int)
theorem z4y : ∀ {l : List V} {y : V}, y ∈ l → cnt y ≤ cntL l ∧ dpt y ≤ dptL l
 | x :: r, y, h => by
  have hp : 0 ≤ cntL r ∧ 0 ≤ dptL r := by
   clear h
   induction r with
   | nil => simp [cntL, dptL]
   | cons z q ih => have := z29 z; simp only [cntL, dptL]; omega
  have hx := z29 x
  simp only [cntL, dptL]
  rcases List.mem_cons.1 h with rfl | h
  ·omega
  ·have := z4y h; omega
theorem z87 {x y : V} (h : Can x) (hy : y ∈ x.parts) : Can y := by
 have h1 := z4y hy
 have h2 := z5y x
 have h3 := z8v x
 obtain ⟨a, b, c⟩ := h
 exact ⟨a.part y hy, by omega, by omega⟩
theorem z86 (l : List V) : 0 ≤ cntL l := by
 induction l with
 | nil => simp [cntL]
 | cons z q ih => have := z29 z; simp only [cntL]; omega
theorem zth {c : Int} : th c 0 = c := by
 unfold th; by_cases h : c = 0
 ·rw [if_pos h, h]
 ·rw [if_neg h]
theorem za2 (a b : Str) : cmpS a b = z5f (za0 a) (za0 b) := by
 have h := zfs a b [] []
 rw [List.append_nil, List.append_nil] at h
 rw [h, show z5f [] [] = 0 from rfl, zth]
def zlt (a b : Str) : Prop := cmpS a b = -1
theorem z6k {a b c : Str} (h : zlt a b) (k : zlt b c) : zlt a c := by
 unfold zlt at *
 rw [za2] at *
 have := z9b (za0 a) (za0 b) (za0 c) (by omega) (by omega)
 have h2 := this.2 (.inl (by omega))
 have := zni (za0 a) (za0 c)
 omega
theorem zb4 (s : Str) : cmpS s s = 0 := by
 rw [za2]; have := z5v (za0 s) (za0 s); omega
theorem z57 (a : Str) : ¬ zlt a a := by unfold zlt; rw [zb4]; omega
theorem Za6 {a b : Str} (h : leB b a = false) : zlt a b := by
 simp only [leB, Bool.or_eq_false_iff] at h
 have h1 : cmpS b a = 1 := by unfold cmpS; rw [if_neg (by simp [h.1]), if_neg (by simp [h.2])]
 unfold zlt
 rw [za2] at h1 ⊢
 have := z5v (za0 b) (za0 a)
 omega
theorem Z9d : ∀ {l : List Str} {p : Option Str}, zbe p l = true → l.Pairwise zlt ∧ ∀ q, p = some q → ∀ s, s ∈ l → zlt q s
 | [], _, _ => ⟨.nil, fun _ _ s hs => by cases hs⟩
 | s :: r, p, h => by
  simp only [zbe, Bool.and_eq_true] at h
  have ih := Z9d h.2
  refine ⟨.cons (fun x hx => ih.2 s rfl x hx) ih.1, fun q hq x hx => ?_⟩
  subst hq
  have h1 : zlt q s := Za6 (by simpa using h.1.2)
  rcases List.mem_cons.1 hx with rfl | hx
  ·exact h1
  ·exact z6k h1 (ih.2 s rfl x hx)
theorem zc3 {l : List Str} (h : z49 l = 0) : l.Pairwise zlt := by
 unfold z49 at h
 split at h
 ·cases h
 ·split at h
  ·rename_i h2; exact (Z9d h2).1
  ·cases h
end Go.Proofs.YtmoijodjgkfhgaaGreat

namespace Go.Proofs.YtmoijodjgkfhgaaGreat
open Go Aw
set_option linter.unusedVariables false
set_option linter.unusedSimpArgs false
set_option maxRecDepth 8000
theorem ztr (s : Str) (c : UInt8) : decide (ixB s c ≥ 0) = s.contains c := by
 unfold ixB
 cases h : (List.range s.length).find? fun i => s.toArray[i]! == c with
 | some i =>
  have h1 := List.find?_some h
  have h2 := List.mem_of_find?_eq_some h
  rw [List.mem_range] at h2
  have h3 : s.toArray[i]! = s[i] := by rw [getElem!_pos _ _ (by simpa using h2)]; rfl
  rw [h3] at h1
  have h4 : s[i] = c := by simpa using h1
  rw [decide_eq_true (by simp : ((i : Nat) : Int) ≥ 0)]
  exact (List.contains_iff_mem.2 (by rw [← h4]; exact List.getElem_mem h2)).symm
 | none =>
  rw [List.find?_eq_none] at h
  cases hc : s.contains c with
  | false => rfl
  | true =>
   have hm := List.contains_iff_mem.1 hc
   obtain ⟨i, hi, e⟩ := List.mem_iff_getElem.1 hm
   have h3 : s.toArray[i]! = s[i] := by rw [getElem!_pos _ _ (by simpa using hi)]; rfl
   exact absurd (by rw [h3, e]; simp : (s.toArray[i]! == c) = true) (h i (List.mem_range.2 hi))
theorem znq (s : Str) (c : UInt8) : zsp s c = some (ixB s c) := rfl
def zr8 (p : UInt8 → Bool) (s : Str) (n : Nat) : Nat := ((s.drop n).takeWhile p).length
theorem zz7 (s of : Str) (a : Int) (hl : s.length ≤ 4611686018427387904) : ∀ k n, n + k = s.length → zi0 s a of (n : Int) = zhi s a ((n + zr8 of.contains s n : Nat) : Int)
 | 0, n, h => by
  rw [zhz]
  simp only [z7b, zav (by omega : ¬ n < s.length), cond_false, zad]
  have e : zr8 of.contains s n = 0 := by unfold zr8; rw [List.drop_of_length_le (by omega)]; rfl
  rw [e, Nat.add_zero]
  cases zhi s a (n : Int) <;> rfl
 | k + 1, n, h => by
  obtain ⟨c, hc, hd⟩ := dropc (by omega : n < s.length)
  rw [zhz]
  simp only [z7b, z9z (by omega : n < s.length), cond_true, z21, hc, Option.bind_some, znq, ztr, zad]
  have e : zr8 of.contains s n = if of.contains c then 1 + zr8 of.contains s (n + 1) else 0 := by
   unfold zr8
   rw [hd, List.takeWhile_cons]
   cases of.contains c with
   | true => rw [if_pos rfl, if_pos rfl, List.length_cons]; omega
   | false => rfl
  cases hm : of.contains c with
  | true =>
   rw [hm, if_pos rfl] at e
   rw [cond_true, z3y (by omega) (by omega), show ((n : Int) + 1) = ((n + 1 : Nat) : Int) from by omega, zz7 s of a hl k (n + 1) (by omega), e]
   congr 2; omega
  | false =>
   rw [hm] at e
   rw [cond_false, e]
   show _ = zhi s a ((n + 0 : Nat) : Int)
   rw [Nat.add_zero]
   cases zhi s a (n : Int) <;> rfl
theorem zlm {α : Type} {s : List α} {a b : Nat} (h1 : a ≤ b) (h2 : b ≤ s.length) : zhi s (a : Int) (b : Int) = some ((s.take b).drop a) := by
 unfold zhi
 rw [decide_eq_true (by omega : (0 : Int) ≤ (a : Int)), decide_eq_true (by omega : (a : Int) ≤ (b : Int)), decide_eq_true (by omega : (b : Int) ≤ (s.length : Int))]; rfl
theorem Z4e (p : UInt8 → Bool) (s : Str) (n : Nat) (h : n ≤ s.length) : n + zr8 p s n ≤ s.length := by
 unfold zr8
 have : ((s.drop n).takeWhile p).length ≤ (s.drop n).length := (List.takeWhile_prefix p).length_le
 rw [List.length_drop] at this; omega
theorem Z0f {s of : Str} {n : Nat} (hl : s.length ≤ 4611686018427387904) (h : n ≤ s.length) : zsf s (n : Int) of = some ((s.drop n).takeWhile of.contains) := by
 have := Z4e of.contains s n h
 unfold zsf
 rw [zz7 s of _ hl (s.length - n) n (by omega), zlm (by omega) (by omega)]
 congr 1
 rw [List.drop_take, show n + zr8 of.contains s n - n = zr8 of.contains s n from by omega]
 unfold zr8
 exact (List.prefix_iff_eq_take.1 (List.takeWhile_prefix _)).symm
abbrev lowS : Str := [97, 98, 99, 100, 101, 102, 103, 104, 105, 106, 107, 108, 109, 110, 111, 112, 113, 114, 115, 116, 117, 118, 119, 120, 121, 122]
abbrev nmS : Str := [97, 98, 99, 100, 101, 102, 103, 104, 105, 106, 107, 108, 109, 110, 111, 112, 113, 114, 115, 116, 117, 118, 119, 120, 121, 122, 48, 49, 50, 51, 52, 53, 54, 55, 56, 57, 95]
theorem Za4 {p : UInt8 → Bool} (h : (List.range 256).all (fun n => p (UInt8.ofNat n)) = true) (c : UInt8) : p c = true := by
 have := List.all_eq_true.1 h c.toNat (List.mem_range.2 c.toNat_lt)
 rwa [UInt8.ofNat_toNat] at this
theorem Z1p (c : UInt8) : lowS.contains c = Z1q c := by
 have := Za4 (p := fun c => lowS.contains c == Z1q c) (by decide +kernel) c
 simpa using this
theorem Z4r (c : UInt8) : nmS.contains c = zxy c := by
 have := Za4 (p := fun c => nmS.contains c == zxy c) (by decide +kernel) c
 simpa using this
theorem zmi {p : UInt8 → Bool} : ∀ s : Str, (s.takeWhile p == s) = s.all p
 | [] => rfl
 | c :: r => by
  rw [List.takeWhile_cons, List.all_cons]
  cases p c with
  | true => rw [if_pos rfl, ← zmi r]; simp
  | false => rfl
theorem ztt (s : Str) : zsm s = some (z3z s) := by
 unfold zsm
 cases s with
 | nil => rfl
 | cons c r =>
  have he : ((c :: r) == ([] : Str)) = false := rfl
  have h0 : (c :: r)[0]? = some c := rfl
  rw [he]
  simp only [Bool.not_false, cond_true, h0, Option.bind_some, znq, ztr, Z1p]
  by_cases h32 : (c :: r).length ≤ 32
  ·rw [decide_eq_true (by omega : (((c :: r).length : Nat) : Int) ≤ 32), cond_true]
   have hs := Z0f (s := c :: r) (of := nmS) (n := 0) (by omega) (by omega)
   rw [show ((0 : Nat) : Int) = 0 from rfl, List.drop_zero] at hs
   have hf : (nmS.contains : UInt8 → Bool) = zxy := funext Z4r
   rw [hf] at hs
   unfold z3z
   rw [Nat.ble_eq_true_of_le h32, Nat.ble_eq_true_of_le (by simp : 1 ≤ (c :: r).length), List.headD_cons]
   cases Z1q c with
   | true => rw [cond_true, hs, Option.bind_some, zmi]; rfl
   | false => rfl
  ·rw [decide_eq_false (by omega : ¬ (((c :: r).length : Nat) : Int) ≤ 32), cond_false]
   have e2 : Nat.ble (c :: r).length 32 = false := by
    cases hb : Nat.ble (c :: r).length 32 with
    | false => rfl
    | true => exact absurd (Nat.le_of_ble_eq_true hb) h32
   unfold z3z
   rw [e2, Bool.and_false, Bool.false_and, Bool.false_and]
def za1 (s : Stp) : Int :=
 if s.f_At = false ∧ z3z s.f_Name = false then 8 else if s.f_At = false ∧ s.f_Index ≠ 0 then 1 else if s.f_At = true ∧ s.f_Name ≠ [] then 8 else if s.f_At = true ∧ (s.f_Index < 0 ∨ 4096 ≤ s.f_Index) then 1 else 0
theorem Z6a (s : Stp) : zsd s = some (za1 s) := by
 unfold zsd za1
 cases ha : s.f_At with
 | false =>
  simp only [Bool.not_false, cond_true, ztt, Option.bind_some, zdq, zdp, zdo, zc8, ha, cond_false]
  cases z3z s.f_Name with
  | false => rfl
  | true =>
   simp only [Bool.not_true, cond_false]
   by_cases hi : s.f_Index = 0
   ·rw [hi]; rfl
   ·rw [show (s.f_Index != 0) = true from by simpa using hi, cond_true]; simp [hi]
 | true =>
  simp only [Bool.not_true, cond_false, zdq, zdp, zdo, zc8, ha, cond_true]
  by_cases hn : s.f_Name = []
  ·rw [hn]
   simp only [beq_self_eq_true, Bool.not_true, cond_false]
   by_cases h1 : s.f_Index < 0
   ·rw [decide_eq_true h1]; simp [h1]
   ·rw [decide_eq_false h1, cond_false]
    by_cases h2 : s.f_Index ≥ 4096
    ·rw [decide_eq_true h2]; have h3 : 4096 ≤ s.f_Index := h2; simp [h3]
    ·rw [decide_eq_false h2]; have h3 : ¬ 4096 ≤ s.f_Index := h2; simp [h1, h3]
  ·rw [show (s.f_Name == ([] : Str)) = false from by simpa using hn]; simp [hn]
def zdf : List Stp → Int
 | [] => 0
 | s :: r => if za1 s ≠ 0 then za1 s else zdf r
def z88 (w : List Stp) : Int := if 64 < w.length then 2 else zdf w
theorem zqi (w : List Stp) : ∀ k i, k + i = w.length → zi2 w i = some (zdf (w.drop i))
 | 0, i, h => by
  rw [zi1]
  simp only [z7c, zav (by omega : ¬ i < w.length), cond_false]
  rw [List.drop_of_length_le (by omega)]; rfl
 | k + 1, i, h => by
  obtain ⟨s, hs, hd⟩ := dropc (by omega : i < w.length)
  rw [zi1]
  simp only [z7c, z9z (by omega : i < w.length), cond_true, hs, Option.bind_some, Z6a, zqi w k (i + 1) (by omega)]
  rw [hd, zdf]
  by_cases he : za1 s = 0
  ·rw [he]; rfl
  ·rw [show (za1 s != 0) = true from by simpa using he, cond_true, if_pos he]
theorem zvd (w : List Stp) : zsh w = some (z88 w) := by
 unfold zsh z88
 by_cases h : 64 < w.length
 ·rw [decide_eq_true (by omega : ((w.length : Nat) : Int) > 64), if_pos h]; rfl
 ·rw [decide_eq_false (by omega : ¬ ((w.length : Nat) : Int) > 64), if_neg h, cond_false]
  have := zqi w w.length 0 (by omega)
  rw [List.drop_zero] at this; exact this
theorem steps_zero {w : List Stp} : zdf w = 0 ↔ ∀ s, s ∈ w → za1 s = 0 := by
 induction w with
 | nil => simp [zdf]
 | cons s r ih =>
  rw [zdf]
  by_cases h : za1 s = 0
  ·rw [if_neg (by simp [h]), ih]; simp [h]
  ·rw [if_pos h]; simp [h]
theorem zuu {s : Stp} (h : za1 s = 0) (ha : s.f_At = true) : s = stA s.f_Index.toNat ∧ 0 ≤ s.f_Index ∧ s.f_Index < 4096 := by
 unfold za1 at h
 rw [if_neg (by simp [ha]), if_neg (by simp [ha])] at h
 split at h
 ·cases h
 ·split at h
  ·cases h
  ·rename_i h1 h2
   obtain ⟨n, a, i⟩ := s
   simp only at ha h1 h2
   subst ha
   have hn : n = [] := Classical.byContradiction fun hn => h1 ⟨rfl, hn⟩
   subst hn
   have h3 : 0 ≤ i ∧ i < 4096 := by constructor <;> (apply Classical.byContradiction; intro h4; apply h2; refine ⟨rfl, ?_⟩; omega)
   refine ⟨?_, h3⟩
   simp only [stA]; congr 1; omega
theorem zlp {n : Str} : za1 (stN n) = if z3z n = true then 0 else 8 := by
 unfold za1 stN
 cases z3z n <;> simp
theorem zlq {i : Nat} : za1 (stA i) = if i < 4096 then 0 else 1 := by
 unfold za1 stA
 by_cases h : i < 4096
 ·rw [if_pos h]; simp; omega
 ·rw [if_neg h]; simp; omega
end Go.Proofs.YtmoijodjgkfhgaaGreat

namespace Go.Proofs.YtmoijodjgkfhgaaGreat
open Go Aw
set_option linter.unusedVariables false
set_option linter.unusedSimpArgs false
set_option maxRecDepth 8000
abbrev Fds := List (Str × V)
def fget (d : Fds) (n : Str) : Option V := (d.find? (fun f => f.1 == n)).map (·.2)
theorem z2y {f : Str × V} {r : Fds} {n : Str} : fget (f :: r) n = if f.1 = n then some f.2 else fget r n := by
 unfold fget
 rw [List.find?_cons]
 by_cases h : f.1 = n
 ·rw [show (f.1 == n) = true from by simpa using h, if_pos h]; rfl
 ·rw [show (f.1 == n) = false from by simpa using h, if_neg h]
theorem zh6 {d : Fds} {n : Str} {v : V} (h : fget d n = some v) : (n, v) ∈ d := by
 induction d with
 | nil => cases h
 | cons f r ih =>
  rw [z2y] at h
  by_cases he : f.1 = n
  ·rw [if_pos he] at h; injection h with h; subst h; subst he; simp
  ·rw [if_neg he] at h; simp [ih h]
theorem fget_none {d : Fds} {n : Str} : fget d n = none ↔ n ∉ d.map (·.1) := by
 induction d with
 | nil => simp [fget]
 | cons f r ih =>
  rw [z2y]
  by_cases he : f.1 = n
  ·rw [if_pos he]; simp [he]
  ·rw [if_neg he, ih, List.map_cons, List.mem_cons, not_or]
   exact ⟨fun h => ⟨fun e => he e.symm, h⟩, fun h => h.2⟩
theorem bl_lt {a b : Str} : Op.bytesLess a b = true ↔ zlt a b := by
 unfold zlt cmpS
 cases Op.bytesLess a b with
 | true => simp
 | false => rw [if_neg (by simp)]; split <;> simp
structure Cut (d : Fds) (n : Str) (c : Nat) : Prop where
 le : c ≤ d.length
 lo : ∀ k x, d[k]? = some x → k < c → Op.bytesLess x.1 n = true
 hi : ∀ k x, d[k]? = some x → c ≤ k → Op.bytesLess x.1 n = false
theorem Z59 (x : Str × V) (n : Str) : zp3 x n = some (if Op.bytesLess x.1 n = true then -1 else if x.1 = n then 0 else 1) := by
 unfold zp3
 cases h : Op.bytesLess x.1 n with
 | true => rfl
 | false =>
  rw [cond_false, Bool.false_or]
  by_cases he : x.1 = n
  ·rw [show (x.1 == n) = true from by simpa using he, if_neg (by simp), if_pos he]; rfl
  ·rw [show (x.1 == n) = false from by simpa using he, if_neg (by simp), if_neg he]; rfl
theorem Zaf {i j : Nat} (h : i + j ≤ 1073741824) : IntKind.i64.wrap (zoj .u64 (IntKind.u64.wrap (IntKind.i64.wrap ((i : Int) + (j : Int)))) 1) = (((i + j) / 2 : Nat) : Int) := by
 have e1 : IntKind.i64.wrap ((i : Int) + (j : Int)) = ((i + j : Nat) : Int) := by rw [z3y (by omega) (by omega)]; omega
 have e2 : IntKind.u64.wrap ((i + j : Nat) : Int) = ((i + j : Nat) : Int) := by
  have h : IntKind.u64.wrap ((i + j : Nat) : Int) = ((i + j : Nat) : Int) % 18446744073709551616 := rfl
  rw [h]; omega
 have e3 : zoj .u64 ((i + j : Nat) : Int) 1 = ((i + j : Nat) : Int).fdiv 2 := rfl
 rw [e1, e2, e3, Int.fdiv_eq_ediv_of_nonneg _ (by omega), z3y (by omega) (by omega)]
 omega
theorem bs_l (d : Fds) (n : Str) (hs : (d.map (·.1)).Pairwise zlt) (hd : d.length ≤ 268435456) : ∀ m i j, j - i ≤ m → i ≤ j → j ≤ d.length →
 (∀ k x, d[k]? = some x → k < i → Op.bytesLess x.1 n = true) → (∀ k x, d[k]? = some x → j ≤ k → Op.bytesLess x.1 n = false) →
 ∃ c, Cut d n c ∧ ziv d n (i : Int) (j : Int) = some ((c : Int), decide ((d[c]?).map (·.1) = some n)) := by
 have sorted : ∀ (a b : Nat) (x y : Str × V), a < b → d[a]? = some x → d[b]? = some y → zlt x.1 y.1 := by
  intro a b x y hab hx hy
  have := List.pairwise_iff_getElem.1 hs a b (by simp [(List.getElem?_eq_some_iff.1 hx).1]) (by simp [(List.getElem?_eq_some_iff.1 hy).1]) hab
  simp only [List.getElem_map] at this
  rwa [(List.getElem?_eq_some_iff.1 hx).2, (List.getElem?_eq_some_iff.1 hy).2] at this
 intro m
 induction m with
 | zero =>
  intro i j h1 h2 h3 hlo hhi
  have e : i = j := by omega
  subst e
  refine ⟨i, ⟨h3, hlo, hhi⟩, ?_⟩
  rw [ziu]
  simp only [z7i, zav (by omega : ¬ i < i), cond_false]
  by_cases hi : i < d.length
  ·obtain ⟨x, hx, _⟩ := dropc hi
   rw [z9z hi, cond_true, z21, hx, Option.bind_some, Z59, Option.bind_some, if_neg (by rw [hhi i x hx (Nat.le_refl _)]; simp)]
   by_cases hn : x.1 = n
   ·rw [if_pos hn]; simp [hn]
   ·rw [if_neg hn]; simp [hn]
  ·rw [zav hi, cond_false, List.getElem?_eq_none (by omega)]; rfl
 | succ m ih =>
  intro i j h1 h2 h3 hlo hhi
  by_cases hij : i < j
  ·have hmid : (i + j) / 2 < d.length := by omega
   obtain ⟨x, hx, _⟩ := dropc hmid
   rw [ziu]
   simp only [z7i, z9z hij, cond_true, Zaf (by omega : i + j ≤ 1073741824), z21, hx, Option.bind_some, Z59]
   cases hb : Op.bytesLess x.1 n with
   | true =>
    rw [if_pos rfl, show decide ((-1 : Int) < 0) = true from rfl, cond_true, z3y (by omega) (by omega), show ((((i + j) / 2 : Nat) : Int) + 1) = (((i + j) / 2 + 1 : Nat) : Int) from by omega]
    refine ih _ j (by omega) (by omega) h3 (fun k y hy hk => ?_) hhi
    rcases Nat.lt_or_ge k ((i + j) / 2) with h | h
    ·exact bl_lt.2 (z6k (sorted _ _ _ _ h hy hx) (bl_lt.1 hb))
    ·have : k = (i + j) / 2 := by omega
     subst this
     rw [hx] at hy; injection hy with hy; subst hy; exact hb
   | false =>
    have hz : decide ((if False then (-1 : Int) else if x.1 = n then 0 else 1) < 0) = false := by
     rw [if_neg (by simp)]; split <;> rfl
    rw [if_neg (by simp)]
    have hz2 : decide ((if x.1 = n then (0 : Int) else 1) < 0) = false := by split <;> rfl
    rw [hz2, cond_false]
    refine ih i _ (by omega) (by omega) (by omega) hlo (fun k y hy hk => ?_)
    rcases Nat.lt_or_ge ((i + j) / 2) k with h | h
    ·cases hc : Op.bytesLess y.1 n with
     | false => rfl
     | true =>
      have := bl_lt.2 (z6k (sorted _ _ _ _ h hx hy) (bl_lt.1 hc))
      rw [hb] at this; cases this
    ·have : k = (i + j) / 2 := by omega
     subst this
     rw [hx] at hy; injection hy with hy; subst hy; exact hb
  ·exact ih i j (by omega) h2 h3 hlo hhi
theorem zlj {d : Fds} {n : Str} (hs : (d.map (·.1)).Pairwise zlt) (hd : d.length ≤ 268435456) : ∃ c, Cut d n c ∧ zkw d n = some ((c : Int), decide ((d[c]?).map (·.1) = some n)) := by
 obtain ⟨c, h1, h2⟩ := bs_l d n hs hd d.length 0 d.length (by omega) (by omega) (by omega) (fun k x _ h => by omega) (fun k x hx h => by have := (List.getElem?_eq_some_iff.1 hx).1; omega)
 refine ⟨c, h1, ?_⟩
 unfold zkw zwd
 rw [show ((0 : Nat) : Int) = 0 from rfl] at h2
 rw [h2]; rfl
theorem zum {d : Fds} {n : Str} {c : Nat} (hs : (d.map (·.1)).Pairwise zlt) (h : Cut d n c) : fget d n = match d[c]? with | some x => if x.1 = n then some x.2 else none | none => none := by
 have key : ∀ (d : Fds) (c : Nat), (d.map (·.1)).Pairwise zlt → (∀ k x, d[k]? = some x → k < c → Op.bytesLess x.1 n = true) → (∀ k x, d[k]? = some x → c ≤ k → Op.bytesLess x.1 n = false) → fget d n = match d[c]? with | some x => if x.1 = n then some x.2 else none | none => none := by
  intro d
  induction d with
  | nil => intro c _ _ _; simp [fget]
  | cons f r ih =>
   intro c hs hlo hhi
   rw [List.map_cons, List.pairwise_cons] at hs
   rw [z2y]
   cases c with
   | zero =>
    rw [List.getElem?_cons_zero]
    simp only
    by_cases he : f.1 = n
    ·rw [if_pos he, if_pos he]
    ·rw [if_neg he, if_neg he, fget_none]
     intro hm
     have h1 := hs.1 n hm
     rw [← bl_lt, hhi 0 f rfl (Nat.le_refl _)] at h1; cases h1
   | succ c =>
    have h0 := hlo 0 f rfl (by omega)
    rw [if_neg (fun e => by rw [e] at h0; exact z57 _ (bl_lt.1 h0)), List.getElem?_cons_succ]
    exact ih c hs.2 (fun k x hx hk => hlo (k + 1) x (by simpa using hx) (by omega)) (fun k x hx hk => hhi (k + 1) x (by simpa using hx) (by omega))
 exact key d c hs h.lo h.hi
def fdF : V → Option Fds
 | .dict d => some d
 | .record _ _ d => some d
 | _ => none
theorem Z56 {v : V} (h : v ≠ .nothing) : zw3 v = some (match fdF v with | some d => (d, true) | none => ([], false)) := by
 cases v with
 | nothing => exact absurd rfl h
 | _ => rfl
theorem Z04 {v : V} (h : Can v) : v ≠ .nothing := by
 rintro rfl
 have := z2m h
 simp [z2a, z30, zcn, nearE] at this
theorem zc4 {l : List Str} (h : z49 l = 0) : l.length ≤ 4096 := by
 unfold z49 at h
 split at h
 ·cases h
 ·omega
theorem zms : ∀ {l : List Str} {p : Option Str}, zbe p l = true → ∀ s, s ∈ l → z3z s = true
 | s :: r, p, h, t, ht => by
  simp only [zbe, Bool.and_eq_true] at h
  rcases List.mem_cons.1 ht with rfl | ht
  ·exact h.1.1
  ·exact zms h.2 t ht
theorem zjw {l : List Str} (h : z49 l = 0) : ∀ s, s ∈ l → z3z s = true := by
 unfold z49 at h
 split at h
 ·cases h
 ·split at h
  ·rename_i h2; exact zms h2
  ·cases h
theorem zu4 {v : V} {d : Fds} (hc : Can v) (h : fdF v = some d) : z49 (d.map (·.1)) = 0 := by
 have hn := hc.1.own
 cases v with
 | dict x => cases h; exact hn
 | record c k x =>
  cases h
  simp only [nearE] at hn
  split at hn
  ·cases hn
  ·split at hn
   ·cases hn
   ·exact hn
 | _ => cases h
theorem z9e {v : V} {d : Fds} (h : fdF v = some d) : v.parts = d.map (·.2) := by
 cases v <;> first | (cases h; rfl) | cases h
def z1e (v : V) (s : Stp) : V × Int :=
 match v with
 | .list l => if s.f_At = true then (match l[s.f_Index.toNat]? with | some x => (x, 0) | none => (.nil, 42)) else (.nil, 41)
 | v => match fdF v with
  | some d => if s.f_At = true then (.nil, 41) else (match fget d s.f_Name with | some x => (x, 0) | none => (.nil, 40))
  | none => (.nil, 41)
theorem z8b {v : V} {d : Fds} (h : fdF v = some d) (s : Stp) : z1e v s = if s.f_At = true then (V.nil, (41 : Int)) else (match fget d s.f_Name with | some x => (x, (0 : Int)) | none => (V.nil, 40)) := by
 cases v <;> first | (cases h; rfl) | cases h
theorem zkk {v : V} {d : Fds} (h : fdF v = some d) (n : Str) : z1e v (stN n) = match fget d n with | some x => (x, 0) | none => (.nil, 40) := by
 rw [z8b h, if_neg (by simp [stN])]; rfl
theorem zdg (l : List V) (i : Nat) : z1e (.list l) (stA i) = match l[i]? with | some x => (x, 0) | none => (.nil, 42) := by
 simp only [z1e]
 rw [if_pos (by rfl), show (stA i).f_Index.toNat = i from by simp [stA]]
structure Wv (N : Nat) (v : V) : Prop where
 nn : v ≠ .nothing
 fd : ∀ d, fdF v = some d → (d.map (·.1)).Pairwise zlt ∧ d.length ≤ N
 li : ∀ l, v = .list l → l.length ≤ N
inductive Wd (N : Nat) : V → Prop
 | mk {v : V} : Wv N v → (∀ x, x ∈ v.parts → Wd N x) → Wd N v
theorem Wd.v {N : Nat} {v : V} (h : Wd N v) : Wv N v := by cases h; assumption
theorem Wd.part {N : Nat} {v : V} (h : Wd N v) : ∀ x, x ∈ v.parts → Wd N x := by cases h; assumption
theorem Z1n {v : V} (h : Near v) : Wd 4096 v := by
 induction h with
 | @mk x h1 h2 ih =>
  refine .mk ⟨fun e => (by subst e; cases h1), fun d hd => ?_, fun l hl => (by subst hl; exact z8o h1)⟩ ih
  have hf : z49 (d.map (·.1)) = 0 := by
   cases x with
   | dict y => cases hd; exact h1
   | record c k y =>
    cases hd
    simp only [nearE] at h1
    split at h1
    ·cases h1
    ·split at h1
     ·cases h1
     ·exact h1
   | _ => cases hd
  exact ⟨zc3 hf, by have := zc4 hf; rwa [List.length_map] at this⟩
theorem Z03 {v : V} (hc : Can v) : Wd 4096 v := Z1n hc.1
theorem zt9 {N : Nat} {v : V} {s : Stp} (hw : Wv N v) (hN : N ≤ 268435456) (hs : za1 s = 0) : z7k v s = some (z1e v s) := by
 have flds : ∀ d, fdF v = some d → v.isList = false → z7k v s = some (z1e v s) := by
  intro d hd hl
  unfold z7k
  rw [hl, cond_false]
  unfold zc7
  rw [cond_false, Z56 hw.nn, hd, Option.bind_some, z8b hd]
  simp only [Bool.not_true, cond_false]
  unfold zf8
  cases s.f_At with
  | true => rfl
  | false =>
   obtain ⟨c, h1, h2⟩ := zlj (n := s.f_Name) (hw.fd d hd).1 (Nat.le_trans (hw.fd d hd).2 hN)
   rw [cond_false, if_neg (by simp), h2, Option.bind_some, zum (hw.fd d hd).1 h1]
   simp only
   cases hx : d[c]? with
   | none => rfl
   | some x =>
    simp only [Option.map_some, Option.some.injEq]
    by_cases he : x.1 = s.f_Name
    ·rw [decide_eq_true he, if_pos he, Bool.not_true, cond_false, z21, hx]; rfl
    ·rw [decide_eq_false he, if_neg he]; rfl
 have none_ : fdF v = none → v.isList = false → z1e v s = (.nil, 41) → z7k v s = some (z1e v s) := by
  intro hd hl he
  unfold z7k
  rw [hl, cond_false]
  unfold zc7
  rw [cond_false, Z56 hw.nn, hd, he]; rfl
 cases v with
 | list l =>
  unfold z7k z1e
  simp only [V.isList, cond_true, V.asList]
  cases ha : s.f_At with
  | true =>
   obtain ⟨_, h1, h2⟩ := zuu hs ha
   unfold zc7
   rw [cond_true, if_pos rfl]
   simp only [V.asList]
   have e : s.f_Index = ((s.f_Index.toNat : Nat) : Int) := by omega
   by_cases hl : s.f_Index.toNat < l.length
   ·obtain ⟨x, hx, _⟩ := dropc hl
    rw [decide_eq_false (by omega : ¬ s.f_Index ≥ ((l.length : Nat) : Int)), cond_false, e, z21, Int.toNat_natCast, hx]; rfl
   ·rw [decide_eq_true (by omega : s.f_Index ≥ ((l.length : Nat) : Int)), cond_true, List.getElem?_eq_none (by omega)]
  | false => rfl
 | dict d => exact flds d rfl rfl
 | record c k d => exact flds d rfl rfl
 | nothing => exact absurd rfl hw.nn
 | _ => exact none_ rfl rfl rfl
theorem za8 {v x : V} {s : Stp} (h : z1e v s = (x, 0)) : x ∈ v.parts := by
 have flds : ∀ d, fdF v = some d → x ∈ v.parts := by
  intro d hd
  rw [z8b hd] at h
  rw [z9e hd]
  split at h
  ·cases h
  ·cases hg : fget d s.f_Name with
   | none => rw [hg] at h; cases h
   | some y => rw [hg] at h; injection h with h; subst h; exact List.mem_map.2 ⟨_, zh6 hg, rfl⟩
 cases v with
 | list l =>
  simp only [z1e] at h
  split at h
  ·cases hg : l[s.f_Index.toNat]? with
   | none => rw [hg] at h; cases h
   | some y => rw [hg] at h; injection h with h; subst h; exact List.mem_of_getElem? hg
  ·cases h
 | dict d => exact flds d rfl
 | record c k d => exact flds d rfl
 | _ => cases h
def getF (v : V) : List Stp → V × Int
 | [] => (v, 0)
 | s :: r => if (z1e v s).2 ≠ 0 then (.nil, (z1e v s).2) else getF (z1e v s).1 r
theorem Z55 {N : Nat} (hN : N ≤ 268435456) (w : List Stp) : ∀ k i v, k + i = w.length → Wd N v → (∀ s, s ∈ w → za1 s = 0) → zhx w v i = some (getF v (w.drop i))
 | 0, i, v, h, hc, hw => by
  rw [zhw]
  simp only [z7a, zav (by omega : ¬ i < w.length), cond_false]
  rw [List.drop_of_length_le (by omega)]; rfl
 | k + 1, i, v, h, hc, hw => by
  obtain ⟨s, hs, hd⟩ := dropc (by omega : i < w.length)
  rw [zhw]
  simp only [z7a, z9z (by omega : i < w.length), cond_true, hs, Option.bind_some, zt9 hc.v hN (hw s (List.mem_of_getElem? hs))]
  rw [hd, getF]
  by_cases he : (z1e v s).2 = 0
  ·rw [if_neg (by simp [he]), show ((z1e v s).2 != 0) = false from by simp [he], cond_false]
   have hp : z1e v s = ((z1e v s).1, 0) := Prod.ext rfl he
   exact Z55 hN w k (i + 1) _ (by omega) (hc.part _ (za8 hp)) hw
  ·rw [if_pos he, show ((z1e v s).2 != 0) = true from by simpa using he, cond_true]
theorem Z84 {N : Nat} {v : V} {w : List Stp} (hc : Wd N v) (hN : N ≤ 268435456) (hw : ∀ s, s ∈ w → za1 s = 0) : zsc v w = some (getF v w) := by
 have := Z55 hN w w.length 0 v (by omega) hc hw
 rw [List.drop_zero] at this; exact this
theorem zki {w : List Stp} (h : z88 w = 0) : w.length ≤ 64 ∧ ∀ s, s ∈ w → za1 s = 0 := by
 unfold z88 at h
 split at h
 ·cases h
 ·exact ⟨by omega, steps_zero.1 h⟩
theorem Z2s {x : V} (h : (z2a x).2 = 0) : Can x := Classical.byContradiction fun hc => z60 hc h
end Go.Proofs.YtmoijodjgkfhgaaGreat

namespace Go.Proofs.YtmoijodjgkfhgaaGreat
open Go Aw
set_option linter.unusedVariables false
set_option linter.unusedSimpArgs false
set_option maxRecDepth 8000
theorem zus {x : V} (h : (z2a x).2 = 0) : Can x := Classical.byContradiction fun hc => z60 hc h
theorem zgu (x y : V) : z3d y x = - z3d x y := by rw [zgv, zgv, z5v]
theorem zaq (x : V) : z3d x x = 0 := by have := zgu x x; omega
theorem zqz (x y : V) : z9t x y = z9t y x := by
 unfold z9t
 rw [zgu x y]
 have e : (-z3d x y == 0) = (z3d x y == 0) := by rw [Bool.eq_iff_iff]; simp only [beq_iff_eq]; omega
 rw [e]
 cases (z2a x).2 == 0 <;> cases (z2a y).2 == 0 <;> rfl
theorem zr0 {x : V} (h : Can x) : z9t x x = true := by
 unfold z9t; rw [z2m h, zaq]; rfl
theorem zcr {x y : V} (h : z9t x y = true) : Can x ∧ Can y ∧ z3d x y = 0 := by
 unfold z9t at h
 simp only [Bool.and_eq_true, beq_iff_eq] at h
 exact ⟨zus h.1, zus h.2.1, h.2.2⟩
theorem zkp {x y : V} (hx : Can x) (hy : Can y) (h : z3d x y = 0) : z9t x y = true := by
 unfold z9t; rw [z2m hx, z2m hy, h]; rfl
theorem zpj {x y z : V} (h1 : z3d x y = 0) (h2 : z3d y z = 0) : z3d x z = 0 := by
 have a := z9b (key x) (key y) (key z)
 have b := z9b (key z) (key y) (key x)
 rw [zgv] at h1 h2 ⊢
 have c := z5v (key x) (key z)
 have d := z5v (key x) (key y)
 have e := z5v (key y) (key z)
 have a1 := (a (by omega) (by omega)).1
 have b1 := (b (by omega) (by omega)).1
 omega
theorem th0 {c d : Int} (h : th c d = 0) : c = 0 ∧ d = 0 := by
 unfold th at h
 by_cases hc : c = 0
 ·rw [if_pos hc] at h; exact ⟨hc, h⟩
 ·rw [if_neg hc] at h; exact absurd h hc
theorem c30 {a b : Int} (h : c3 a b = 0) : a = b := by
 unfold c3 at h
 by_cases h1 : a < b
 ·rw [if_pos h1] at h; cases h
 ·rw [if_neg h1] at h
  by_cases h2 : a > b
  ·rw [if_pos h2] at h; cases h
  ·omega
theorem Z6q {s t : Str} (h : cmpS s t = 0) : s = t := by
 unfold cmpS at h
 split at h
 ·cases h
 ·split at h
  ·rename_i h2; simpa using h2
  ·cases h
theorem ordL0 : ∀ {a b : List V}, z44 a b = 0 → a.length = b.length ∧ ∀ (i : Nat) x y, a[i]? = some x → b[i]? = some y → z3d x y = 0
 | [], [], _ => ⟨rfl, fun i x y h => by simp at h⟩
 | [], _ :: _, h => by simp [z44] at h
 | _ :: _, [], h => by simp [z44] at h
 | x :: r, y :: s, h => by
  rw [z44] at h
  obtain ⟨h1, h2⟩ := th0 h
  obtain ⟨h3, h4⟩ := ordL0 h2
  refine ⟨by simp [h3], fun i p q hp hq => ?_⟩
  cases i with
  | zero => simp at hp hq; subst hp; subst hq; exact h1
  | succ i => exact h4 i p q (by simpa using hp) (by simpa using hq)
theorem ordD1 : ∀ {a b : List (Str × V)}, z81 a b = 0 → a.map (·.1) = b.map (·.1) ∧ z44 (a.map (·.2)) (b.map (·.2)) = 0
 | [], [], _ => ⟨rfl, by simp [z44]⟩
 | [], _ :: _, h => by simp [z81] at h
 | _ :: _, [], h => by simp [z81] at h
 | (s, x) :: r, (t, y) :: q, h => by
  rw [z81] at h
  obtain ⟨h1, h2⟩ := th0 h
  obtain ⟨h3, h4⟩ := th0 h1
  obtain ⟨h5, h6⟩ := ordD1 h2
  have e := Z6q h3
  subst e
  exact ⟨by simp only [List.map_cons, h5], by simp only [List.map_cons]; rw [z44, h4, h6]; rfl⟩
theorem Z7y {x y : V} (h : z3d x y = 0) : z1d x = z1d y := Classical.byContradiction fun hn => by
 rw [zsq hn] at h; exact hn (c30 h)
theorem simL : ∀ (a b : List V), (∀ u, u ∈ a → ∀ v, z3d u v = 0 → Near v → Near u ∧ cnt u = cnt v ∧ dpt u = dpt v) → z44 a b = 0 → (∀ v, v ∈ b → Near v) → (∀ u, u ∈ a → Near u) ∧ cntL a = cntL b ∧ dptL a = dptL b
 | [], [], _, _, _ => ⟨fun u hu => (by cases hu), rfl, rfl⟩
 | [], _ :: _, _, h, _ => by simp [z44] at h
 | _ :: _, [], _, h, _ => by simp [z44] at h
 | x :: r, y :: s, ih, h, hb => by
  rw [z44] at h
  obtain ⟨h1, h2⟩ := th0 h
  obtain ⟨n1, c1, d1⟩ := ih x (by simp) y h1 (hb y (by simp))
  obtain ⟨n2, c2, d2⟩ := simL r s (fun u hu => ih u (by simp [hu])) h2 (fun v hv => hb v (by simp [hv]))
  refine ⟨fun u hu => ?_, by simp only [cntL, c1, c2], by simp only [dptL, d1, d2]⟩
  rcases List.mem_cons.1 hu with rfl | hu
  ·exact n1
  ·exact n2 u hu
theorem sim (x : V) : ∀ y, z3d x y = 0 → Near y → Near x ∧ cnt x = cnt y ∧ dpt x = dpt y := by
 induction x using V.byParts with
 | _ x ih =>
 intro y h hy
 have hk := Z7y h
 have hn := hy.own
 have core : nearE x = nearE y ∧ z44 x.parts y.parts = 0 := by
  cases x with
  | bool a => cases y <;> first | exact ⟨rfl, by simp [V.parts, z44]⟩ | (simp [z1d] at hk)
  | int a => cases y <;> first | exact ⟨rfl, by simp [V.parts, z44]⟩ | (simp [z1d] at hk)
  | float a => cases y <;> first | exact ⟨rfl, by simp [V.parts, z44]⟩ | (simp [z1d] at hk)
  | ref a => cases y <;> first | exact ⟨rfl, by simp [V.parts, z44]⟩ | (simp [z1d] at hk)
  | nil => cases y <;> first | exact ⟨rfl, by simp [V.parts, z44]⟩ | (simp [z1d] at hk)
  | nothing => cases y <;> first | exact ⟨rfl, by simp [V.parts, z44]⟩ | (simp [z1d] at hk)
  | alien a => cases y <;> first | exact ⟨rfl, by simp [V.parts, z44]⟩ | (simp [z1d] at hk)
  | text a =>
   cases y with
   | text b => rw [z3d] at h; rw [Z6q h]; exact ⟨rfl, by simp [V.parts, z44]⟩
   | _ => simp [z1d] at hk
  | bytes a =>
   cases y with
   | bytes b => rw [z3d] at h; rw [Z6q h]; exact ⟨rfl, by simp [V.parts, z44]⟩
   | _ => simp [z1d] at hk
  | list a =>
   cases y with
   | list b => rw [z3d] at h; exact ⟨by simp only [nearE, (ordL0 h).1], h⟩
   | _ => simp [z1d] at hk
  | dict a =>
   cases y with
   | dict b => rw [z3d] at h; obtain ⟨h1, h2⟩ := ordD1 h; exact ⟨by simp only [nearE, h1], h2⟩
   | _ => simp [z1d] at hk
  | record c v a =>
   cases y with
   | record c' v' b =>
    rw [z3d] at h
    obtain ⟨h1, h2⟩ := th0 h
    obtain ⟨h3, h4⟩ := th0 h2
    obtain ⟨h5, h6⟩ := ordD1 h4
    exact ⟨by simp only [nearE, h5, Z6q h1, c30 h3], h6⟩
   | _ => simp [z1d] at hk
 obtain ⟨n1, c1, d1⟩ := simL x.parts y.parts ih core.2 (fun v hv => hy.part v hv)
 exact ⟨.mk (by rw [core.1]; exact hn) n1, by rw [z5y, z5y, c1], by rw [z8v, z8v, d1]⟩
theorem Z2r {x y : V} (h : z3d x y = 0) (hy : Can y) : Can x := by
 obtain ⟨a, b, c⟩ := sim x y h hy.1
 exact ⟨a, by rw [b]; exact hy.2.1, by rw [c]; exact hy.2.2⟩
end Go.Proofs.YtmoijodjgkfhgaaGreat

namespace Go.Proofs.YtmoijodjgkfhgaaGreat
open Go Aw
set_option linter.unusedVariables false
set_option linter.unusedSimpArgs false
set_option maxRecDepth 8000
def z5j : Fds → Str → V → Fds
 | [], n, x => [(n, x)]
 | f :: r, n, x => if f.1 = n then (n, x) :: r else if Op.bytesLess f.1 n = true then f :: z5j r n x else (n, x) :: f :: r
def zpz : Fds → Str → Fds
 | [], _ => []
 | f :: r, n => if f.1 = n then r else f :: zpz r n
theorem zuk {f : Str × V} {r : Fds} {n : Str} {c : Nat} (h : Cut (f :: r) n (c + 1)) : Cut r n c :=
 ⟨by have := h.le; simp at this; omega, fun k x hx hk => h.lo (k + 1) x (by simpa using hx) (by omega), fun k x hx hk => h.hi (k + 1) x (by simpa using hx) (by omega)⟩
theorem zul {f : Str × V} {r : Fds} {n : Str} {c : Nat} (h : Cut (f :: r) n (c + 1)) : Op.bytesLess f.1 n = true ∧ f.1 ≠ n := by
 have h0 := h.lo 0 f rfl (by omega)
 exact ⟨h0, fun e => by rw [e] at h0; exact z57 _ (bl_lt.1 h0)⟩
theorem zix {n : Str} {x : V} : ∀ {d : Fds} {c : Nat} {y : Str × V}, Cut d n c → d[c]? = some y → y.1 = n → z5j d n x = d.set c (y.1, x)
 | [], c, y, _, h, _ => by simp at h
 | f :: r, 0, y, h, hx, hy => by
  simp at hx; subst hx; subst hy
  rw [z5j, if_pos rfl]; rfl
 | f :: r, c + 1, y, h, hx, hy => by
  obtain ⟨h1, h2⟩ := zul h
  rw [z5j, if_neg h2, if_pos h1, zix (zuk h) (by simpa using hx) hy]; rfl
theorem zs7 {n : Str} {x : V} : ∀ {d : Fds} {c : Nat}, Cut d n c → (d[c]?).map (·.1) ≠ some n → z5j d n x = d.take c ++ [(n, x)] ++ d.drop c
 | [], c, h, _ => by simp [z5j]
 | f :: r, 0, h, hn => by
  have h0 := h.hi 0 f rfl (Nat.le_refl _)
  rw [z5j, if_neg (fun e => hn (by simp [e])), if_neg (by rw [h0]; simp)]; rfl
 | f :: r, c + 1, h, hn => by
  obtain ⟨h1, h2⟩ := zul h
  rw [z5j, if_neg h2, if_pos h1, zs7 (zuk h) (by simpa using hn)]; rfl
theorem zjz {n : Str} : ∀ {d : Fds} {c : Nat} {y : Str × V}, Cut d n c → d[c]? = some y → y.1 = n → zpz d n = d.take c ++ d.drop (c + 1)
 | [], c, y, _, h, _ => by simp at h
 | f :: r, 0, y, h, hx, hy => by
  simp at hx; subst hx; subst hy
  rw [zpz, if_pos rfl]; rfl
 | f :: r, c + 1, y, h, hx, hy => by
  obtain ⟨h1, h2⟩ := zul h
  rw [zpz, if_neg h2, zjz (zuk h) (by simpa using hx) hy]; rfl
theorem Z4z {α : Type} {b : Nat} {l : List α} {k : Nat} {a : α} (hk : k ≤ l.length) (hb : b ≤ 1024) (hl : l.length ≤ 268435456) : Z3b b l (k : Int) a = some (l.take k ++ [a] ++ l.drop k) := by
 unfold Z3b
 have h1 : (l.length + 1) * b ≤ 268435457 * 1024 := Nat.mul_le_mul (by omega) hb
 rw [decide_eq_true (by omega : (0 : Int) ≤ (k : Int)), decide_eq_true (by omega : (k : Int) ≤ (l.length : Int)), Nat.ble_eq_true_of_le (by omega : (l.length + 1) * b ≤ 140737488355328), Nat.ble_eq_true_of_le (by omega : l.length ≤ 4611686018427387904)]
 simp only [Bool.and_self, cond_true, Int.toNat_natCast]
theorem Z00 {α : Type} {l : List α} {k : Nat} (hk : k < l.length) (hl : l.length ≤ 268435456) : Z2n l (k : Int) (IntKind.i64.wrap ((k : Int) + 1)) = some (l.take k ++ l.drop (k + 1)) := by
 unfold Z2n
 rw [z3y (by omega) (by omega), decide_eq_true (by omega : (0 : Int) ≤ (k : Int)), decide_eq_true (by omega : (k : Int) < (l.length : Int)), decide_eq_true rfl]
 simp only [Bool.and_self, cond_true, Int.toNat_natCast]
theorem zhl {d : Fds} {n : Str} {x : V} (hs : (d.map (·.1)).Pairwise zlt) (hl : d.length ≤ 268435456) : zp9 d n x = some (z5j d n x) := by
 unfold zp9 zpg
 rw [Z05 (by omega) (by omega), Option.bind_some, Option.bind_some]
 obtain ⟨c, h1, h2⟩ := zlj (n := n) hs hl
 rw [h2, Option.bind_some]
 by_cases he : (d[c]?).map (·.1) = some n
 ·obtain ⟨y, hy, hn⟩ := Option.map_eq_some_iff.1 he
  rw [decide_eq_true he, cond_true, z21, hy, Option.bind_some, zix h1 hy hn, Int.toNat_natCast]
 ·rw [decide_eq_false he, cond_false, Z4z h1.le (by omega) hl, Option.bind_some, zs7 h1 he]
theorem zd8 {d : Fds} {s : Stp} (hs : (d.map (·.1)).Pairwise zlt) (hl : d.length ≤ 268435456) {y : V} (hy : fget d s.f_Name = some y) : zp6 d s = some (zpz d s.f_Name) := by
 unfold zp6 zpg
 obtain ⟨c, h1, h2⟩ := zlj (n := s.f_Name) hs hl
 rw [h2, Option.bind_some, Z05 (by omega) (by omega), Option.bind_some, Option.bind_some]
 rw [zum hs h1] at hy
 cases hx : d[c]? with
 | none => rw [hx] at hy; cases hy
 | some z =>
  rw [hx] at hy
  simp only at hy
  by_cases hz : z.1 = s.f_Name
  ·rw [Z00 (List.getElem?_eq_some_iff.1 hx).1 hl, Option.bind_some, zjz h1 hx hz]
  ·rw [if_neg hz] at hy; cases hy
def setFd (v : V) (d : Fds) : V :=
 match v with
 | .dict _ => .dict d
 | .record c k _ => .record c k d
 | v => v
def z36 (v : V) (s : Stp) (x : V) : V :=
 match v with
 | .list l => if s.f_Index = ((l.length : Nat) : Int) then .list (l ++ [x]) else .list (l.set s.f_Index.toNat x)
 | v => match fdF v with
  | some d => setFd v (z5j d s.f_Name x)
  | none => v
def z4i (v : V) (s : Stp) : V :=
 match v with
 | .list l => .list (l.take s.f_Index.toNat ++ l.drop (s.f_Index.toNat + 1))
 | v => match fdF v with
  | some d => setFd v (zpz d s.f_Name)
  | none => v
def Z0z (room : Bool) (v : V) (s : Stp) : Prop := (z1e v s).2 = 0 ∨ (room = true ∧ ((z1e v s).2 = 40 ∨ ((z1e v s).2 = 42 ∧ v.isList = true ∧ s.f_Index = ((v.asList.length : Nat) : Int))))
theorem z61 {v : V} {d : Fds} (h : fdF v = some d) (s : Stp) (x : V) : z36 v s x = setFd v (z5j d s.f_Name x) := by
 cases v <;> first | (cases h; rfl) | cases h
theorem zba {v : V} {d : Fds} (h : fdF v = some d) (s : Stp) : z4i v s = setFd v (zpz d s.f_Name) := by
 cases v <;> first | (cases h; rfl) | cases h
theorem z7z {v : V} {d e : Fds} (h : fdF v = some d) : fdF (setFd v e) = some e := by
 cases v <;> first | (cases h; rfl) | cases h
theorem set_set {v : V} {d e : Fds} : setFd (setFd v d) e = setFd v e := by cases v <;> rfl
theorem set_same {v : V} {d : Fds} (h : fdF v = some d) : setFd v d = v := by
 cases v <;> first | (cases h; rfl) | cases h
theorem zjk {room : Bool} {l : List V} {s : Stp} (hs : za1 s = 0) (h : Z0z room (.list l) s) : s = stA s.f_Index.toNat ∧ s.f_Index = ((s.f_Index.toNat : Nat) : Int) ∧ s.f_Index.toNat ≤ l.length := by
 cases ha : s.f_At with
 | false =>
  have e : (z1e (.list l) s).2 = 41 := by simp only [z1e]; rw [if_neg (by rw [ha]; simp)]
  rcases h with h | ⟨_, h | ⟨h, _⟩⟩ <;> rw [e] at h <;> cases h
 | true =>
  obtain ⟨h1, h2, h3⟩ := zuu hs ha
  refine ⟨h1, by omega, ?_⟩
  have e := zdg l s.f_Index.toNat
  rw [← h1] at e
  cases hx : l[s.f_Index.toNat]? with
  | some y => have := (List.getElem?_eq_some_iff.1 hx).1; omega
  | none =>
   rw [hx] at e
   rcases h with h | ⟨_, h | ⟨h, _, h4⟩⟩
   ·rw [e] at h; cases h
   ·rw [e] at h; cases h
   ·simp only [V.asList] at h4; omega
theorem zkg {N : Nat} {room : Bool} {v : V} {s : Stp} {x : V} (hv : Wv N v) (hN : N ≤ 268435456) (hs : za1 s = 0) (h : Z0z room v s) : zan v s x = some (z36 v s x) := by
 have flds : ∀ d, fdF v = some d → v.isList = false → zan v s x = some (z36 v s x) := by
  intro d hd hl
  obtain ⟨h1, h2⟩ := hv.fd d hd
  have hw := zhl (n := s.f_Name) (x := x) h1 (Nat.le_trans h2 hN)
  unfold zan
  rw [hl, cond_false, z61 hd]
  cases v with
  | dict y => cases hd; simp only [V.isDict, cond_true, V.asDict, hw, Option.bind_some, setFd]
  | record c k y =>
   cases hd
   simp only [V.isDict, cond_false, V.isRec, cond_true, V.asRec, Option.bind_some, hw, setFd]
  | _ => cases hd
 cases v with
 | list l =>
  obtain ⟨h1, h2, h3⟩ := zjk hs h
  have hlen := Nat.le_trans (hv.li l rfl) hN
  unfold zan zpe
  simp only [V.isList, cond_true, V.asList]
  rw [Z05 (by omega) (by omega), Option.bind_some, Option.bind_some]
  by_cases he : s.f_Index = ((l.length : Nat) : Int)
  ·rw [show (s.f_Index == ((l.length : Nat) : Int)) = true from by simpa using he, cond_true, zqa (by omega) (by omega), Option.bind_some]
   simp only [z36]; rw [if_pos he]
  ·rw [show (s.f_Index == ((l.length : Nat) : Int)) = false from by simpa using he, cond_false]
   have hlt : s.f_Index.toNat < l.length := by omega
   have hi : z82 l s.f_Index = some l[s.f_Index.toNat] := by
    have := z21 l s.f_Index.toNat
    rw [← h2] at this
    rw [this]; exact List.getElem?_eq_getElem hlt
   rw [hi, Option.bind_some]
   simp only [z36]; rw [if_neg he]
 | dict d => exact flds d rfl rfl
 | record c k d => exact flds d rfl rfl
 | nothing => exact absurd rfl hv.nn
 | _ => rfl
theorem zoe {N : Nat} {v : V} {s : Stp} (hv : Wv N v) (hN : N ≤ 268435456) (hs : za1 s = 0) (h : (z1e v s).2 = 0) : zj3 v s = some (z4i v s) := by
 have flds : ∀ d, fdF v = some d → v.isList = false → zj3 v s = some (z4i v s) := by
  intro d hd hl
  obtain ⟨h1, h2⟩ := hv.fd d hd
  rw [z8b hd] at h
  cases ha : s.f_At with
  | true => rw [if_pos ha] at h; cases h
  | false =>
   rw [if_neg (by rw [ha]; simp)] at h
   cases hg : fget d s.f_Name with
   | none => rw [hg] at h; cases h
   | some y =>
    have hw := zd8 h1 (Nat.le_trans h2 hN) hg
    unfold zj3
    rw [hl, cond_false, zba hd]
    cases v with
    | dict y => cases hd; simp only [V.isDict, cond_true, V.asDict, hw, Option.bind_some, setFd]
    | record c k y =>
     cases hd
     simp only [V.isDict, cond_false, V.isRec, cond_true, V.asRec, Option.bind_some, hw, setFd]
    | _ => cases hd
 cases v with
 | list l =>
  obtain ⟨h1, h2, h3⟩ := zjk (room := false) hs (.inl h)
  have hlen := Nat.le_trans (hv.li l rfl) hN
  have hlt : s.f_Index.toNat < l.length := by
   rw [h1, zdg] at h
   cases hx : l[s.f_Index.toNat]? with
   | some y => exact (List.getElem?_eq_some_iff.1 hx).1
   | none => rw [hx] at h; cases h
  unfold zj3 zpe
  simp only [V.isList, cond_true, V.asList]
  have hd := Z00 hlt hlen
  rw [← h2] at hd
  rw [Z05 (by omega) (by omega), Option.bind_some, Option.bind_some, hd, Option.bind_some]
  rfl
 | dict d => exact flds d rfl rfl
 | record c k d => exact flds d rfl rfl
 | nothing => exact absurd rfl hv.nn
 | _ => rfl
end Go.Proofs.YtmoijodjgkfhgaaGreat

namespace Go.Proofs.YtmoijodjgkfhgaaGreat
open Go Aw
set_option linter.unusedVariables false
set_option linter.unusedSimpArgs false
set_option maxRecDepth 8000
abbrev Ed := S_api_Edit
def z59 (room : Bool) (v : V) (s : Stp) : Bool := ((z1e v s).2 == 0) || (room && ((z1e v s).2 == 40 || ((z1e v s).2 == 42 && (v.isList && s.f_Index == ((v.asList.length : Nat) : Int)))))
theorem zz9 {room : Bool} {v : V} {s : Stp} (h : z59 room v s = true) : Z0z room v s := by
 unfold z59 at h
 simp only [Bool.or_eq_true, Bool.and_eq_true, beq_iff_eq] at h
 exact h
def chF (room : Bool) (fin : V → Stp → V) : V → List Stp → V × Int
 | _, [] => (.nil, 0)
 | v, [s] => if z59 room v s = true then (fin v s, 0) else (.nil, (z1e v s).2)
 | v, s :: t :: r => if (z1e v s).2 ≠ 0 then (.nil, (z1e v s).2) else if (chF room fin (z1e v s).1 (t :: r)).2 ≠ 0 then (.nil, (chF room fin (z1e v s).1 (t :: r)).2) else (z36 v s (chF room fin (z1e v s).1 (t :: r)).1, 0)
def chK (f : V → Stp → Option V) (a0 : V) (x1 : Stp) (s4 : Int) : Option (V × Int) := bif s4 != 0 then some (V.nil, s4) else Option.bind (f a0 x1) fun x6 => some (x6, 0)
def chJ (f : V → Stp → Option V) (a0 : V) (x1 : Stp) (x3 : V × Int) (s7 : Bool) : Option (V × Int) := bif s7 then chK f a0 x1 0 else chK f a0 x1 x3.2
noncomputable def chB (f : V → Stp → Option V) (F : V → List Stp → Bool → Option (V × Int)) (a0 : V) (a1 : List Stp) (a2 : Bool) : Option (V × Int) :=
 Option.bind (a1[0]?) fun x1 =>
 bif (((a1.length : Nat) : Int) == 1) then
  Option.bind (z7k a0 x1) fun x3 =>
  bif a2 then (bif x3.2 == 40 then chJ f a0 x1 x3 true else bif x3.2 == 42 then (bif a0.isList then chJ f a0 x1 x3 (x1.f_Index == ((a0.asList.length : Nat) : Int)) else chJ f a0 x1 x3 false) else chJ f a0 x1 x3 false) else chJ f a0 x1 x3 false
 else
  Option.bind (z7k a0 x1) fun x13 =>
  bif x13.2 != 0 then some (V.nil, x13.2) else
   Option.bind (zhi a1 1 (a1.length : Int)) fun x15 =>
   Option.bind (F x13.1 x15 a2) fun x16 =>
   bif x16.2 != 0 then some (V.nil, x16.2) else
    Option.bind (zan a0 x1 x16.1) fun x18 => some (x18, 0)
theorem zhj {a b : Int} (h : a = b) : (a == b) = true := by simpa using h
theorem zcj {a b : Int} (h : ¬ a = b) : (a == b) = false := by simpa using h
theorem zg4 {a : Int} (h : a = 0) : (a != 0) = false := by simp [h]
theorem Z69 {f : V → Stp → Option V} {fin : V → Stp → V} {v : V} {s : Stp} {b : Bool} (h : b = true ∨ (z1e v s).2 = 0 → f v s = some (fin v s)) :
 chJ f v s (z1e v s) b = some (if b = true ∨ (z1e v s).2 = 0 then (fin v s, 0) else (.nil, (z1e v s).2)) := by
 unfold chJ chK
 cases b with
 | true => rw [if_pos (.inl rfl), cond_true, show ((0 : Int) != 0) = false from rfl, cond_false, h (.inl rfl)]; rfl
 | false =>
  rw [cond_false]
  by_cases he : (z1e v s).2 = 0
  ·rw [if_pos (.inr he), zg4 he, cond_false, h (.inr he)]; rfl
  ·rw [if_neg (by simp [he]), zpq he, cond_true]
theorem Z2q {f : V → Stp → Option V} {fin : V → Stp → V} {v : V} {s : Stp} {room : Bool} (h : z59 room v s = true → f v s = some (fin v s)) :
 (bif room then (bif (z1e v s).2 == 40 then chJ f v s (z1e v s) true else bif (z1e v s).2 == 42 then (bif v.isList then chJ f v s (z1e v s) (s.f_Index == ((v.asList.length : Nat) : Int)) else chJ f v s (z1e v s) false) else chJ f v s (z1e v s) false) else chJ f v s (z1e v s) false) =
  some (if z59 room v s = true then (fin v s, 0) else (.nil, (z1e v s).2)) := by
 have key : ∀ b : Bool, (b || (z1e v s).2 == 0) = z59 room v s → chJ f v s (z1e v s) b = some (if z59 room v s = true then (fin v s, 0) else (.nil, (z1e v s).2)) := by
  intro b hb
  have e : (b = true ∨ (z1e v s).2 = 0) ↔ z59 room v s = true := by rw [← hb]; simp
  rw [Z69 (fun hh => h (e.1 hh))]
  by_cases hr : z59 room v s = true
  ·rw [if_pos hr, if_pos (e.2 hr)]
  ·rw [if_neg hr, if_neg (fun hh => hr (e.1 hh))]
 cases room with
 | false => rw [cond_false]; exact key false (by simp [z59])
 | true =>
  rw [cond_true]
  by_cases h40 : (z1e v s).2 = 40
  ·rw [zhj h40, cond_true]; exact key true (by simp [z59, h40])
  ·rw [zcj h40, cond_false]
   by_cases h42 : (z1e v s).2 = 42
   ·rw [zhj h42, cond_true]
    cases hl : v.isList with
    | true => rw [cond_true]; exact key _ (by simp [z59, h42, hl])
    | false => rw [cond_false]; exact key false (by simp [z59, h42, hl])
   ·rw [zcj h42, cond_false]; exact key false (by simp [z59, h40, h42])
theorem zxw {N : Nat} (hN : N ≤ 268435456) {f : V → Stp → Option V} {fin : V → Stp → V} {F : V → List Stp → Bool → Option (V × Int)} {room : Bool} (hF : ∀ v w, F v w room = chB f F v w room)
 (hf : ∀ v s, Wv N v → za1 s = 0 → z59 room v s = true → f v s = some (fin v s)) : ∀ (w : List Stp) (v : V), Wd N v → (∀ s, s ∈ w → za1 s = 0) → w ≠ [] → w.length ≤ 268435456 → F v w room = some (chF room fin v w)
 | [], v, _, _, hne, _ => absurd rfl hne
 | [s], v, hv, hw, _, _ => by
  have hs := hw s (by simp)
  rw [hF, chB, chF]
  rw [show [s][0]? = some s from rfl, Option.bind_some, show ((([s].length : Nat) : Int) == 1) = true from rfl, cond_true, zt9 hv.v hN hs, Option.bind_some]
  exact Z2q (fun h => hf v s hv.v hs h)
 | s :: t :: r, v, hv, hw, _, hlen => by
  have hs := hw s (by simp)
  rw [hF, chB, chF]
  have hl : ((((s :: t :: r).length : Nat) : Int) == 1) = false := zcj (by simp only [List.length_cons]; omega)
  rw [show (s :: t :: r)[0]? = some s from rfl, Option.bind_some, hl, cond_false, zt9 hv.v hN hs, Option.bind_some]
  by_cases he : (z1e v s).2 = 0
  ·have hp : z1e v s = ((z1e v s).1, 0) := Prod.ext rfl he
   have hc : zhi (s :: t :: r) 1 (((s :: t :: r).length : Nat) : Int) = some (t :: r) := by
    have := zlm (s := s :: t :: r) (a := 1) (b := (s :: t :: r).length) (by simp) (Nat.le_refl _)
    rw [List.take_of_length_le (Nat.le_refl _)] at this; exact this
   rw [zg4 he, cond_false, hc, Option.bind_some, zxw hN hF hf (t :: r) (z1e v s).1 (hv.part _ (za8 hp)) (fun x hx => hw x (by simp [hx])) (by simp) (by simp only [List.length_cons] at hlen ⊢; omega), Option.bind_some, if_neg (by simp [he])]
   by_cases h2 : (chF room fin (z1e v s).1 (t :: r)).2 = 0
   ·rw [zg4 h2, cond_false, zkg (room := false) hv.v hN hs (.inl he), Option.bind_some, if_neg (by simp [h2])]
   ·rw [zpq h2, cond_true, if_pos h2]
  ·rw [zpq he, cond_true, if_pos he]
theorem zq4 {N : Nat} {v : V} {w : List Stp} {room : Bool} {e : Ed} (hv : Wd N v) (hN : N ≤ 268435456) (hw : ∀ s, s ∈ w → za1 s = 0) (hne : w ≠ []) (hl : w.length ≤ 268435456) : zpd v w room e = some (chF room (fun p s => z36 p s e.f_Value) v w) :=
 zxw (f := fun p s => zw1 p s e) (F := fun v w room => zpd v w room e) hN (fun v w => by rw [Z93]; rfl) (fun v s hv hs hr => by
  show Option.bind (zan v s e.f_Value) (fun x1 => some x1) = _
  rw [zkg hv hN hs (zz9 hr)]; rfl) w v hv hw hne hl
theorem zq3 {N : Nat} {v : V} {w : List Stp} {room : Bool} {e : Ed} (hv : Wd N v) (hN : N ≤ 268435456) (hw : ∀ s, s ∈ w → za1 s = 0) (hne : w ≠ []) (hl : w.length ≤ 268435456) : zpc v w room e = some (chF room (fun p s => z36 p s e.f_Value) v w) :=
 zxw (f := fun p s => zw0 p s e) (F := fun v w room => zpc v w room e) hN (fun v w => by rw [Z92]; rfl) (fun v s hv hs hr => by
  show Option.bind (zan v s e.f_Value) (fun x1 => some x1) = _
  rw [zkg hv hN hs (zz9 hr)]; rfl) w v hv hw hne hl
theorem zom {v : V} {s : Stp} (h : z59 false v s = true) : (z1e v s).2 = 0 := by simpa [z59] using h
theorem zq2 {N : Nat} {v : V} {w : List Stp} (hv : Wd N v) (hN : N ≤ 268435456) (hw : ∀ s, s ∈ w → za1 s = 0) (hne : w ≠ []) (hl : w.length ≤ 268435456) : zpb v w false = some (chF false z4i v w) :=
 zxw (f := zj3) (F := zpb) hN (fun v w => by rw [Z91]; rfl) (fun v s hv hs hr => zoe hv hN hs (zom hr)) w v hv hw hne hl
def apC (v : V) (what : Int) (w : List Stp) (x : V) : V × Int :=
 match w.getLast? with
 | none => if what = 1 then (x, 0) else (.nil, 1)
 | some s =>
  if what = 1 then chF false (fun p s => z36 p s x) v w
  else if (getF v w.dropLast).2 ≠ 0 then (.nil, (getF v w.dropLast).2)
  else if what = 2 then (if (z1e (getF v w.dropLast).1 s).2 = 0 then (.nil, 1) else chF true (fun p s => z36 p s x) v w)
  else if (z1e (getF v w.dropLast).1 s).2 ≠ 0 then (.nil, (z1e (getF v w.dropLast).1 s).2)
  else if (getF v w.dropLast).1.isList = true ∧ s.f_Index ≠ (((getF v w.dropLast).1.asList.length : Nat) : Int) - 1 then (.nil, 1)
  else chF false z4i v w
noncomputable def z83 (v : V) (e : Ed) : V × Int :=
 if e.f_What < 1 ∨ e.f_What > 3 then (.nil, 1) else if z88 e.f_Way ≠ 0 then (.nil, z88 e.f_Way) else if e.f_What ≠ 3 ∧ (z2a e.f_Value).2 ≠ 0 then (.nil, (z2a e.f_Value).2) else apC v e.f_What e.f_Way e.f_Value
theorem zh5 {N : Nat} : ∀ {w : List Stp} {v x : V}, Wd N v → getF v w = (x, 0) → Wd N x
 | [], v, x, hc, h => by injection h with h; subst h; exact hc
 | s :: r, v, x, hc, h => by
  rw [getF] at h
  by_cases he : (z1e v s).2 = 0
  ·rw [if_neg (by simp [he])] at h
   exact zh5 (hc.part _ (za8 (Prod.ext rfl he : z1e v s = ((z1e v s).1, 0)))) h
  ·rw [if_pos he] at h; injection h with h1 h2; exact absurd h2 he
theorem Z1u {w : List Stp} {s : Stp} (h : w.getLast? = some s) : w ≠ [] ∧ w[w.length - 1]? = some s ∧ 1 ≤ w.length := by
 cases w with
 | nil => cases h
 | cons a r => exact ⟨by simp, by rw [← List.getLast?_eq_getElem?]; exact h, by simp⟩
theorem zv7 {N : Nat} {v : V} {e : Ed} (hv : Wd N v) (hN : N ≤ 268435456) (hw : ∀ s, s ∈ e.f_Way → za1 s = 0) (hl : e.f_Way.length ≤ 64) (hk : 1 ≤ e.f_What ∧ e.f_What ≤ 3) : zdt v e = some (apC v e.f_What e.f_Way e.f_Value) := by
 unfold zdt apC
 cases hg : e.f_Way.getLast? with
 | none =>
  have he : e.f_Way = [] := List.getLast?_eq_none_iff.1 hg
  rw [he, show ((([] : List Stp).length : Nat) : Int) = 0 from rfl, show ((0 : Int) == 0) = true from rfl, cond_true]
  by_cases h1 : e.f_What = 1
  ·rw [zhj h1, cond_true]; simp only; rw [if_pos h1]
  ·rw [zcj h1, cond_false]; simp only; rw [if_neg h1]
 | some s =>
  obtain ⟨hne, hs, h1l⟩ := Z1u hg
  have hcs := hw s (List.mem_of_getElem? hs)
  have hwd : ∀ t, t ∈ e.f_Way.dropLast → za1 t = 0 := fun t ht => hw t ((List.dropLast_sublist _).subset ht)
  have e1 : IntKind.i64.wrap (((e.f_Way.length : Nat) : Int) - 1) = ((e.f_Way.length - 1 : Nat) : Int) := by rw [z3y (by omega) (by omega)]; omega
  have hcut : zhi e.f_Way 0 ((e.f_Way.length - 1 : Nat) : Int) = some e.f_Way.dropLast := by
   have := zlm (s := e.f_Way) (a := 0) (b := e.f_Way.length - 1) (by omega) (by omega)
   rw [List.drop_zero, ← List.dropLast_eq_take] at this; exact this
  rw [zcj (by omega : ¬ ((e.f_Way.length : Nat) : Int) = 0), cond_false, e1, hcut, Option.bind_some, z21, hs, Option.bind_some]
  simp only
  by_cases h1 : e.f_What = 1
  ·rw [zhj h1, cond_true, if_pos h1, zq4 hv hN hw hne (by omega)]; rfl
  ·rw [zcj h1, cond_false, if_neg h1]
   have hget := Z84 hv hN hwd
   by_cases h2 : e.f_What = 2
   ·rw [zhj h2, cond_true, hget, Option.bind_some]
    by_cases h3 : (getF v e.f_Way.dropLast).2 = 0
    ·rw [zg4 h3, cond_false, if_neg (by simp [h3]), if_pos h2, zt9 (zh5 hv (Prod.ext rfl h3)).v hN hcs, Option.bind_some]
     by_cases h4 : (z1e (getF v e.f_Way.dropLast).1 s).2 = 0
     ·rw [zhj h4, cond_true, if_pos h4]
     ·rw [zcj h4, cond_false, if_neg h4, zq3 hv hN hw hne (by omega)]; rfl
    ·rw [zpq h3, cond_true, if_pos h3]
   ·rw [zcj h2, cond_false, hget, Option.bind_some]
    by_cases h3 : (getF v e.f_Way.dropLast).2 = 0
    ·rw [zg4 h3, cond_false, if_neg (by simp [h3]), if_neg h2, zt9 (zh5 hv (Prod.ext rfl h3)).v hN hcs, Option.bind_some]
     have hW := (zh5 hv (Prod.ext rfl h3 : getF v e.f_Way.dropLast = ((getF v e.f_Way.dropLast).1, 0))).v
     by_cases h4 : (z1e (getF v e.f_Way.dropLast).1 s).2 = 0
     ·rw [zg4 h4, cond_false, if_neg (by simp [h4])]
      have hj : ∀ b : Bool, zds v e b = some (if b = true then (.nil, 1) else chF false z4i v e.f_Way) := by
       intro b
       unfold zds
       cases b with
       | true => rfl
       | false => rw [cond_false, zq2 hv hN hw hne (by omega)]; rfl
      cases hL : (getF v e.f_Way.dropLast).1.isList with
      | false => rw [cond_false, hj, if_neg (by simp), if_neg (by simp)]
      | true =>
       rw [cond_true, hj]
       have hll : (getF v e.f_Way.dropLast).1.asList.length ≤ 268435456 := by
        generalize (getF v e.f_Way.dropLast).1 = p at hW hL ⊢
        cases p with
        | list l => exact Nat.le_trans (hW.li l rfl) hN
        | _ => cases hL
       rw [z3y (by omega) (by omega)]
       by_cases h5 : s.f_Index = (((getF v e.f_Way.dropLast).1.asList.length : Nat) : Int) - 1
       ·rw [if_neg (by simp [h5]), if_neg (by simp [h5])]
       ·rw [if_pos (by simpa using h5), if_pos ⟨rfl, h5⟩]
     ·rw [zpq h4, cond_true, if_pos h4]
    ·rw [zpq h3, cond_true, if_pos h3]
theorem zyq {N : Nat} {v : V} {e : Ed} (hv : Wd N v) (hN : N ≤ 268435456) : zsi v e = some (z83 v e) := by
 have hj : ∀ b : Bool, (b = true ∨ (1 ≤ e.f_What ∧ e.f_What ≤ 3)) → zdu v e b = some (if b = true then (.nil, 1) else if z88 e.f_Way ≠ 0 then (.nil, z88 e.f_Way) else if e.f_What ≠ 3 ∧ (z2a e.f_Value).2 ≠ 0 then (.nil, (z2a e.f_Value).2) else apC v e.f_What e.f_Way e.f_Value) := by
  intro b hb
  unfold zdu
  cases b with
  | true => rfl
  | false =>
   have hk := hb.resolve_left (by simp)
   rw [cond_false, zvd, Option.bind_some, if_neg (by simp)]
   by_cases hz : z88 e.f_Way = 0
   ·obtain ⟨h1, h2⟩ := zki hz
    rw [zg4 hz, cond_false, if_neg (by simp [hz])]
    have ha := zv7 hv hN h2 h1 hk
    by_cases h3 : e.f_What = 3
    ·rw [show (e.f_What != 3) = false from by simp [h3], cond_false, if_neg (by simp [h3]), ha]
    ·rw [show (e.f_What != 3) = true from by simpa using h3, cond_true, zi9, Option.bind_some]
     by_cases h4 : (z2a e.f_Value).2 = 0
     ·rw [zg4 h4, cond_false, if_neg (by simp [h4]), ha]
     ·rw [zpq h4, cond_true, if_pos ⟨h3, h4⟩]
   ·rw [zpq hz, cond_true, if_pos hz]
 unfold zsi z83
 by_cases h1 : e.f_What < 1
 ·rw [decide_eq_true h1, cond_true, hj true (.inl rfl), if_pos rfl, if_pos (.inl h1)]
 ·rw [decide_eq_false h1, cond_false]
  by_cases h3 : e.f_What > 3
  ·rw [decide_eq_true h3, hj true (.inl rfl), if_pos rfl, if_pos (.inr h3)]
  ·rw [decide_eq_false h3, hj false (.inr ⟨by omega, by omega⟩), if_neg (by simp), if_neg (c := e.f_What < 1 ∨ e.f_What > 3) (by omega)]
end Go.Proofs.YtmoijodjgkfhgaaGreat

