/- Plain laws, one behind the other. -/
import Derived.Test.YtiapdjdhaclmnaaRd
import Derived.Test.YtiapdjdhaclmnaaG16
namespace Go.Proofs.Ytiapdjdhaclmnaa
open Go Aw
set_option linter.unusedVariables false
set_option linter.unusedSimpArgs false
theorem z4b {i n : Nat} (h : i < n) : decide ((i : Int) < (n : Int)) = true := decide_eq_true (by omega)
theorem z42 {i n : Nat} (h : ¬ i < n) : decide ((i : Int) < (n : Int)) = false := decide_eq_false (by omega)
theorem dropc {α : Type} {l : List α} {i : Nat} (h : i < l.length) : ∃ x, l[i]? = some x ∧ l.drop i = x :: l.drop (i + 1) :=
 ⟨l[i], List.getElem?_eq_getElem h, List.drop_eq_getElem_cons h⟩
theorem z2s {x : Int} (h1 : -9223372036854775808 ≤ x) (h2 : x ≤ 9223372036854775807) : IntKind.i64.wrap x = x := z9t h1 h2
theorem z36 {α : Type} (l : List α) (i : Nat) : z5g l (i : Int) = l[i]? := by
 unfold z5g; rw [decide_eq_true (by omega : (0 : Int) ≤ (i : Nat))]; rfl
def zym (c : UInt8) : Bool := (Nat.ble 97 c.toNat && Nat.ble c.toNat 122) || (Nat.ble 48 c.toNat && Nat.ble c.toNat 57) || Nat.beq c.toNat 95
def Z5d (c : UInt8) : Bool := Nat.ble 97 c.toNat && Nat.ble c.toNat 122
def z3i (s : Str) : Bool := Nat.ble 1 s.length && Nat.ble s.length 32 && Z5d (s.headD 0) && s.all zym
theorem chOk_iff {c : UInt8} : zym c = true ↔ (97 ≤ c.toNat ∧ c.toNat ≤ 122) ∨ (48 ≤ c.toNat ∧ c.toNat ≤ 57) ∨ c.toNat = 95 := by
 simp only [zym, Bool.or_eq_true, Bool.and_eq_true, Nat.ble_eq, Nat.beq_eq]; omega
theorem loOk_iff {c : UInt8} : Z5d c = true ↔ 97 ≤ c.toNat ∧ c.toNat ≤ 122 := by
 simp only [Z5d, Bool.and_eq_true, Nat.ble_eq]
theorem Z4c (c : UInt8) (g : Nat → Option Bool) (i : Nat) (s : Str) (hi : i < s.length) (hc : s[i]? = some c) : z5z s g i = bif zym c then g (i + 1) else some false := by
 have h97 : (97 : UInt8).toNat = 97 := rfl
 have h122 : (122 : UInt8).toNat = 122 := rfl
 have h48 : (48 : UInt8).toNat = 48 := rfl
 have h57 : (57 : UInt8).toNat = 57 := rfl
 have h95 : (95 : UInt8).toNat = 95 := rfl
 simp only [z5z, z4b hi, hc, cond_true, Option.bind_some, z70, h97, h122, h48, h57, h95]
 simp only [Bool.cond_eq_ite, decide_eq_true_eq, bne_iff_ne, ne_eq, Bool.false_eq_true, if_false, chOk_iff]
 repeat (split <;> (try (first | rfl | (exfalso; omega))))
theorem Zdz (s : Str) : ∀ k i, k + i = s.length → zkg s i = some ((s.drop i).all zym)
 | 0, i, h => by
  rw [zkf]
  simp only [z5z, z42 (by omega : ¬ i < s.length), cond_false]
  rw [List.drop_of_length_le (by omega)]; rfl
 | k + 1, i, h => by
  obtain ⟨c, hc, hd⟩ := dropc (by omega : i < s.length)
  rw [zkf, Z4c c _ i s (by omega) hc, Zdz s k (i + 1) (by omega), hd, List.all_cons]
  cases zym c <;> rfl
theorem Z2r (s : Str) : zn8 s = some (z3i s) := by
 have h97 : (97 : UInt8).toNat = 97 := rfl
 have h122 : (122 : UInt8).toNat = 122 := rfl
 cases s with
 | nil => rfl
 | cons c r =>
  have hl := Zdz (c :: r) (c :: r).length 0 (by simp)
  rw [List.drop_zero] at hl
  simp only [zn8, zde, h97, h122]
  have he : ((c :: r) == ([] : Str)) = false := rfl
  have h0 : (c :: r)[0]? = some c := rfl
  simp only [he, h0, cond_true, cond_false, Option.bind_some]
  by_cases h32 : (c :: r).length ≤ 32
  ·have hs : zgs (c :: r).length = some () := by unfold zgs; rw [Nat.ble_eq_true_of_le (by omega)]; rfl
   simp only [hs, hl, Option.bind_some]
   have e1 : decide (((c :: r).length : Int) > 32) = false := decide_eq_false (by omega)
   rw [e1]
   simp only [cond_false, z3i, List.headD_cons, Nat.ble_eq_true_of_le h32, Nat.ble_eq_true_of_le (by simp : 1 ≤ (c :: r).length), Bool.true_and]
   cases hlo : Z5d c with
   | true =>
    have := loOk_iff.1 hlo
    have e2 : decide ((c.toNat : Int) < (97 : Nat)) = false := decide_eq_false (by omega)
    have e3 : decide ((c.toNat : Int) > (122 : Nat)) = false := decide_eq_false (by omega)
    rw [e2, e3]; rfl
   | false =>
    have h2 : ¬ (97 ≤ c.toNat ∧ c.toNat ≤ 122) := fun h => by rw [loOk_iff.2 h] at hlo; cases hlo
    by_cases h3 : c.toNat < 97
    ·have e2 : decide ((c.toNat : Int) < (97 : Nat)) = true := decide_eq_true (by omega)
     rw [e2]; rfl
    ·have e2 : decide ((c.toNat : Int) < (97 : Nat)) = false := decide_eq_false (by omega)
     have e3 : decide ((c.toNat : Int) > (122 : Nat)) = true := decide_eq_true (by omega)
     rw [e2, e3]; rfl
  ·have e1 : decide (((c :: r).length : Int) > 32) = true := decide_eq_true (by omega)
   have e2 : Nat.ble (c :: r).length 32 = false := by
    cases hb : Nat.ble (c :: r).length 32 with
    | false => rfl
    | true => exact absurd (Nat.le_of_ble_eq_true hb) h32
   rw [e1]
   simp only [cond_true, z3i, e2, Bool.and_false, Bool.false_and]
end Go.Proofs.Ytiapdjdhaclmnaa

namespace Go.Proofs.Ytiapdjdhaclmnaa
open Go Aw
set_option linter.unusedVariables false
set_option linter.unusedSimpArgs false
set_option maxRecDepth 8000
def leB (a b : Str) : Bool := Op.bytesLess a b || a == b
def risen : Option Str → List Str → Bool
 | _, [] => true
 | p, s :: r => z3i s && (match p with | none => true | some q => !(leB s q)) && risen (some s) r
def z3z (l : List Str) (i : Nat) : Option Str := if i = 0 then none else l[i - 1]?
def z6t (l : List Str) : Int := if 4096 < l.length then 2 else if risen none l then 0 else 8
theorem zgu {l : List Str} {i : Nat} {s : Str} (h : l[i]? = some s) (p : Option Str) : risen p (l.drop i) = (z3i s && (match p with | none => true | some q => !(leB s q)) && risen (z3z l (i + 1)) (l.drop (i + 1))) := by
 have hi := (List.getElem?_eq_some_iff.1 h).1
 have hd : l.drop i = s :: l.drop (i + 1) := by rw [List.drop_eq_getElem_cons hi, (List.getElem?_eq_some_iff.1 h).2]
 have : z3z l (i + 1) = some s := by simp [z3z, h]
 rw [hd, this]
 cases p <;> simp only [risen]
theorem za9 (p : Option Str) : risen p [] = true := by cases p <;> rfl
def r08 (b : Bool) : Int := if b then 0 else 8
theorem zdm {α : Type} (l : List (Str × α)) (i : Nat) (hi : i < l.length) (hb : l.length ≤ 4096) (g : Option Int) (hg : g = some (r08 (risen (z3z (l.map (·.1)) (i + 1)) ((l.map (·.1)).drop (i + 1))))) (x : Str × α) (hx : l[i]? = some x) :
 (bif !(z3i x.1) then some 8 else (bif decide (((i : Nat) : Int) > 0) then Option.bind (z5g l (IntKind.i64.wrap (((i : Nat) : Int) - 1))) fun y => (bif (Op.bytesLess x.1 y.1 || x.1 == y.1) then some 8 else g) else g)) = some (r08 (risen (z3z (l.map (·.1)) i) ((l.map (·.1)).drop i))) := by
 have hs : (l.map (·.1))[i]? = some x.1 := by rw [List.getElem?_map, hx]; rfl
 rw [zgu hs]
 cases hn : z3i x.1 with
 | false => rfl
 | true =>
  simp only [Bool.not_true, cond_false, Bool.true_and]
  by_cases h0 : i = 0
  ·subst h0
   have e : decide (((0 : Nat) : Int) > 0) = false := rfl
   rw [e, hg]
   simp only [cond_false, z3z, if_pos, Bool.true_and]
  ·have e : decide ((i : Int) > 0) = true := decide_eq_true (by omega)
   have hw : IntKind.i64.wrap ((i : Int) - 1) = ((i - 1 : Nat) : Int) := by rw [z2s (by omega) (by omega)]; omega
   obtain ⟨y, hy, _⟩ := dropc (by omega : i - 1 < l.length)
   rw [e, hw, z36, hy]
   have hp : z3z (l.map (·.1)) i = some y.1 := by simp only [z3z, if_neg h0, List.getElem?_map, hy, Option.map_some]
   simp only [cond_true, Option.bind_some, hp, hg]
   show (bif leB x.1 y.1 then _ else _) = _
   cases leB x.1 y.1 <;> rfl
theorem Ze1 (l : List (Str × V)) (hb : l.length ≤ 4096) : ∀ k i, k + i = l.length → zl1 l i = some (r08 (risen (z3z (l.map (·.1)) i) ((l.map (·.1)).drop i)))
 | 0, i, h => by
  rw [zl0]
  simp only [z7m, z42 (by omega : ¬ i < l.length), cond_false]
  rw [List.drop_of_length_le (by simp; omega), za9]; rfl
 | k + 1, i, h => by
  obtain ⟨x, hx, _⟩ := dropc (by omega : i < l.length)
  have hr := zdm l i (by omega) hb _ (Ze1 l hb k (i + 1) (by omega)) x hx
  rw [zl0]
  simp only [z7m, z4b (by omega : i < l.length), cond_true, hx, Option.bind_some, Z2r, zal, cond_false]
  exact hr
theorem Z2w (l : List (Str × V)) : znb l = some (z6t (l.map (·.1))) := by
 simp only [znb, z6t, List.length_map]
 by_cases h : 4096 < l.length
 ·rw [decide_eq_true (by omega : (l.length : Int) > 4096), if_pos h]; rfl
 ·rw [decide_eq_false (by omega : ¬ (l.length : Int) > 4096), if_neg h, cond_false, Ze1 l (by omega) l.length 0 (by omega)]; rfl
def z1l : V → Int
 | .nil => 1
 | .bool _ => 2
 | .int _ => 3
 | .float _ => 4
 | .text _ => 5
 | .bytes _ => 6
 | .ref _ => 7
 | .list _ => 8
 | .dict _ => 9
 | .record _ _ _ => 10
 | .nothing => 11
 | .alien _ => 0
theorem zph (x : V) : zj8 x = some (z1l x) := by cases x <;> rfl
theorem Z7z (x : V) : zvu x = some (z1l x) := by simp only [zvu, zph, Option.bind_some]
def Z0m : V → Int
 | .nothing => 7
 | .alien _ => 6
 | _ => 2
def z30 : V → Int
 | .text s => if 65536 < s.length then 2 else 0
 | .bytes b => if 65536 < b.length then 2 else 0
 | .list l => if 4096 < l.length then 2 else 0
 | .dict l => z6t (l.map (·.1))
 | .record c v l => if z3i c = false then 8 else if v < 1 ∨ 1000 < v then 1 else z6t (l.map (·.1))
 | .nothing => 7
 | .alien _ => 6
 | _ => 0
def z93 (x : V) (n deep : Int) : Int := if 16384 ≤ n ∨ 64 < deep then Z0m x else z30 x
theorem Z8y (x : V) : z9k x true = some (Z0m x) := by
 simp only [z9k, cond_true, zph, Option.bind_some]
 cases x <;> rfl
theorem zyc (n m : Nat) : (bif decide ((n : Int) > (m : Int)) then some (2 : Int) else zda) = some (if m < n then 2 else 0) := by
 by_cases h : m < n
 ·rw [decide_eq_true (by omega : (n : Int) > m), if_pos h]; rfl
 ·rw [decide_eq_false (by omega : ¬ (n : Int) > m), if_neg h]; rfl
theorem Z8h (x : V) : z9k x false = some (z30 x) := by
 cases x with
 | text s => exact zyc s.length 65536
 | bytes s => exact zyc s.length 65536
 | list s => exact zyc s.length 4096
 | dict l =>
  have : z9k (.dict l) false = Option.bind (znb l) fun x => some x := rfl
  rw [this, Z2w]; rfl
 | record c v l =>
  have : z9k (.record c v l) false = Option.bind (zn8 c) fun x17 => bif !x17 then some 8 else bif decide (v < 1) then zd9 ⟨c, v, l⟩ true else zd9 ⟨c, v, l⟩ (decide (v > 1000)) := rfl
  rw [this, Z2r]
  simp only [Option.bind_some, z30, zd9, Z2w]
  cases hn : z3i c with
  | false => rfl
  | true =>
   simp only [Bool.not_true, cond_false, cond_true]
   by_cases h1 : v < 1
   ·rw [decide_eq_true h1, cond_true, if_neg (by simp), if_pos (Or.inl h1)]
   ·rw [decide_eq_false h1, cond_false, if_neg (by simp)]
    by_cases h2 : v > 1000
    ·rw [decide_eq_true h2, cond_true, if_pos (Or.inr h2)]
    ·rw [decide_eq_false h2, cond_false, if_neg (by omega)]
 | _ => rfl
theorem Z7x (x : V) (n d : Int) : zvs x n d = some (z93 x n d) := by
 simp only [zvs, z93]
 by_cases h1 : n ≥ 16384
 ·rw [decide_eq_true h1, cond_true, if_pos (Or.inl h1), Z8y]
 ·rw [decide_eq_false h1, cond_false]
  by_cases h2 : d > 64
  ·rw [decide_eq_true h2, if_pos (Or.inr h2), Z8y]
  ·rw [decide_eq_false h2, if_neg (by omega), Z8h]
theorem Z6c {c : Bool} {x y : Option V} (h1 : ∃ a, x = some (.alien a)) (h2 : ∃ a, y = some (.alien a)) : ∃ a, (bif c then x else y) = some (.alien a) := by cases c <;> assumption
theorem Z2a (n : Int) : ∃ a, Z8f n = some (.alien a) := by
 unfold Z8f
 repeat (first | exact ⟨_, rfl⟩ | refine Z6c ⟨_, rfl⟩ ?_)
noncomputable def alT (n : Int) : {t : Nat // zie t = true} := (Z2a n).choose
mutual
noncomputable def bu : Term → V
 | .mk k b i f t y r l d c v => if k = 1 then .nil else if k = 2 then .bool b else if k = 3 then .int i else if k = 4 then .float f else if k = 5 then .text t else if k = 6 then .bytes y else if k = 7 then .ref r
  else if k = 8 then .list (Za7 l) else if k = 9 then .dict (Z6k d) else if k = 10 then .record c v (Z6k d) else if k = 11 then .nothing else .alien (alT i)
noncomputable def Za7 : List Term → List V
 | [] => []
 | x :: r => bu x :: Za7 r
noncomputable def Z6k : List (Str × Term) → List (Str × V)
 | [] => []
 | (s, x) :: r => (s, bu x) :: Z6k r
end
noncomputable def buE (p : Str × Term) : Str × V := (p.1, bu p.2)
theorem ze9 : ∀ l, Za7 l = l.map bu
 | [] => by rw [Za7]; rfl
 | x :: r => by rw [Za7, ze9 r]; rfl
theorem zbk : ∀ l, Z6k l = l.map buE
 | [] => by rw [Z6k]; rfl
 | (s, x) :: r => by rw [Z6k, zbk r]; rfl
theorem zjp (l : List (Str × Term)) : (l.map buE).map (·.1) = l.map (·.1) := by rw [List.map_map]; rfl
theorem zy4 (l : List (Str × Term)) : (l.map buE).map (·.2) = (l.map (·.2)).map bu := by rw [List.map_map, List.map_map]; rfl
inductive BuC (t : Term) : V → Prop
 | nil : t.kind = 1 → BuC t .nil
 | bool : t.kind = 2 → BuC t (.bool t.bool)
 | int : t.kind = 3 → BuC t (.int t.int)
 | float : t.kind = 4 → BuC t (.float t.float)
 | text : t.kind = 5 → BuC t (.text t.text)
 | bytes : t.kind = 6 → BuC t (.bytes t.bytes)
 | ref : t.kind = 7 → BuC t (.ref t.ref)
 | list : t.kind = 8 → BuC t (.list (t.list.map bu))
 | dict : t.kind = 9 → BuC t (.dict (t.fields.map buE))
 | record : t.kind = 10 → BuC t (.record t.cls t.ver (t.fields.map buE))
 | nothing : t.kind = 11 → BuC t .nothing
 | alien : t.kind < 1 ∨ 11 < t.kind → BuC t (.alien (alT t.int))
theorem zy6 (t : Term) : BuC t (bu t) := by
 cases t with
 | mk k b i f t y r l d c v =>
  rw [bu, ze9, zbk]
  by_cases h1 : k = 1; · rw [if_pos h1]; exact .nil h1
  by_cases h2 : k = 2; · rw [if_neg h1, if_pos h2]; exact .bool h2
  by_cases h3 : k = 3; · rw [if_neg h1, if_neg h2, if_pos h3]; exact .int h3
  by_cases h4 : k = 4; · rw [if_neg h1, if_neg h2, if_neg h3, if_pos h4]; exact .float h4
  by_cases h5 : k = 5; · rw [if_neg h1, if_neg h2, if_neg h3, if_neg h4, if_pos h5]; exact .text h5
  by_cases h6 : k = 6; · rw [if_neg h1, if_neg h2, if_neg h3, if_neg h4, if_neg h5, if_pos h6]; exact .bytes h6
  by_cases h7 : k = 7; · rw [if_neg h1, if_neg h2, if_neg h3, if_neg h4, if_neg h5, if_neg h6, if_pos h7]; exact .ref h7
  by_cases h8 : k = 8; · rw [if_neg h1, if_neg h2, if_neg h3, if_neg h4, if_neg h5, if_neg h6, if_neg h7, if_pos h8]; exact .list h8
  by_cases h9 : k = 9; · rw [if_neg h1, if_neg h2, if_neg h3, if_neg h4, if_neg h5, if_neg h6, if_neg h7, if_neg h8, if_pos h9]; exact .dict h9
  by_cases h10 : k = 10; · rw [if_neg h1, if_neg h2, if_neg h3, if_neg h4, if_neg h5, if_neg h6, if_neg h7, if_neg h8, if_neg h9, if_pos h10]; exact .record h10
  by_cases h11 : k = 11; · rw [if_neg h1, if_neg h2, if_neg h3, if_neg h4, if_neg h5, if_neg h6, if_neg h7, if_neg h8, if_neg h9, if_neg h10, if_pos h11]; exact .nothing h11
  rw [if_neg h1, if_neg h2, if_neg h3, if_neg h4, if_neg h5, if_neg h6, if_neg h7, if_neg h8, if_neg h9, if_neg h10, if_neg h11]
  exact .alien (by show k < 1 ∨ 11 < k; omega)
theorem Z63 (n m : Nat) (g : Bool → Option Int) (h1 : g true = some 2) (h2 : g false = some 0) : g (decide ((n : Int) > (m : Int))) = some (if m < n then 2 else 0) := by
 by_cases h : m < n
 ·rw [decide_eq_true (by omega : (n : Int) > m), if_pos h]; exact h1
 ·rw [decide_eq_false (by omega : ¬ (n : Int) > m), if_neg h]; exact h2
end Go.Proofs.Ytiapdjdhaclmnaa

namespace Go.Proofs.Ytiapdjdhaclmnaa
open Go Aw
set_option linter.unusedVariables false
set_option linter.unusedSimpArgs false
set_option maxRecDepth 8000
structure Ct where
 ok : Bool
 n : Int
 dp : Int
 why : Int
mutual
def z2c : V → Int → Int → Int → Ct
 | .list l, n, dp, d => if z93 (.list l) n d = 0 then z33 l (n + 1) (max dp d) (d + 1) else ⟨false, n, dp, z93 (.list l) n d⟩
 | .dict l, n, dp, d => if z93 (.dict l) n d = 0 then zd1 l (n + 1) (max dp d) (d + 1) else ⟨false, n, dp, z93 (.dict l) n d⟩
 | .record c v l, n, dp, d => if z93 (.record c v l) n d = 0 then zd1 l (n + 1) (max dp d) (d + 1) else ⟨false, n, dp, z93 (.record c v l) n d⟩
 | x, n, dp, d => if z93 x n d = 0 then ⟨true, n + 1, max dp d, 0⟩ else ⟨false, n, dp, z93 x n d⟩
def z33 : List V → Int → Int → Int → Ct
 | [], n, dp, d => ⟨true, n, dp, 0⟩
 | x :: r, n, dp, d => if (z2c x n dp d).ok then z33 r (z2c x n dp d).n (z2c x n dp d).dp d else z2c x n dp d
def zd1 : List (Str × V) → Int → Int → Int → Ct
 | [], n, dp, d => ⟨true, n, dp, 0⟩
 | (s, x) :: r, n, dp, d => if (z2c x n dp d).ok then zd1 r (z2c x n dp d).n (z2c x n dp d).dp d else z2c x n dp d
end
def V.parts : V → List V
 | .list l => l
 | .dict l => l.map (·.2)
 | .record _ _ l => l.map (·.2)
 | _ => []
theorem zg1 : ∀ (l : List (Str × V)) (n dp d : Int), zd1 l n dp d = z33 (l.map (·.2)) n dp d
 | [], n, dp, d => by simp only [zd1, z33, List.map_nil]
 | (s, x) :: r, n, dp, d => by simp only [zd1, z33, List.map_cons, zg1 r]
theorem z40 (x : V) (n dp d : Int) : z2c x n dp d = if z93 x n d = 0 then z33 x.parts (n + 1) (max dp d) (d + 1) else ⟨false, n, dp, z93 x n d⟩ := by
 cases x <;> simp only [z2c, V.parts, zg1, z33]
theorem z2q (x : V) (r : List V) (n dp d : Int) : z33 (x :: r) n dp d = if (z2c x n dp d).ok then z33 r (z2c x n dp d).n (z2c x n dp d).dp d else z2c x n dp d := by simp only [z33]
theorem z3a (n dp d : Int) : z33 [] n dp d = ⟨true, n, dp, 0⟩ := by simp only [z33]
theorem Z8x (x : V) : Z0m x ≠ 0 := by cases x <;> simp [Z0m]
theorem z92 {x : V} {n d : Int} (h : z93 x n d = 0) : n < 16384 ∧ d ≤ 64 ∧ z30 x = 0 := by
 unfold z93 at h
 split at h
 ·exact absurd h (Z8x x)
 ·rename_i hc; exact ⟨by omega, by omega, h⟩
theorem zz2 {x y : V} (h : y ∈ x.parts) : SizeOf.sizeOf y < SizeOf.sizeOf x := by
 cases x <;> simp only [V.parts, List.not_mem_nil] at h
 ·have := List.sizeOf_lt_of_mem h; simp; omega
 ·obtain ⟨⟨s, z⟩, hz, rfl⟩ := List.mem_map.1 h
  have := List.sizeOf_lt_of_mem hz; simp at this ⊢; omega
 ·obtain ⟨⟨s, z⟩, hz, rfl⟩ := List.mem_map.1 h
  have := List.sizeOf_lt_of_mem hz; simp at this ⊢; omega
theorem V.byParts {P : V → Prop} (h : ∀ x, (∀ y, y ∈ x.parts → P y) → P x) (x : V) : P x :=
 h x (fun y hy => V.byParts h y)
termination_by SizeOf.sizeOf x
decreasing_by exact zz2 hy
structure CtOk (c : Ct) (n : Int) : Prop where
 lo : n ≤ c.n
 ok : c.ok = true → c.n ≤ 16384 ∧ c.why = 0
 bad : c.ok = false → c.why ≠ 0
theorem zf9 {d : Int} : ∀ (l : List V), (∀ y, y ∈ l → ∀ n dp, CtOk (z2c y n dp d) n) → ∀ n dp, n ≤ 16384 → CtOk (z33 l n dp d) n
 | [], _, n, dp, hm => by rw [z3a]; exact ⟨Int.le_refl _, fun _ => ⟨hm, rfl⟩, by simp⟩
 | x :: r, h, n, dp, hm => by
  have h1 := h x (by simp) n dp
  rw [z2q]
  split
  ·rename_i hk
   have h2 := zf9 r (fun y hy => h y (by simp [hy])) _ (z2c x n dp d).dp (h1.ok hk).1
   exact ⟨Int.le_trans h1.lo h2.lo, h2.ok, h2.bad⟩
  ·exact h1
theorem z73 (x : V) : ∀ d n dp, CtOk (z2c x n dp d) n := by
 induction x using V.byParts with
 | _ x ih =>
 intro d n dp
 rw [z40]
 split
 ·rename_i h
  have := z92 h
  have h2 := zf9 x.parts (fun y hy n dp => ih y hy (d + 1) n dp) (n + 1) (max dp d) (by omega)
  exact ⟨by have := h2.lo; omega, h2.ok, h2.bad⟩
 ·rename_i h; exact ⟨Int.le_refl _, by simp, fun _ => h⟩
def ctS (c : Ct) : Bool × S_value_count := (c.ok, ⟨c.n, c.dp, c.why⟩)
def zqz (x : V) : Prop := ∀ n dp w d, -4611686018427387904 ≤ n → n ≤ 16384 → -4611686018427387904 ≤ d → d ≤ 65 → zjc ⟨n, dp, w⟩ x d = some (ctS (z2c x n dp d))
theorem Zf6 (l : List V) (d : Int) (hl : ∀ y, y ∈ l → zqz y) (hd : -4611686018427387904 ≤ d) (hd' : d ≤ 64) : ∀ k i n dp, k + i = l.length → -4611686018427387904 ≤ n → n ≤ 16384 → zht zjc (.list l) d i n dp 0 = some (ctS (z33 (l.drop i) n dp (d + 1)))
 | 0, i, n, dp, h, hn, hm => by
  rw [zle]
  simp only [z6l, V.asList, z42 (by omega : ¬ i < l.length), cond_false, zhu]
  rw [List.drop_of_length_le (by omega), z3a]; rfl
 | k + 1, i, n, dp, h, hn, hm => by
  obtain ⟨x, hx, hdr⟩ := dropc (by omega : i < l.length)
  have hp := hl x (List.mem_of_getElem? hx) n dp 0 (d + 1) hn hm (by omega) (by omega)
  have hw : IntKind.i64.wrap (d + 1) = d + 1 := z2s (by omega) (by omega)
  rw [zle]
  simp only [z6l, V.asList, z4b (by omega : i < l.length), cond_true, hx, Option.bind_some, hw, hp, ctS]
  rw [hdr, z2q]
  have hf := z73 x (d + 1) n dp
  cases hk : (z2c x n dp (d + 1)).ok with
  | false => simp only [Bool.not_false, cond_true, Bool.false_eq_true, if_false, hk]
  | true =>
   have h1 := hf.ok hk
   have h2 := hf.lo
   simp only [Bool.not_true, cond_false, if_true]
   rw [h1.2, Zf6 l d hl hd hd' k (i + 1) _ _ (by omega) (by omega) h1.1]; rfl
theorem Zfb (l : List (Str × V)) (d : Int) (hl : ∀ y, y ∈ l.map (·.2) → zqz y) (hd : -4611686018427387904 ≤ d) (hd' : d ≤ 64) : ∀ k i n dp, k + i = l.length → -4611686018427387904 ≤ n → n ≤ 16384 → zhs zjc l d i n dp 0 = some (ctS (z33 ((l.map (·.2)).drop i) n dp (d + 1)))
 | 0, i, n, dp, h, hn, hm => by
  rw [zlc]
  simp only [z6j, z42 (by omega : ¬ i < l.length), cond_false]
  rw [List.drop_of_length_le (by simp; omega), z3a]; rfl
 | k + 1, i, n, dp, h, hn, hm => by
  obtain ⟨x, hx, _⟩ := dropc (by omega : i < l.length)
  have hx2 : (l.map (·.2))[i]? = some x.2 := by rw [List.getElem?_map, hx]; rfl
  obtain ⟨x', hx', hdr⟩ := dropc (by rw [List.length_map]; omega : i < (l.map (·.2)).length)
  rw [hx2] at hx'; injection hx' with hx'; subst hx'
  have hp := hl x.2 (List.mem_of_getElem? hx2) n dp 0 (d + 1) hn hm (by omega) (by omega)
  have hw : IntKind.i64.wrap (d + 1) = d + 1 := z2s (by omega) (by omega)
  rw [zlc]
  simp only [z6j, z4b (by omega : i < l.length), cond_true, hx, Option.bind_some, hw, hp, ctS]
  rw [hdr, z2q]
  have hf := z73 x.2 (d + 1) n dp
  cases hk : (z2c x.2 n dp (d + 1)).ok with
  | false => simp only [Bool.not_false, cond_true, Bool.false_eq_true, if_false, hk]
  | true =>
   have h1 := hf.ok hk
   have h2 := hf.lo
   simp only [Bool.not_true, cond_false, if_true]
   rw [h1.2, Zfb l d hl hd hd' k (i + 1) _ _ (by omega) (by omega) h1.1]; rfl
theorem Z2y (l : List (Str × V)) (d n dp : Int) (hl : ∀ y, y ∈ l.map (·.2) → zqz y) (hd : -4611686018427387904 ≤ d) (hd' : d ≤ 64) (hn : -4611686018427387904 ≤ n) (hm : n ≤ 16384) : zs0 ⟨n, dp, 0⟩ l d = some (ctS (z33 (l.map (·.2)) n dp (d + 1))) := by
 rw [Zdk, zov]
 exact Zfb l d hl hd hd' l.length 0 n dp (by omega) hn hm
theorem Z2z (x : V) : zqz x := by
 induction x using V.byParts with
 | _ x ih =>
 intro n dp w d hn hm hd hd'
 rw [Zdm, zox, z40]
 simp only [Z7x, Option.bind_some]
 by_cases h : z93 x n d = 0
 ·have h0 := z92 h
  have hw : IntKind.i64.wrap (n + 1) = n + 1 := z2s (by omega) (by omega)
  have hmx : (if d > dp then d else dp) = max dp d := by omega
  rw [if_pos h, h, hw, hmx]
  have e0 : ((0 : Int) != 0) = false := rfl
  rw [e0, cond_false]
  cases x with
  | list l => exact Zf6 l d ih hd (by omega) l.length 0 (n + 1) (max dp d) (by omega) (by omega) (by omega)
  | dict l =>
   show Option.bind (zs0 ⟨n + 1, max dp d, 0⟩ l d) (fun x => some (x.1, x.2)) = _
   rw [Z2y l d _ _ ih hd (by omega) (by omega) (by omega)]; rfl
  | record c v l =>
   show Option.bind (zs0 ⟨n + 1, max dp d, 0⟩ l d) (fun x => some (x.1, x.2)) = _
   rw [Z2y l d _ _ ih hd (by omega) (by omega) (by omega)]; rfl
  | nothing => have := h0.2.2; simp [z30] at this
  | _ => simp only [V.parts, z3a]; rfl
 ·rw [if_neg h]
  have e0 : (z93 x n d != 0) = true := by simpa using h
  rw [e0]; rfl
def z29 (x : V) : Int × Int := if (z2c x 0 0 1).ok then (0, 0) else ((z2c x 0 0 1).n, (z2c x 0 0 1).why)
def zyq (x : V) : Int × Int × Int := if (z2c x 0 0 1).ok then ((z2c x 0 0 1).n, (z2c x 0 0 1).dp, 0) else (0, 0, (z2c x 0 0 1).why)
theorem zpi (x : V) : zjb x = some (z29 x) := by
 simp only [zjb, Z2z x 0 0 0 1 (by omega) (by omega) (by omega) (by omega), Option.bind_some, ctS, z29]
 cases (z2c x 0 0 1).ok <;> rfl
theorem Z86 (x : V) : zvz x = some (z29 x) := by simp only [zvz, zpi, Option.bind_some]
def z1y (t : Term) : List Term := if t.kind = 8 then t.list else if t.kind = 9 ∨ t.kind = 10 then t.fields.map (·.2) else []
theorem z39 (t : Term) : (z1y t).map bu = (bu t).parts := by
 have hb := zy6 t
 unfold z1y
 generalize bu t = x at hb
 cases hb with
 | list hk => rw [if_pos hk]; rfl
 | dict hk => rw [if_neg (by omega), if_pos (Or.inl hk)]; simp only [V.parts, zy4]
 | record hk => rw [if_neg (by omega), if_pos (Or.inr hk)]; simp only [V.parts, zy4]
 | _ hk => rw [if_neg (by omega), if_neg (by omega)]; rfl
theorem zvp {t u : Term} (h : u ∈ z1y t) : SizeOf.sizeOf u < SizeOf.sizeOf t := by
 cases t with
 | mk k b i f s y r l d c v =>
 unfold z1y at h
 split at h
 ·have := List.sizeOf_lt_of_mem h; simp [Term.list] at this ⊢; omega
 ·split at h
  ·obtain ⟨⟨s, z⟩, hz, rfl⟩ := List.mem_map.1 h
   have := List.sizeOf_lt_of_mem hz; simp [Term.fields] at this ⊢; omega
  ·cases h
theorem Term.byParts {P : Term → Prop} (h : ∀ t, (∀ u, u ∈ z1y t → P u) → P t) (t : Term) : P t :=
 h t (fun u hu => Term.byParts h u)
termination_by SizeOf.sizeOf t
decreasing_by exact zvp hu
end Go.Proofs.Ytiapdjdhaclmnaa

namespace Go.Proofs.Ytiapdjdhaclmnaa
open Go Aw
set_option linter.unusedVariables false
set_option linter.unusedSimpArgs false
set_option maxRecDepth 8000
theorem Z80 (x : V) : zvv x = some (zyq x) := by
 simp only [zvv, Z2z x 0 0 0 1 (by omega) (by omega) (by omega) (by omega), Option.bind_some, ctS, zyq]
 cases (z2c x 0 0 1).ok <;> rfl
end Go.Proofs.Ytiapdjdhaclmnaa

namespace Go.Proofs.Ytiapdjdhaclmnaa
open Go Aw
set_option linter.unusedVariables false
set_option linter.unusedSimpArgs false
set_option maxRecDepth 8000
theorem zt8 (c : UInt8) (g : Int → Option Bool) (i : Nat) (s : Str) (hi : i < s.length) (hb : s.length ≤ 32) (hc : s[i]? = some c) :
 z54 s g (i : Int) = bif (if i = 0 then Z5d c else zym c) then g ((i + 1 : Nat) : Int) else some false := by
 have h97 : (97 : UInt8).toNat = 97 := rfl
 have h122 : (122 : UInt8).toNat = 122 := rfl
 have h48 : (48 : UInt8).toNat = 48 := rfl
 have h57 : (57 : UInt8).toNat = 57 := rfl
 have h95 : (95 : UInt8).toNat = 95 := rfl
 have hw : IntKind.i64.wrap ((i : Int) + 1) = ((i + 1 : Nat) : Int) := by rw [z2s (by omega) (by omega)]; omega
 simp only [z54, z4b hi, z36, hc, cond_true, Option.bind_some, zdd, z8k, h97, h122, h48, h57, h95, hw]
 by_cases h0 : i = 0
 ·subst h0
  simp only [Bool.cond_eq_ite, decide_eq_true_eq, bne_iff_ne, ne_eq, Bool.false_eq_true, if_false, if_true, loOk_iff, Bool.not_eq_true', Bool.not_false, decide_eq_false_iff_not]
  repeat (split <;> (try (first | rfl | (exfalso; omega))))
  all_goals (first | rfl | (exfalso; simp_all; omega) | (simp_all; done))
 ·have e0 : ((i : Int) == 0) = false := by simp; omega
  rw [if_neg h0]
  simp only [e0, Bool.cond_eq_ite, decide_eq_true_eq, bne_iff_ne, ne_eq, Bool.false_eq_true, if_false, if_true, chOk_iff, Bool.not_eq_true', Bool.not_false, decide_eq_false_iff_not]
  repeat (split <;> (try (first | rfl | (exfalso; omega))))
  all_goals (first | rfl | (exfalso; simp_all; omega) | (simp_all; done))
theorem Ze7 (s : Str) (hb : s.length ≤ 32) : ∀ k i, k + i = s.length → 0 < i → zdc s (i : Int) = some ((s.drop i).all zym)
 | 0, i, h, h0 => by
  rw [zet]
  simp only [z54, z42 (by omega : ¬ i < s.length), cond_false]
  rw [List.drop_of_length_le (by omega)]; rfl
 | k + 1, i, h, h0 => by
  obtain ⟨c, hc, hd⟩ := dropc (by omega : i < s.length)
  rw [zet, zt8 c _ i s (by omega) hb hc, if_neg (by omega), Ze7 s hb k (i + 1) (by omega) (by omega), hd, List.all_cons]
  cases zym c <;> rfl
theorem Zbt {c : UInt8} (h : Z5d c = true) : zym c = true := chOk_iff.2 (.inl (loOk_iff.1 h))
theorem zpg (s : Str) : zlt s = some (z3i s) := by
 simp only [zlt, zh6]
 by_cases h1 : s.length < 1
 ·have : s = [] := List.eq_nil_of_length_eq_zero (by omega)
  subst this; rfl
 ·have e1 : decide ((s.length : Int) < 1) = false := decide_eq_false (by omega)
  rw [e1]
  by_cases h32 : s.length ≤ 32
  ·have e2 : decide ((s.length : Int) > 32) = false := decide_eq_false (by omega)
   rw [e2]
   simp only [cond_false]
   cases s with
   | nil => simp at h1
   | cons c r =>
    have hb := zt8 c (zdc (c :: r)) 0 (c :: r) (by simp) h32 rfl
    have hl := Ze7 (c :: r) h32 r.length 1 (by simp) (by omega)
    have e : zdc (c :: r) 0 = z54 (c :: r) (zdc (c :: r)) ((0 : Nat) : Int) := zet (c :: r) 0
    rw [e, hb, if_pos rfl]
    simp only [hl, z3i, List.headD_cons, Nat.ble_eq_true_of_le h32, Nat.ble_eq_true_of_le (by simp : 1 ≤ (c :: r).length), Bool.true_and, List.all_cons]
    cases hlo : Z5d c with
    | true => rw [Zbt hlo]; rfl
    | false => rfl
  ·have e2 : decide ((s.length : Int) > 32) = true := decide_eq_true (by omega)
   have e3 : Nat.ble s.length 32 = false := by
    cases hb : Nat.ble s.length 32 with
    | false => rfl
    | true => exact absurd (Nat.le_of_ble_eq_true hb) h32
   rw [e2]
   simp only [cond_true, cond_false, z3i, e3, Bool.and_false, Bool.false_and]
end Go.Proofs.Ytiapdjdhaclmnaa

namespace Go.Proofs.Ytiapdjdhaclmnaa
open Go Aw
set_option linter.unusedVariables false
set_option linter.unusedSimpArgs false
set_option maxRecDepth 8000
theorem Ze9 (t : Term) (hb : t.fields.length ≤ 4096) : ∀ k i, k + i = t.fields.length → zh0 t i = some (r08 (risen (z3z (t.fields.map (·.1)) i) ((t.fields.map (·.1)).drop i)))
 | 0, i, h => by
  rw [zk7]
  simp only [z7i, z42 (by omega : ¬ i < t.fields.length), cond_false]
  rw [List.drop_of_length_le (by simp; omega), za9]; rfl
 | k + 1, i, h => by
  obtain ⟨x, hx, _⟩ := dropc (by omega : i < t.fields.length)
  have hr := zdm t.fields i (by omega) hb _ (Ze9 t hb k (i + 1) (by omega)) x hx
  rw [zk7]
  simp only [z7i, z4b (by omega : i < t.fields.length), cond_true, hx, Option.bind_some, zpg, zab, cond_false]
  exact hr
theorem Z7r (t : Term) : (bif decide ((t.fields.length : Int) > 4096) then some 2 else zh0 t 0) = some (z6t (t.fields.map (·.1))) := by
 simp only [z6t, List.length_map]
 by_cases h : 4096 < t.fields.length
 ·rw [decide_eq_true (by omega : (t.fields.length : Int) > 4096), if_pos h]; rfl
 ·rw [decide_eq_false (by omega : ¬ (t.fields.length : Int) > 4096), if_neg h, cond_false, Ze9 t (by omega) t.fields.length 0 (by omega)]; rfl
theorem Z7w (t : Term) (n d : Int) : zgi t n d = some (z93 (bu t) n d) := by
  have hfar : ∀ k : Int, t.kind = k → 1 ≤ k → k ≤ 10 → (16384 ≤ n ∨ 64 < d) → zgi t n d = some 2 := by
    intro k hk h1 h2 h3
    have e1 : (t.kind == 11) = false := by rw [hk]; simp; omega
    have e2 : decide (t.kind < 1) = false := decide_eq_false (by omega)
    have e3 : decide (t.kind > 10) = false := decide_eq_false (by omega)
    simp only [zgi, e1, e2, e3, cond_false, zd7]
    by_cases h4 : n ≥ 16384
    · rw [decide_eq_true h4]; rfl
    · rw [decide_eq_false h4, cond_false, decide_eq_true (by omega : d > 64)]; rfl
  have hnear : ∀ k : Int, t.kind = k → 1 ≤ k → k ≤ 10 → ¬ (16384 ≤ n ∨ 64 < d) → zgi t n d = z4s t false := by
    intro k hk h1 h2 h3
    have e1 : (t.kind == 11) = false := by rw [hk]; simp; omega
    have e2 : decide (t.kind < 1) = false := decide_eq_false (by omega)
    have e3 : decide (t.kind > 10) = false := decide_eq_false (by omega)
    simp only [zgi, e1, e2, e3, cond_false, zd7]
    rw [decide_eq_false (by omega : ¬ n ≥ 16384), cond_false, decide_eq_false (by omega : ¬ d > 64)]
  have hb := zy6 t
  simp only [z93]
  generalize bu t = x at hb
  cases hb with
  | nothing hk => have e1 : (t.kind == 11) = true := by rw [hk]; rfl
                  simp only [zgi, e1, cond_true, Z0m, z30, ite_self]
  | alien hk =>
    have e1 : (t.kind == 11) = false := by simp; omega
    simp only [zgi, e1, cond_false, Z0m, z30, ite_self, zd7]
    rcases hk with hk | hk
    · rw [decide_eq_true hk]; rfl
    · rw [decide_eq_false (by omega : ¬ t.kind < 1), cond_false, decide_eq_true (by omega : t.kind > 10)]; rfl
  | nil hk | bool hk | int hk | float hk | ref hk =>
    by_cases h : 16384 ≤ n ∨ 64 < d
    · rw [if_pos h, hfar _ hk (by decide) (by decide) h]; rfl
    · rw [if_neg h, hnear _ hk (by decide) (by decide) h]
      simp only [z4s, z8i, z6z, z3q, z6y, z9j, hk]; rfl
  | text hk =>
    by_cases h : 16384 ≤ n ∨ 64 < d
    · rw [if_pos h, hfar _ hk (by decide) (by decide) h]; rfl
    · rw [if_neg h, hnear _ hk (by decide) (by decide) h]
      have e : z4s t false = bif decide ((t.text.length : Int) > 65536) then z3q t true else z3q t false := by
        simp only [z4s, z8i, z6z, hk]; rfl
      rw [e]
      refine Z63 t.text.length 65536 (fun b => bif b then z3q t true else z3q t false) rfl ?_
      show z3q t false = some 0
      simp only [z3q, z6y, z9j, hk]; rfl
  | bytes hk =>
    by_cases h : 16384 ≤ n ∨ 64 < d
    · rw [if_pos h, hfar _ hk (by decide) (by decide) h]; rfl
    · rw [if_neg h, hnear _ hk (by decide) (by decide) h]
      have e : z4s t false = z3q t (decide ((t.bytes.length : Int) > 65536)) := by
        simp only [z4s, z8i, z6z, hk]; rfl
      rw [e]
      refine Z63 t.bytes.length 65536 (fun b => z3q t b) rfl ?_
      simp only [z3q, z6y, z9j, hk]; rfl
  | list hk =>
    by_cases h : 16384 ≤ n ∨ 64 < d
    · rw [if_pos h, hfar _ hk (by decide) (by decide) h]; rfl
    · rw [if_neg h, hnear _ hk (by decide) (by decide) h]
      have e : z4s t false = z6y t (decide ((t.list.length : Int) > 4096)) := by
        simp only [z4s, z8i, z6z, z3q, hk]; rfl
      rw [e]
      simp only [z30, List.length_map]
      refine Z63 t.list.length 4096 (fun b => z6y t b) rfl ?_
      simp only [z6y, z9j, hk]; rfl
  | dict hk =>
    by_cases h : 16384 ≤ n ∨ 64 < d
    · rw [if_pos h, hfar _ hk (by decide) (by decide) h]; rfl
    · rw [if_neg h, hnear _ hk (by decide) (by decide) h]
      have e : z4s t false = z9j t false := by
        simp only [z4s, z8i, z6z, z3q, z6y, hk]; rfl
      rw [e, z30, zjp, ← Z7r]; rfl
  | record hk =>
    by_cases h : 16384 ≤ n ∨ 64 < d
    · rw [if_pos h, hfar _ hk (by decide) (by decide) h]; rfl
    · rw [if_neg h, hnear _ hk (by decide) (by decide) h]
      have e7 : z6z t false = some (z6t (t.fields.map (·.1))) := by
        rw [← Z7r]
        simp only [z6z, z3q, z6y, hk]; rfl
      have e1 : (t.kind == 10) = true := by rw [hk]; rfl
      simp only [z4s, z8i, e1, cond_true, cond_false, zpg, Option.bind_some, z30, zjp]
      cases hn : z3i t.cls with
      | false => rfl
      | true =>
        simp only [Bool.not_true, cond_false]
        by_cases h1 : t.ver < 1
        · rw [decide_eq_true h1, cond_true, if_neg (by simp), if_pos (Or.inl h1)]; rfl
        · rw [decide_eq_false h1, cond_false, if_neg (by simp)]
          by_cases h2 : t.ver > 1000
          · rw [decide_eq_true h2, if_pos (Or.inr h2)]; rfl
          · rw [decide_eq_false h2, if_neg (by omega), e7]
theorem Ze6 (t : Term) (hb : t.fields.length ≤ 268435456) : ∀ k i acc, k + i = t.fields.length → acc.length = i → zkn t acc i = some (acc ++ (t.fields.map (·.2)).drop i)
 | 0, i, acc, h, ha => by
  rw [zkm]
  simp only [z7k, z42 (by omega : ¬ i < t.fields.length), cond_false, zh9]
  rw [List.drop_of_length_le (by simp; omega), List.append_nil]
 | k + 1, i, acc, h, ha => by
  obtain ⟨x, hx, _⟩ := dropc (by omega : i < t.fields.length)
  have hx2 : (t.fields.map (·.2))[i]? = some x.2 := by rw [List.getElem?_map, hx]; rfl
  obtain ⟨x', hx', hdr⟩ := dropc (by rw [List.length_map]; omega : i < (t.fields.map (·.2)).length)
  rw [hx2] at hx'; injection hx' with hx'; subst hx'
  have hap : z9f 152 acc [x.2] = some (acc ++ [x.2]) := by
   unfold z9f; rw [Nat.ble_eq_true_of_le (by simp; omega)]; rfl
  rw [zkm]
  simp only [z7k, z4b (by omega : i < t.fields.length), cond_true, hx, Option.bind_some, hap]
  rw [Ze6 t hb k (i + 1) (acc ++ [x.2]) (by omega) (by simp [ha]), hdr]; simp
theorem Z2t (t : Term) (hb : t.fields.length ≤ 268435456) : zrn t = some (z1y t) := by
 unfold z1y zrn
 by_cases h8 : t.kind = 8
 ·rw [if_pos h8, h8]; rfl
 ·have e8 : (t.kind == 8) = false := by simpa using h8
  rw [if_neg h8, e8, cond_false]
  have hl : zh8 t true = some (t.fields.map (·.2)) := Ze6 t hb t.fields.length 0 [] (by omega) rfl
  by_cases h9 : t.kind = 9
  ·rw [if_pos (Or.inl h9), h9]; exact hl
  ·have e9 : (t.kind == 9) = false := by simpa using h9
   rw [e9, cond_false]
   by_cases h10 : t.kind = 10
   ·rw [if_pos (Or.inr h10), h10]; exact hl
   ·have e10 : (t.kind == 10) = false := by simpa using h10
    rw [if_neg (by omega), e10]; rfl
def seS (c : Ct) (a : Int) : S_ref01_seen := if c.ok then ⟨c.n, c.dp, a, 0⟩ else ⟨c.n, c.dp, c.n, c.why⟩
def Z41 (t : Term) : Prop := ∀ n dp a d, -4611686018427387904 ≤ n → n ≤ 16384 → -4611686018427387904 ≤ d → d ≤ 65 → zlu ⟨n, dp, a, 0⟩ t d = some (seS (z2c (bu t) n dp d) a)
theorem Ze4 (l : List Term) (a d : Int) (hl : ∀ y, y ∈ l → Z41 y) (hd : -4611686018427387904 ≤ d) (hd' : d ≤ 64) : ∀ k i n dp, k + i = l.length → -4611686018427387904 ≤ n → n ≤ 16384 → zf3 zlu d l i n dp a 0 = some (seS (z33 ((l.map bu).drop i) n dp (d + 1)) a)
 | 0, i, n, dp, h, hn, hm => by
  rw [zld]
  simp only [z6k, z42 (by omega : ¬ i < l.length), cond_false]
  rw [List.drop_of_length_le (by simp; omega), z3a]; rfl
 | k + 1, i, n, dp, h, hn, hm => by
  obtain ⟨x, hx, _⟩ := dropc (by omega : i < l.length)
  have hx2 : (l.map bu)[i]? = some (bu x) := by rw [List.getElem?_map, hx]; rfl
  obtain ⟨x', hx', hdr⟩ := dropc (by rw [List.length_map]; omega : i < (l.map bu).length)
  rw [hx2] at hx'; injection hx' with hx'; subst hx'
  have hp := hl x (List.mem_of_getElem? hx) n dp a (d + 1) hn hm (by omega) (by omega)
  have hw : IntKind.i64.wrap (d + 1) = d + 1 := z2s (by omega) (by omega)
  rw [zld]
  simp only [z6k, z4b (by omega : i < l.length), cond_true, hx, Option.bind_some, hw, hp]
  rw [hdr, z2q]
  have hf := z73 (bu x) (d + 1) n dp
  cases hk : (z2c (bu x) n dp (d + 1)).ok with
  | false =>
   have h1 := hf.bad hk
   have e : ((seS (z2c (bu x) n dp (d + 1)) a).f_why != 0) = true := by simp only [seS, hk]; simpa using h1
   rw [e, cond_true, if_neg (by simp)]
  | true =>
   have h1 := hf.ok hk
   have h2 := hf.lo
   have e : seS (z2c (bu x) n dp (d + 1)) a = ⟨(z2c (bu x) n dp (d + 1)).n, (z2c (bu x) n dp (d + 1)).dp, a, 0⟩ := by simp only [seS, hk]; rfl
   rw [e, if_pos rfl]
   show zf3 zlu d l (i + 1) _ _ a 0 = _
   rw [Ze4 l a d hl hd hd' k (i + 1) _ _ (by omega) (by omega) h1.1]
theorem Z4e (t : Term) : bkT t ≤ 268435456 → Z41 t := by
 induction t using Term.byParts with
 | _ t ih =>
 intro hb n dp a d hn hm hd hd'
 have hfl : t.fields.length ≤ 268435456 := by
  cases t with
  | mk k b i f s y r l dd c v =>
   have hsum : ∀ l : List (Str × Term), l.length ≤ bkEs l := by
    intro l; induction l with
    | nil => simp
    | cons x r ih => obtain ⟨s, x⟩ := x; rw [bkEs, List.length_cons]; omega
   have := hsum dd
   rw [bkT] at hb; show dd.length ≤ _; omega
 have hbp : ∀ u, u ∈ z1y t → bkT u ≤ 268435456 := by
  intro u hu
  cases t with
  | mk k b i f s y r l dd c v =>
   have h1 : ∀ {l : List Term} {u : Term}, u ∈ l → bkT u ≤ zge l := by
    intro l u h; induction l with
    | nil => cases h
    | cons x r ih => rw [zge]; rcases List.mem_cons.1 h with rfl | h; (· omega); (· have := ih h; omega)
   have h2 : ∀ {l : List (Str × Term)} {u : Term}, u ∈ l.map (·.2) → bkT u ≤ bkEs l := by
    intro l u h; induction l with
    | nil => cases h
    | cons x r ih => obtain ⟨s, x⟩ := x; rw [bkEs]; rcases List.mem_cons.1 h with rfl | h; (· show bkT u ≤ _; omega); (· have := ih h; omega)
   rw [bkT] at hb
   unfold z1y at hu
   split at hu
   ·have := h1 hu; simp only [Term.list] at this; omega
   ·split at hu
    ·have := h2 hu; simp only [Term.fields] at this; omega
    ·cases hu
 rw [Zdl, zow, z40]
 simp only [Z7w, Option.bind_some]
 by_cases h : z93 (bu t) n d = 0
 ·have h0 := z92 h
  have hw : IntKind.i64.wrap (n + 1) = n + 1 := z2s (by omega) (by omega)
  have e0 : ((0 : Int) != 0) = false := rfl
  rw [if_pos h, h, e0, cond_false]
  have hj : ∀ m, zat zlu ⟨n, dp, a, 0⟩ t d m = some (seS (z33 ((z1y t).map bu) (n + 1) m (d + 1)) a) := by
   intro m
   simp only [zat, Z2t t hfl, Option.bind_some, hw]
   exact Ze4 (z1y t) a d (fun y hy => ih y hy (hbp y hy)) hd (by omega) (z1y t).length 0 (n + 1) m (by omega) (by omega) (by omega)
  rw [hj, hj, z39]
  by_cases hdd : d > dp
  ·rw [decide_eq_true hdd, cond_true, show max dp d = d by omega]
  ·rw [decide_eq_false hdd, cond_false, show max dp d = dp by omega]
 ·rw [if_neg h]
  have e0 : (z93 (bu t) n d != 0) = true := by simpa using h
  rw [e0]; rfl
theorem Z89 (t : Term) (hb : bkT t ≤ 268435456) : zw1 t = some (z29 (bu t)) := by
 simp only [zw1, Z4e t hb 0 0 0 1 (by omega) (by omega) (by omega) (by omega), Option.bind_some, z29, seS]
 cases (z2c (bu t) 0 0 1).ok <;> rfl
end Go.Proofs.Ytiapdjdhaclmnaa

namespace Go.Proofs.Ytiapdjdhaclmnaa
open Go Aw
set_option linter.unusedVariables false
set_option linter.unusedSimpArgs false
set_option maxRecDepth 8000
theorem Z3z {α : Type} {b : Nat} {acc : List α} {x : α} (hb : b ≤ 1024) (h : acc.length ≤ 1073741824) : z9f b acc [x] = some (acc ++ [x]) := by
 have h1 : (acc.length + 1) * b ≤ (1073741824 + 1) * 1024 := Nat.mul_le_mul (by omega) hb
 unfold z9f
 rw [Nat.ble_eq_true_of_le (by simp only [List.length_cons, List.length_nil, Nat.zero_add]; omega)]; rfl
theorem Z29 {α : Type} {b : Nat} {l : List α} (hb : b ≤ 1024) (h : l.length ≤ 1073741824) : z9f b [] l = some l := by
 have h1 : l.length * b ≤ 1073741824 * 1024 := Nat.mul_le_mul h hb
 unfold z9f
 rw [Nat.ble_eq_true_of_le (by simp only [List.length_nil, Nat.zero_add]; omega)]; rfl
theorem zqu : ∀ {l : List Term} {u : Term}, u ∈ l → bkT u ≤ zge l
 | x :: r, u, h => by
  rw [zge]; rcases List.mem_cons.1 h with rfl | h
  ·omega
  ·have := zqu h; omega
theorem zqw : ∀ {l : List (Str × Term)} {u : Str × Term}, u ∈ l → bkT u.2 ≤ bkEs l
 | (s, x) :: r, u, h => by
  rw [bkEs]; rcases List.mem_cons.1 h with rfl | h
  ·show bkT x ≤ _; omega
  ·have := zqw h; omega
theorem zqv : ∀ (l : List Term), l.length ≤ zge l
 | [] => by simp
 | .mk k b i f s y r l dd c v :: q => by rw [zge, List.length_cons, bkT]; have := zqv q; omega
theorem zqx : ∀ (l : List (Str × Term)), l.length ≤ bkEs l
 | [] => by simp
 | (s, x) :: q => by rw [bkEs, List.length_cons]; have := zqx q; omega
theorem zdn (t : Term) : bkT t = t.text.length + t.bytes.length + t.cls.length + zge t.list + bkEs t.fields + 12 := by cases t; rw [bkT]; rfl
theorem zy7 {t u : Term} (h : u ∈ t.list) : bkT u < bkT t := by have := zqu h; have := zdn t; omega
theorem zmr {t : Term} {u : Str × Term} (h : u ∈ t.fields) : bkT u.2 < bkT t := by have := zqw h; have := zdn t; omega
theorem zzw (t : Term) : t.list.length ≤ bkT t := by have := zqv t.list; have := zdn t; omega
theorem zi5 (t : Term) : t.fields.length ≤ bkT t := by have := zqx t.fields; have := zdn t; omega
theorem zx6 (t : Term) : t.bytes.length ≤ bkT t := by have := zdn t; omega
theorem z4k {α β : Type} {l : List α} {f : α → β} {i : Nat} {x : α} (h : l[i]? = some x) : (l.take i).map f ++ [f x] = (l.take (i + 1)).map f := by
 obtain ⟨hi, rfl⟩ := List.getElem?_eq_some_iff.1 h
 rw [List.take_add_one, List.getElem?_eq_getElem hi, List.map_append]; rfl
end Go.Proofs.Ytiapdjdhaclmnaa

namespace Go.Proofs.Ytiapdjdhaclmnaa
open Go Aw
set_option linter.unusedVariables false
set_option linter.unusedSimpArgs false
set_option maxRecDepth 8000
def c3 (a b : Int) : Int := if a < b then -1 else if a > b then 1 else 0
def th (c d : Int) : Int := if c = 0 then d else c
def zdl : List Int → List Int → Int
 | [], [] => 0
 | [], _ :: _ => -1
 | _ :: _, [] => 1
 | a :: x, b :: y => th (c3 a b) (zdl x y)
theorem Za5 (a b : Int) : c3 b a = - c3 a b := by unfold c3; split <;> split <;> (try split) <;> (try split) <;> omega
theorem c3_zero {a b : Int} : c3 a b = 0 ↔ a = b := by unfold c3; split <;> (try split) <;> omega
theorem znx (a : Int) : c3 a a = 0 := c3_zero.2 rfl
theorem c3_lt {a b : Int} : c3 a b = -1 ↔ a < b := by unfold c3; split <;> (try split) <;> omega
theorem zqo (a b k : Int) : c3 (a + k) (b + k) = c3 a b := by unfold c3; split <;> split <;> (try split) <;> (try split) <;> omega
theorem z7h (a b c : Int) : th (th a b) c = th a (th b c) := by unfold th; by_cases h : a = 0 <;> by_cases h2 : b = 0 <;> simp_all
theorem zq3 : ∀ x y, zdl y x = - zdl x y
 | [], [] => rfl
 | [], _ :: _ => rfl
 | _ :: _, [] => rfl
 | a :: x, b :: y => by
  have := zq3 x y
  have := Za5 a b
  rw [zdl, zdl]; unfold th; split <;> split <;> omega
theorem zic (a b : Int) : (bif decide (a < b) then some (-1 : Int) else bif decide (a > b) then some 1 else some 0) = some (c3 a b) := by
 unfold c3
 by_cases h : a < b
 ·rw [decide_eq_true h, if_pos h]; rfl
 ·rw [decide_eq_false h, if_neg h, cond_false]
  by_cases h2 : a > b
  ·rw [decide_eq_true h2, if_pos h2]; rfl
  ·rw [decide_eq_false h2, if_neg h2]; rfl
def cmpS (a b : Str) : Int := if Op.bytesLess a b then -1 else if a == b then 0 else 1
def zm6 : Str → List Int
 | [] => [0]
 | c :: r => ((c.toNat : Int) + 1) :: zm6 r
theorem Z62 (a b : UInt8) (x y : Str) : Op.bytesLess (a :: x) (b :: y) = (a < b || (a == b && Op.bytesLess x y)) := rfl
theorem zmm (a b : UInt8) (x y : Str) : cmpS (a :: x) (b :: y) = th (c3 ((a.toNat : Int) + 1) ((b.toNat : Int) + 1)) (cmpS x y) := by
 unfold cmpS
 rw [Z62]
 rcases Nat.lt_trichotomy a.toNat b.toNat with h | h | h
 ·have h1 : a < b := UInt8.lt_iff_toNat_lt.2 h
  have : c3 ((a.toNat : Int) + 1) ((b.toNat : Int) + 1) = -1 := c3_lt.2 (by omega)
  rw [this]; simp [h1, th]
 ·have h1 : a = b := UInt8.toNat_inj.1 h
  subst h1
  have : c3 ((a.toNat : Int) + 1) ((a.toNat : Int) + 1) = 0 := znx _
  rw [this]
  have h2 : ¬ a < a := by rw [UInt8.lt_iff_toNat_lt]; omega
  simp [h2, th]
 ·have h1 : ¬ a < b := by rw [UInt8.lt_iff_toNat_lt]; omega
  have h2 : (a == b) = false := by rw [beq_eq_false_iff_ne]; intro e; subst e; omega
  have : c3 ((a.toNat : Int) + 1) ((b.toNat : Int) + 1) = 1 := by unfold c3; rw [if_neg (by omega), if_pos (by omega)]
  have h3 : a ≠ b := by simpa using h2
  rw [this]; simp [h1, h2, th, h3]
theorem zm5 : ∀ (a b : Str) (r s : List Int), zdl (zm6 a ++ r) (zm6 b ++ s) = th (cmpS a b) (zdl r s)
 | [], [], r, s => by show th (c3 0 0) _ = _; rfl
 | [], b :: y, r, s => by
  have : c3 0 ((b.toNat : Int) + 1) = -1 := c3_lt.2 (by omega)
  show th (c3 0 ((b.toNat : Int) + 1)) _ = _
  rw [this]; rfl
 | a :: x, [], r, s => by
  have : c3 ((a.toNat : Int) + 1) 0 = 1 := by unfold c3; rw [if_neg (by omega), if_pos (by omega)]
  show th (c3 ((a.toNat : Int) + 1) 0) _ = _
  rw [this]; rfl
 | a :: x, b :: y, r, s => by
  show th (c3 ((a.toNat : Int) + 1) ((b.toNat : Int) + 1)) (zdl (zm6 x ++ r) (zm6 y ++ s)) = _
  rw [zm5 x y r s, zmm, z7h]
theorem zpk (a b : Str) : znd a b = some (cmpS a b) := by
 simp only [znd, cmpS]
 cases h : Op.bytesLess a b with
 | true => rfl
 | false => simp only [cond_false, Bool.false_or, Bool.false_eq_true, if_false]; cases a == b <;> rfl
def trI (b : Bool) : Int := if b then 1 else 0
noncomputable def plV (f : Nat) : Int := if Z6f .u64 (f : Int) 63 = 1 then Zbr .u64 f else orK .u64 f 9223372036854775808
mutual
noncomputable def z4o : V → V → Int
 | .bool a, y => match y with | .bool b => c3 (trI a) (trI b) | y => c3 2 (z1l y)
 | .int a, y => match y with | .int b => c3 a b | y => c3 3 (z1l y)
 | .float a, y => match y with | .float b => c3 (plV a) (plV b) | y => c3 4 (z1l y)
 | .text a, y => match y with | .text b => cmpS a b | y => c3 5 (z1l y)
 | .bytes a, y => match y with | .bytes b => cmpS a b | y => c3 6 (z1l y)
 | .ref a, y => match y with | .ref b => c3 a b | y => c3 7 (z1l y)
 | .list a, y => match y with | .list b => zjd a b | y => c3 8 (z1l y)
 | .dict a, y => match y with | .dict b => zgd a b | y => c3 9 (z1l y)
 | .record c v a, y => match y with | .record c' v' b => th (cmpS c c') (th (c3 v v') (zgd a b)) | y => c3 10 (z1l y)
 | .nil, y => c3 1 (z1l y)
 | .nothing, y => c3 11 (z1l y)
 | .alien _, y => c3 0 (z1l y)
noncomputable def zjd : List V → List V → Int
 | [], y => match y with | [] => 0 | _ :: _ => -1
 | a :: x, y => match y with | [] => 1 | b :: y => th (z4o a b) (zjd x y)
noncomputable def zgd : List (Str × V) → List (Str × V) → Int
 | [], y => match y with | [] => 0 | _ :: _ => -1
 | (s, a) :: x, y => match y with | [] => 1 | (t, b) :: y => th (th (cmpS s t) (z4o a b)) (zgd x y)
end
mutual
noncomputable def key : V → List Int
 | .nil => [1]
 | .bool b => [2, trI b]
 | .int i => [3, i]
 | .float f => [4, plV f]
 | .text s => 5 :: zm6 s
 | .bytes s => 6 :: zm6 s
 | .ref i => [7, i]
 | .list l => 8 :: znn l
 | .dict l => 9 :: zi6 l
 | .record c v l => 10 :: (zm6 c ++ (v :: zi6 l))
 | .nothing => [11]
 | .alien _ => [0]
noncomputable def znn : List V → List Int
 | [] => [0]
 | x :: r => 1 :: (key x ++ znn r)
noncomputable def zi6 : List (Str × V) → List Int
 | [] => [0]
 | (s, x) :: r => 1 :: (zm6 s ++ (key x ++ zi6 r))
end
theorem z53 (a b : Int) : th (c3 a a) b = b := by rw [znx]; rfl
theorem zsu (b : Int) : th b 0 = b := by unfold th; split <;> simp_all
theorem zq5 (x : V) : ∃ r, key x = z1l x :: r := by cases x <;> exact ⟨_, by rw [key]; rfl⟩
theorem z7b {x y : V} (h : z1l x ≠ z1l y) (r s : List Int) : zdl (key x ++ r) (key y ++ s) = th (c3 (z1l x) (z1l y)) (zdl r s) := by
 obtain ⟨a, ha⟩ := zq5 x
 obtain ⟨b, hb⟩ := zq5 y
 rw [ha, hb]
 show th (c3 _ _) _ = _
 have : c3 (z1l x) (z1l y) ≠ 0 := fun e => h (c3_zero.1 e)
 unfold th; rw [if_neg this, if_neg this]
mutual
theorem Z5g : ∀ (x y : V) (r s : List Int), zdl (key x ++ r) (key y ++ s) = th (z4o x y) (zdl r s)
  | .nil, y, r, s => by
    cases y <;> first | (refine z7b (x := .nil) ?_ r s; simp [z1l]; done) | (rw [key]; show th (c3 1 1) _ = _; rw [z4o]; rfl)
  | .nothing, y, r, s => by
    cases y <;> first | (refine z7b (x := .nothing) ?_ r s; simp [z1l]; done) | (rw [key]; show th (c3 11 11) _ = _; rw [z4o]; rfl)
  | .alien t, y, r, s => by
    cases y <;> first | (refine z7b (x := .alien t) ?_ r s; simp [z1l]; done) | (rw [key, key]; show th (c3 0 0) _ = _; rw [z4o]; rfl)
  | .bool a, y, r, s => by
    cases y <;> first | (refine z7b (x := .bool a) ?_ r s; simp [z1l]; done) | (rw [key, key, z4o]; show th (c3 2 2) (th _ _) = _; rw [z53]; rfl)
  | .int a, y, r, s => by
    cases y <;> first | (refine z7b (x := .int a) ?_ r s; simp [z1l]; done) | (rw [key, key, z4o]; show th (c3 3 3) (th _ _) = _; rw [z53]; rfl)
  | .float a, y, r, s => by
    cases y <;> first | (refine z7b (x := .float a) ?_ r s; simp [z1l]; done) | (rw [key, key, z4o]; show th (c3 4 4) (th _ _) = _; rw [z53]; rfl)
  | .ref a, y, r, s => by
    cases y <;> first | (refine z7b (x := .ref a) ?_ r s; simp [z1l]; done) | (rw [key, key, z4o]; show th (c3 7 7) (th _ _) = _; rw [z53]; rfl)
  | .text a, y, r, s => by
    cases y <;> first | (refine z7b (x := .text a) ?_ r s; simp [z1l]; done) | (rw [key, key, z4o]; show th (c3 5 5) (zdl (zm6 _ ++ r) (zm6 _ ++ s)) = _; rw [z53, zm5])
  | .bytes a, y, r, s => by
    cases y <;> first | (refine z7b (x := .bytes a) ?_ r s; simp [z1l]; done) | (rw [key, key, z4o]; show th (c3 6 6) (zdl (zm6 _ ++ r) (zm6 _ ++ s)) = _; rw [z53, zm5])
  | .list a, y, r, s => by
    cases y <;> first | (refine z7b (x := .list a) ?_ r s; simp [z1l]; done) | (rw [key, key, z4o]; show th (c3 8 8) (zdl (znn _ ++ r) (znn _ ++ s)) = _; rw [z53, Z3a])
  | .dict a, y, r, s => by
    cases y <;> first | (refine z7b (x := .dict a) ?_ r s; simp [z1l]; done) | (rw [key, key, z4o]; show th (c3 9 9) (zdl (zi6 _ ++ r) (zi6 _ ++ s)) = _; rw [z53, zx9])
  | .record c v a, y, r, s => by
    cases y <;> first
      | (refine z7b (x := .record c v a) ?_ r s; simp [z1l]; done)
      | (rw [key, key, z4o]
         show th (c3 10 10) (zdl ((zm6 _ ++ (_ :: zi6 _)) ++ r) ((zm6 _ ++ (_ :: zi6 _)) ++ s)) = _
         rw [z53, List.append_assoc, List.append_assoc, zm5]
         show th _ (th (c3 _ _) (zdl (zi6 _ ++ r) (zi6 _ ++ s))) = _
         rw [zx9, z7h, z7h])
theorem Z3a : ∀ (x y : List V) (r s : List Int), zdl (znn x ++ r) (znn y ++ s) = th (zjd x y) (zdl r s)
 | [], [], r, s => by rw [znn, zjd]; rfl
 | [], b :: y, r, s => by rw [znn, znn, zjd]; rfl
 | a :: x, [], r, s => by rw [znn, znn, zjd]; rfl
 | a :: x, b :: y, r, s => by
  rw [znn, znn, zjd]
  show th (c3 1 1) (zdl ((key a ++ znn x) ++ r) ((key b ++ znn y) ++ s)) = _
  rw [z53, List.append_assoc, List.append_assoc, Z5g a b, Z3a x y r s, z7h]
theorem zx9 : ∀ (x y : List (Str × V)) (r s : List Int), zdl (zi6 x ++ r) (zi6 y ++ s) = th (zgd x y) (zdl r s)
 | [], [], r, s => by rw [zi6, zgd]; rfl
 | [], (t, b) :: y, r, s => by rw [zi6, zi6, zgd]; rfl
 | (u, a) :: x, [], r, s => by rw [zi6, zi6, zgd]; rfl
 | (u, a) :: x, (t, b) :: y, r, s => by
  rw [zi6, zi6, zgd]
  show th (c3 1 1) (zdl ((zm6 u ++ (key a ++ zi6 x)) ++ r) ((zm6 t ++ (key b ++ zi6 y)) ++ s)) = _
  simp only [List.append_assoc]
  rw [z53, zm5, Z5g a b, zx9 x y r s, z7h, z7h]
end
theorem zwc (x y : V) : z4o x y = zdl (key x) (key y) := by
 have := Z5g x y [] []
 rw [List.append_nil, List.append_nil] at this
 rw [this]; exact (zsu _).symm
end Go.Proofs.Ytiapdjdhaclmnaa

namespace Go.Proofs.Ytiapdjdhaclmnaa
open Go Aw
set_option linter.unusedVariables false
set_option linter.unusedSimpArgs false
set_option maxRecDepth 8000
def Fine (x : V) : Prop := ∃ n dp d, (z2c x n dp d).ok = true
theorem zlr {d : Int} : ∀ {l : List V} {n dp : Int}, (z33 l n dp d).ok = true → ∀ y, y ∈ l → ∃ n dp, (z2c y n dp d).ok = true
 | x :: r, n, dp, h, y, hy => by
  rw [z2q] at h
  cases hk : (z2c x n dp d).ok with
  | false => rw [if_neg (by simp [hk])] at h; rw [hk] at h; cases h
  | true =>
   rw [if_pos hk] at h
   rcases List.mem_cons.1 hy with rfl | hy
   ·exact ⟨n, dp, hk⟩
   ·exact zlr h y hy
theorem Fine.own {x : V} (h : Fine x) : z30 x = 0 ∧ ∀ y, y ∈ x.parts → Fine y := by
 obtain ⟨n, dp, d, h⟩ := h
 rw [z40] at h
 split at h
 ·rename_i ho
  exact ⟨(z92 ho).2.2, fun y hy => let ⟨n', dp', h'⟩ := zlr h y hy; ⟨n', dp', _, h'⟩⟩
 ·cases h
theorem z2n {x : V} (h : (z29 x).2 = 0) : Fine x ∧ z29 x = (0, 0) := by
 unfold z29 at h ⊢
 cases hk : (z2c x 0 0 1).ok with
 | true => exact ⟨⟨0, 0, 1, hk⟩, rfl⟩
 | false =>
  rw [if_neg (by simp [hk])] at h
  exact absurd h ((z73 x 1 0 0).bad hk)
theorem Zbs {a : Int} (h : a ≠ 0) : (a != 0) = true := by simpa using h
theorem zg2 {l : List Str} (h : z6t l = 0) : l.length ≤ 4096 := by
 unfold z6t at h
 split at h
 ·cases h
 ·omega
theorem zb7 {l : List V} (h : z30 (.list l) = 0) : l.length ≤ 4096 := by
 simp only [z30] at h
 split at h
 ·cases h
 ·omega
theorem ze0 {c : Str} {v : Int} {l : List (Str × V)} (h : z30 (.record c v l) = 0) : (1 ≤ v ∧ v ≤ 1000) ∧ l.length ≤ 4096 := by
 simp only [z30] at h
 split at h
 ·cases h
 ·split at h
  ·cases h
  ·have := zg2 h; rw [List.length_map] at this; omega
theorem z78 {l : List (Str × V)} (h : z30 (.dict l) = 0) : l.length ≤ 4096 := by
 have := zg2 h; rwa [List.length_map] at this
end Go.Proofs.Ytiapdjdhaclmnaa

namespace Go.Proofs.Ytiapdjdhaclmnaa
open Go Aw
set_option linter.unusedVariables false
set_option linter.unusedSimpArgs false
set_option maxRecDepth 8000
theorem zuq (a b : Int) : zrv a b = some (c3 a b) := zic a b
theorem Z8b (a b : Int) : zz7 a b = some (c3 a b) := zic a b
theorem Z8c (a b : Int) : zz9 a b = some (c3 a b) := zic a b
theorem zdp (a b : Int) : zza a b = some (c3 a b) := zic a b
theorem Z88 (b : Bool) : zw0 b = some (trI b) := by cases b <;> rfl
theorem Z87 (f : Nat) : zrq f = some (plV f) := by
 unfold zrq plV
 by_cases h : Z6f .u64 (f : Int) 63 = 1
 ·rw [if_pos h, h]; rfl
 ·rw [if_neg h]
  have : (Z6f .u64 (f : Int) 63 == 1) = false := by simpa using h
  rw [this]; rfl
theorem Zc5 {i n : Nat} (h : n ≤ i) : decide ((i : Int) ≥ (n : Int)) = true := decide_eq_true (by omega)
theorem Zc6 {i n : Nat} (h : ¬ n ≤ i) : decide ((i : Int) ≥ (n : Int)) = false := decide_eq_false (by omega)
theorem z7g (c d : Int) : (bif c != 0 then some c else some d) = some (th c d) := by
 unfold th
 by_cases h : c = 0
 ·subst h; rfl
 ·have : (c != 0) = true := by simpa using h
  rw [this, if_neg h]; rfl
theorem zny (a b : UInt8) : zw6 a b = some (c3 ((a.toNat : Int) + 1) ((b.toNat : Int) + 1)) := by
 have h1 : ∀ x : UInt8, zry x = some false := fun x => by unfold zry; simp
 simp only [zw6, h1, Option.bind_some, cond_false, zqo]
 exact zic _ _
theorem zy2 (a b : Str) : ∀ k i, k + i = a.length → i ≤ b.length → zlg a b i = some (cmpS (a.drop i) (b.drop i))
 | 0, i, h, hb => by
  rw [zlf]
  simp only [z7p, z42 (by omega : ¬ i < a.length), cond_false]
  rw [List.drop_of_length_le (by omega : a.length ≤ i)]
  by_cases hl : a.length < b.length
  ·obtain ⟨y, hy, hd⟩ := dropc (by omega : i < b.length)
   rw [z4b hl, hd]; rfl
  ·rw [z42 hl, List.drop_of_length_le (by omega : b.length ≤ i)]; rfl
 | k + 1, i, h, hb => by
  obtain ⟨x, hx, hdx⟩ := dropc (by omega : i < a.length)
  rw [zlf]
  simp only [z7p, z4b (by omega : i < a.length), cond_true, hx, Option.bind_some]
  by_cases hl : i < b.length
  ·obtain ⟨y, hy, hdy⟩ := dropc hl
   rw [Zc6 (by omega : ¬ b.length ≤ i), hdx, hdy, zmm]
   simp only [cond_false, hy, Option.bind_some, zny, zy2 a b k (i + 1) (by omega) (by omega), z7g]
  ·rw [Zc5 (by omega : b.length ≤ i), hdx, List.drop_of_length_le (by omega : b.length ≤ i)]; rfl
theorem zmq (a b : Str) : zzb a b = some (cmpS a b) := zy2 a b a.length 0 (by omega) (by omega)
theorem Ze0 (a b : List V) (hab : ∀ x, x ∈ a → ∀ y, y ∈ b → zay x y = some (z4o x y)) : ∀ k i, k + i = a.length → i ≤ b.length → zhy zay a b i = some (zjd (a.drop i) (b.drop i))
 | 0, i, h, hb => by
  rw [zlm]
  simp only [z6p, z42 (by omega : ¬ i < a.length), cond_false]
  rw [List.drop_of_length_le (by omega : a.length ≤ i)]
  by_cases hl : a.length < b.length
  ·obtain ⟨y, hy, hd⟩ := dropc (by omega : i < b.length)
   rw [z4b hl, hd, zjd]; rfl
  ·rw [z42 hl, List.drop_of_length_le (by omega : b.length ≤ i), zjd]; rfl
 | k + 1, i, h, hb => by
  obtain ⟨x, hx, hdx⟩ := dropc (by omega : i < a.length)
  rw [zlm]
  simp only [z6p, z4b (by omega : i < a.length), cond_true, hx, Option.bind_some]
  by_cases hl : i < b.length
  ·obtain ⟨y, hy, hdy⟩ := dropc hl
   rw [Zc6 (by omega : ¬ b.length ≤ i), hdx, hdy, zjd]
   simp only [cond_false, hy, Option.bind_some, hab x (List.mem_of_getElem? hx) y (List.mem_of_getElem? hy), Ze0 a b hab k (i + 1) (by omega) (by omega), z7g]
  ·rw [Zc5 (by omega : b.length ≤ i), hdx, List.drop_of_length_le (by omega : b.length ≤ i), zjd]; rfl
theorem Z0l (p q : Str × V) (h : zay p.2 q.2 = some (z4o p.2 q.2)) : zn9 p q = some (th (cmpS p.1 q.1) (z4o p.2 q.2)) := by
 rw [Zd3, zod]
 simp only [zpk, Option.bind_some, h, z7g]
theorem Ze2 (a b : List (Str × V)) (hab : ∀ x, x ∈ a → ∀ y, y ∈ b → zay x.2 y.2 = some (z4o x.2 y.2)) : ∀ k i, k + i = a.length → i ≤ b.length → zhz zn9 a b i = some (zgd (a.drop i) (b.drop i))
 | 0, i, h, hb => by
  rw [zln]
  simp only [z6q, z42 (by omega : ¬ i < a.length), cond_false]
  rw [List.drop_of_length_le (by omega : a.length ≤ i)]
  by_cases hl : a.length < b.length
  ·obtain ⟨y, hy, hd⟩ := dropc (by omega : i < b.length)
   rw [z4b hl, hd, zgd]; rfl
  ·rw [z42 hl, List.drop_of_length_le (by omega : b.length ≤ i), zgd]; rfl
 | k + 1, i, h, hb => by
  obtain ⟨x, hx, hdx⟩ := dropc (by omega : i < a.length)
  rw [zln]
  simp only [z6q, z4b (by omega : i < a.length), cond_true, hx, Option.bind_some]
  obtain ⟨sx, vx⟩ := x
  by_cases hl : i < b.length
  ·obtain ⟨y, hy, hdy⟩ := dropc hl
   obtain ⟨sy, vy⟩ := y
   rw [Zc6 (by omega : ¬ b.length ≤ i), hdx, hdy, zgd]
   simp only [cond_false, hy, Option.bind_some, Z0l _ _ (hab _ (List.mem_of_getElem? hx) _ (List.mem_of_getElem? hy)), Ze2 a b hab k (i + 1) (by omega) (by omega), z7g]
  ·rw [Zc5 (by omega : b.length ≤ i), hdx, List.drop_of_length_le (by omega : b.length ≤ i), zgd]; rfl
theorem zxv (a b : List (Str × V)) (hab : ∀ x, x ∈ a → ∀ y, y ∈ b → zay x.2 y.2 = some (z4o x.2 y.2)) : zs3 a b = some (zgd a b) := by
 rw [Zds, zp3]
 exact Ze2 a b hab a.length 0 (by omega) (by omega)
theorem Z5e (a b : List V) (hab : ∀ x, x ∈ a → ∀ y, y ∈ b → zay x y = some (z4o x y)) : zs2 a b = some (zjd a b) := by
 rw [Zdr, zp2]
 exact Ze0 a b hab a.length 0 (by omega) (by omega)
theorem zwd {x y : V} (h : z1l x ≠ z1l y) : z4o x y = c3 (z1l x) (z1l y) := by
 rw [zwc]
 have := z7b h [] []
 rw [List.append_nil, List.append_nil] at this
 rw [this]; exact zsu _
theorem Z82 (x : V) : ∀ y, Fine x → Fine y → zay x y = some (z4o x y) := by
  induction x using V.byParts with
  | _ x ih =>
  intro y hx hy
  have hpx := hx.own.2
  have hpy := hy.own.2
  have e0 : ((0 : Int) != 0) = false := rfl
  rw [Zd1, zob]
  simp only [zph, zuq, Option.bind_some]
  by_cases hk : z1l x = z1l y
  · rw [hk, znx, e0, cond_false]
    cases x with
    | nil => cases y <;> first | (simp [z1l] at hk; done) | (rw [z4o]; rfl)
    | nothing => have := hx.own.1; simp [z30] at this
    | alien t => have := hx.own.1; simp [z30] at this
    | bool a => cases y <;> first | (simp [z1l] at hk; done) | (rw [z4o]; simp only [V.isBool, V.asBool, V.theBool, cond_true, Z88, Option.bind_some, zuq])
    | int a => cases y <;> first | (simp [z1l] at hk; done) | (rw [z4o]; simp only [V.isBool, V.isInt, V.asInt, V.theInt, cond_true, cond_false, Option.bind_some, Z8b])
    | float a => cases y <;> first | (simp [z1l] at hk; done) | (rw [z4o]; simp only [V.isBool, V.isInt, V.isFloat, V.asFloat, V.theFloat, cond_true, cond_false, Option.bind_some, Z87, Z8c])
    | text a => cases y <;> first | (simp [z1l] at hk; done) | (rw [z4o]; simp only [V.isBool, V.isInt, V.isFloat, V.isText, V.asText, V.theText, cond_true, cond_false, Option.bind_some, zpk])
    | bytes a => cases y <;> first | (simp [z1l] at hk; done) | (rw [z4o]; simp only [V.isBool, V.isInt, V.isFloat, V.isText, V.isBytes, V.asBytes, V.theBytes, cond_true, cond_false, Option.bind_some, zmq])
    | ref a => cases y <;> first | (simp [z1l] at hk; done) | (rw [z4o]; simp only [V.isBool, V.isInt, V.isFloat, V.isText, V.isBytes, V.isRef, V.asRef, V.theRef, cond_true, cond_false, Option.bind_some, zdp])
    | list a =>
      cases y <;> first
        | (simp [z1l] at hk; done)
        | (rename_i b
           rw [z4o]
           simp only [V.isBool, V.isInt, V.isFloat, V.isText, V.isBytes, V.isRef, V.isList, V.asList, V.theList, cond_true, cond_false, Option.bind_some]
           rw [Z5e a b (fun u hu v hv => ih u hu v (hpx u hu) (hpy v hv))]; rfl)
    | dict a =>
      cases y <;> first
        | (simp [z1l] at hk; done)
        | (rename_i b
           rw [z4o]
           simp only [V.isBool, V.isInt, V.isFloat, V.isText, V.isBytes, V.isRef, V.isList, V.isDict, V.asDict, V.theDict, cond_true, cond_false, Option.bind_some]
           rw [zxv a b (fun u hu v hv => ih u.2 (List.mem_map_of_mem hu) v.2 (hpx _ (List.mem_map_of_mem hu)) (hpy _ (List.mem_map_of_mem hv)))]; rfl)
    | record c v a =>
      cases y <;> first
        | (simp [z1l] at hk; done)
        | (rename_i b
           rw [z4o]
           simp only [V.isBool, V.isInt, V.isFloat, V.isText, V.isBytes, V.isRef, V.isList, V.isDict, V.isRec, V.asRec, V.theRec, cond_true, cond_false, Option.bind_some, zpk, zuq]
           rw [zxv a b (fun u hu v hv => ih u.2 (List.mem_map_of_mem hu) v.2 (hpx _ (List.mem_map_of_mem hu)) (hpy _ (List.mem_map_of_mem hv)))]
           simp only [Option.bind_some, z7g])
  · have h2 : c3 (z1l x) (z1l y) ≠ 0 := fun e => hk (c3_zero.1 e)
    have e1 : (c3 (z1l x) (z1l y) != 0) = true := by simpa using h2
    rw [e1, cond_true, zwd hk]
noncomputable def zyr (x y : V) : Bool := (z29 x).2 == 0 && ((z29 y).2 == 0 && z4o x y == 0)
theorem Z7y (x y : V) : zvt x y = some (zyr x y) := by
 simp only [zvt, zpi, Option.bind_some, zyr]
 by_cases hx : (z29 x).2 = 0
 ·have ex : ((z29 x).2 == 0) = true := by simpa using hx
  rw [ex, cond_true, Bool.true_and]
  by_cases hy : (z29 y).2 = 0
  ·have ey : ((z29 y).2 == 0) = true := by simpa using hy
   rw [ey, cond_true, Bool.true_and, Z82 x y (z2n hx).1 (z2n hy).1]; rfl
  ·have ey : ((z29 y).2 == 0) = false := by simpa using hy
   rw [ey]; rfl
 ·have ex : ((z29 x).2 == 0) = false := by simpa using hx
  rw [ex]; rfl
end Go.Proofs.Ytiapdjdhaclmnaa

namespace Go.Proofs.Ytiapdjdhaclmnaa
open Go Aw
set_option linter.unusedVariables false
set_option linter.unusedSimpArgs false
set_option maxRecDepth 8000
mutual
def cnt : V → Int
 | .list l => 1 + cntL l
 | .dict l => 1 + zql l
 | .record _ _ l => 1 + zql l
 | _ => 1
def cntL : List V → Int
 | [] => 0
 | x :: r => cnt x + cntL r
def zql : List (Str × V) → Int
 | [] => 0
 | (_, x) :: r => cnt x + zql r
end
mutual
def dpt : V → Int
 | .list l => 1 + dptL l
 | .dict l => 1 + Z6j l
 | .record _ _ l => 1 + Z6j l
 | _ => 1
def dptL : List V → Int
 | [] => 0
 | x :: r => max (dpt x) (dptL r)
def Z6j : List (Str × V) → Int
 | [] => 0
 | (_, x) :: r => max (dpt x) (Z6j r)
end
theorem ze7 : ∀ l, zql l = cntL (l.map (·.2))
 | [] => by simp only [zql, cntL, List.map_nil]
 | (s, x) :: r => by simp only [zql, cntL, List.map_cons, ze7 r]
theorem zqk : ∀ l, Z6j l = dptL (l.map (·.2))
 | [] => by simp only [Z6j, dptL, List.map_nil]
 | (s, x) :: r => by simp only [Z6j, dptL, List.map_cons, zqk r]
theorem zmk (x : V) : cnt x = 1 + cntL x.parts := by cases x <;> simp only [cnt, V.parts, ze7, cntL] <;> rfl
theorem zmi (x : V) : dpt x = 1 + dptL x.parts := by cases x <;> simp only [dpt, V.parts, zqk, dptL] <;> rfl
inductive Near : V → Prop
 | mk {x : V} : z30 x = 0 → (∀ y, y ∈ x.parts → Near y) → Near x
theorem Near.own {x : V} (h : Near x) : z30 x = 0 := by cases h; assumption
theorem Near.part {x : V} (h : Near x) : ∀ y, y ∈ x.parts → Near y := by cases h; assumption
theorem z44 (x : V) : 1 ≤ cnt x ∧ 1 ≤ dpt x := by
 induction x using V.byParts with
 | _ x ih =>
  rw [zmk, zmi]
  have : ∀ l : List V, (∀ y, y ∈ l → 1 ≤ cnt y ∧ 1 ≤ dpt y) → 0 ≤ cntL l ∧ 0 ≤ dptL l := by
   intro l
   induction l with
   | nil => intro _; simp [cntL, dptL]
   | cons y r ihr =>
    intro h
    have h1 := h y (by simp)
    have h2 := ihr (fun z hz => h z (by simp [hz]))
    simp only [cntL, dptL]; omega
  have := this x.parts ih
  omega
theorem own_iff {x : V} {n d : Int} : z93 x n d = 0 ↔ n < 16384 ∧ d ≤ 64 ∧ z30 x = 0 := by
 constructor
 ·exact z92
 ·rintro ⟨h1, h2, h3⟩
  unfold z93; rw [if_neg (by omega)]; exact h3
theorem zzr {x : V} (h : z30 x = 0) : Z0m x = 2 := by cases x <;> first | rfl | (simp [z30] at h)
structure Goes (x : V) : Prop where
 yes : ∀ n dp d, Near x → d - 1 ≤ dp → n + cnt x ≤ 16384 → d + dpt x - 1 ≤ 64 → z2c x n dp d = ⟨true, n + cnt x, max dp (d + dpt x - 1), 0⟩
 ok : ∀ n dp d, (z2c x n dp d).ok = true → Near x ∧ n + cnt x ≤ 16384 ∧ d + dpt x - 1 ≤ 64 ∧ (z2c x n dp d).n = n + cnt x
 long : ∀ n dp d, Near x → (z2c x n dp d).ok = false → (z2c x n dp d).why = 2
theorem Z8w {l : List V} (h : ∀ y, y ∈ l → Goes y) :
 (∀ n dp d, (∀ y, y ∈ l → Near y) → d - 1 ≤ dp → n + cntL l ≤ 16384 → d + dptL l - 1 ≤ 64 → z33 l n dp d = ⟨true, n + cntL l, max dp (d + dptL l - 1), 0⟩) ∧
 (∀ n dp d, n ≤ 16384 → d ≤ 65 → (z33 l n dp d).ok = true → (∀ y, y ∈ l → Near y) ∧ n + cntL l ≤ 16384 ∧ d + dptL l - 1 ≤ 64 ∧ (z33 l n dp d).n = n + cntL l) ∧
 (∀ n dp d, (∀ y, y ∈ l → Near y) → (z33 l n dp d).ok = false → (z33 l n dp d).why = 2) := by
 induction l with
 | nil =>
  refine ⟨fun n dp d _ hd _ _ => ?_, fun n dp d hn hd _ => ?_, fun n dp d _ hk => ?_⟩
  ·rw [z3a, cntL, dptL]; congr 1 <;> omega
  ·rw [z3a, cntL, dptL]; exact ⟨by simp, by omega, by omega, by simp⟩
  ·rw [z3a] at hk; cases hk
 | cons x r ih =>
  have hx := h x (by simp)
  obtain ⟨i1, i2, i3⟩ := ih (fun y hy => h y (by simp [hy]))
  have hp := z44 x
  have hr : 0 ≤ cntL r ∧ 0 ≤ dptL r := by
   clear i1 i2 i3 ih h hx
   induction r with
   | nil => simp [cntL, dptL]
   | cons y q ihq => have := z44 y; simp only [cntL, dptL]; omega
  refine ⟨fun n dp d hnr hd hn hdd => ?_, fun n dp d hn hd hk => ?_, fun n dp d hnr hk => ?_⟩
  ·rw [cntL] at hn ⊢
   rw [dptL] at hdd ⊢
   have e := hx.yes n dp d (hnr x (by simp)) hd (by omega) (by omega)
   rw [z2q, e, if_pos rfl]
   rw [i1 _ _ d (fun y hy => hnr y (by simp [hy])) (by simp only; omega) (by simp only; omega) (by omega)]
   congr 1
   ·simp only; omega
   ·simp only; omega
  ·rw [z2q] at hk ⊢
   cases hk1 : (z2c x n dp d).ok with
   | false => rw [if_neg (by simp [hk1])] at hk; rw [hk1] at hk; cases hk
   | true =>
    rw [if_pos hk1] at hk
    rw [if_pos rfl]
    obtain ⟨a1, a2, a3, a4⟩ := hx.ok n dp d hk1
    rw [a4] at hk ⊢
    obtain ⟨b1, b2, b3, b4⟩ := i2 _ _ d (by omega) hd hk
    rw [cntL, dptL]
    refine ⟨fun y hy => ?_, by omega, by omega, by omega⟩
    rcases List.mem_cons.1 hy with rfl | hy
    ·exact a1
    ·exact b1 y hy
  ·rw [z2q] at hk ⊢
   cases hk1 : (z2c x n dp d).ok with
   | false => rw [if_neg (by simp [hk1])]; exact hx.long n dp d (hnr x (by simp)) hk1
   | true =>
    rw [if_pos hk1] at hk
    rw [if_pos rfl]
    exact i3 _ _ d (fun y hy => hnr y (by simp [hy])) hk
theorem goes (x : V) : Goes x := by
 induction x using V.byParts with
 | _ x ih =>
  obtain ⟨i1, i2, i3⟩ := Z8w ih
  have hp := z44 x
  refine ⟨fun n dp d hnr hd hn hdd => ?_, fun n dp d hk => ?_, fun n dp d hnr hk => ?_⟩
  ·rw [z40, if_pos (own_iff.2 ⟨by omega, by omega, hnr.own⟩)]
   rw [zmk] at hn ⊢
   rw [zmi] at hdd ⊢
   have hd0 := hp.2
   rw [zmi] at hd0
   rw [i1 _ _ (d + 1) hnr.part (by omega) (by omega) (by omega)]
   congr 1 <;> omega
  ·rw [z40] at hk ⊢
   by_cases ho : z93 x n d = 0
   ·rw [if_pos ho] at hk ⊢
    have h0 := z92 ho
    obtain ⟨b1, b2, b3, b4⟩ := i2 _ _ (d + 1) (by omega) (by omega) hk
    rw [zmk, zmi]
    exact ⟨.mk h0.2.2 b1, by omega, by omega, by omega⟩
   ·rw [if_neg ho] at hk; cases hk
  ·rw [z40] at hk ⊢
   by_cases ho : z93 x n d = 0
   ·rw [if_pos ho] at hk ⊢; exact i3 _ _ _ hnr.part hk
   ·rw [if_neg ho]
    have : z93 x n d = Z0m x := by
     unfold z93 at ho ⊢
     split
     ·rfl
     ·rename_i hc; rw [if_neg hc] at ho; exact absurd hnr.own ho
    show z93 x n d = 2
    rw [this]; exact zzr hnr.own
def Can (x : V) : Prop := Near x ∧ cnt x ≤ 16384 ∧ dpt x ≤ 64
theorem can_ok {x : V} : (z2c x 0 0 1).ok = true ↔ Can x := by
 constructor
 ·intro h
  obtain ⟨a, b, c, _⟩ := (goes x).ok 0 0 1 h
  exact ⟨a, by omega, by omega⟩
 ·rintro ⟨a, b, c⟩
  rw [(goes x).yes 0 0 1 a (by omega) (by omega) (by omega)]
theorem zyp {x : V} (h : Can x) : zyq x = (cnt x, dpt x, 0) := by
 have hp := z44 x
 unfold zyq
 rw [if_pos (can_ok.2 h), (goes x).yes 0 0 1 h.1 (by omega) (by have := h.2.1; omega) (by have := h.2.2; omega)]
 simp only [Prod.mk.injEq, and_true]
 omega
theorem zxy {x : V} (h : Can x) : z29 x = (0, 0) := by unfold z29; rw [if_pos (can_ok.2 h)]
theorem zmn {x : V} (h : ¬ Can x) : (z29 x).2 ≠ 0 := by
 unfold z29
 have hk : (z2c x 0 0 1).ok = false := by
  cases hk : (z2c x 0 0 1).ok with
  | false => rfl
  | true => exact absurd (can_ok.1 hk) h
 rw [if_neg (by simp [hk])]
 exact (z73 x 1 0 0).bad hk
theorem zqn {x : V} (h : Can x) : Fine x := ⟨0, 0, 1, can_ok.2 h⟩
end Go.Proofs.Ytiapdjdhaclmnaa

namespace Go.Proofs.Ytiapdjdhaclmnaa
open Go Aw
set_option linter.unusedVariables false
set_option linter.unusedSimpArgs false
set_option maxRecDepth 8000
theorem zpj (a b : Str) : zna a b = some (cmpS a b) := zpk a b
theorem z9o (a b : Int) : zfg a b = some (c3 a b) := zic a b
theorem Z81 (b : Bool) : zvw b = some (trI b) := by cases b <;> rfl
theorem Z4b (x : Int) : IntKind.u64.wrap x = x % 18446744073709551616 := rfl
theorem za6 {x : Int} (h0 : 0 ≤ x) (h1 : x < 18446744073709551616) : IntKind.u64.wrap x = x := by rw [Z4b]; omega
theorem Z8g (f : Nat) (h : f < 9223372036854775808) : orK .u64 (f : Int) 9223372036854775808 = (f : Int) + 9223372036854775808 := by
 have e1 : (BitVec.ofInt 64 (f : Int) ||| BitVec.ofInt 64 9223372036854775808).toNat = f + 9223372036854775808 := by
  rw [BitVec.toNat_or]
  have h1 : (BitVec.ofInt 64 (f : Int)).toNat = f := by
   rw [BitVec.toNat_ofInt]; omega
  have h2 : (BitVec.ofInt 64 9223372036854775808).toNat = 9223372036854775808 := rfl
  rw [h1, h2, Nat.or_comm]
  have := Nat.two_pow_add_eq_or_of_lt (i := 63) (b := f) (by omega) 1
  rw [show 2 ^ 63 * 1 = 9223372036854775808 by decide] at this
  omega
 show IntKind.u64.wrap ((BitVec.ofInt 64 (f : Int) ||| BitVec.ofInt 64 9223372036854775808).toNat : Int) = _
 rw [e1, za6 (by omega) (by omega)]; omega
theorem Z2v (f : Nat) (h : f < 18446744073709551616) : zrr f = some (plV f) := by
 have hs : Z6f .u64 (f : Int) 63 = (f : Int) / 9223372036854775808 := by
  show (f : Int).fdiv (2 ^ 63) = _
  rw [Int.fdiv_eq_ediv_of_nonneg _ (by decide)]; rfl
 unfold zrr plV
 rw [hs]
 by_cases hb : (f : Int) ≥ 9223372036854775808
 ·rw [decide_eq_true hb, if_pos (by omega)]; rfl
 ·rw [decide_eq_false hb, if_neg (by omega), cond_false, Z8g f (by omega), za6 (by omega) (by omega)]
structure FT (t : Term) : Prop where
 ok : okT t
 fine : Fine (bu t)
theorem zm1 (t : Term) : okT t ↔ (inI .i64 t.kind ∧ inI .i64 t.int ∧ t.float < 18446744073709551616 ∧ inI .u64 t.ref ∧ Z32 t.list ∧ Z34 t.fields ∧ inI .i64 t.ver) := by cases t; rw [okT]; rfl
theorem zb5 : ∀ {l : List Term}, Z32 l → ∀ t, t ∈ l → okT t
 | x :: r, h, t, ht => by
  rw [Z32] at h
  rcases List.mem_cons.1 ht with rfl | ht
  ·exact h.1
  ·exact zb5 h.2 t ht
theorem zb6 : ∀ {l : List (Str × Term)}, Z34 l → ∀ t, t ∈ l → okT t.2
 | (s, x) :: r, h, t, ht => by
  rw [Z34] at h
  rcases List.mem_cons.1 ht with rfl | ht
  ·exact h.1
  ·exact zb6 h.2 t ht
theorem zo1 {t : Term} (h : Fine (bu t)) : z1l (bu t) = t.kind ∧ 1 ≤ t.kind ∧ t.kind ≤ 10 := by
 have hb := zy6 t
 have hn := h.own.1
 generalize bu t = x at hb hn
 cases hb with
 | nothing hk => simp [z30] at hn
 | alien hk => simp [z30] at hn
 | _ hk => rw [hk]; exact ⟨rfl, by decide, by decide⟩
theorem Zeb (a b : Term) (hab : ∀ x, x ∈ a.list → ∀ y, y ∈ b.list → z9x x y = some (z4o (bu x) (bu y))) (ha : a.list.length ≤ 4096) (hb : b.list.length ≤ 4096) :
 ∀ k i, k + i = a.list.length → i ≤ b.list.length → zex z9x a b (i : Int) = some (zjd ((a.list.map bu).drop i) ((b.list.map bu).drop i))
 | 0, i, h, hbi => by
  rw [zl3]
  simp only [z6c, z42 (by omega : ¬ i < a.list.length), cond_false, zam, z9o, Option.bind_some, za6 (by omega : 0 ≤ (a.list.length : Int)) (by omega), za6 (by omega : 0 ≤ (b.list.length : Int)) (by omega)]
  rw [List.drop_of_length_le (by simp; omega : (a.list.map bu).length ≤ i)]
  by_cases hl : a.list.length < b.list.length
  ·obtain ⟨y, hy, hd⟩ := dropc (by rw [List.length_map]; omega : i < (b.list.map bu).length)
   rw [hd, zjd, c3_lt.2 (by omega)]
  ·rw [List.drop_of_length_le (by simp; omega : (b.list.map bu).length ≤ i), zjd, c3_zero.2 (by omega)]
 | k + 1, i, h, hbi => by
  obtain ⟨x, hx, _⟩ := dropc (by omega : i < a.list.length)
  have hx2 : (a.list.map bu)[i]? = some (bu x) := by rw [List.getElem?_map, hx]; rfl
  obtain ⟨x', hx', hdx⟩ := dropc (by rw [List.length_map]; omega : i < (a.list.map bu).length)
  rw [hx2] at hx'; injection hx' with hx'; subst hx'
  have hw : IntKind.i64.wrap ((i : Int) + 1) = ((i + 1 : Nat) : Int) := by rw [z2s (by omega) (by omega)]; omega
  rw [zl3]
  simp only [z6c, z4b (by omega : i < a.list.length), cond_true, zam]
  by_cases hl : i < b.list.length
  ·obtain ⟨y, hy, _⟩ := dropc hl
   have hy2 : (b.list.map bu)[i]? = some (bu y) := by rw [List.getElem?_map, hy]; rfl
   obtain ⟨y', hy', hdy⟩ := dropc (by rw [List.length_map]; omega : i < (b.list.map bu).length)
   rw [hy2] at hy'; injection hy' with hy'; subst hy'
   rw [z4b hl, hdx, hdy, zjd]
   simp only [cond_true, z36, hx, hy, Option.bind_some, hab x (List.mem_of_getElem? hx) y (List.mem_of_getElem? hy), hw, Zeb a b hab ha hb k (i + 1) (by omega) (by omega), z7g]
  ·rw [z42 hl, hdx, List.drop_of_length_le (by simp; omega : (b.list.map bu).length ≤ i), zjd]
   simp only [cond_false, z9o, Option.bind_some, za6 (by omega : 0 ≤ (a.list.length : Int)) (by omega), za6 (by omega : 0 ≤ (b.list.length : Int)) (by omega)]
   unfold c3; rw [if_neg (by omega), if_pos (by omega)]
theorem Zea (a b : List (Str × Term)) (hab : ∀ x, x ∈ a → ∀ y, y ∈ b → z9x x.2 y.2 = some (z4o (bu x.2) (bu y.2))) (ha : a.length ≤ 4096) (hb : b.length ≤ 4096) :
 ∀ k i, k + i = a.length → i ≤ b.length → zhj z9x a b (i : Int) = some (zgd ((a.map buE).drop i) ((b.map buE).drop i))
 | 0, i, h, hbi => by
  rw [zkz]
  simp only [z6a, z42 (by omega : ¬ i < a.length), cond_false, zak, z9o, Option.bind_some, za6 (by omega : 0 ≤ (a.length : Int)) (by omega), za6 (by omega : 0 ≤ (b.length : Int)) (by omega)]
  rw [List.drop_of_length_le (by simp; omega : (a.map buE).length ≤ i)]
  by_cases hl : a.length < b.length
  ·obtain ⟨y, hy, hd⟩ := dropc (by rw [List.length_map]; omega : i < (b.map buE).length)
   rw [hd, zgd, c3_lt.2 (by omega)]
  ·rw [List.drop_of_length_le (by simp; omega : (b.map buE).length ≤ i), zgd, c3_zero.2 (by omega)]
 | k + 1, i, h, hbi => by
  obtain ⟨x, hx, _⟩ := dropc (by omega : i < a.length)
  have hx2 : (a.map buE)[i]? = some (buE x) := by rw [List.getElem?_map, hx]; rfl
  obtain ⟨x', hx', hdx⟩ := dropc (by rw [List.length_map]; omega : i < (a.map buE).length)
  rw [hx2] at hx'; injection hx' with hx'; subst hx'
  have hw : IntKind.i64.wrap ((i : Int) + 1) = ((i + 1 : Nat) : Int) := by rw [z2s (by omega) (by omega)]; omega
  rw [zkz]
  simp only [z6a, z4b (by omega : i < a.length), cond_true, zak]
  obtain ⟨sx, tx⟩ := x
  by_cases hl : i < b.length
  ·obtain ⟨y, hy, _⟩ := dropc hl
   have hy2 : (b.map buE)[i]? = some (buE y) := by rw [List.getElem?_map, hy]; rfl
   obtain ⟨y', hy', hdy⟩ := dropc (by rw [List.length_map]; omega : i < (b.map buE).length)
   rw [hy2] at hy'; injection hy' with hy'; subst hy'
   obtain ⟨sy, ty⟩ := y
   rw [z4b hl, hdx, hdy]
   simp only [buE]
   rw [zgd]
   simp only [cond_true, z36, hx, hy, Option.bind_some, zpj, hab _ (List.mem_of_getElem? hx) _ (List.mem_of_getElem? hy), hw, Zea a b hab ha hb k (i + 1) (by omega) (by omega), z7g, z7h]
  ·rw [z42 hl, hdx, List.drop_of_length_le (by simp; omega : (b.map buE).length ≤ i)]
   simp only [buE]
   rw [zgd]
   simp only [cond_false, z9o, Option.bind_some, za6 (by omega : 0 ≤ (a.length : Int)) (by omega), za6 (by omega : 0 ≤ (b.length : Int)) (by omega)]
   unfold c3; rw [if_neg (by omega), if_pos (by omega)]
theorem zme (a b : List (Str × Term)) (hab : ∀ x, x ∈ a → ∀ y, y ∈ b → z9x x.2 y.2 = some (z4o (bu x.2) (bu y.2))) (ha : a.length ≤ 4096) (hb : b.length ≤ 4096) : zz5 a b = some (zgd (a.map buE) (b.map buE)) := by
 rw [Zdb, zom]
 exact Zea a b hab ha hb a.length 0 (by omega) (by omega)
theorem Za6 {i j : Int} (hi : inI .i64 i) (hj : inI .i64 j) : c3 (IntKind.u64.wrap (IntKind.u64.wrap i + 9223372036854775808)) (IntKind.u64.wrap (IntKind.u64.wrap j + 9223372036854775808)) = c3 i j := by
 have h : ∀ {i : Int}, inI .i64 i → IntKind.u64.wrap (IntKind.u64.wrap i + 9223372036854775808) = i + 9223372036854775808 := by
  intro i hi
  have h1 : -9223372036854775808 ≤ i ∧ i ≤ 9223372036854775807 := hi
  rw [Z4b, Z4b]; omega
 rw [h hi, h hj, zqo]
theorem zb8 {a b : Int} (h : a = b) : (a != b) = false := by simp [h]
theorem Z2x (a : Term) : ∀ b, FT a → FT b → z9x a b = some (z4o (bu a) (bu b)) := by
  induction a using Term.byParts with
  | _ a ih =>
  intro b ha hb
  have ka := zo1 ha.fine
  have kb := zo1 hb.fine
  have oa := (zm1 a).1 ha.ok
  have ob := (zm1 b).1 hb.ok
  have pa := ha.fine.own.2
  have pb := hb.fine.own.2
  rw [Zdd, zoo]
  by_cases hk : a.kind = b.kind
  · rw [zb8 hk, cond_false]
    have hca := zy6 a
    have hcb := zy6 b
    have na := ha.fine.own.1
    have nb := hb.fine.own.1
    have hpt : ∀ t : Term, ∀ k : Int, t.kind = k → (k = 9 ∨ k = 10) → z1y t = t.fields.map (·.2) := by
      intro t k h1 h2; unfold z1y; rw [if_neg (by omega), if_pos (by omega)]
    have hpl : ∀ t : Term, t.kind = 8 → z1y t = t.list := by intro t h1; unfold z1y; rw [if_pos h1]
    have sub1 : ∀ (t u : Term), FT t → okT u → bu u ∈ (bu t).parts → FT u := fun t u ht hu hm => ⟨hu, ht.fine.own.2 _ hm⟩
    have fld : (a.kind = 9 ∨ a.kind = 10) → ∀ x, x ∈ a.fields → ∀ y, y ∈ b.fields → z9x x.2 y.2 = some (z4o (bu x.2) (bu y.2)) := by
      intro h x hx y hy
      have hxa : x.2 ∈ z1y a := by rw [hpt a _ rfl h]; exact List.mem_map_of_mem hx
      have hyb : y.2 ∈ z1y b := by rw [hpt b _ rfl (by omega)]; exact List.mem_map_of_mem hy
      exact ih x.2 hxa y.2 (sub1 a x.2 ha (zb6 oa.2.2.2.2.2.1 x hx) (by rw [← z39]; exact List.mem_map_of_mem hxa)) (sub1 b y.2 hb (zb6 ob.2.2.2.2.2.1 y hy) (by rw [← z39]; exact List.mem_map_of_mem hyb))
    have lst : a.kind = 8 → ∀ x, x ∈ a.list → ∀ y, y ∈ b.list → z9x x y = some (z4o (bu x) (bu y)) := by
      intro h x hx y hy
      have hxa : x ∈ z1y a := by rw [hpl a h]; exact hx
      have hyb : y ∈ z1y b := by rw [hpl b (by omega)]; exact hy
      exact ih x hxa y (sub1 a x ha (zb5 oa.2.2.2.2.1 x hx) (by rw [← z39]; exact List.mem_map_of_mem hxa)) (sub1 b y hb (zb5 ob.2.2.2.2.1 y hy) (by rw [← z39]; exact List.mem_map_of_mem hyb))
    generalize bu a = x at hca na ka
    generalize bu b = y at hcb nb kb
    clear pa pb sub1
    cases hca with
    | nothing h1 => simp [z30] at na
    | alien h1 => simp [z30] at na
    | nil h1 => cases hcb <;> first | (exfalso; omega) | (simp only [h1]; rw [z4o]; rfl)
    | bool h1 => cases hcb <;> first | (exfalso; omega) | (simp only [h1, Z81, z9o, Option.bind_some]; rw [z4o]; rfl)
    | int h1 => cases hcb <;> first | (exfalso; omega) | (simp only [h1, z9o, Option.bind_some, Za6 oa.2.1 ob.2.1]; rw [z4o]; rfl)
    | float h1 => cases hcb <;> first | (exfalso; omega) | (simp only [h1, Z2v _ oa.2.2.1, Z2v _ ob.2.2.1, z9o, Option.bind_some]; rw [z4o]; rfl)
    | text h1 => cases hcb <;> first | (exfalso; omega) | (simp only [h1, zpj, Option.bind_some]; rw [z4o]; rfl)
    | bytes h1 => cases hcb <;> first | (exfalso; omega) | (simp only [h1, zpj, Option.bind_some]; rw [z4o]; rfl)
    | ref h1 => cases hcb <;> first | (exfalso; omega) | (simp only [h1, z9o, Option.bind_some]; rw [z4o]; rfl)
    | list h1 =>
      cases hcb <;> first
        | (exfalso; omega)
        | (have la := zb7 na; have lb := zb7 nb
           rw [List.length_map] at la lb
           have hl := Zeb a b (lst h1) la lb a.list.length 0 (by omega) (by omega)
           have hl0 : zex z9x a b 0 = some (zjd (a.list.map bu) (b.list.map bu)) := hl
           simp only [h1, hl0]; rw [z4o]; rfl)
    | dict h1 =>
      cases hcb <;> first
        | (exfalso; omega)
        | (have la := z78 na; have lb := z78 nb
           rw [List.length_map] at la lb
           simp only [h1, zme a.fields b.fields (fld (Or.inl h1)) la lb, Option.bind_some]; rw [z4o]; rfl)
    | record h1 =>
      cases hcb <;> first
        | (exfalso; omega)
        | (have la := ze0 na; have lb := ze0 nb
           rw [List.length_map] at la lb
           simp only [h1, zpj, zme a.fields b.fields (fld (Or.inr h1)) la.2 lb.2, Option.bind_some, z9o, za6 (by omega : 0 ≤ a.ver) (by omega), za6 (by omega : 0 ≤ b.ver) (by omega)]
           rw [z4o]
           have hv : (bif (a.ver != b.ver) then some (c3 a.ver b.ver) else some (zgd (a.fields.map buE) (b.fields.map buE))) = some (th (c3 a.ver b.ver) (zgd (a.fields.map buE) (b.fields.map buE))) := by
             rw [← z7g]
             by_cases he : a.ver = b.ver
             · rw [zb8 he, c3_zero.2 he]; rfl
             · have h2 : (a.ver != b.ver) = true := by simpa using he
               have h3 : (c3 a.ver b.ver != 0) = true := Zbs (fun e => he (c3_zero.1 e))
               rw [h2, h3]
           rw [hv, z7g]; rfl)
  · have h1 : (a.kind != b.kind) = true := by simpa using hk
    rw [h1, cond_true, z9o, za6 (by omega) (by omega), za6 (by omega) (by omega), zwd (by omega), ka.1, kb.1]; rfl
end Go.Proofs.Ytiapdjdhaclmnaa

namespace Go.Proofs.Ytiapdjdhaclmnaa
open Go Aw
set_option linter.unusedVariables false
set_option linter.unusedSimpArgs false
set_option maxRecDepth 8000
theorem loA_ex : ∃ a, z8c (.mk 0 false 0 0 [] [] 0 [] [] [] 0) = some (.alien a) := by rw [Z5t]; exact ⟨_, rfl⟩
noncomputable def loA : {t : Nat // zie t = true} := loA_ex.choose
theorem Z8o : z8c (.mk 0 false 0 0 [] [] 0 [] [] [] 0) = some (.alien loA) := loA_ex.choose_spec
mutual
noncomputable def lo : Term → V
 | .mk k b i f t y r l d c v => if k = 1 then .nil else if k = 2 then .bool b else if k = 3 then .int i else if k = 4 then .float f else if k = 5 then .text t else if k = 6 then .bytes y else if k = 7 then .ref r
  else if k = 8 then .list (Z8n l) else if k = 9 then .dict (Z6i d) else if k = 10 then .record c v (Z6i d) else if k = 11 then .nothing else .alien loA
noncomputable def Z8n : List Term → List V
 | [] => []
 | x :: r => lo x :: Z8n r
noncomputable def Z6i : List (Str × Term) → List (Str × V)
 | [] => []
 | (s, x) :: r => (s, lo x) :: Z6i r
end
noncomputable def loE (p : Str × Term) : Str × V := (p.1, lo p.2)
theorem zq1 : ∀ l, Z8n l = l.map lo
 | [] => by rw [Z8n]; rfl
 | x :: r => by rw [Z8n, zq1 r]; rfl
theorem zq2 : ∀ l, Z6i l = l.map loE
 | [] => by rw [Z6i]; rfl
 | (s, x) :: r => by rw [Z6i, zq2 r]; rfl
theorem zzv (l : List (Str × Term)) : (l.map loE).map (·.1) = l.map (·.1) := by rw [List.map_map]; rfl
theorem zx4 (l : List (Str × Term)) : (l.map loE).map (·.2) = (l.map (·.2)).map lo := by rw [List.map_map, List.map_map]; rfl
inductive LoC (t : Term) : V → V → Prop
 | nil : t.kind = 1 → LoC t .nil .nil
 | bool : t.kind = 2 → LoC t (.bool t.bool) (.bool t.bool)
 | int : t.kind = 3 → LoC t (.int t.int) (.int t.int)
 | float : t.kind = 4 → LoC t (.float t.float) (.float t.float)
 | text : t.kind = 5 → LoC t (.text t.text) (.text t.text)
 | bytes : t.kind = 6 → LoC t (.bytes t.bytes) (.bytes t.bytes)
 | ref : t.kind = 7 → LoC t (.ref t.ref) (.ref t.ref)
 | list : t.kind = 8 → LoC t (.list (t.list.map lo)) (.list (t.list.map bu))
 | dict : t.kind = 9 → LoC t (.dict (t.fields.map loE)) (.dict (t.fields.map buE))
 | record : t.kind = 10 → LoC t (.record t.cls t.ver (t.fields.map loE)) (.record t.cls t.ver (t.fields.map buE))
 | nothing : t.kind = 11 → LoC t .nothing .nothing
 | alien : t.kind < 1 ∨ 11 < t.kind → LoC t (.alien loA) (.alien (alT t.int))
theorem Zag (t : Term) : LoC t (lo t) (bu t) := by
 cases t with
 | mk k b i f t y r l d c v =>
  rw [lo, zq1, zq2, bu, ze9, zbk]
  by_cases h1 : k = 1; · rw [if_pos h1, if_pos h1]; exact .nil h1
  rw [if_neg h1, if_neg h1]
  by_cases h2 : k = 2; · rw [if_pos h2, if_pos h2]; exact .bool h2
  rw [if_neg h2, if_neg h2]
  by_cases h3 : k = 3; · rw [if_pos h3, if_pos h3]; exact .int h3
  rw [if_neg h3, if_neg h3]
  by_cases h4 : k = 4; · rw [if_pos h4, if_pos h4]; exact .float h4
  rw [if_neg h4, if_neg h4]
  by_cases h5 : k = 5; · rw [if_pos h5, if_pos h5]; exact .text h5
  rw [if_neg h5, if_neg h5]
  by_cases h6 : k = 6; · rw [if_pos h6, if_pos h6]; exact .bytes h6
  rw [if_neg h6, if_neg h6]
  by_cases h7 : k = 7; · rw [if_pos h7, if_pos h7]; exact .ref h7
  rw [if_neg h7, if_neg h7]
  by_cases h8 : k = 8; · rw [if_pos h8, if_pos h8]; exact .list h8
  rw [if_neg h8, if_neg h8]
  by_cases h9 : k = 9; · rw [if_pos h9, if_pos h9]; exact .dict h9
  rw [if_neg h9, if_neg h9]
  by_cases h10 : k = 10; · rw [if_pos h10, if_pos h10]; exact .record h10
  rw [if_neg h10, if_neg h10]
  by_cases h11 : k = 11; · rw [if_pos h11, if_pos h11]; exact .nothing h11
  rw [if_neg h11, if_neg h11]
  exact .alien (show k < 1 ∨ 11 < k by omega)
theorem zvq (t : Term) : (z1y t).map lo = (lo t).parts := by
 have hb := Zag t
 unfold z1y
 generalize lo t = x at hb
 generalize bu t = y at hb
 cases hb with
 | list hk => rw [if_pos hk]; rfl
 | dict hk => rw [if_neg (by omega), if_pos (Or.inl hk)]; simp only [V.parts, zx4]
 | record hk => rw [if_neg (by omega), if_pos (Or.inr hk)]; simp only [V.parts, zx4]
 | _ hk => rw [if_neg (by omega), if_neg (by omega)]; rfl
theorem Z8m (t : Term) (n d : Int) : z93 (lo t) n d = z93 (bu t) n d := by
 have hb := Zag t
 generalize lo t = x at hb
 generalize bu t = y at hb
 cases hb <;> simp only [z93, Z0m, z30, List.length_map, zzv, zjp]
theorem zpz (d : Int) : ∀ (l : List Term), (∀ u, u ∈ l → ∀ n dp, z2c (lo u) n dp d = z2c (bu u) n dp d) → ∀ n dp, z33 (l.map lo) n dp d = z33 (l.map bu) n dp d
 | [], _, n, dp => rfl
 | x :: r, h, n, dp => by
  rw [List.map_cons, List.map_cons, z2q, z2q, h x (by simp)]
  split
  ·exact zpz d r (fun u hu => h u (by simp [hu])) _ _
  ·rfl
theorem Z5b (t : Term) : ∀ n dp d, z2c (lo t) n dp d = z2c (bu t) n dp d := by
 induction t using Term.byParts with
 | _ t ih =>
 intro n dp d
 rw [z40, z40, Z8m, ← zvq, ← z39, zpz (d + 1) (z1y t) (fun u hu n dp => ih u hu n dp (d + 1))]
theorem zq0 (t : Term) : z29 (lo t) = z29 (bu t) := by unfold z29; rw [Z5b]
theorem zt7 {n b : Nat} (hb : b ≤ 1024) (hn : n ≤ 1073741824) : zn4 n b = some () := by
 have h1 : n * b ≤ 1073741824 * 1024 := Nat.mul_le_mul hn hb
 unfold zn4
 rw [Nat.ble_eq_true_of_le (by omega), Nat.ble_eq_true_of_le (by omega)]; rfl
theorem Zec (t : Term) (hl : ∀ u, u ∈ t.list → z8c u = some (lo u)) (hb : t.list.length ≤ 1073741824) : ∀ k i, k + i = t.list.length → zew z8c t ((t.list.take i).map lo) i = some (.list (t.list.map lo))
 | 0, i, h => by
  rw [zks]
  simp only [z66, z42 (by omega : ¬ i < t.list.length), cond_false]
  rw [List.take_of_length_le (by omega)]
 | k + 1, i, h => by
  obtain ⟨x, hx, _⟩ := dropc (by omega : i < t.list.length)
  rw [zks]
  simp only [z66, z4b (by omega : i < t.list.length), cond_true, hx, Option.bind_some, hl x (List.mem_of_getElem? hx), Z3z (b := 16) (by omega) (show ((t.list.take i).map lo).length ≤ 1073741824 by simp; omega), z4k hx]
  exact Zec t hl hb k (i + 1) (by omega)
theorem Zee (l : List (Str × Term)) (hl : ∀ u, u ∈ l → z8c u.2 = some (lo u.2)) (hb : l.length ≤ 1073741824) : ∀ k i, k + i = l.length → zh7 z8c l ((l.take i).map loE) i = some (l.map loE)
 | 0, i, h => by
  rw [zki]
  simp only [z61, z42 (by omega : ¬ i < l.length), cond_false]
  rw [List.take_of_length_le (by omega)]
 | k + 1, i, h => by
  obtain ⟨x, hx, _⟩ := dropc (by omega : i < l.length)
  rw [zki]
  simp only [z61, z4b (by omega : i < l.length), cond_true, hx, Option.bind_some, hl x (List.mem_of_getElem? hx), Z3z (b := 32) (x := (x.1, lo x.2)) (by omega) (show ((l.take i).map loE).length ≤ 1073741824 by simp; omega)]
  have : ((l.take i).map loE) ++ [(x.1, lo x.2)] = (l.take (i + 1)).map loE := z4k (f := loE) hx
  rw [this]
  exact Zee l hl hb k (i + 1) (by omega)
theorem zsb (t : Term) (hl : ∀ u, u ∈ t.list → z8c u = some (lo u)) (hf : ∀ u, u ∈ t.fields → z8c u.2 = some (lo u.2))
 (b1 : t.list.length ≤ 1073741824) (b2 : t.fields.length ≤ 1073741824) (b3 : t.bytes.length ≤ 1073741824) : z8c t = some (lo t) := by
 have hd : zz3 t.fields = some (t.fields.map loE) := by
  rw [Zcz, zo9, zt7 (by omega) b2]
  exact Zee t.fields hf b2 t.fields.length 0 (by omega)
 have hll : zew z8c t [] 0 = some (.list (t.list.map lo)) := Zec t hl b1 t.list.length 0 (by omega)
 have hr := zt7 (b := 16) (by omega) b1
 have hb := Zag t
 rw [Z5t, zoi]
 generalize lo t = x at hb
 generalize bu t = y at hb
 cases hb with
 | bytes hk => simp only [hk, Z29 (by omega : 1 ≤ 1024) b3]; rfl
 | list hk => simp only [hk, hll, hr]; rfl
 | dict hk => simp only [hk, hd]; rfl
 | record hk => simp only [hk, hd]; rfl
 | alien hk =>
  have e : ∀ k : Int, 1 ≤ k → k ≤ 11 → (t.kind == k) = false := fun k h1 h2 => by simp; omega
  simp only [e 1 (by omega) (by omega), e 2 (by omega) (by omega), e 3 (by omega) (by omega), e 4 (by omega) (by omega), e 5 (by omega) (by omega), e 6 (by omega) (by omega), e 7 (by omega) (by omega), e 8 (by omega) (by omega),
   e 9 (by omega) (by omega), e 10 (by omega) (by omega), e 11 (by omega) (by omega), cond_false]
  rw [← Z8o, Z5t]; rfl
 | _ hk => simp only [hk]; rfl
theorem zed : ∀ (n : Nat) (t : Term), bkT t ≤ n → n ≤ 268435456 → z8c t = some (lo t) := by
 intro n
 induction n with
 | zero => intro t h _; have := zdn t; omega
 | succ n ih =>
  intro t h hn
  exact zsb t (fun u hu => ih u (by have := zy7 hu; omega) (by omega)) (fun u hu => ih u.2 (by have := zmr hu; omega) (by omega))
   (by have := zzw t; omega) (by have := zi5 t; omega) (by have := zx6 t; omega)
theorem Z85 (t : Term) (h : bkT t ≤ 268435456) : z8c t = some (lo t) := zed _ t h (Nat.le_refl _)
noncomputable def ofF (x : V) : V × Int := if (z29 x).2 ≠ 0 then (.nil, (z29 x).2) else (x, 0)
theorem Zbp {t : Term} {x : V} (h : z8c t = some x) : zgh t = some (ofF x) := by
 simp only [zgh, h, Option.bind_some, zpi, ofF]
 by_cases hx : (z29 x).2 = 0
 ·rw [if_neg (by simp [hx]), hx]; rfl
 ·rw [if_pos hx, Zbs hx]; rfl
end Go.Proofs.Ytiapdjdhaclmnaa

namespace Go.Proofs.Ytiapdjdhaclmnaa
open Go Aw
set_option linter.unusedVariables false
set_option linter.unusedSimpArgs false
set_option maxRecDepth 8000
mutual
def cl : V → Term
 | .nil => .mk 1 false 0 0 [] [] 0 [] [] [] 0
 | .bool b => .mk 2 b 0 0 [] [] 0 [] [] [] 0
 | .int i => .mk 3 false i 0 [] [] 0 [] [] [] 0
 | .float f => .mk 4 false 0 f [] [] 0 [] [] [] 0
 | .text s => .mk 5 false 0 0 s [] 0 [] [] [] 0
 | .bytes s => .mk 6 false 0 0 [] s 0 [] [] [] 0
 | .ref r => .mk 7 false 0 0 [] [] r [] [] [] 0
 | .list l => .mk 8 false 0 0 [] [] 0 (clL l) [] [] 0
 | .dict l => .mk 9 false 0 0 [] [] 0 [] (clD l) [] 0
 | .record c v l => .mk 10 false 0 0 [] [] 0 [] (clD l) c v
 | .nothing => .mk 11 false 0 0 [] [] 0 [] [] [] 0
 | .alien _ => .mk 0 false 0 0 [] [] 0 [] [] [] 0
def clL : List V → List Term
 | [] => []
 | x :: r => cl x :: clL r
def clD : List (Str × V) → List (Str × Term)
 | [] => []
 | (s, x) :: r => (s, cl x) :: clD r
end
def clE (p : Str × V) : Str × Term := (p.1, cl p.2)
theorem zd2 : ∀ l, clL l = l.map cl
 | [] => by rw [clL]; rfl
 | x :: r => by rw [clL, zd2 r]; rfl
theorem z5b : ∀ l, clD l = l.map clE
 | [] => by rw [clD]; rfl
 | (s, x) :: r => by rw [clD, z5b r]; rfl
theorem zi2 {b : Str} (h : z30 (.bytes b) = 0) : b.length ≤ 65536 := by
 simp only [z30] at h; split at h <;> omega
end Go.Proofs.Ytiapdjdhaclmnaa

namespace Go.Proofs.Ytiapdjdhaclmnaa
open Go Aw
set_option linter.unusedVariables false
set_option linter.unusedSimpArgs false
set_option maxRecDepth 8000
theorem Zdy (l : List V) (x1 : Int) (hl : ∀ u, u ∈ l → zgk u = some (cl u)) (hb : l.length ≤ 1073741824) : ∀ k i, k + i = l.length → zhe zgk (.list l) x1 i ((l.take i).map cl) = some (.mk x1 false 0 0 [] [] 0 (l.map cl) [] [] 0)
 | 0, i, h => by
  rw [zkr]
  simp only [z65, V.asList, z42 (by omega : ¬ i < l.length), cond_false, z5l]
  rw [List.take_of_length_le (by omega)]
 | k + 1, i, h => by
  obtain ⟨x, hx, _⟩ := dropc (by omega : i < l.length)
  rw [zkr]
  simp only [z65, V.asList, z4b (by omega : i < l.length), cond_true, hx, Option.bind_some, hl x (List.mem_of_getElem? hx), Z3z (b := 152) (by omega) (show ((l.take i).map cl).length ≤ 1073741824 by simp; omega), z4k hx]
  exact Zdy l x1 hl hb k (i + 1) (by omega)
theorem Zaj (l : List (Str × V)) (hl : ∀ u, u ∈ l → zgk u.2 = some (cl u.2)) (hb : l.length ≤ 1073741824) : ∀ k i, k + i = l.length → zhn zgk l ((l.take i).map clE) i = some (l.map clE)
 | 0, i, h => by
  rw [zl5]
  simp only [z6e, z42 (by omega : ¬ i < l.length), cond_false]
  rw [List.take_of_length_le (by omega)]
 | k + 1, i, h => by
  obtain ⟨x, hx, _⟩ := dropc (by omega : i < l.length)
  rw [zl5]
  simp only [z6e, z4b (by omega : i < l.length), cond_true, hx, Option.bind_some, hl x (List.mem_of_getElem? hx), Z3z (b := 168) (x := (x.1, cl x.2)) (by omega) (show ((l.take i).map clE).length ≤ 1073741824 by simp; omega)]
  have : ((l.take i).map clE) ++ [(x.1, cl x.2)] = (l.take (i + 1)).map clE := z4k (f := clE) hx
  rw [this]
  exact Zaj l hl hb k (i + 1) (by omega)
theorem Z84 (x : V) : Fine x → zgk x = some (cl x) := by
 induction x using V.byParts with
 | _ x ih =>
 intro hx
 have hp := hx.own.2
 have hn := hx.own.1
 rw [Zd7, zoh, zph]
 cases x with
 | nothing => simp [z30] at hn
 | alien t => simp [z30] at hn
 | bytes b => rw [cl]; simp only [V.isBool, V.isInt, V.isFloat, V.isText, V.isBytes, V.asBytes, cond_true, cond_false, Option.bind_some, Z29 (by omega : 1 ≤ 1024) (show b.length ≤ 1073741824 by have := zi2 hn; omega)]; rfl
 | list l =>
  have hb := zb7 hn
  rw [cl, zd2]
  exact Zdy l 8 (fun u hu => ih u hu (hp u hu)) (by omega) l.length 0 (by omega)
 | dict l =>
  have hb := z78 hn
  have : zw4 l = some (l.map clE) := by
   rw [Z9z, zmt]
   exact Zaj l (fun u hu => ih u.2 (List.mem_map_of_mem hu) (hp _ (List.mem_map_of_mem hu))) (by omega) l.length 0 (by omega)
  rw [cl, z5b]
  simp only [V.isBool, V.isInt, V.isFloat, V.isText, V.isBytes, V.isRef, V.isList, V.isDict, V.asDict, cond_true, cond_false, Option.bind_some, this]; rfl
 | record c v l =>
  have hb := (ze0 hn).2
  have : zw4 l = some (l.map clE) := by
   rw [Z9z, zmt]
   exact Zaj l (fun u hu => ih u.2 (List.mem_map_of_mem hu) (hp _ (List.mem_map_of_mem hu))) (by omega) l.length 0 (by omega)
  rw [cl, z5b]
  simp only [V.isBool, V.isInt, V.isFloat, V.isText, V.isBytes, V.isRef, V.isList, V.isDict, V.isRec, V.asRec, cond_true, cond_false, Option.bind_some, this]; rfl
 | _ => rw [cl]; rfl
end Go.Proofs.Ytiapdjdhaclmnaa

namespace Go.Proofs.Ytiapdjdhaclmnaa
open Go Aw
set_option linter.unusedVariables false
set_option linter.unusedSimpArgs false
set_option maxRecDepth 8000
noncomputable def cbE (p : Str × Term) : Str × Term := (p.1, cl (bu p.2))
theorem Zef (t : Term) (hl : ∀ u, u ∈ t.list → zfd u = some (cl (bu u))) (hb : t.list.length ≤ 1073741824) : ∀ k i, k + i = t.list.length → zhd zfd t i ((t.list.take i).map (fun u => cl (bu u))) = some (.mk t.kind false 0 0 [] [] 0 (t.list.map (fun u => cl (bu u))) [] [] 0)
 | 0, i, h => by
  rw [zkq]
  simp only [z64, z42 (by omega : ¬ i < t.list.length), cond_false, z4a]
  rw [List.take_of_length_le (by omega)]
 | k + 1, i, h => by
  obtain ⟨x, hx, _⟩ := dropc (by omega : i < t.list.length)
  rw [zkq]
  simp only [z64, z4b (by omega : i < t.list.length), cond_true, hx, Option.bind_some, hl x (List.mem_of_getElem? hx), Z3z (b := 152) (by omega) (show ((t.list.take i).map (fun u => cl (bu u))).length ≤ 1073741824 by simp; omega)]
  rw [show (t.list.take i).map (fun u => cl (bu u)) ++ [cl (bu x)] = (t.list.take (i + 1)).map (fun u => cl (bu u)) from z4k (f := fun u => cl (bu u)) hx]
  exact Zef t hl hb k (i + 1) (by omega)
theorem Zeg (l : List (Str × Term)) (hl : ∀ u, u ∈ l → zfd u.2 = some (cl (bu u.2))) (hb : l.length ≤ 1073741824) : ∀ k i, k + i = l.length → zhm zfd l ((l.take i).map cbE) i = some (l.map cbE)
 | 0, i, h => by
  rw [zl4]
  simp only [z6d, z42 (by omega : ¬ i < l.length), cond_false]
  rw [List.take_of_length_le (by omega)]
 | k + 1, i, h => by
  obtain ⟨x, hx, _⟩ := dropc (by omega : i < l.length)
  rw [zl4]
  simp only [z6d, z4b (by omega : i < l.length), cond_true, hx, Option.bind_some, hl x (List.mem_of_getElem? hx), Z3z (b := 168) (x := (x.1, cl (bu x.2))) (by omega) (show ((l.take i).map cbE).length ≤ 1073741824 by simp; omega)]
  rw [show (l.take i).map cbE ++ [(x.1, cl (bu x.2))] = (l.take (i + 1)).map cbE from z4k (f := cbE) hx]
  exact Zeg l hl hb k (i + 1) (by omega)
theorem Z0y (t : Term) : Fine (bu t) → zfd t = some (cl (bu t)) := by
 induction t using Term.byParts with
 | _ t ih =>
 intro hx
 have hp := hx.own.2
 have hn := hx.own.1
 rw [← z39] at hp
 have hm : ∀ u, u ∈ z1y t → zfd u = some (cl (bu u)) := fun u hu => ih u hu (hp _ (List.mem_map_of_mem hu))
 have hb := zy6 t
 rw [Zd6, zog]
 have hE : (t.kind = 9 ∨ t.kind = 10) → t.fields.length ≤ 1073741824 → zz6 t.fields = some (t.fields.map cbE) := fun hk hl => by
  rw [Zdf, zoq]
  exact Zeg t.fields (fun u hu => hm _ (by unfold z1y; rw [if_neg (by omega), if_pos hk]; exact List.mem_map_of_mem hu)) hl t.fields.length 0 (by omega)
 have hD : (t.fields.map buE).map clE = t.fields.map cbE := by rw [List.map_map]; rfl
 generalize bu t = y at hb hn
 cases hb with
 | nothing hk => simp [z30] at hn
 | alien hk => simp [z30] at hn
 | bytes hk =>
  have hl := zi2 hn
  simp only [hk, Z29 (b := 1) (by omega) (show t.bytes.length ≤ 1073741824 by omega), Option.bind_some, z4a]
  rw [cl]; rfl
 | list hk =>
  have hl := zb7 hn
  rw [List.length_map] at hl
  have := Zef t (fun u hu => hm u (by unfold z1y; rw [if_pos hk]; exact hu)) (by omega) t.list.length 0 (by omega)
  rw [List.take_zero, List.map_nil] at this
  simp only [hk] at this ⊢
  rw [cl, zd2, List.map_map]
  exact this
 | dict hk =>
  have hl := z78 hn
  rw [List.length_map] at hl
  simp only [hk, hE (.inl hk) (by omega), Option.bind_some, z4a]
  rw [cl, z5b, hD]; rfl
 | record hk =>
  have hl := (ze0 hn).2
  rw [List.length_map] at hl
  simp only [hk, hE (.inr hk) (by omega), Option.bind_some, z4a]
  rw [cl, z5b, hD]; rfl
 | _ hk => simp only [hk, z4a]; rw [cl]; rfl
end Go.Proofs.Ytiapdjdhaclmnaa

namespace Go.Proofs.Ytiapdjdhaclmnaa
open Go Aw
set_option linter.unusedVariables false
set_option linter.unusedSimpArgs false
set_option maxRecDepth 8000
theorem Typ.eta (t : Typ) : Typ.mk t.kind t.of t.only t.parts t.names t.lacks t.opn t.cls = t := by cases t; rfl
theorem zxx (s : Str) : (z29 (.dict [(s, .nil)])).2 = if z3i s then 0 else 8 := by
 have ho : ∀ n d, n < 16384 → d ≤ 64 → z93 (.dict [(s, .nil)]) n d = if z3i s then 0 else 8 := by
  intro n d h1 h2
  have : ¬ (16384 ≤ n ∨ 64 < d) := by omega
  simp only [z93, if_neg this, z30, z6t, List.map_cons, List.map_nil, List.length_cons, List.length_nil, risen, Bool.and_true]
  rfl
 have hn : z93 .nil 1 2 = 0 := rfl
 unfold z29
 rw [z40, ho 0 1 (by omega) (by omega)]
 cases z3i s with
 | true =>
  simp only [if_true, V.parts, List.map_cons, List.map_nil, z2q, z3a]
  rw [z40]
  simp [V.parts, z3a, z93, z30]
 | false => simp
theorem Z2s (s : Str) : zrm s = some (z3i s) := by
 simp only [zrm, Z86, Option.bind_some, zxx]
 cases z3i s <;> rfl
noncomputable def z27 (t : Typ) : Bool :=
 t.kind == 1 || t.kind == 2 || (t.kind == 3 && decide (1 ≤ t.of) && decide (t.of ≤ 10)) || (t.kind == 4 && (z29 (bu t.only)).2 == 0) || (t.kind == 8 && z3i t.cls)
def z9i (t : Typ) : Bool :=
 (t.kind == 5 && t.parts.length == 1) || (t.kind == 7 && decide (1 < t.parts.length)) ||
  (t.kind == 6 && decide (t.names.length ≤ 4096) && t.parts.length == t.names.length && t.lacks.length == t.names.length && risen none t.names)
mutual
noncomputable def z9r : Typ → Int → Int → Bool × Int
 | .mk k o y p n l q c, left, d =>
  if left - 1 < 0 ∨ 64 < d then (false, left - 1) else if z27 (.mk k o y p n l q c) then (true, left - 1) else if z9i (.mk k o y p n l q c) then fitsF p (left - 1) (d + 1) else (false, left - 1)
noncomputable def fitsF : List Typ → Int → Int → Bool × Int
 | [], left, d => (true, left)
 | x :: r, left, d => if (z9r x left d).1 then fitsF r (z9r x left d).2 d else (false, (z9r x left d).2)
end
theorem z6s (t : Typ) (left d : Int) : z9r t left d = if left - 1 < 0 ∨ 64 < d then (false, left - 1) else if z27 t then (true, left - 1) else if z9i t then fitsF t.parts (left - 1) (d + 1) else (false, left - 1) := by
 cases t; rw [z9r]; rfl
theorem z52 (x : Typ) (r : List Typ) (left d : Int) : fitsF (x :: r) left d = if (z9r x left d).1 then fitsF r (z9r x left d).2 d else (false, (z9r x left d).2) := by rw [fitsF]
theorem zg0 (left d : Int) : fitsF [] left d = (true, left) := by rw [fitsF]
theorem zee {t u : Typ} (h : u ∈ t.parts) : SizeOf.sizeOf u < SizeOf.sizeOf t := by
 cases t; have := List.sizeOf_lt_of_mem h; simp [Typ.parts] at this ⊢; omega
theorem Typ.byParts {P : Typ → Prop} (h : ∀ t, (∀ u, u ∈ t.parts → P u) → P t) (t : Typ) : P t := h t (fun u hu => Typ.byParts h u)
termination_by SizeOf.sizeOf t
decreasing_by exact zee hu
theorem zmb {d : Int} : ∀ (l : List Typ), (∀ u, u ∈ l → ∀ left, (z9r u left d).2 ≤ left ∧ ((z9r u left d).1 = true → 0 ≤ (z9r u left d).2)) → ∀ left, (fitsF l left d).2 ≤ left ∧ (0 ≤ left → (fitsF l left d).1 = true → 0 ≤ (fitsF l left d).2)
 | [], _, left => by rw [zg0]; exact ⟨Int.le_refl _, fun h _ => h⟩
 | x :: r, h, left => by
  have h1 := h x (by simp) left
  have h2 := zmb r (fun u hu => h u (by simp [hu])) (z9r x left d).2
  rw [z52]
  split
  ·rename_i hc; exact ⟨by omega, fun _ => h2.2 (h1.2 hc)⟩
  ·exact ⟨h1.1, fun _ h => by cases h⟩
theorem zqf (t : Typ) : ∀ left d, (z9r t left d).2 ≤ left ∧ ((z9r t left d).1 = true → 0 ≤ (z9r t left d).2) := by
 induction t using Typ.byParts with
 | _ t ih =>
 intro left d
 rw [z6s]
 split
 ·exact ⟨by simp only []; omega, fun h => by cases h⟩
 ·split
  ·exact ⟨by simp only []; omega, fun _ => by simp only []; omega⟩
  ·split
   ·have := zmb (d := d + 1) t.parts (fun u hu left => ih u hu left (d + 1)) (left - 1)
    exact ⟨by omega, this.2 (by omega)⟩
   ·exact ⟨by simp only []; omega, fun h => by cases h⟩
theorem zg9 : ∀ {l : List Typ} {u : Typ}, u ∈ l → z3x u ≤ z5c l
 | x :: r, u, h => by
  rw [z5c]; rcases List.mem_cons.1 h with rfl | h
  ·omega
  ·have := zg9 h; omega
theorem zjq (t : Typ) : z3x t = bkT t.only + z5c t.parts + (t.names.map (fun s => s.length + 1)).sum + t.lacks.length + t.cls.length + 8 := by cases t; rw [z3x]; rfl
theorem zbm : ∀ (l : List Typ), l.length ≤ z5c l
 | [] => by simp
 | x :: r => by have := zbm r; have := zjq x; rw [z5c, List.length_cons]; omega
theorem zsv : ∀ (l : List Str), l.length ≤ (l.map (fun s => s.length + 1)).sum
 | [] => by simp
 | x :: r => by have := zsv r; rw [List.length_cons, List.map_cons, List.sum_cons]; omega
structure TB (t : Typ) : Prop where
 only : bkT t.only ≤ 268435456
 parts : ∀ u, u ∈ t.parts → z3x u ≤ 268435456
 np : t.parts.length ≤ 268435456
 nn : t.names.length ≤ 268435456
 nl : t.lacks.length ≤ 268435456
theorem tb {t : Typ} (h : z3x t ≤ 268435456) : TB t := by
 have h1 := zjq t
 have h2 := zsv t.names
 have h3 := zbm t.parts
 exact ⟨by omega, fun u hu => by have := zg9 hu; omega, by omega, by omega, by omega⟩
def Z6d (t : Typ) : Prop := ∀ left d, 0 ≤ left → left ≤ 16384 → 0 ≤ d → d ≤ 65 → znc ⟨left⟩ t d = some ((z9r t left d).1, ⟨(z9r t left d).2⟩)
theorem Za4 (l : List Typ) (d : Int) (hl : ∀ u, u ∈ l → Z6d u) (hd : 0 ≤ d) (hd' : d ≤ 64) : ∀ k i left, k + i = l.length → 0 ≤ left → left ≤ 16384 →
 zho znc l d i left = some ((fitsF (l.drop i) left (d + 1)).1, ⟨(fitsF (l.drop i) left (d + 1)).2⟩)
 | 0, i, left, h, h0, h1 => by
  rw [zl8]
  simp only [z6f, z42 (by omega : ¬ i < l.length), cond_false]
  rw [List.drop_of_length_le (by omega), zg0]
 | k + 1, i, left, h, h0, h1 => by
  obtain ⟨x, hx, hdr⟩ := dropc (by omega : i < l.length)
  have hp := hl x (List.mem_of_getElem? hx) left (d + 1) h0 h1 (by omega) (by omega)
  have hw : IntKind.i64.wrap (d + 1) = d + 1 := z2s (by omega) (by omega)
  have hf := zqf x left (d + 1)
  rw [zl8]
  simp only [z6f, z4b (by omega : i < l.length), cond_true, hx, Option.bind_some, Typ.eta, hw, hp]
  rw [hdr, z52]
  cases hk : (z9r x left (d + 1)).1 with
  | false => simp
  | true =>
   have h2 := hf.2 hk
   simp only [Bool.not_true, cond_false, if_true]
   exact Za4 l d hl hd hd' k (i + 1) _ (by omega) h2 (by omega)
theorem Z8a (l : List Typ) (d left : Int) (hl : ∀ u, u ∈ l → Z6d u) (hd : 0 ≤ d) (hd' : d ≤ 64) (h0 : 0 ≤ left) (h1 : left ≤ 16384) :
 zrz ⟨left⟩ l d = some ((fitsF l left (d + 1)).1, ⟨(fitsF l left (d + 1)).2⟩) := by
 rw [Zdh, zos]
 exact Za4 l d hl hd hd' l.length 0 left (by omega) h0 h1
theorem zfr (l : List Str) (i : Nat) (hi : i < l.length) (hb : l.length ≤ 268435456) {β : Type} (no : β) (g : Option β) (s : Str) (hs : l[i]? = some s) (yes : Bool → Option β)
 (hg : g = yes (risen (z3z l (i + 1)) (l.drop (i + 1)))) (hno : yes false = some no) :
 (bif !(z3i s) then some no else (bif decide (((i : Nat) : Int) > 0) then Option.bind (z5g l (IntKind.i64.wrap (((i : Nat) : Int) - 1))) fun y => (bif (Op.bytesLess s y || s == y) then some no else g) else g)) = yes (risen (z3z l i) (l.drop i)) := by
 rw [zgu hs]
 cases hn : z3i s with
 | false => rw [Bool.false_and]; exact hno.symm
 | true =>
  simp only [Bool.not_true, cond_false, Bool.true_and]
  by_cases h0 : i = 0
  ·subst h0
   have e : decide (((0 : Nat) : Int) > 0) = false := rfl
   rw [e, hg]
   simp only [cond_false, z3z, if_pos, Bool.true_and]
  ·have e : decide ((i : Int) > 0) = true := decide_eq_true (by omega)
   have hw : IntKind.i64.wrap ((i : Int) - 1) = ((i - 1 : Nat) : Int) := by rw [z2s (by omega) (by omega)]; omega
   obtain ⟨y, hy, _⟩ := dropc (by omega : i - 1 < l.length)
   rw [e, hw, z36, hy]
   have hp : z3z l i = some y := by simp only [z3z, if_neg h0, hy]
   simp only [cond_true, Option.bind_some, hp, hg]
   show (bif leB s y then _ else _) = _
   cases leB s y with
   | true => simp only [cond_true, Bool.not_true, Bool.false_and]; exact hno.symm
   | false => simp only [cond_false, Bool.not_false, Bool.true_and]
theorem Zf7 (t : Typ) (left d : Int) (r : Bool × S_check_room) (hr : zrz ⟨IntKind.i64.wrap (left - 1)⟩ t.parts d = some r) (hb : t.names.length ≤ 268435456) : ∀ k i, k + i = t.names.length →
 zhp zrz ⟨left⟩ t d i = if risen (z3z t.names i) (t.names.drop i) then some r else some (false, ⟨IntKind.i64.wrap (left - 1)⟩)
 | 0, i, h => by
  rw [zl9]
  simp only [z6g, z42 (by omega : ¬ i < t.names.length), cond_false, hr, Option.bind_some]
  rw [List.drop_of_length_le (by omega), za9]; rfl
 | k + 1, i, h => by
  obtain ⟨s, hs, _⟩ := dropc (by omega : i < t.names.length)
  have := zfr t.names i (by omega) hb (no := (false, (⟨IntKind.i64.wrap (left - 1)⟩ : S_check_room))) _ s hs (fun b => if b then some r else some (false, ⟨IntKind.i64.wrap (left - 1)⟩)) (Zf7 t left d r hr hb k (i + 1) (by omega)) rfl
  rw [zl9]
  simp only [z6g, z4b (by omega : i < t.names.length), cond_true, hs, Option.bind_some, Z2s, zar, cond_false]
  exact this
theorem z7d {a b : Int} (h : a = b) : (a == b) = true := by simpa using h
theorem z0z {a b : Int} (h : ¬ a = b) : (a == b) = false := by simpa using h
theorem kinds (k : Int) : k = 1 ∨ k = 2 ∨ k = 3 ∨ k = 4 ∨ k = 5 ∨ k = 6 ∨ k = 7 ∨ k = 8 ∨ (k ≠ 1 ∧ k ≠ 2 ∧ k ≠ 3 ∧ k ≠ 4 ∧ k ≠ 5 ∧ k ≠ 6 ∧ k ≠ 7 ∧ k ≠ 8) := by omega
theorem zpf (t : Term) (h : bkT t ≤ 268435456) : zgh t = some (ofF (lo t)) := Zbp (Z85 t h)
theorem Zbq (x : V) : (ofF x).2 = (z29 x).2 := by unfold ofF; split <;> (try rfl); rename_i h; simp at h; rw [h]
theorem zmo (t : Typ) : z3x t ≤ 268435456 → Z6d t := by
 induction t using Typ.byParts with
 | _ t ih =>
 intro hb left d h0 h1 hd hd'
 have B := tb hb
 have hw : IntKind.i64.wrap (left - 1) = left - 1 := z2s (by omega) (by omega)
 rw [Zdi, zot, z6s]
 simp only [hw]
 by_cases hl : left - 1 < 0
 ·rw [decide_eq_true hl, if_pos (Or.inl hl)]; simp only [cond_true, z9p, hw]
 ·rw [decide_eq_false hl, cond_false]
  by_cases hdd : 64 < d
  ·rw [decide_eq_true (show d > 64 from hdd), if_pos (Or.inr hdd)]; simp only [cond_true, z9p, hw]
  ·rw [decide_eq_false (show ¬ d > 64 from hdd), if_neg (by omega)]
   have hall := Z8a t.parts d (left - 1) (fun u hu => ih u hu (B.parts u hu)) hd (by omega) (by omega) (by omega)
   have hnm := Zf7 t left d _ (by rw [hw]; exact hall) B.nn t.names.length 0 (by omega)
   rw [hw] at hnm
   simp only [cond_false, z9p, zdj, hw]
   generalize hF : fitsF t.parts (left - 1) (d + 1) = F at hall hnm
   rcases kinds t.kind with h | h | h | h | h | h | h | h | h
   ·simp [z27, h]
   ·simp [z27, h]
   ·simp only [z27, z9i, h]
    by_cases a : 1 ≤ t.of
    ·by_cases b : t.of ≤ 10
     ·simp [a, b]
     ·simp [a, b]
    ·simp [a]
   ·simp only [z27, z9i, h, zpf t.only B.only, Option.bind_some, Zbq, zq0]
    cases hc : (z29 (bu t.only)).2 == 0 <;> simp_all
   ·simp only [z27, z9i, h]
    by_cases a : t.parts.length = 1
    ·have a' : (((t.parts.length : Nat) : Int) == 1) = true := by simp [a]
     simp [a, hall]
    ·have a' : (((t.parts.length : Nat) : Int) == 1) = false := by simp; omega
     simp [a, a']
   ·simp only [z27, z9i, h]
    have e0 : risen (z3z t.names 0) (List.drop 0 t.names) = risen none t.names := rfl
    rw [e0] at hnm
    by_cases a : t.names.length ≤ 4096
    ·have a' : decide (((t.names.length : Nat) : Int) > 4096) = false := decide_eq_false (by omega)
     by_cases b : t.parts.length = t.names.length
     ·have b' : (((t.parts.length : Nat) : Int) != ((t.names.length : Nat) : Int)) = false := by simp [b]
      by_cases c : t.lacks.length = t.names.length
      ·have c' : (((t.lacks.length : Nat) : Int) != ((t.names.length : Nat) : Int)) = false := by simp [c]
       cases hc : risen none t.names with
       | true => simp [a', b', c', z71, hnm, hc, a, b, c]
       | false => simp [a', b', c', z71, hnm, hc]
      ·have c' : (((t.lacks.length : Nat) : Int) != ((t.names.length : Nat) : Int)) = true := by simp; omega
       simp [a', b', c', z71, hw, c]
     ·have b' : (((t.parts.length : Nat) : Int) != ((t.names.length : Nat) : Int)) = true := by simp; omega
      simp [a', b', z71, hw, b]
    ·have a' : decide (((t.names.length : Nat) : Int) > 4096) = true := decide_eq_true (by omega)
     simp [a', z71, hw, a]
   ·simp only [z27, z9i, h]
    by_cases a : 1 < t.parts.length
    ·have a' : decide (((t.parts.length : Nat) : Int) > 1) = true := decide_eq_true (by omega)
     simp [a, a', hall]
    ·have a' : decide (((t.parts.length : Nat) : Int) > 1) = false := decide_eq_false (by omega)
     simp [a, a']
   ·simp only [z27, z9i, h, Z2s, Option.bind_some]
    cases hc : z3i t.cls <;> simp [hc]
   ·obtain ⟨g1, g2, g3, g4, g5, g6, g7, g8⟩ := h
    simp only [z27, z9i, z0z g1, z0z g2, z0z g3, z0z g4, z0z g5, z0z g6, z0z g7, z0z g8, cond_false, Bool.false_and, Bool.or_self, Bool.false_eq_true, if_false]
noncomputable def z4r (t : Typ) : Bool := (z9r t 16384 1).1
theorem zev (t : Typ) (h : z3x t ≤ 268435456) : zj9 t = some (z4r t) := by
 simp only [zj9, Typ.eta, zmo t h 16384 1 (by omega) (by omega) (by omega) (by omega), Option.bind_some]; rfl
end Go.Proofs.Ytiapdjdhaclmnaa

