/- Plain laws, one behind the other. -/
import Derived.Test.YthidgpcbnieleaaRd
import Derived.Test.YthidgpcbnieleaaG8
namespace Go.Proofs.Ythidgpcbnieleaa
open Go Aw
set_option linter.unusedVariables false
set_option linter.unusedSimpArgs false
theorem z8v {i n : Nat} (h : i < n) : decide ((i : Int) < (n : Int)) = true := decide_eq_true (by omega)
theorem z9m {i n : Nat} (h : ¬ i < n) : decide ((i : Int) < (n : Int)) = false := decide_eq_false (by omega)
theorem dropc {α : Type} {l : List α} {i : Nat} (h : i < l.length) : ∃ x, l[i]? = some x ∧ l.drop i = x :: l.drop (i + 1) :=
 ⟨l[i], List.getElem?_eq_getElem h, List.drop_eq_getElem_cons h⟩
theorem z46 {x : Int} (h1 : -9223372036854775808 ≤ x) (h2 : x ≤ 9223372036854775807) : IntKind.i64.wrap x = x := za3 h1 h2
theorem z31 {α : Type} (l : List α) (i : Nat) : z8x l (i : Int) = l[i]? := by
 unfold z8x; rw [decide_eq_true (by omega : (0 : Int) ≤ (i : Nat))]; rfl
def znz (c : UInt8) : Bool := (Nat.ble 97 c.toNat && Nat.ble c.toNat 122) || (Nat.ble 48 c.toNat && Nat.ble c.toNat 57) || Nat.beq c.toNat 95
def zsu (c : UInt8) : Bool := Nat.ble 97 c.toNat && Nat.ble c.toNat 122
def z2z (s : Str) : Bool := Nat.ble 1 s.length && Nat.ble s.length 32 && zsu (s.headD 0) && s.all znz
theorem chOk_iff {c : UInt8} : znz c = true ↔ (97 ≤ c.toNat ∧ c.toNat ≤ 122) ∨ (48 ≤ c.toNat ∧ c.toNat ≤ 57) ∨ c.toNat = 95 := by
 simp only [znz, Bool.or_eq_true, Bool.and_eq_true, Nat.ble_eq, Nat.beq_eq]; omega
theorem loOk_iff {c : UInt8} : zsu c = true ↔ 97 ≤ c.toNat ∧ c.toNat ≤ 122 := by
 simp only [zsu, Bool.and_eq_true, Nat.ble_eq]
theorem zws (c : UInt8) (g : Nat → Option Bool) (i : Nat) (s : Str) (hi : i < s.length) (hc : s[i]? = some c) : z54 s g i = bif znz c then g (i + 1) else some false := by
 have h97 : (97 : UInt8).toNat = 97 := rfl
 have h122 : (122 : UInt8).toNat = 122 := rfl
 have h48 : (48 : UInt8).toNat = 48 := rfl
 have h57 : (57 : UInt8).toNat = 57 := rfl
 have h95 : (95 : UInt8).toNat = 95 := rfl
 simp only [z54, z8v hi, hc, cond_true, Option.bind_some, z5q, h97, h122, h48, h57, h95]
 simp only [Bool.cond_eq_ite, decide_eq_true_eq, bne_iff_ne, ne_eq, Bool.false_eq_true, if_false, chOk_iff]
 repeat (split <;> (try (first | rfl | (exfalso; omega))))
theorem Z5i (s : Str) : ∀ k i, k + i = s.length → zhm s i = some ((s.drop i).all znz)
 | 0, i, h => by
  rw [zhl]
  simp only [z54, z9m (by omega : ¬ i < s.length), cond_false]
  rw [List.drop_of_length_le (by omega)]; rfl
 | k + 1, i, h => by
  obtain ⟨c, hc, hd⟩ := dropc (by omega : i < s.length)
  rw [zhl, zws c _ i s (by omega) hc, Z5i s k (i + 1) (by omega), hd, List.all_cons]
  cases znz c <;> rfl
theorem zvu (s : Str) : zjv s = some (z2z s) := by
 have h97 : (97 : UInt8).toNat = 97 := rfl
 have h122 : (122 : UInt8).toNat = 122 := rfl
 cases s with
 | nil => rfl
 | cons c r =>
  have hl := Z5i (c :: r) (c :: r).length 0 (by simp)
  rw [List.drop_zero] at hl
  simp only [zjv, zb8, h97, h122]
  have he : ((c :: r) == ([] : Str)) = false := rfl
  have h0 : (c :: r)[0]? = some c := rfl
  simp only [he, h0, cond_true, cond_false, Option.bind_some]
  by_cases h32 : (c :: r).length ≤ 32
  ·have hs : ze8 (c :: r).length = some () := by unfold ze8; rw [Nat.ble_eq_true_of_le (by omega)]; rfl
   simp only [hs, hl, Option.bind_some]
   have e1 : decide (((c :: r).length : Int) > 32) = false := decide_eq_false (by omega)
   rw [e1]
   simp only [cond_false, z2z, List.headD_cons, Nat.ble_eq_true_of_le h32, Nat.ble_eq_true_of_le (by simp : 1 ≤ (c :: r).length), Bool.true_and]
   cases hlo : zsu c with
   | true =>
    have := loOk_iff.1 hlo
    have e2 : decide ((c.toNat : Int) < (97 : Nat)) = false := decide_eq_false (by omega)
    have e3 : decide ((c.toNat : Int) > (122 : Nat)) = false := decide_eq_false (by omega)
    rw [e2, e3]; rfl
   | false =>
    have h2 : ¬ (97 ≤ c.toNat ∧ c.toNat ≤ 122) := fun h => by rw [loOk_iff.2 h] at hlo; cases hlo
    by_cases h3 : c.toNat < 97
    ·have e2 : decide ((c.toNat : Int) < (97 : Nat)) = true := decide_eq_true (by omega)
     rw [e2]; rfl
    ·have e2 : decide ((c.toNat : Int) < (97 : Nat)) = false := decide_eq_false (by omega)
     have e3 : decide ((c.toNat : Int) > (122 : Nat)) = true := decide_eq_true (by omega)
     rw [e2, e3]; rfl
  ·have e1 : decide (((c :: r).length : Int) > 32) = true := decide_eq_true (by omega)
   have e2 : Nat.ble (c :: r).length 32 = false := by
    cases hb : Nat.ble (c :: r).length 32 with
    | false => rfl
    | true => exact absurd (Nat.le_of_ble_eq_true hb) h32
   rw [e1]
   simp only [cond_true, z2z, e2, Bool.and_false, Bool.false_and]
end Go.Proofs.Ythidgpcbnieleaa

namespace Go.Proofs.Ythidgpcbnieleaa
open Go Aw
set_option linter.unusedVariables false
set_option linter.unusedSimpArgs false
set_option maxRecDepth 8000
def leB (a b : Str) : Bool := Op.bytesLess a b || a == b
def zbj : Option Str → List Str → Bool
 | _, [] => true
 | p, s :: r => z2z s && (match p with | none => true | some q => !(leB s q)) && zbj (some s) r
def z89 (l : List Str) (i : Nat) : Option Str := if i = 0 then none else l[i - 1]?
def z3m (l : List Str) : Int := if 4096 < l.length then 2 else if zbj none l then 0 else 8
theorem zmx {l : List Str} {i : Nat} {s : Str} (h : l[i]? = some s) (p : Option Str) : zbj p (l.drop i) = (z2z s && (match p with | none => true | some q => !(leB s q)) && zbj (z89 l (i + 1)) (l.drop (i + 1))) := by
 have hi := (List.getElem?_eq_some_iff.1 h).1
 have hd : l.drop i = s :: l.drop (i + 1) := by rw [List.drop_eq_getElem_cons hi, (List.getElem?_eq_some_iff.1 h).2]
 have : z89 l (i + 1) = some s := by simp [z89, h]
 rw [hd, this]
 cases p <;> simp only [zbj]
theorem zh5 (p : Option Str) : zbj p [] = true := by cases p <;> rfl
def r08 (b : Bool) : Int := if b then 0 else 8
theorem zbf {α : Type} (l : List (Str × α)) (i : Nat) (hi : i < l.length) (hb : l.length ≤ 4096) (g : Option Int) (hg : g = some (r08 (zbj (z89 (l.map (·.1)) (i + 1)) ((l.map (·.1)).drop (i + 1))))) (x : Str × α) (hx : l[i]? = some x) :
 (bif !(z2z x.1) then some 8 else (bif decide (((i : Nat) : Int) > 0) then Option.bind (z8x l (IntKind.i64.wrap (((i : Nat) : Int) - 1))) fun y => (bif (Op.bytesLess x.1 y.1 || x.1 == y.1) then some 8 else g) else g)) = some (r08 (zbj (z89 (l.map (·.1)) i) ((l.map (·.1)).drop i))) := by
 have hs : (l.map (·.1))[i]? = some x.1 := by rw [List.getElem?_map, hx]; rfl
 rw [zmx hs]
 cases hn : z2z x.1 with
 | false => rfl
 | true =>
  simp only [Bool.not_true, cond_false, Bool.true_and]
  by_cases h0 : i = 0
  ·subst h0
   have e : decide (((0 : Nat) : Int) > 0) = false := rfl
   rw [e, hg]
   simp only [cond_false, z89, if_pos, Bool.true_and]
  ·have e : decide ((i : Int) > 0) = true := decide_eq_true (by omega)
   have hw : IntKind.i64.wrap ((i : Int) - 1) = ((i - 1 : Nat) : Int) := by rw [z46 (by omega) (by omega)]; omega
   obtain ⟨y, hy, _⟩ := dropc (by omega : i - 1 < l.length)
   rw [e, hw, z31, hy]
   have hp : z89 (l.map (·.1)) i = some y.1 := by simp only [z89, if_neg h0, List.getElem?_map, hy, Option.map_some]
   simp only [cond_true, Option.bind_some, hp, hg]
   show (bif leB x.1 y.1 then _ else _) = _
   cases leB x.1 y.1 <;> rfl
theorem Z5j (l : List (Str × V)) (hb : l.length ≤ 4096) : ∀ k i, k + i = l.length → zhy l i = some (r08 (zbj (z89 (l.map (·.1)) i) ((l.map (·.1)).drop i)))
 | 0, i, h => by
  rw [zhx]
  simp only [z6a, z9m (by omega : ¬ i < l.length), cond_false]
  rw [List.drop_of_length_le (by simp; omega), zh5]; rfl
 | k + 1, i, h => by
  obtain ⟨x, hx, _⟩ := dropc (by omega : i < l.length)
  have hr := zbf l i (by omega) hb _ (Z5j l hb k (i + 1) (by omega)) x hx
  rw [zhx]
  simp only [z6a, z8v (by omega : i < l.length), cond_true, hx, Option.bind_some, zvu, z9c, cond_false]
  exact hr
theorem zvw (l : List (Str × V)) : zjz l = some (z3m (l.map (·.1))) := by
 simp only [zjz, z3m, List.length_map]
 by_cases h : 4096 < l.length
 ·rw [decide_eq_true (by omega : (l.length : Int) > 4096), if_pos h]; rfl
 ·rw [decide_eq_false (by omega : ¬ (l.length : Int) > 4096), if_neg h, cond_false, Z5j l (by omega) l.length 0 (by omega)]; rfl
def zw1 : V → Int
 | .nil => 1
 | .bool _ => 2
 | .int _ => 3
 | .float _ => 4
 | .text _ => 5
 | .bytes _ => 6
 | .ref _ => 7
 | .list _ => 8
 | .dict _ => 9
 | .record _ _ _ => 10
 | .nothing => 11
 | .alien _ => 0
theorem Z0m (x : V) : zqf x = some (zw1 x) := by cases x <;> rfl
def zwa : V → Int
 | .nothing => 7
 | .alien _ => 6
 | _ => 2
def z2w : V → Int
 | .text s => if 65536 < s.length then 2 else 0
 | .bytes b => if 65536 < b.length then 2 else 0
 | .list l => if 4096 < l.length then 2 else 0
 | .dict l => z3m (l.map (·.1))
 | .record c v l => if z2z c = false then 8 else if v < 1 ∨ 1000 < v then 1 else z3m (l.map (·.1))
 | .nothing => 7
 | .alien _ => 6
 | _ => 0
def z9z (x : V) (n deep : Int) : Int := if 16384 ≤ n ∨ 64 < deep then zwa x else z2w x
theorem Z1f (x : V) : z86 x true = some (zwa x) := by
 simp only [z86, cond_true, Z0m, Option.bind_some]
 cases x <;> rfl
theorem zso (n m : Nat) : (bif decide ((n : Int) > (m : Int)) then some (2 : Int) else zb3) = some (if m < n then 2 else 0) := by
 by_cases h : m < n
 ·rw [decide_eq_true (by omega : (n : Int) > m), if_pos h]; rfl
 ·rw [decide_eq_false (by omega : ¬ (n : Int) > m), if_neg h]; rfl
theorem Z0w (x : V) : z86 x false = some (z2w x) := by
 cases x with
 | text s => exact zso s.length 65536
 | bytes s => exact zso s.length 65536
 | list s => exact zso s.length 4096
 | dict l =>
  have : z86 (.dict l) false = Option.bind (zjz l) fun x => some x := rfl
  rw [this, zvw]; rfl
 | record c v l =>
  have : z86 (.record c v l) false = Option.bind (zjv c) fun x17 => bif !x17 then some 8 else bif decide (v < 1) then zb2 ⟨c, v, l⟩ true else zb2 ⟨c, v, l⟩ (decide (v > 1000)) := rfl
  rw [this, zvu]
  simp only [Option.bind_some, z2w, zb2, zvw]
  cases hn : z2z c with
  | false => rfl
  | true =>
   simp only [Bool.not_true, cond_false, cond_true]
   by_cases h1 : v < 1
   ·rw [decide_eq_true h1, cond_true, if_neg (by simp), if_pos (Or.inl h1)]
   ·rw [decide_eq_false h1, cond_false, if_neg (by simp)]
    by_cases h2 : v > 1000
    ·rw [decide_eq_true h2, cond_true, if_pos (Or.inr h2)]
    ·rw [decide_eq_false h2, cond_false, if_neg (by omega)]
 | _ => rfl
theorem Z0k (x : V) (n d : Int) : zqa x n d = some (z9z x n d) := by
 simp only [zqa, z9z]
 by_cases h1 : n ≥ 16384
 ·rw [decide_eq_true h1, cond_true, if_pos (Or.inl h1), Z1f]
 ·rw [decide_eq_false h1, cond_false]
  by_cases h2 : d > 64
  ·rw [decide_eq_true h2, if_pos (Or.inr h2), Z1f]
  ·rw [decide_eq_false h2, if_neg (by omega), Z0w]
theorem zz7 {c : Bool} {x y : Option V} (h1 : ∃ a, x = some (.alien a)) (h2 : ∃ a, y = some (.alien a)) : ∃ a, (bif c then x else y) = some (.alien a) := by cases c <;> assumption
theorem zmm (n : Int) : ∃ a, znd n = some (.alien a) := by
 unfold znd
 repeat (first | exact ⟨_, rfl⟩ | refine zz7 ⟨_, rfl⟩ ?_)
noncomputable def alT (n : Int) : {t : Nat // zf9 t = true} := (zmm n).choose
theorem zve (n : Int) : znd n = some (.alien (alT n)) := (zmm n).choose_spec
mutual
noncomputable def bu : Term → V
 | .mk k b i f t y r l d c v => if k = 1 then .nil else if k = 2 then .bool b else if k = 3 then .int i else if k = 4 then .float f else if k = 5 then .text t else if k = 6 then .bytes y else if k = 7 then .ref r
  else if k = 8 then .list (Z2g l) else if k = 9 then .dict (zzh d) else if k = 10 then .record c v (zzh d) else if k = 11 then .nothing else .alien (alT i)
noncomputable def Z2g : List Term → List V
 | [] => []
 | x :: r => bu x :: Z2g r
noncomputable def zzh : List (Str × Term) → List (Str × V)
 | [] => []
 | (s, x) :: r => (s, bu x) :: zzh r
end
noncomputable def buE (p : Str × Term) : Str × V := (p.1, bu p.2)
theorem zgh : ∀ l, Z2g l = l.map bu
 | [] => by rw [Z2g]; rfl
 | x :: r => by rw [Z2g, zgh r]; rfl
theorem zbt : ∀ l, zzh l = l.map buE
 | [] => by rw [zzh]; rfl
 | (s, x) :: r => by rw [zzh, zbt r]; rfl
theorem zmd (l : List (Str × Term)) : (l.map buE).map (·.1) = l.map (·.1) := by rw [List.map_map]; rfl
theorem zsm (l : List (Str × Term)) : (l.map buE).map (·.2) = (l.map (·.2)).map bu := by rw [List.map_map, List.map_map]; rfl
inductive BuC (t : Term) : V → Prop
 | nil : t.kind = 1 → BuC t .nil
 | bool : t.kind = 2 → BuC t (.bool t.bool)
 | int : t.kind = 3 → BuC t (.int t.int)
 | float : t.kind = 4 → BuC t (.float t.float)
 | text : t.kind = 5 → BuC t (.text t.text)
 | bytes : t.kind = 6 → BuC t (.bytes t.bytes)
 | ref : t.kind = 7 → BuC t (.ref t.ref)
 | list : t.kind = 8 → BuC t (.list (t.list.map bu))
 | dict : t.kind = 9 → BuC t (.dict (t.fields.map buE))
 | record : t.kind = 10 → BuC t (.record t.cls t.ver (t.fields.map buE))
 | nothing : t.kind = 11 → BuC t .nothing
 | alien : t.kind < 1 ∨ 11 < t.kind → BuC t (.alien (alT t.int))
theorem zo2 (t : Term) : BuC t (bu t) := by
 cases t with
 | mk k b i f t y r l d c v =>
  rw [bu, zgh, zbt]
  by_cases h1 : k = 1; · rw [if_pos h1]; exact .nil h1
  by_cases h2 : k = 2; · rw [if_neg h1, if_pos h2]; exact .bool h2
  by_cases h3 : k = 3; · rw [if_neg h1, if_neg h2, if_pos h3]; exact .int h3
  by_cases h4 : k = 4; · rw [if_neg h1, if_neg h2, if_neg h3, if_pos h4]; exact .float h4
  by_cases h5 : k = 5; · rw [if_neg h1, if_neg h2, if_neg h3, if_neg h4, if_pos h5]; exact .text h5
  by_cases h6 : k = 6; · rw [if_neg h1, if_neg h2, if_neg h3, if_neg h4, if_neg h5, if_pos h6]; exact .bytes h6
  by_cases h7 : k = 7; · rw [if_neg h1, if_neg h2, if_neg h3, if_neg h4, if_neg h5, if_neg h6, if_pos h7]; exact .ref h7
  by_cases h8 : k = 8; · rw [if_neg h1, if_neg h2, if_neg h3, if_neg h4, if_neg h5, if_neg h6, if_neg h7, if_pos h8]; exact .list h8
  by_cases h9 : k = 9; · rw [if_neg h1, if_neg h2, if_neg h3, if_neg h4, if_neg h5, if_neg h6, if_neg h7, if_neg h8, if_pos h9]; exact .dict h9
  by_cases h10 : k = 10; · rw [if_neg h1, if_neg h2, if_neg h3, if_neg h4, if_neg h5, if_neg h6, if_neg h7, if_neg h8, if_neg h9, if_pos h10]; exact .record h10
  by_cases h11 : k = 11; · rw [if_neg h1, if_neg h2, if_neg h3, if_neg h4, if_neg h5, if_neg h6, if_neg h7, if_neg h8, if_neg h9, if_neg h10, if_pos h11]; exact .nothing h11
  rw [if_neg h1, if_neg h2, if_neg h3, if_neg h4, if_neg h5, if_neg h6, if_neg h7, if_neg h8, if_neg h9, if_neg h10, if_neg h11]
  exact .alien (by show k < 1 ∨ 11 < k; omega)
theorem zz1 (n m : Nat) (g : Bool → Option Int) (h1 : g true = some 2) (h2 : g false = some 0) : g (decide ((n : Int) > (m : Int))) = some (if m < n then 2 else 0) := by
 by_cases h : m < n
 ·rw [decide_eq_true (by omega : (n : Int) > m), if_pos h]; exact h1
 ·rw [decide_eq_false (by omega : ¬ (n : Int) > m), if_neg h]; exact h2
end Go.Proofs.Ythidgpcbnieleaa

namespace Go.Proofs.Ythidgpcbnieleaa
open Go Aw
set_option linter.unusedVariables false
set_option linter.unusedSimpArgs false
set_option maxRecDepth 8000
structure Ct where
 ok : Bool
 n : Int
 dp : Int
 why : Int
mutual
def z2h : V → Int → Int → Int → Ct
 | .list l, n, dp, d => if z9z (.list l) n d = 0 then z2y l (n + 1) (max dp d) (d + 1) else ⟨false, n, dp, z9z (.list l) n d⟩
 | .dict l, n, dp, d => if z9z (.dict l) n d = 0 then zar l (n + 1) (max dp d) (d + 1) else ⟨false, n, dp, z9z (.dict l) n d⟩
 | .record c v l, n, dp, d => if z9z (.record c v l) n d = 0 then zar l (n + 1) (max dp d) (d + 1) else ⟨false, n, dp, z9z (.record c v l) n d⟩
 | x, n, dp, d => if z9z x n d = 0 then ⟨true, n + 1, max dp d, 0⟩ else ⟨false, n, dp, z9z x n d⟩
def z2y : List V → Int → Int → Int → Ct
 | [], n, dp, d => ⟨true, n, dp, 0⟩
 | x :: r, n, dp, d => if (z2h x n dp d).ok then z2y r (z2h x n dp d).n (z2h x n dp d).dp d else z2h x n dp d
def zar : List (Str × V) → Int → Int → Int → Ct
 | [], n, dp, d => ⟨true, n, dp, 0⟩
 | (s, x) :: r, n, dp, d => if (z2h x n dp d).ok then zar r (z2h x n dp d).n (z2h x n dp d).dp d else z2h x n dp d
end
def V.parts : V → List V
 | .list l => l
 | .dict l => l.map (·.2)
 | .record _ _ l => l.map (·.2)
 | _ => []
theorem zdi : ∀ (l : List (Str × V)) (n dp d : Int), zar l n dp d = z2y (l.map (·.2)) n dp d
 | [], n, dp, d => by simp only [zar, z2y, List.map_nil]
 | (s, x) :: r, n, dp, d => by simp only [zar, z2y, List.map_cons, zdi r]
theorem z4v (x : V) (n dp d : Int) : z2h x n dp d = if z9z x n d = 0 then z2y x.parts (n + 1) (max dp d) (d + 1) else ⟨false, n, dp, z9z x n d⟩ := by
 cases x <;> simp only [z2h, V.parts, zdi, z2y]
theorem z33 (x : V) (r : List V) (n dp d : Int) : z2y (x :: r) n dp d = if (z2h x n dp d).ok then z2y r (z2h x n dp d).n (z2h x n dp d).dp d else z2h x n dp d := by simp only [z2y]
theorem z3n (n dp d : Int) : z2y [] n dp d = ⟨true, n, dp, 0⟩ := by simp only [z2y]
theorem Z1e (x : V) : zwa x ≠ 0 := by cases x <;> simp [zwa]
theorem z6d {x : V} {n d : Int} (h : z9z x n d = 0) : n < 16384 ∧ d ≤ 64 ∧ z2w x = 0 := by
 unfold z9z at h
 split at h
 ·exact absurd h (Z1e x)
 ·rename_i hc; exact ⟨by omega, by omega, h⟩
theorem ztl {x y : V} (h : y ∈ x.parts) : SizeOf.sizeOf y < SizeOf.sizeOf x := by
 cases x <;> simp only [V.parts, List.not_mem_nil] at h
 ·have := List.sizeOf_lt_of_mem h; simp; omega
 ·obtain ⟨⟨s, z⟩, hz, rfl⟩ := List.mem_map.1 h
  have := List.sizeOf_lt_of_mem hz; simp at this ⊢; omega
 ·obtain ⟨⟨s, z⟩, hz, rfl⟩ := List.mem_map.1 h
  have := List.sizeOf_lt_of_mem hz; simp at this ⊢; omega
theorem V.byParts {P : V → Prop} (h : ∀ x, (∀ y, y ∈ x.parts → P y) → P x) (x : V) : P x :=
 h x (fun y hy => V.byParts h y)
termination_by SizeOf.sizeOf x
decreasing_by exact ztl hy
structure CtOk (c : Ct) (n : Int) : Prop where
 lo : n ≤ c.n
 ok : c.ok = true → c.n ≤ 16384 ∧ c.why = 0
 bad : c.ok = false → c.why ≠ 0
theorem zcq {d : Int} : ∀ (l : List V), (∀ y, y ∈ l → ∀ n dp, CtOk (z2h y n dp d) n) → ∀ n dp, n ≤ 16384 → CtOk (z2y l n dp d) n
 | [], _, n, dp, hm => by rw [z3n]; exact ⟨Int.le_refl _, fun _ => ⟨hm, rfl⟩, by simp⟩
 | x :: r, h, n, dp, hm => by
  have h1 := h x (by simp) n dp
  rw [z33]
  split
  ·rename_i hk
   have h2 := zcq r (fun y hy => h y (by simp [hy])) _ (z2h x n dp d).dp (h1.ok hk).1
   exact ⟨Int.le_trans h1.lo h2.lo, h2.ok, h2.bad⟩
  ·exact h1
theorem z7p (x : V) : ∀ d n dp, CtOk (z2h x n dp d) n := by
 induction x using V.byParts with
 | _ x ih =>
 intro d n dp
 rw [z4v]
 split
 ·rename_i h
  have := z6d h
  have h2 := zcq x.parts (fun y hy n dp => ih y hy (d + 1) n dp) (n + 1) (max dp d) (by omega)
  exact ⟨by have := h2.lo; omega, h2.ok, h2.bad⟩
 ·rename_i h; exact ⟨Int.le_refl _, by simp, fun _ => h⟩
def ctS (c : Ct) : Bool × S_value_count := (c.ok, ⟨c.n, c.dp, c.why⟩)
def zmn (x : V) : Prop := ∀ n dp w d, -4611686018427387904 ≤ n → n ≤ 16384 → -4611686018427387904 ≤ d → d ≤ 65 → zig ⟨n, dp, w⟩ x d = some (ctS (z2h x n dp d))
theorem Z66 (l : List V) (d : Int) (hl : ∀ y, y ∈ l → zmn y) (hd : -4611686018427387904 ≤ d) (hd' : d ≤ 64) : ∀ k i n dp, k + i = l.length → -4611686018427387904 ≤ n → n ≤ 16384 → zeq zig (.list l) d i n dp 0 = some (ctS (z2y (l.drop i) n dp (d + 1)))
 | 0, i, n, dp, h, hn, hm => by
  rw [zi3]
  simp only [z5c, V.asList, z9m (by omega : ¬ i < l.length), cond_false, zer]
  rw [List.drop_of_length_le (by omega), z3n]; rfl
 | k + 1, i, n, dp, h, hn, hm => by
  obtain ⟨x, hx, hdr⟩ := dropc (by omega : i < l.length)
  have hp := hl x (List.mem_of_getElem? hx) n dp 0 (d + 1) hn hm (by omega) (by omega)
  have hw : IntKind.i64.wrap (d + 1) = d + 1 := z46 (by omega) (by omega)
  rw [zi3]
  simp only [z5c, V.asList, z8v (by omega : i < l.length), cond_true, hx, Option.bind_some, hw, hp, ctS]
  rw [hdr, z33]
  have hf := z7p x (d + 1) n dp
  cases hk : (z2h x n dp (d + 1)).ok with
  | false => simp only [Bool.not_false, cond_true, Bool.false_eq_true, if_false, hk]
  | true =>
   have h1 := hf.ok hk
   have h2 := hf.lo
   simp only [Bool.not_true, cond_false, if_true]
   rw [h1.2, Z66 l d hl hd hd' k (i + 1) _ _ (by omega) (by omega) h1.1]; rfl
theorem Z68 (l : List (Str × V)) (d : Int) (hl : ∀ y, y ∈ l.map (·.2) → zmn y) (hd : -4611686018427387904 ≤ d) (hd' : d ≤ 64) : ∀ k i n dp, k + i = l.length → -4611686018427387904 ≤ n → n ≤ 16384 → zep zig l d i n dp 0 = some (ctS (z2y ((l.map (·.2)).drop i) n dp (d + 1)))
 | 0, i, n, dp, h, hn, hm => by
  rw [zi1]
  simp only [z5a, z9m (by omega : ¬ i < l.length), cond_false]
  rw [List.drop_of_length_le (by simp; omega), z3n]; rfl
 | k + 1, i, n, dp, h, hn, hm => by
  obtain ⟨x, hx, _⟩ := dropc (by omega : i < l.length)
  have hx2 : (l.map (·.2))[i]? = some x.2 := by rw [List.getElem?_map, hx]; rfl
  obtain ⟨x', hx', hdr⟩ := dropc (by rw [List.length_map]; omega : i < (l.map (·.2)).length)
  rw [hx2] at hx'; injection hx' with hx'; subst hx'
  have hp := hl x.2 (List.mem_of_getElem? hx2) n dp 0 (d + 1) hn hm (by omega) (by omega)
  have hw : IntKind.i64.wrap (d + 1) = d + 1 := z46 (by omega) (by omega)
  rw [zi1]
  simp only [z5a, z8v (by omega : i < l.length), cond_true, hx, Option.bind_some, hw, hp, ctS]
  rw [hdr, z33]
  have hf := z7p x.2 (d + 1) n dp
  cases hk : (z2h x.2 n dp (d + 1)).ok with
  | false => simp only [Bool.not_false, cond_true, Bool.false_eq_true, if_false, hk]
  | true =>
   have h1 := hf.ok hk
   have h2 := hf.lo
   simp only [Bool.not_true, cond_false, if_true]
   rw [h1.2, Z68 l d hl hd hd' k (i + 1) _ _ (by omega) (by omega) h1.1]; rfl
theorem zvx (l : List (Str × V)) (d n dp : Int) (hl : ∀ y, y ∈ l.map (·.2) → zmn y) (hd : -4611686018427387904 ≤ d) (hd' : d ≤ 64) (hn : -4611686018427387904 ≤ n) (hm : n ≤ 16384) : znl ⟨n, dp, 0⟩ l d = some (ctS (z2y (l.map (·.2)) n dp (d + 1))) := by
 rw [Z53, zkj]
 exact Z68 l d hl hd hd' l.length 0 n dp (by omega) hn hm
theorem Z0o (x : V) : zmn x := by
 induction x using V.byParts with
 | _ x ih =>
 intro n dp w d hn hm hd hd'
 rw [Z55, zkl, z4v]
 simp only [Z0k, Option.bind_some]
 by_cases h : z9z x n d = 0
 ·have h0 := z6d h
  have hw : IntKind.i64.wrap (n + 1) = n + 1 := z46 (by omega) (by omega)
  have hmx : (if d > dp then d else dp) = max dp d := by omega
  rw [if_pos h, h, hw, hmx]
  have e0 : ((0 : Int) != 0) = false := rfl
  rw [e0, cond_false]
  cases x with
  | list l => exact Z66 l d ih hd (by omega) l.length 0 (n + 1) (max dp d) (by omega) (by omega) (by omega)
  | dict l =>
   show Option.bind (znl ⟨n + 1, max dp d, 0⟩ l d) (fun x => some (x.1, x.2)) = _
   rw [zvx l d _ _ ih hd (by omega) (by omega) (by omega)]; rfl
  | record c v l =>
   show Option.bind (znl ⟨n + 1, max dp d, 0⟩ l d) (fun x => some (x.1, x.2)) = _
   rw [zvx l d _ _ ih hd (by omega) (by omega) (by omega)]; rfl
  | nothing => have := h0.2.2; simp [z2w] at this
  | _ => simp only [V.parts, z3n]; rfl
 ·rw [if_neg h]
  have e0 : (z9z x n d != 0) = true := by simpa using h
  rw [e0]; rfl
def z1j (x : V) : Int × Int := if (z2h x 0 0 1).ok then (0, 0) else ((z2h x 0 0 1).n, (z2h x 0 0 1).why)
theorem zpk (x : V) : znh x = some (z1j x) := by
 simp only [znh, Z0o x 0 0 0 1 (by omega) (by omega) (by omega) (by omega), Option.bind_some, ctS, z1j]
 cases (z2h x 0 0 1).ok <;> rfl
theorem zvv (x : V) : zng x = some (z1j x) := by simp only [zng, zpk, Option.bind_some]
def z3u (t : Term) : List Term := if t.kind = 8 then t.list else if t.kind = 9 ∨ t.kind = 10 then t.fields.map (·.2) else []
theorem zcr (t : Term) : (z3u t).map bu = (bu t).parts := by
 have hb := zo2 t
 unfold z3u
 generalize bu t = x at hb
 cases hb with
 | list hk => rw [if_pos hk]; rfl
 | dict hk => rw [if_neg (by omega), if_pos (Or.inl hk)]; simp only [V.parts, zsm]
 | record hk => rw [if_neg (by omega), if_pos (Or.inr hk)]; simp only [V.parts, zsm]
 | _ hk => rw [if_neg (by omega), if_neg (by omega)]; rfl
theorem zq2 {t u : Term} (h : u ∈ z3u t) : SizeOf.sizeOf u < SizeOf.sizeOf t := by
 cases t with
 | mk k b i f s y r l d c v =>
 unfold z3u at h
 split at h
 ·have := List.sizeOf_lt_of_mem h; simp [Term.list] at this ⊢; omega
 ·split at h
  ·obtain ⟨⟨s, z⟩, hz, rfl⟩ := List.mem_map.1 h
   have := List.sizeOf_lt_of_mem hz; simp [Term.fields] at this ⊢; omega
  ·cases h
theorem Term.byParts {P : Term → Prop} (h : ∀ t, (∀ u, u ∈ z3u t → P u) → P t) (t : Term) : P t :=
 h t (fun u hu => Term.byParts h u)
termination_by SizeOf.sizeOf t
decreasing_by exact zq2 hu
end Go.Proofs.Ythidgpcbnieleaa

namespace Go.Proofs.Ythidgpcbnieleaa
open Go Aw
set_option linter.unusedVariables false
set_option linter.unusedSimpArgs false
set_option maxRecDepth 8000
theorem zox (c : UInt8) (g : Int → Option Bool) (i : Nat) (s : Str) (hi : i < s.length) (hb : s.length ≤ 32) (hc : s[i]? = some c) :
 z4i s g (i : Int) = bif (if i = 0 then zsu c else znz c) then g ((i + 1 : Nat) : Int) else some false := by
 have h97 : (97 : UInt8).toNat = 97 := rfl
 have h122 : (122 : UInt8).toNat = 122 := rfl
 have h48 : (48 : UInt8).toNat = 48 := rfl
 have h57 : (57 : UInt8).toNat = 57 := rfl
 have h95 : (95 : UInt8).toNat = 95 := rfl
 have hw : IntKind.i64.wrap ((i : Int) + 1) = ((i + 1 : Nat) : Int) := by rw [z46 (by omega) (by omega)]; omega
 simp only [z4i, z8v hi, z31, hc, cond_true, Option.bind_some, zb7, z75, h97, h122, h48, h57, h95, hw]
 by_cases h0 : i = 0
 ·subst h0
  simp only [Bool.cond_eq_ite, decide_eq_true_eq, bne_iff_ne, ne_eq, Bool.false_eq_true, if_false, if_true, loOk_iff, Bool.not_eq_true', Bool.not_false, decide_eq_false_iff_not]
  repeat (split <;> (try (first | rfl | (exfalso; omega))))
  all_goals (first | rfl | (exfalso; simp_all; omega) | (simp_all; done))
 ·have e0 : ((i : Int) == 0) = false := by simp; omega
  rw [if_neg h0]
  simp only [e0, Bool.cond_eq_ite, decide_eq_true_eq, bne_iff_ne, ne_eq, Bool.false_eq_true, if_false, if_true, chOk_iff, Bool.not_eq_true', Bool.not_false, decide_eq_false_iff_not]
  repeat (split <;> (try (first | rfl | (exfalso; omega))))
  all_goals (first | rfl | (exfalso; simp_all; omega) | (simp_all; done))
theorem Z5n (s : Str) (hb : s.length ≤ 32) : ∀ k i, k + i = s.length → 0 < i → zb6 s (i : Int) = some ((s.drop i).all znz)
 | 0, i, h, h0 => by
  rw [zck]
  simp only [z4i, z9m (by omega : ¬ i < s.length), cond_false]
  rw [List.drop_of_length_le (by omega)]; rfl
 | k + 1, i, h, h0 => by
  obtain ⟨c, hc, hd⟩ := dropc (by omega : i < s.length)
  rw [zck, zox c _ i s (by omega) hb hc, if_neg (by omega), Z5n s hb k (i + 1) (by omega) (by omega), hd, List.all_cons]
  cases znz c <;> rfl
theorem Z3u {c : UInt8} (h : zsu c = true) : znz c = true := chOk_iff.2 (.inl (loOk_iff.1 h))
theorem zpe (s : Str) : zib s = some (z2z s) := by
 simp only [zib, zeh]
 by_cases h1 : s.length < 1
 ·have : s = [] := List.eq_nil_of_length_eq_zero (by omega)
  subst this; rfl
 ·have e1 : decide ((s.length : Int) < 1) = false := decide_eq_false (by omega)
  rw [e1]
  by_cases h32 : s.length ≤ 32
  ·have e2 : decide ((s.length : Int) > 32) = false := decide_eq_false (by omega)
   rw [e2]
   simp only [cond_false]
   cases s with
   | nil => simp at h1
   | cons c r =>
    have hb := zox c (zb6 (c :: r)) 0 (c :: r) (by simp) h32 rfl
    have hl := Z5n (c :: r) h32 r.length 1 (by simp) (by omega)
    have e : zb6 (c :: r) 0 = z4i (c :: r) (zb6 (c :: r)) ((0 : Nat) : Int) := zck (c :: r) 0
    rw [e, hb, if_pos rfl]
    simp only [hl, z2z, List.headD_cons, Nat.ble_eq_true_of_le h32, Nat.ble_eq_true_of_le (by simp : 1 ≤ (c :: r).length), Bool.true_and, List.all_cons]
    cases hlo : zsu c with
    | true => rw [Z3u hlo]; rfl
    | false => rfl
  ·have e2 : decide ((s.length : Int) > 32) = true := decide_eq_true (by omega)
   have e3 : Nat.ble s.length 32 = false := by
    cases hb : Nat.ble s.length 32 with
    | false => rfl
    | true => exact absurd (Nat.le_of_ble_eq_true hb) h32
   rw [e2]
   simp only [cond_true, cond_false, z2z, e3, Bool.and_false, Bool.false_and]
end Go.Proofs.Ythidgpcbnieleaa

namespace Go.Proofs.Ythidgpcbnieleaa
open Go Aw
set_option linter.unusedVariables false
set_option linter.unusedSimpArgs false
set_option maxRecDepth 8000
theorem Z5o (t : Term) (hb : t.fields.length ≤ 4096) : ∀ k i, k + i = t.fields.length → zeg t i = some (r08 (zbj (z89 (t.fields.map (·.1)) i) ((t.fields.map (·.1)).drop i)))
 | 0, i, h => by
  rw [zhe]
  simp only [z63, z9m (by omega : ¬ i < t.fields.length), cond_false]
  rw [List.drop_of_length_le (by simp; omega), zh5]; rfl
 | k + 1, i, h => by
  obtain ⟨x, hx, _⟩ := dropc (by omega : i < t.fields.length)
  have hr := zbf t.fields i (by omega) hb _ (Z5o t hb k (i + 1) (by omega)) x hx
  rw [zhe]
  simp only [z63, z8v (by omega : i < t.fields.length), cond_true, hx, Option.bind_some, zpe, z98, cond_false]
  exact hr
theorem Z0i (t : Term) : (bif decide ((t.fields.length : Int) > 4096) then some 2 else zeg t 0) = some (z3m (t.fields.map (·.1))) := by
 simp only [z3m, List.length_map]
 by_cases h : 4096 < t.fields.length
 ·rw [decide_eq_true (by omega : (t.fields.length : Int) > 4096), if_pos h]; rfl
 ·rw [decide_eq_false (by omega : ¬ (t.fields.length : Int) > 4096), if_neg h, cond_false, Z5o t (by omega) t.fields.length 0 (by omega)]; rfl
theorem Z0l (t : Term) (n d : Int) : zdz t n d = some (z9z (bu t) n d) := by
  have hfar : ∀ k : Int, t.kind = k → 1 ≤ k → k ≤ 10 → (16384 ≤ n ∨ 64 < d) → zdz t n d = some 2 := by
    intro k hk h1 h2 h3
    have e1 : (t.kind == 11) = false := by rw [hk]; simp; omega
    have e2 : decide (t.kind < 1) = false := decide_eq_false (by omega)
    have e3 : decide (t.kind > 10) = false := decide_eq_false (by omega)
    simp only [zdz, e1, e2, e3, cond_false, zb5]
    by_cases h4 : n ≥ 16384
    · rw [decide_eq_true h4]; rfl
    · rw [decide_eq_false h4, cond_false, decide_eq_true (by omega : d > 64)]; rfl
  have hnear : ∀ k : Int, t.kind = k → 1 ≤ k → k ≤ 10 → ¬ (16384 ≤ n ∨ 64 < d) → zdz t n d = z4b t false := by
    intro k hk h1 h2 h3
    have e1 : (t.kind == 11) = false := by rw [hk]; simp; omega
    have e2 : decide (t.kind < 1) = false := decide_eq_false (by omega)
    have e3 : decide (t.kind > 10) = false := decide_eq_false (by omega)
    simp only [zdz, e1, e2, e3, cond_false, zb5]
    rw [decide_eq_false (by omega : ¬ n ≥ 16384), cond_false, decide_eq_false (by omega : ¬ d > 64)]
  have hb := zo2 t
  simp only [z9z]
  generalize bu t = x at hb
  cases hb with
  | nothing hk => have e1 : (t.kind == 11) = true := by rw [hk]; rfl
                  simp only [zdz, e1, cond_true, zwa, z2w, ite_self]
  | alien hk =>
    have e1 : (t.kind == 11) = false := by simp; omega
    simp only [zdz, e1, cond_false, zwa, z2w, ite_self, zb5]
    rcases hk with hk | hk
    · rw [decide_eq_true hk]; rfl
    · rw [decide_eq_false (by omega : ¬ t.kind < 1), cond_false, decide_eq_true (by omega : t.kind > 10)]; rfl
  | nil hk | bool hk | int hk | float hk | ref hk =>
    by_cases h : 16384 ≤ n ∨ 64 < d
    · rw [if_pos h, hfar _ hk (by decide) (by decide) h]; rfl
    · rw [if_neg h, hnear _ hk (by decide) (by decide) h]
      simp only [z4b, z74, z5p, z3e, z5o, z87, hk]; rfl
  | text hk =>
    by_cases h : 16384 ≤ n ∨ 64 < d
    · rw [if_pos h, hfar _ hk (by decide) (by decide) h]; rfl
    · rw [if_neg h, hnear _ hk (by decide) (by decide) h]
      have e : z4b t false = bif decide ((t.text.length : Int) > 65536) then z3e t true else z3e t false := by
        simp only [z4b, z74, z5p, hk]; rfl
      rw [e]
      refine zz1 t.text.length 65536 (fun b => bif b then z3e t true else z3e t false) rfl ?_
      show z3e t false = some 0
      simp only [z3e, z5o, z87, hk]; rfl
  | bytes hk =>
    by_cases h : 16384 ≤ n ∨ 64 < d
    · rw [if_pos h, hfar _ hk (by decide) (by decide) h]; rfl
    · rw [if_neg h, hnear _ hk (by decide) (by decide) h]
      have e : z4b t false = z3e t (decide ((t.bytes.length : Int) > 65536)) := by
        simp only [z4b, z74, z5p, hk]; rfl
      rw [e]
      refine zz1 t.bytes.length 65536 (fun b => z3e t b) rfl ?_
      simp only [z3e, z5o, z87, hk]; rfl
  | list hk =>
    by_cases h : 16384 ≤ n ∨ 64 < d
    · rw [if_pos h, hfar _ hk (by decide) (by decide) h]; rfl
    · rw [if_neg h, hnear _ hk (by decide) (by decide) h]
      have e : z4b t false = z5o t (decide ((t.list.length : Int) > 4096)) := by
        simp only [z4b, z74, z5p, z3e, hk]; rfl
      rw [e]
      simp only [z2w, List.length_map]
      refine zz1 t.list.length 4096 (fun b => z5o t b) rfl ?_
      simp only [z5o, z87, hk]; rfl
  | dict hk =>
    by_cases h : 16384 ≤ n ∨ 64 < d
    · rw [if_pos h, hfar _ hk (by decide) (by decide) h]; rfl
    · rw [if_neg h, hnear _ hk (by decide) (by decide) h]
      have e : z4b t false = z87 t false := by
        simp only [z4b, z74, z5p, z3e, z5o, hk]; rfl
      rw [e, z2w, zmd, ← Z0i]; rfl
  | record hk =>
    by_cases h : 16384 ≤ n ∨ 64 < d
    · rw [if_pos h, hfar _ hk (by decide) (by decide) h]; rfl
    · rw [if_neg h, hnear _ hk (by decide) (by decide) h]
      have e7 : z5p t false = some (z3m (t.fields.map (·.1))) := by
        rw [← Z0i]
        simp only [z5p, z3e, z5o, hk]; rfl
      have e1 : (t.kind == 10) = true := by rw [hk]; rfl
      simp only [z4b, z74, e1, cond_true, cond_false, zpe, Option.bind_some, z2w, zmd]
      cases hn : z2z t.cls with
      | false => rfl
      | true =>
        simp only [Bool.not_true, cond_false]
        by_cases h1 : t.ver < 1
        · rw [decide_eq_true h1, cond_true, if_neg (by simp), if_pos (Or.inl h1)]; rfl
        · rw [decide_eq_false h1, cond_false, if_neg (by simp)]
          by_cases h2 : t.ver > 1000
          · rw [decide_eq_true h2, if_pos (Or.inr h2)]; rfl
          · rw [decide_eq_false h2, if_neg (by omega), e7]
theorem Z5m (t : Term) (hb : t.fields.length ≤ 268435456) : ∀ k i acc, k + i = t.fields.length → acc.length = i → zhw t acc i = some (acc ++ (t.fields.map (·.2)).drop i)
 | 0, i, acc, h, ha => by
  rw [zhv]
  simp only [z69, z9m (by omega : ¬ i < t.fields.length), cond_false, zem]
  rw [List.drop_of_length_le (by simp; omega), List.append_nil]
 | k + 1, i, acc, h, ha => by
  obtain ⟨x, hx, _⟩ := dropc (by omega : i < t.fields.length)
  have hx2 : (t.fields.map (·.2))[i]? = some x.2 := by rw [List.getElem?_map, hx]; rfl
  obtain ⟨x', hx', hdr⟩ := dropc (by rw [List.length_map]; omega : i < (t.fields.map (·.2)).length)
  rw [hx2] at hx'; injection hx' with hx'; subst hx'
  have hap : z6x 152 acc [x.2] = some (acc ++ [x.2]) := by
   unfold z6x; rw [Nat.ble_eq_true_of_le (by simp; omega)]; rfl
  rw [zhv]
  simp only [z69, z8v (by omega : i < t.fields.length), cond_true, hx, Option.bind_some, hap]
  rw [Z5m t hb k (i + 1) (acc ++ [x.2]) (by omega) (by simp [ha]), hdr]; simp
theorem Z0n (t : Term) (hb : t.fields.length ≤ 268435456) : zqo t = some (z3u t) := by
 unfold z3u zqo
 by_cases h8 : t.kind = 8
 ·rw [if_pos h8, h8]; rfl
 ·have e8 : (t.kind == 8) = false := by simpa using h8
  rw [if_neg h8, e8, cond_false]
  have hl : zel t true = some (t.fields.map (·.2)) := Z5m t hb t.fields.length 0 [] (by omega) rfl
  by_cases h9 : t.kind = 9
  ·rw [if_pos (Or.inl h9), h9]; exact hl
  ·have e9 : (t.kind == 9) = false := by simpa using h9
   rw [e9, cond_false]
   by_cases h10 : t.kind = 10
   ·rw [if_pos (Or.inr h10), h10]; exact hl
   ·have e10 : (t.kind == 10) = false := by simpa using h10
    rw [if_neg (by omega), e10]; rfl
def seS (c : Ct) (a : Int) : S_ref01_seen := if c.ok then ⟨c.n, c.dp, a, 0⟩ else ⟨c.n, c.dp, c.n, c.why⟩
def zwl (t : Term) : Prop := ∀ n dp a d, -4611686018427387904 ≤ n → n ≤ 16384 → -4611686018427387904 ≤ d → d ≤ 65 → zif ⟨n, dp, a, 0⟩ t d = some (seS (z2h (bu t) n dp d) a)
theorem Z5k (l : List Term) (a d : Int) (hl : ∀ y, y ∈ l → zwl y) (hd : -4611686018427387904 ≤ d) (hd' : d ≤ 64) : ∀ k i n dp, k + i = l.length → -4611686018427387904 ≤ n → n ≤ 16384 → zco zif d l i n dp a 0 = some (seS (z2y ((l.map bu).drop i) n dp (d + 1)) a)
 | 0, i, n, dp, h, hn, hm => by
  rw [zi2]
  simp only [z5b, z9m (by omega : ¬ i < l.length), cond_false]
  rw [List.drop_of_length_le (by simp; omega), z3n]; rfl
 | k + 1, i, n, dp, h, hn, hm => by
  obtain ⟨x, hx, _⟩ := dropc (by omega : i < l.length)
  have hx2 : (l.map bu)[i]? = some (bu x) := by rw [List.getElem?_map, hx]; rfl
  obtain ⟨x', hx', hdr⟩ := dropc (by rw [List.length_map]; omega : i < (l.map bu).length)
  rw [hx2] at hx'; injection hx' with hx'; subst hx'
  have hp := hl x (List.mem_of_getElem? hx) n dp a (d + 1) hn hm (by omega) (by omega)
  have hw : IntKind.i64.wrap (d + 1) = d + 1 := z46 (by omega) (by omega)
  rw [zi2]
  simp only [z5b, z8v (by omega : i < l.length), cond_true, hx, Option.bind_some, hw, hp]
  rw [hdr, z33]
  have hf := z7p (bu x) (d + 1) n dp
  cases hk : (z2h (bu x) n dp (d + 1)).ok with
  | false =>
   have h1 := hf.bad hk
   have e : ((seS (z2h (bu x) n dp (d + 1)) a).f_why != 0) = true := by simp only [seS, hk]; simpa using h1
   rw [e, cond_true, if_neg (by simp)]
  | true =>
   have h1 := hf.ok hk
   have h2 := hf.lo
   have e : seS (z2h (bu x) n dp (d + 1)) a = ⟨(z2h (bu x) n dp (d + 1)).n, (z2h (bu x) n dp (d + 1)).dp, a, 0⟩ := by simp only [seS, hk]; rfl
   rw [e, if_pos rfl]
   show zco zif d l (i + 1) _ _ a 0 = _
   rw [Z5k l a d hl hd hd' k (i + 1) _ _ (by omega) (by omega) h1.1]
theorem zwz (t : Term) : bkT t ≤ 268435456 → zwl t := by
 induction t using Term.byParts with
 | _ t ih =>
 intro hb n dp a d hn hm hd hd'
 have hfl : t.fields.length ≤ 268435456 := by
  cases t with
  | mk k b i f s y r l dd c v =>
   have hsum : ∀ l : List (Str × Term), l.length ≤ bkEs l := by
    intro l; induction l with
    | nil => simp
    | cons x r ih => obtain ⟨s, x⟩ := x; rw [bkEs, List.length_cons]; omega
   have := hsum dd
   rw [bkT] at hb; show dd.length ≤ _; omega
 have hbp : ∀ u, u ∈ z3u t → bkT u ≤ 268435456 := by
  intro u hu
  cases t with
  | mk k b i f s y r l dd c v =>
   have h1 : ∀ {l : List Term} {u : Term}, u ∈ l → bkT u ≤ zdv l := by
    intro l u h; induction l with
    | nil => cases h
    | cons x r ih => rw [zdv]; rcases List.mem_cons.1 h with rfl | h; (· omega); (· have := ih h; omega)
   have h2 : ∀ {l : List (Str × Term)} {u : Term}, u ∈ l.map (·.2) → bkT u ≤ bkEs l := by
    intro l u h; induction l with
    | nil => cases h
    | cons x r ih => obtain ⟨s, x⟩ := x; rw [bkEs]; rcases List.mem_cons.1 h with rfl | h; (· show bkT u ≤ _; omega); (· have := ih h; omega)
   rw [bkT] at hb
   unfold z3u at hu
   split at hu
   ·have := h1 hu; simp only [Term.list] at this; omega
   ·split at hu
    ·have := h2 hu; simp only [Term.fields] at this; omega
    ·cases hu
 rw [Z54, zkk, z4v]
 simp only [Z0l, Option.bind_some]
 by_cases h : z9z (bu t) n d = 0
 ·have h0 := z6d h
  have hw : IntKind.i64.wrap (n + 1) = n + 1 := z46 (by omega) (by omega)
  have e0 : ((0 : Int) != 0) = false := rfl
  rw [if_pos h, h, e0, cond_false]
  have hj : ∀ m, z9d zif ⟨n, dp, a, 0⟩ t d m = some (seS (z2y ((z3u t).map bu) (n + 1) m (d + 1)) a) := by
   intro m
   simp only [z9d, Z0n t hfl, Option.bind_some, hw]
   exact Z5k (z3u t) a d (fun y hy => ih y hy (hbp y hy)) hd (by omega) (z3u t).length 0 (n + 1) m (by omega) (by omega) (by omega)
  rw [hj, hj, zcr]
  by_cases hdd : d > dp
  ·rw [decide_eq_true hdd, cond_true, show max dp d = d by omega]
  ·rw [decide_eq_false hdd, cond_false, show max dp d = dp by omega]
 ·rw [if_neg h]
  have e0 : (z9z (bu t) n d != 0) = true := by simpa using h
  rw [e0]; rfl
theorem zl9 (t : Term) (hb : bkT t ≤ 268435456) : zid t = some (z1j (bu t)) := by
 simp only [zid, zwz t hb 0 0 0 1 (by omega) (by omega) (by omega) (by omega), Option.bind_some, z1j, seS]
 cases (z2h (bu t) 0 0 1).ok <;> rfl
end Go.Proofs.Ythidgpcbnieleaa

namespace Go.Proofs.Ythidgpcbnieleaa
open Go Aw
set_option linter.unusedVariables false
set_option linter.unusedSimpArgs false
set_option maxRecDepth 8000
theorem zoa {α : Type} {b : Nat} {acc : List α} {x : α} (hb : b ≤ 1024) (h : acc.length ≤ 1073741824) : z6x b acc [x] = some (acc ++ [x]) := by
 have h1 : (acc.length + 1) * b ≤ (1073741824 + 1) * 1024 := Nat.mul_le_mul (by omega) hb
 unfold z6x
 rw [Nat.ble_eq_true_of_le (by simp only [List.length_cons, List.length_nil, Nat.zero_add]; omega)]; rfl
theorem zsr {α : Type} {b : Nat} {l : List α} (hb : b ≤ 1024) (h : l.length ≤ 1073741824) : z6x b [] l = some l := by
 have h1 : l.length * b ≤ 1073741824 * 1024 := Nat.mul_le_mul h hb
 unfold z6x
 rw [Nat.ble_eq_true_of_le (by simp only [List.length_nil, Nat.zero_add]; omega)]; rfl
theorem zmg : ∀ {l : List Term} {u : Term}, u ∈ l → bkT u ≤ zdv l
 | x :: r, u, h => by
  rw [zdv]; rcases List.mem_cons.1 h with rfl | h
  ·omega
  ·have := zmg h; omega
theorem zmi : ∀ {l : List (Str × Term)} {u : Str × Term}, u ∈ l → bkT u.2 ≤ bkEs l
 | (s, x) :: r, u, h => by
  rw [bkEs]; rcases List.mem_cons.1 h with rfl | h
  ·show bkT x ≤ _; omega
  ·have := zmi h; omega
theorem zmh : ∀ (l : List Term), l.length ≤ zdv l
 | [] => by simp
 | .mk k b i f s y r l dd c v :: q => by rw [zdv, List.length_cons, bkT]; have := zmh q; omega
theorem zmj : ∀ (l : List (Str × Term)), l.length ≤ bkEs l
 | [] => by simp
 | (s, x) :: q => by rw [bkEs, List.length_cons]; have := zmj q; omega
theorem zbh (t : Term) : bkT t = t.text.length + t.bytes.length + t.cls.length + zdv t.list + bkEs t.fields + 12 := by cases t; rw [bkT]; rfl
theorem zsn {t u : Term} (h : u ∈ t.list) : bkT u < bkT t := by have := zmg h; have := zbh t; omega
theorem zjc {t : Term} {u : Str × Term} (h : u ∈ t.fields) : bkT u.2 < bkT t := by have := zmi h; have := zbh t; omega
theorem zlp (t : Term) : t.list.length ≤ bkT t := by have := zmh t.list; have := zbh t; omega
theorem znv (t : Term) : t.fields.length ≤ bkT t := by have := zmj t.fields; have := zbh t; omega
theorem zri (t : Term) : t.bytes.length ≤ bkT t := by have := zbh t; omega
theorem z5g {α β : Type} {l : List α} {f : α → β} {i : Nat} {x : α} (h : l[i]? = some x) : (l.take i).map f ++ [f x] = (l.take (i + 1)).map f := by
 obtain ⟨hi, rfl⟩ := List.getElem?_eq_some_iff.1 h
 rw [List.take_add_one, List.getElem?_eq_getElem hi, List.map_append]; rfl
end Go.Proofs.Ythidgpcbnieleaa

namespace Go.Proofs.Ythidgpcbnieleaa
open Go Aw
set_option linter.unusedVariables false
set_option linter.unusedSimpArgs false
set_option maxRecDepth 8000
theorem Z69 (t : Term) (hl : ∀ u, u ∈ t.list → z8h u = some (bu u)) (hb : t.list.length ≤ 1073741824) : ∀ k i, k + i = t.list.length → zch z8h t ((t.list.take i).map bu) i = some (.list (t.list.map bu))
 | 0, i, h => by
  rw [zhc]
  simp only [z53, z9m (by omega : ¬ i < t.list.length), cond_false]
  rw [List.take_of_length_le (by omega)]
 | k + 1, i, h => by
  obtain ⟨x, hx, _⟩ := dropc (by omega : i < t.list.length)
  rw [zhc]
  simp only [z53, z8v (by omega : i < t.list.length), cond_true, hx, Option.bind_some, hl x (List.mem_of_getElem? hx), zoa (b := 16) (by omega) (show ((t.list.take i).map bu).length ≤ 1073741824 by simp; omega), z5g hx]
  exact Z69 t hl hb k (i + 1) (by omega)
theorem Z6a (l : List (Str × Term)) (hl : ∀ u, u ∈ l → z8h u.2 = some (bu u.2)) (hb : l.length ≤ 1073741824) : ∀ k i, k + i = l.length → zeb z8h l ((l.take i).map buE) i = some (l.map buE)
 | 0, i, h => by
  rw [zh7]
  simp only [z50, z9m (by omega : ¬ i < l.length), cond_false]
  rw [List.take_of_length_le (by omega)]
 | k + 1, i, h => by
  obtain ⟨x, hx, _⟩ := dropc (by omega : i < l.length)
  rw [zh7]
  simp only [z50, z8v (by omega : i < l.length), cond_true, hx, Option.bind_some, hl x (List.mem_of_getElem? hx), zoa (b := 32) (x := (x.1, bu x.2)) (by omega) (show ((l.take i).map buE).length ≤ 1073741824 by simp; omega)]
  have : ((l.take i).map buE) ++ [(x.1, bu x.2)] = (l.take (i + 1)).map buE := z5g (f := buE) hx
  rw [this]
  exact Z6a l hl hb k (i + 1) (by omega)
theorem zir : ∀ (n : Nat) (t : Term), bkT t ≤ n → n ≤ 268435456 → z8h t = some (bu t) := by
 intro n
 induction n with
 | zero => intro t h _; have := zbh t; omega
 | succ n ih =>
  intro t h hn
  have hl : ∀ u, u ∈ t.list → z8h u = some (bu u) := fun u hu => ih u (by have := zsn hu; omega) (by omega)
  have hf : ∀ u, u ∈ t.fields → z8h u.2 = some (bu u.2) := fun u hu => ih u.2 (by have := zjc hu; omega) (by omega)
  have hd : ztm t.fields = some (t.fields.map buE) := by
   rw [Z4v, zkb]
   exact Z6a t.fields hf (by have := znv t; omega) t.fields.length 0 (by omega)
  have hll : zch z8h t [] 0 = some (.list (t.list.map bu)) := Z69 t hl (by have := zlp t; omega) t.list.length 0 (by omega)
  have hb := zo2 t
  rw [Z4y, zke]
  generalize bu t = x at hb
  cases hb with
  | bytes hk => simp only [hk, zsr (by omega : 1 ≤ 1024) (show t.bytes.length ≤ 1073741824 by have := zri t; omega)]; rfl
  | list hk => simp only [hk, hll]; rfl
  | dict hk => simp only [hk, hd]; rfl
  | record hk => simp only [hk, hd]; rfl
  | alien hk =>
   have e : ∀ k : Int, 1 ≤ k → k ≤ 11 → (t.kind == k) = false := fun k h1 h2 => by simp; omega
   simp only [e 1 (by omega) (by omega), e 2 (by omega) (by omega), e 3 (by omega) (by omega), e 4 (by omega) (by omega), e 5 (by omega) (by omega), e 6 (by omega) (by omega), e 7 (by omega) (by omega), e 8 (by omega) (by omega),
    e 9 (by omega) (by omega), e 10 (by omega) (by omega), e 11 (by omega) (by omega), cond_false, zve, Option.bind_some]
  | _ hk => simp only [hk]; rfl
theorem zvt (t : Term) (h : bkT t ≤ 268435456) : z8h t = some (bu t) := zir _ t h (Nat.le_refl _)
end Go.Proofs.Ythidgpcbnieleaa

namespace Go.Proofs.Ythidgpcbnieleaa
open Go Aw
set_option linter.unusedVariables false
set_option linter.unusedSimpArgs false
set_option maxRecDepth 8000
def c3 (a b : Int) : Int := if a < b then -1 else if a > b then 1 else 0
def th (c d : Int) : Int := if c = 0 then d else c
def z8w : List Int → List Int → Int
 | [], [] => 0
 | [], _ :: _ => -1
 | _ :: _, [] => 1
 | a :: x, b :: y => th (c3 a b) (z8w x y)
theorem zm9 (a b : Int) : c3 a b = -1 ∨ c3 a b = 0 ∨ c3 a b = 1 := by unfold c3; split; (· exact .inl rfl); split; (· exact .inr (.inr rfl)); exact .inr (.inl rfl)
theorem Z2f (a b : Int) : c3 b a = - c3 a b := by unfold c3; split <;> split <;> (try split) <;> (try split) <;> omega
theorem c3_zero {a b : Int} : c3 a b = 0 ↔ a = b := by unfold c3; split <;> (try split) <;> omega
theorem zyx (a : Int) : c3 a a = 0 := c3_zero.2 rfl
theorem c3_lt {a b : Int} : c3 a b = -1 ↔ a < b := by unfold c3; split <;> (try split) <;> omega
theorem zt3 (a b c : Int) : th (th a b) c = th a (th b c) := by unfold th; by_cases h : a = 0 <;> by_cases h2 : b = 0 <;> simp_all
theorem zlo : ∀ x y, z8w x y = -1 ∨ z8w x y = 0 ∨ z8w x y = 1
 | [], [] => .inr (.inl rfl)
 | [], _ :: _ => .inl rfl
 | _ :: _, [] => .inr (.inr rfl)
 | a :: x, b :: y => by
  rw [z8w]; unfold th; split
  ·exact zlo x y
  ·exact zm9 a b
theorem zg4 : ∀ x y, z8w y x = - z8w x y
 | [], [] => rfl
 | [], _ :: _ => rfl
 | _ :: _, [] => rfl
 | a :: x, b :: y => by
  have := zg4 x y
  have := Z2f a b
  rw [z8w, z8w]; unfold th; split <;> split <;> omega
theorem zf0 : ∀ x y z, z8w x y ≤ 0 → z8w y z ≤ 0 → z8w x z ≤ 0 ∧ (z8w x y < 0 ∨ z8w y z < 0 → z8w x z < 0)
 | [], [], [], _, _ => by simp [z8w]
 | [], [], _ :: _, _, _ => by simp [z8w]
 | [], _ :: _, [], _, h => by simp [z8w] at h
 | [], _ :: _, _ :: _, _, _ => by simp [z8w]
 | _ :: _, [], _, h, _ => by simp [z8w] at h
 | _ :: _, _ :: _, [], _, h => by simp [z8w] at h
 | a :: x, b :: y, c :: z, h1, h2 => by
  have ih := zf0 x y z
  have ra := zm9 a b; have rb := zm9 b c; have rc := zm9 a c
  have za := @c3_zero a b; have zb := @c3_zero b c; have zc := @c3_zero a c
  have la := @c3_lt a b; have lb := @c3_lt b c; have lc := @c3_lt a c
  rw [z8w] at h1 h2
  rw [z8w, z8w, z8w]
  unfold th at h1 h2 ⊢
  by_cases e1 : c3 a b = 0
  ·rw [if_pos e1] at h1 ⊢
   by_cases e2 : c3 b c = 0
   ·rw [if_pos e2] at h2 ⊢
    rw [if_pos (by omega : c3 a c = 0)]
    exact ih h1 h2
   ·rw [if_neg e2] at h2 ⊢
    have : c3 a c = -1 := by omega
    rw [if_neg (by omega), this]; omega
  ·rw [if_neg e1] at h1 ⊢
   by_cases e2 : c3 b c = 0
   ·rw [if_pos e2] at h2 ⊢
    have : c3 a c = -1 := by omega
    rw [if_neg (by omega), this]; omega
   ·rw [if_neg e2] at h2 ⊢
    have : c3 a c = -1 := by omega
    rw [if_neg (by omega), this]; omega
def cmpS (a b : Str) : Int := if Op.bytesLess a b then -1 else if a == b then 0 else 1
def zf1 : Str → List Int
 | [] => [0]
 | c :: r => ((c.toNat : Int) + 1) :: zf1 r
theorem zz0 (a b : UInt8) (x y : Str) : Op.bytesLess (a :: x) (b :: y) = (a < b || (a == b && Op.bytesLess x y)) := rfl
theorem zsh (a b : UInt8) (x y : Str) : cmpS (a :: x) (b :: y) = th (c3 ((a.toNat : Int) + 1) ((b.toNat : Int) + 1)) (cmpS x y) := by
 unfold cmpS
 rw [zz0]
 rcases Nat.lt_trichotomy a.toNat b.toNat with h | h | h
 ·have h1 : a < b := UInt8.lt_iff_toNat_lt.2 h
  have : c3 ((a.toNat : Int) + 1) ((b.toNat : Int) + 1) = -1 := c3_lt.2 (by omega)
  rw [this]; simp [h1, th]
 ·have h1 : a = b := UInt8.toNat_inj.1 h
  subst h1
  have : c3 ((a.toNat : Int) + 1) ((a.toNat : Int) + 1) = 0 := zyx _
  rw [this]
  have h2 : ¬ a < a := by rw [UInt8.lt_iff_toNat_lt]; omega
  simp [h2, th]
 ·have h1 : ¬ a < b := by rw [UInt8.lt_iff_toNat_lt]; omega
  have h2 : (a == b) = false := by rw [beq_eq_false_iff_ne]; intro e; subst e; omega
  have : c3 ((a.toNat : Int) + 1) ((b.toNat : Int) + 1) = 1 := by unfold c3; rw [if_neg (by omega), if_pos (by omega)]
  have h3 : a ≠ b := by simpa using h2
  rw [this]; simp [h1, h2, th, h3]
theorem zw2 : ∀ (a b : Str) (r s : List Int), z8w (zf1 a ++ r) (zf1 b ++ s) = th (cmpS a b) (z8w r s)
 | [], [], r, s => by show th (c3 0 0) _ = _; rfl
 | [], b :: y, r, s => by
  have : c3 0 ((b.toNat : Int) + 1) = -1 := c3_lt.2 (by omega)
  show th (c3 0 ((b.toNat : Int) + 1)) _ = _
  rw [this]; rfl
 | a :: x, [], r, s => by
  have : c3 ((a.toNat : Int) + 1) 0 = 1 := by unfold c3; rw [if_neg (by omega), if_pos (by omega)]
  show th (c3 ((a.toNat : Int) + 1) 0) _ = _
  rw [this]; rfl
 | a :: x, b :: y, r, s => by
  show th (c3 ((a.toNat : Int) + 1) ((b.toNat : Int) + 1)) (z8w (zf1 x ++ r) (zf1 y ++ s)) = _
  rw [zw2 x y r s, zsh, zt3]
def trI (b : Bool) : Int := if b then 1 else 0
noncomputable def plV (f : Nat) : Int := if zt7 .u64 (f : Int) 63 = 1 then Z6j .u64 f else orK .u64 f 9223372036854775808
mutual
noncomputable def key : V → List Int
 | .nil => [1]
 | .bool b => [2, trI b]
 | .int i => [3, i]
 | .float f => [4, plV f]
 | .text s => 5 :: zf1 s
 | .bytes s => 6 :: zf1 s
 | .ref i => [7, i]
 | .list l => 8 :: Z5r l
 | .dict l => 9 :: Z3v l
 | .record c v l => 10 :: (zf1 c ++ (v :: Z3v l))
 | .nothing => [11]
 | .alien _ => [0]
noncomputable def Z5r : List V → List Int
 | [] => [0]
 | x :: r => 1 :: (key x ++ Z5r r)
noncomputable def Z3v : List (Str × V) → List Int
 | [] => [0]
 | (s, x) :: r => 1 :: (zf1 s ++ (key x ++ Z3v r))
end
end Go.Proofs.Ythidgpcbnieleaa

namespace Go.Proofs.Ythidgpcbnieleaa
open Go Aw
set_option linter.unusedVariables false
set_option linter.unusedSimpArgs false
set_option maxRecDepth 8000
def Fine (x : V) : Prop := ∃ n dp d, (z2h x n dp d).ok = true
theorem zcs {d : Int} : ∀ {l : List V} {n dp : Int}, (z2y l n dp d).ok = true → ∀ y, y ∈ l → ∃ n dp, (z2h y n dp d).ok = true
 | x :: r, n, dp, h, y, hy => by
  rw [z33] at h
  cases hk : (z2h x n dp d).ok with
  | false => rw [if_neg (by simp [hk])] at h; rw [hk] at h; cases h
  | true =>
   rw [if_pos hk] at h
   rcases List.mem_cons.1 hy with rfl | hy
   ·exact ⟨n, dp, hk⟩
   ·exact zcs h y hy
theorem Fine.own {x : V} (h : Fine x) : z2w x = 0 ∧ ∀ y, y ∈ x.parts → Fine y := by
 obtain ⟨n, dp, d, h⟩ := h
 rw [z4v] at h
 split at h
 ·rename_i ho
  exact ⟨(z6d ho).2.2, fun y hy => let ⟨n', dp', h'⟩ := zcs h y hy; ⟨n', dp', _, h'⟩⟩
 ·cases h
theorem ze0 {a : Int} (h : a ≠ 0) : (a != 0) = true := by simpa using h
theorem zdj {l : List Str} (h : z3m l = 0) : l.length ≤ 4096 := by
 unfold z3m at h
 split at h
 ·cases h
 ·omega
theorem z9k {l : List V} (h : z2w (.list l) = 0) : l.length ≤ 4096 := by
 simp only [z2w] at h
 split at h
 ·cases h
 ·omega
theorem zg1 {c : Str} {v : Int} {l : List (Str × V)} (h : z2w (.record c v l) = 0) : (1 ≤ v ∧ v ≤ 1000) ∧ l.length ≤ 4096 := by
 simp only [z2w] at h
 split at h
 ·cases h
 ·split at h
  ·cases h
  ·have := zdj h; rw [List.length_map] at this; omega
theorem zd9 {l : List (Str × V)} (h : z2w (.dict l) = 0) : l.length ≤ 4096 := by
 have := zdj h; rwa [List.length_map] at this
end Go.Proofs.Ythidgpcbnieleaa

namespace Go.Proofs.Ythidgpcbnieleaa
open Go Aw
set_option linter.unusedVariables false
set_option linter.unusedSimpArgs false
set_option maxRecDepth 8000
mutual
def cnt : V → Int
 | .list l => 1 + cntL l
 | .dict l => 1 + zup l
 | .record _ _ l => 1 + zup l
 | _ => 1
def cntL : List V → Int
 | [] => 0
 | x :: r => cnt x + cntL r
def zup : List (Str × V) → Int
 | [] => 0
 | (_, x) :: r => cnt x + zup r
end
mutual
def dpt : V → Int
 | .list l => 1 + dptL l
 | .dict l => 1 + zzg l
 | .record _ _ l => 1 + zzg l
 | _ => 1
def dptL : List V → Int
 | [] => 0
 | x :: r => max (dpt x) (dptL r)
def zzg : List (Str × V) → Int
 | [] => 0
 | (_, x) :: r => max (dpt x) (zzg r)
end
theorem zm6 : ∀ l, zup l = cntL (l.map (·.2))
 | [] => by simp only [zup, cntL, List.map_nil]
 | (s, x) :: r => by simp only [zup, cntL, List.map_cons, zm6 r]
theorem zm1 : ∀ l, zzg l = dptL (l.map (·.2))
 | [] => by simp only [zzg, dptL, List.map_nil]
 | (s, x) :: r => by simp only [zzg, dptL, List.map_cons, zm1 r]
theorem zm5 (x : V) : cnt x = 1 + cntL x.parts := by cases x <;> simp only [cnt, V.parts, zm6, cntL] <;> rfl
theorem zj6 (x : V) : dpt x = 1 + dptL x.parts := by cases x <;> simp only [dpt, V.parts, zm1, dptL] <;> rfl
inductive Near : V → Prop
 | mk {x : V} : z2w x = 0 → (∀ y, y ∈ x.parts → Near y) → Near x
theorem Near.own {x : V} (h : Near x) : z2w x = 0 := by cases h; assumption
theorem Near.part {x : V} (h : Near x) : ∀ y, y ∈ x.parts → Near y := by cases h; assumption
theorem zdq (x : V) : 1 ≤ cnt x ∧ 1 ≤ dpt x := by
 induction x using V.byParts with
 | _ x ih =>
  rw [zm5, zj6]
  have : ∀ l : List V, (∀ y, y ∈ l → 1 ≤ cnt y ∧ 1 ≤ dpt y) → 0 ≤ cntL l ∧ 0 ≤ dptL l := by
   intro l
   induction l with
   | nil => intro _; simp [cntL, dptL]
   | cons y r ihr =>
    intro h
    have h1 := h y (by simp)
    have h2 := ihr (fun z hz => h z (by simp [hz]))
    simp only [cntL, dptL]; omega
  have := this x.parts ih
  omega
theorem own_iff {x : V} {n d : Int} : z9z x n d = 0 ↔ n < 16384 ∧ d ≤ 64 ∧ z2w x = 0 := by
 constructor
 ·exact z6d
 ·rintro ⟨h1, h2, h3⟩
  unfold z9z; rw [if_neg (by omega)]; exact h3
theorem zu8 {x : V} (h : z2w x = 0) : zwa x = 2 := by cases x <;> first | rfl | (simp [z2w] at h)
structure Goes (x : V) : Prop where
 yes : ∀ n dp d, Near x → d - 1 ≤ dp → n + cnt x ≤ 16384 → d + dpt x - 1 ≤ 64 → z2h x n dp d = ⟨true, n + cnt x, max dp (d + dpt x - 1), 0⟩
 ok : ∀ n dp d, (z2h x n dp d).ok = true → Near x ∧ n + cnt x ≤ 16384 ∧ d + dpt x - 1 ≤ 64 ∧ (z2h x n dp d).n = n + cnt x
 long : ∀ n dp d, Near x → (z2h x n dp d).ok = false → (z2h x n dp d).why = 2
theorem Z19 {l : List V} (h : ∀ y, y ∈ l → Goes y) :
 (∀ n dp d, (∀ y, y ∈ l → Near y) → d - 1 ≤ dp → n + cntL l ≤ 16384 → d + dptL l - 1 ≤ 64 → z2y l n dp d = ⟨true, n + cntL l, max dp (d + dptL l - 1), 0⟩) ∧
 (∀ n dp d, n ≤ 16384 → d ≤ 65 → (z2y l n dp d).ok = true → (∀ y, y ∈ l → Near y) ∧ n + cntL l ≤ 16384 ∧ d + dptL l - 1 ≤ 64 ∧ (z2y l n dp d).n = n + cntL l) ∧
 (∀ n dp d, (∀ y, y ∈ l → Near y) → (z2y l n dp d).ok = false → (z2y l n dp d).why = 2) := by
 induction l with
 | nil =>
  refine ⟨fun n dp d _ hd _ _ => ?_, fun n dp d hn hd _ => ?_, fun n dp d _ hk => ?_⟩
  ·rw [z3n, cntL, dptL]; congr 1 <;> omega
  ·rw [z3n, cntL, dptL]; exact ⟨by simp, by omega, by omega, by simp⟩
  ·rw [z3n] at hk; cases hk
 | cons x r ih =>
  have hx := h x (by simp)
  obtain ⟨i1, i2, i3⟩ := ih (fun y hy => h y (by simp [hy]))
  have hp := zdq x
  have hr : 0 ≤ cntL r ∧ 0 ≤ dptL r := by
   clear i1 i2 i3 ih h hx
   induction r with
   | nil => simp [cntL, dptL]
   | cons y q ihq => have := zdq y; simp only [cntL, dptL]; omega
  refine ⟨fun n dp d hnr hd hn hdd => ?_, fun n dp d hn hd hk => ?_, fun n dp d hnr hk => ?_⟩
  ·rw [cntL] at hn ⊢
   rw [dptL] at hdd ⊢
   have e := hx.yes n dp d (hnr x (by simp)) hd (by omega) (by omega)
   rw [z33, e, if_pos rfl]
   rw [i1 _ _ d (fun y hy => hnr y (by simp [hy])) (by simp only; omega) (by simp only; omega) (by omega)]
   congr 1
   ·simp only; omega
   ·simp only; omega
  ·rw [z33] at hk ⊢
   cases hk1 : (z2h x n dp d).ok with
   | false => rw [if_neg (by simp [hk1])] at hk; rw [hk1] at hk; cases hk
   | true =>
    rw [if_pos hk1] at hk
    rw [if_pos rfl]
    obtain ⟨a1, a2, a3, a4⟩ := hx.ok n dp d hk1
    rw [a4] at hk ⊢
    obtain ⟨b1, b2, b3, b4⟩ := i2 _ _ d (by omega) hd hk
    rw [cntL, dptL]
    refine ⟨fun y hy => ?_, by omega, by omega, by omega⟩
    rcases List.mem_cons.1 hy with rfl | hy
    ·exact a1
    ·exact b1 y hy
  ·rw [z33] at hk ⊢
   cases hk1 : (z2h x n dp d).ok with
   | false => rw [if_neg (by simp [hk1])]; exact hx.long n dp d (hnr x (by simp)) hk1
   | true =>
    rw [if_pos hk1] at hk
    rw [if_pos rfl]
    exact i3 _ _ d (fun y hy => hnr y (by simp [hy])) hk
theorem goes (x : V) : Goes x := by
 induction x using V.byParts with
 | _ x ih =>
  obtain ⟨i1, i2, i3⟩ := Z19 ih
  have hp := zdq x
  refine ⟨fun n dp d hnr hd hn hdd => ?_, fun n dp d hk => ?_, fun n dp d hnr hk => ?_⟩
  ·rw [z4v, if_pos (own_iff.2 ⟨by omega, by omega, hnr.own⟩)]
   rw [zm5] at hn ⊢
   rw [zj6] at hdd ⊢
   have hd0 := hp.2
   rw [zj6] at hd0
   rw [i1 _ _ (d + 1) hnr.part (by omega) (by omega) (by omega)]
   congr 1 <;> omega
  ·rw [z4v] at hk ⊢
   by_cases ho : z9z x n d = 0
   ·rw [if_pos ho] at hk ⊢
    have h0 := z6d ho
    obtain ⟨b1, b2, b3, b4⟩ := i2 _ _ (d + 1) (by omega) (by omega) hk
    rw [zm5, zj6]
    exact ⟨.mk h0.2.2 b1, by omega, by omega, by omega⟩
   ·rw [if_neg ho] at hk; cases hk
  ·rw [z4v] at hk ⊢
   by_cases ho : z9z x n d = 0
   ·rw [if_pos ho] at hk ⊢; exact i3 _ _ _ hnr.part hk
   ·rw [if_neg ho]
    have : z9z x n d = zwa x := by
     unfold z9z at ho ⊢
     split
     ·rfl
     ·rename_i hc; rw [if_neg hc] at ho; exact absurd hnr.own ho
    show z9z x n d = 2
    rw [this]; exact zu8 hnr.own
def Can (x : V) : Prop := Near x ∧ cnt x ≤ 16384 ∧ dpt x ≤ 64
theorem can_ok {x : V} : (z2h x 0 0 1).ok = true ↔ Can x := by
 constructor
 ·intro h
  obtain ⟨a, b, c, _⟩ := (goes x).ok 0 0 1 h
  exact ⟨a, by omega, by omega⟩
 ·rintro ⟨a, b, c⟩
  rw [(goes x).yes 0 0 1 a (by omega) (by omega) (by omega)]
theorem zja {x : V} (h : Can x) : z1j x = (0, 0) := by unfold z1j; rw [if_pos (can_ok.2 h)]
theorem zbg {x : V} (h : ¬ Can x) : (z1j x).2 ≠ 0 := by
 unfold z1j
 have hk : (z2h x 0 0 1).ok = false := by
  cases hk : (z2h x 0 0 1).ok with
  | false => rfl
  | true => exact absurd (can_ok.1 hk) h
 rw [if_neg (by simp [hk])]
 exact (z7p x 1 0 0).bad hk
theorem z9w {x : V} (h : Can x) : Fine x := ⟨0, 0, 1, can_ok.2 h⟩
end Go.Proofs.Ythidgpcbnieleaa

namespace Go.Proofs.Ythidgpcbnieleaa
open Go Aw
set_option linter.unusedVariables false
set_option linter.unusedSimpArgs false
set_option maxRecDepth 8000
mutual
def cl : V → Term
 | .nil => .mk 1 false 0 0 [] [] 0 [] [] [] 0
 | .bool b => .mk 2 b 0 0 [] [] 0 [] [] [] 0
 | .int i => .mk 3 false i 0 [] [] 0 [] [] [] 0
 | .float f => .mk 4 false 0 f [] [] 0 [] [] [] 0
 | .text s => .mk 5 false 0 0 s [] 0 [] [] [] 0
 | .bytes s => .mk 6 false 0 0 [] s 0 [] [] [] 0
 | .ref r => .mk 7 false 0 0 [] [] r [] [] [] 0
 | .list l => .mk 8 false 0 0 [] [] 0 (clL l) [] [] 0
 | .dict l => .mk 9 false 0 0 [] [] 0 [] (clD l) [] 0
 | .record c v l => .mk 10 false 0 0 [] [] 0 [] (clD l) c v
 | .nothing => .mk 11 false 0 0 [] [] 0 [] [] [] 0
 | .alien _ => .mk 0 false 0 0 [] [] 0 [] [] [] 0
def clL : List V → List Term
 | [] => []
 | x :: r => cl x :: clL r
def clD : List (Str × V) → List (Str × Term)
 | [] => []
 | (s, x) :: r => (s, cl x) :: clD r
end
def clE (p : Str × V) : Str × Term := (p.1, cl p.2)
theorem zgf : ∀ l, clL l = l.map cl
 | [] => by rw [clL]; rfl
 | x :: r => by rw [clL, zgf r]; rfl
theorem z8r : ∀ l, clD l = l.map clE
 | [] => by rw [clD]; rfl
 | (s, x) :: r => by rw [clD, z8r r]; rfl
theorem z7s {b : Str} (h : z2w (.bytes b) = 0) : b.length ≤ 65536 := by
 simp only [z2w] at h; split at h <;> omega
end Go.Proofs.Ythidgpcbnieleaa

namespace Go.Proofs.Ythidgpcbnieleaa
open Go Aw
set_option linter.unusedVariables false
set_option linter.unusedSimpArgs false
set_option maxRecDepth 8000
theorem Z5p (l : List V) (d : Int) (hl : ∀ u, u ∈ l → zcv u (IntKind.i64.wrap (d + 1)) = some (cl u)) (hb : l.length ≤ 1073741824) : ∀ k i, k + i = l.length → zec zcv (.list l) d i ((l.take i).map cl) = some (.mk 8 false 0 0 [] [] 0 (l.map cl) [] [] 0)
 | 0, i, h => by
  rw [zh8]
  simp only [z51, V.asList, z9m (by omega : ¬ i < l.length), cond_false]
  rw [List.take_of_length_le (by omega)]
 | k + 1, i, h => by
  obtain ⟨x, hx, _⟩ := dropc (by omega : i < l.length)
  rw [zh8]
  simp only [z51, V.asList, z8v (by omega : i < l.length), cond_true, hx, Option.bind_some, hl x (List.mem_of_getElem? hx), zoa (b := 152) (by omega) (show ((l.take i).map cl).length ≤ 1073741824 by simp; omega), z5g hx]
  exact Z5p l d hl hb k (i + 1) (by omega)
theorem Z3s (l : List (Str × V)) (d : Int) (hl : ∀ u, u ∈ l → zcv u.2 (IntKind.i64.wrap (d + 1)) = some (cl u.2)) (hb : l.length ≤ 1073741824) : ∀ k i, k + i = l.length → zei zcv l d ((l.take i).map clE) i = some (l.map clE)
 | 0, i, h => by
  rw [zhn]
  simp only [z55, z9m (by omega : ¬ i < l.length), cond_false]
  rw [List.take_of_length_le (by omega)]
 | k + 1, i, h => by
  obtain ⟨x, hx, _⟩ := dropc (by omega : i < l.length)
  rw [zhn]
  simp only [z55, z8v (by omega : i < l.length), cond_true, hx, Option.bind_some, hl x (List.mem_of_getElem? hx), zoa (b := 168) (x := (x.1, cl x.2)) (by omega) (show ((l.take i).map clE).length ≤ 1073741824 by simp; omega)]
  have : ((l.take i).map clE) ++ [(x.1, cl x.2)] = (l.take (i + 1)).map clE := z5g (f := clE) hx
  rw [this]
  exact Z3s l d hl hb k (i + 1) (by omega)
theorem Z0j (x : V) : ∀ n dp d, (z2h x n dp d).ok = true → 1 ≤ d → zcv x (d - 1) = some (cl x) := by
 induction x using V.byParts with
 | _ x ih =>
 intro n dp d hk h1
 have hx : Fine x := ⟨n, dp, d, hk⟩
 have hn := hx.own.1
 rw [z4v] at hk
 by_cases ho : z9z x n d = 0
 ·rw [if_pos ho] at hk
  have h64 := (z6d ho).2.1
  have hw : IntKind.i64.wrap (d - 1 + 1) = (d + 1) - 1 := by rw [z46 (by omega) (by omega)]; omega
  have hp : ∀ u, u ∈ x.parts → zcv u (IntKind.i64.wrap (d - 1 + 1)) = some (cl u) := fun u hu => by
   obtain ⟨n', dp', h'⟩ := zcs hk u hu
   rw [hw]; exact ih u hu n' dp' (d + 1) h' (by omega)
  rw [Z4w, zkc, decide_eq_false (by omega : ¬ d - 1 > 400), cond_false]
  cases x with
  | nothing => simp [z2w] at hn
  | alien t => simp [z2w] at hn
  | bytes b => rw [cl]; simp only [V.isNil, V.isBool, V.isInt, V.isFloat, V.isText, V.isBytes, V.asBytes, cond_true, cond_false, Option.bind_some, zsr (by omega : 1 ≤ 1024) (show b.length ≤ 1073741824 by have := z7s hn; omega)]
  | list l =>
   have hb := z9k hn
   rw [cl, zgf]
   exact Z5p l (d - 1) hp (by omega) l.length 0 (by omega)
  | dict l =>
   have hb := zd9 hn
   have : zqh l (d - 1) = some (l.map clE) := by
    rw [Z27, zje]
    exact Z3s l (d - 1) (fun u hu => hp _ (List.mem_map_of_mem hu)) (by omega) l.length 0 (by omega)
   rw [cl, z8r]
   simp only [V.isNil, V.isBool, V.isInt, V.isFloat, V.isText, V.isBytes, V.isRef, V.isList, V.isDict, V.asDict, cond_true, cond_false, Option.bind_some, this]
  | record c v l =>
   have hb := (zg1 hn).2
   have : zqh l (d - 1) = some (l.map clE) := by
    rw [Z27, zje]
    exact Z3s l (d - 1) (fun u hu => hp _ (List.mem_map_of_mem hu)) (by omega) l.length 0 (by omega)
   rw [cl, z8r]
   simp only [V.isNil, V.isBool, V.isInt, V.isFloat, V.isText, V.isBytes, V.isRef, V.isList, V.isDict, V.isRec, V.asRec, Option.isNone, cond_true, cond_false, Option.bind_some, this]
  | _ => rw [cl]; rfl
 ·rw [if_neg ho] at hk; cases hk
end Go.Proofs.Ythidgpcbnieleaa

namespace Go.Proofs.Ythidgpcbnieleaa
open Go Aw
set_option linter.unusedVariables false
set_option linter.unusedSimpArgs false
set_option maxRecDepth 8000
theorem zgy : ∀ (l : List V), (∀ x, x ∈ l → (spSz x : Int) + 1 ≤ 65538 * cnt x) → (spSzL l : Int) ≤ 65538 * cntL l
 | [], _ => by simp [spSzL, cntL]
 | x :: r, h => by
  have h1 := h x (by simp)
  have h2 := zgy r (fun y hy => h y (by simp [hy]))
  simp only [spSzL, cntL]; omega
theorem zc5 : ∀ (l : List (Str × V)), (∀ x, x ∈ l → (spSz x.2 : Int) + 1 ≤ 65538 * cnt x.2) → (spSzD l : Int) ≤ 65538 * zup l
 | [], _ => by simp [spSzD, zup]
 | (s, x) :: r, h => by
  have h1 := h (s, x) (by simp)
  have h2 := zc5 r (fun y hy => h y (by simp [hy]))
  simp only [spSzD, zup]; dsimp only at h1; omega
theorem zt6 (x : V) : Near x → (spSz x : Int) + 1 ≤ 65538 * cnt x := by
 induction x using V.byParts with
 | _ x ih =>
 intro hx
 have hp : ∀ y, y ∈ x.parts → (spSz y : Int) + 1 ≤ 65538 * cnt y := fun y hy => ih y hy (hx.part y hy)
 cases x with
 | bytes b => have := z7s hx.own; simp only [spSz, cnt]; omega
 | list l => have := zgy l hp; simp only [spSz, cnt]; omega
 | dict l => have := zc5 l (fun y hy => hp _ (List.mem_map_of_mem hy)); simp only [spSz, cnt]; omega
 | record c v l => have := zc5 l (fun y hy => hp _ (List.mem_map_of_mem hy)); simp only [spSz, cnt]; omega
 | _ => simp only [spSz, cnt]; omega
theorem zor {x : V} (h : Can x) : zgw x = some () := by
 have h1 := zt6 x h.1
 have h2 := h.2.1
 unfold zgw
 rw [Nat.ble_eq_true_of_le (by omega)]; rfl
end Go.Proofs.Ythidgpcbnieleaa

namespace Go.Proofs.Ythidgpcbnieleaa
open Go Aw
set_option linter.unusedVariables false
set_option linter.unusedSimpArgs false
set_option maxRecDepth 8000
theorem zyz (x : V) : Fine x → bu (cl x) = x := by
 induction x using V.byParts with
 | _ x ih =>
 intro hx
 have hp := hx.own.2
 have hn := hx.own.1
 have hm : ∀ l : List V, (∀ u, u ∈ l → bu (cl u) = u) → (l.map cl).map bu = l := fun l h => by
  rw [List.map_map]
  conv => rhs; rw [← List.map_id l]
  exact List.map_congr_left fun u hu => h u hu
 have hd : ∀ l : List (Str × V), (∀ u, u ∈ l → bu (cl u.2) = u.2) → (l.map clE).map buE = l := fun l h => by
  rw [List.map_map]
  conv => rhs; rw [← List.map_id l]
  exact List.map_congr_left fun u hu => by obtain ⟨s, x⟩ := u; exact congrArg (Prod.mk s) (h _ hu)
 cases x with
 | nothing => simp [z2w] at hn
 | alien t => simp [z2w] at hn
 | list l => rw [cl, zgf, bu, zgh, hm l (fun u hu => ih u hu (hp u hu))]; rfl
 | dict l => rw [cl, z8r, bu, zbt, hd l (fun u hu => ih u.2 (List.mem_map_of_mem hu) (hp _ (List.mem_map_of_mem hu)))]; rfl
 | record c v l => rw [cl, z8r, bu, zbt, hd l (fun u hu => ih u.2 (List.mem_map_of_mem hu) (hp _ (List.mem_map_of_mem hu)))]; rfl
 | _ => rw [cl, bu]; rfl
theorem zme {t : Term} (h : z2w (bu t) = 0) : zw1 (bu t) = t.kind ∧ 1 ≤ t.kind ∧ t.kind ≤ 10 := by
 have hb := zo2 t
 generalize bu t = x at hb h
 cases hb with
 | nothing hk => simp [z2w] at h
 | alien hk => simp [z2w] at h
 | _ hk => rw [hk]; exact ⟨rfl, by decide, by decide⟩
def zjg (s t : Term) : Prop := ∃ r, zfv s t = some r ∧ (r = true ↔ bu s = bu t)
theorem z9t {α β : Type} {l : List α} {f : α → β} {i : Nat} {x : α} (h : l[i]? = some x) : (l.map f).drop i = f x :: (l.map f).drop (i + 1) := by
 obtain ⟨hi, rfl⟩ := List.getElem?_eq_some_iff.1 h
 rw [List.drop_eq_getElem_cons (by rw [List.length_map]; exact hi), List.getElem_map]
theorem sl_l {a b : List Term} (h : ∀ x, x ∈ a → ∀ y, y ∈ b → zjg x y) (hl : a.length = b.length) : ∀ k i, k + i = a.length → ∃ r, zee zfv a b i = some r ∧ (r = true ↔ (a.map bu).drop i = (b.map bu).drop i)
 | 0, i, hk => by
  rw [zhb]
  simp only [z52, z9m (by omega : ¬ i < a.length), cond_false]
  exact ⟨true, rfl, by rw [List.drop_of_length_le (by simp; omega), List.drop_of_length_le (by simp; omega)]; simp⟩
 | k + 1, i, hk => by
  obtain ⟨x, hx, _⟩ := dropc (by omega : i < a.length)
  obtain ⟨y, hy, _⟩ := dropc (by omega : i < b.length)
  obtain ⟨r, h1, h2⟩ := h x (List.mem_of_getElem? hx) y (List.mem_of_getElem? hy)
  rw [zhb]
  simp only [z52, z8v (by omega : i < a.length), cond_true, hx, hy, Option.bind_some, h1]
  rw [z9t hx, z9t hy]
  cases r with
  | false =>
   refine ⟨false, rfl, ?_⟩
   have : ¬ bu x = bu y := fun h => by simp [h] at h2
   simp [this]
  | true =>
   obtain ⟨r, h3, h4⟩ := sl_l h hl k (i + 1) (by omega)
   refine ⟨r, h3, ?_⟩
   rw [h4, List.cons.injEq]
   simp [h2.1 rfl]
theorem se_l {a b : List (Str × Term)} (h : ∀ x, x ∈ a → ∀ y, y ∈ b → zjg x.2 y.2) (hl : a.length = b.length) : ∀ k i, k + i = a.length → ∃ r, zej zfv a b i = some r ∧ (r = true ↔ (a.map buE).drop i = (b.map buE).drop i)
 | 0, i, hk => by
  rw [zhq]
  simp only [z56, z9m (by omega : ¬ i < a.length), cond_false]
  exact ⟨true, rfl, by rw [List.drop_of_length_le (by simp; omega), List.drop_of_length_le (by simp; omega)]; simp⟩
 | k + 1, i, hk => by
  obtain ⟨x, hx, _⟩ := dropc (by omega : i < a.length)
  obtain ⟨y, hy, _⟩ := dropc (by omega : i < b.length)
  obtain ⟨r, h1, h2⟩ := h x (List.mem_of_getElem? hx) y (List.mem_of_getElem? hy)
  rw [zhq]
  simp only [z56, z8v (by omega : i < a.length), cond_true, hx, hy, Option.bind_some, h1]
  rw [z9t hx, z9t hy]
  obtain ⟨s, x⟩ := x
  obtain ⟨q, y⟩ := y
  dsimp only at h1 h2
  have hE : buE (s, x) = buE (q, y) ↔ s = q ∧ bu x = bu y := by simp [buE]
  by_cases hs : s = q
  ·subst hs
   simp only [beq_self_eq_true, Bool.not_true, cond_false]
   cases r with
   | false =>
    refine ⟨false, rfl, ?_⟩
    have : ¬ bu x = bu y := fun h => by simp [h] at h2
    simp [hE, this]
   | true =>
    obtain ⟨r, h3, h4⟩ := se_l h hl k (i + 1) (by omega)
    refine ⟨r, h3, ?_⟩
    rw [h4, List.cons.injEq, hE]
    simp [h2.1 rfl]
  ·rw [show (!(s == q)) = true by simp [hs], cond_true]
   refine ⟨false, rfl, ?_⟩
   simp [hE, hs]
theorem zt8 (s : Term) : ∀ t, Fine (bu s) → zjg s t := by
  induction s using Term.byParts with
  | _ s ih =>
  intro t hx
  have hp := hx.own.2
  have hn := hx.own.1
  rw [← zcr] at hp
  have hk := zme hn
  unfold zjg
  by_cases he : s.kind = t.kind
  · have hs : ∀ u, u ∈ z3u s → ∀ t, zjg u t := fun u hu t => ih u hu t (hp _ (List.mem_map_of_mem hu))
    rw [Z26, zjd, show (s.kind != t.kind) = false by simp [he], cond_false]
    have hL : s.kind = 8 → ∃ r, zq5 s.list t.list = some r ∧ (r = true ↔ s.list.map bu = t.list.map bu) := fun h8 => by
      rw [Z4x, zkd]
      by_cases hl : s.list.length = t.list.length
      · rw [show (((s.list.length : Nat) : Int) != ((t.list.length : Nat) : Int)) = false by simp [hl], cond_false]
        exact sl_l (fun x hx y _ => hs x (by unfold z3u; rw [if_pos h8]; exact hx) y) hl s.list.length 0 (by omega)
      · rw [show (((s.list.length : Nat) : Int) != ((t.list.length : Nat) : Int)) = true by simp; omega, cond_true]
        refine ⟨false, rfl, ?_⟩
        have : ¬ s.list.map bu = t.list.map bu := fun h => hl (by have := congrArg List.length h; simpa using this)
        simp [this]
    have hE : s.kind = 9 ∨ s.kind = 10 → ∃ r, zqk s.fields t.fields = some r ∧ (r = true ↔ s.fields.map buE = t.fields.map buE) := fun h9 => by
      rw [Z4z, zkf]
      by_cases hl : s.fields.length = t.fields.length
      · rw [show (((s.fields.length : Nat) : Int) != ((t.fields.length : Nat) : Int)) = false by simp [hl], cond_false]
        exact se_l (fun x hx y _ => hs _ (by unfold z3u; rw [if_neg (by omega), if_pos h9]; exact List.mem_map_of_mem hx) _) hl s.fields.length 0 (by omega)
      · rw [show (((s.fields.length : Nat) : Int) != ((t.fields.length : Nat) : Int)) = true by simp; omega, cond_true]
        refine ⟨false, rfl, ?_⟩
        have : ¬ s.fields.map buE = t.fields.map buE := fun h => hl (by have := congrArg List.length h; simpa using this)
        simp [this]
    have hb := zo2 s
    have hc := zo2 t
    generalize bu s = x at hb hn
    generalize bu t = y at hc
    cases hb with
    | nothing h => simp [z2w] at hn
    | alien h => simp [z2w] at hn
    | nil h => cases hc <;> first | (exfalso; omega) | skip
               simp only [z47, h]; exact ⟨_, rfl, by simp⟩
    | bool h => cases hc <;> first | (exfalso; omega) | skip
                simp only [z47, h]; exact ⟨_, rfl, by simp⟩
    | int h => cases hc <;> first | (exfalso; omega) | skip
               simp only [z47, h]; exact ⟨_, rfl, by simp⟩
    | float h => cases hc <;> first | (exfalso; omega) | skip
                 simp only [z47, h]; exact ⟨_, rfl, by simp; omega⟩
    | text h => cases hc <;> first | (exfalso; omega) | skip
                simp only [z47, h]; exact ⟨_, rfl, by simp⟩
    | bytes h => cases hc <;> first | (exfalso; omega) | skip
                 simp only [z47, h]; exact ⟨_, rfl, by simp⟩
    | ref h => cases hc <;> first | (exfalso; omega) | skip
               simp only [z47, h]; exact ⟨_, rfl, by simp⟩
    | list h =>
      cases hc <;> first | (exfalso; omega) | skip
      obtain ⟨r, h1, h2⟩ := hL h
      simp only [z47, h, h1, Option.bind_some]; exact ⟨r, rfl, by rw [h2, V.list.injEq]⟩
    | dict h =>
      cases hc <;> first | (exfalso; omega) | skip
      obtain ⟨r, h1, h2⟩ := hE (.inl h)
      simp only [z47, h, h1, Option.bind_some]; exact ⟨r, rfl, by rw [h2, V.dict.injEq]⟩
    | record h =>
      cases hc <;> first | (exfalso; omega) | skip
      obtain ⟨r, h1, h2⟩ := hE (.inr h)
      simp only [z47, h, h1, Option.bind_some]
      by_cases h3 : s.cls = t.cls
      · by_cases h4 : s.ver = t.ver
        · exact ⟨r, by rw [show (s.cls == t.cls) = true by simp [h3], show (s.ver == t.ver) = true by simp [h4]]; rfl, by rw [h2, V.record.injEq]; simp [h3, h4]⟩
        · exact ⟨false, by rw [show (s.cls == t.cls) = true by simp [h3], show (s.ver == t.ver) = false by simp [h4]]; rfl, by rw [V.record.injEq]; simp [h4]⟩
      · exact ⟨false, by rw [show (s.cls == t.cls) = false by simp [h3]]; rfl, by rw [V.record.injEq]; simp [h3]⟩
  · refine ⟨false, by rw [Z26, zjd, show (s.kind != t.kind) = true by simp [he]]; rfl, ?_⟩
    have : ¬ bu s = bu t := fun h => by
      have h2 := zme (t := t) (by rw [← h]; exact hn)
      rw [← h] at h2; omega
    simp [this]
theorem zls {t : Term} {x : V} (h : bu t = x) (hc : Can x) : znc x t = some true := by
 have hf := z9w hc
 have h0 := Z0j x 0 0 1 (can_ok.2 hc) (by omega)
 have e : (1 : Int) - 1 = 0 := rfl
 rw [e] at h0
 have hb := zyz x hf
 obtain ⟨r, h1, h2⟩ := zt8 (cl x) t (by rw [hb]; exact hf)
 simp only [znc, ztn, h0, Option.bind_some, h1, h2.2 (by rw [hb, h])]
end Go.Proofs.Ythidgpcbnieleaa

namespace Go.Proofs.Ythidgpcbnieleaa
open Go Aw
set_option linter.unusedVariables false
set_option linter.unusedSimpArgs false
set_option maxRecDepth 8000
noncomputable def cbE (p : Str × Term) : Str × Term := (p.1, cl (bu p.2))
theorem Z5q (t : Term) (hl : ∀ u, u ∈ t.list → zbk u = some (cl (bu u))) (hb : t.list.length ≤ 1073741824) : ∀ k i, k + i = t.list.length → zek zbk t i ((t.list.take i).map (fun u => cl (bu u))) = some (.mk t.kind false 0 0 [] [] 0 (t.list.map (fun u => cl (bu u))) [] [] 0)
 | 0, i, h => by
  rw [zhs]
  simp only [z57, z9m (by omega : ¬ i < t.list.length), cond_false, z3t]
  rw [List.take_of_length_le (by omega)]
 | k + 1, i, h => by
  obtain ⟨x, hx, _⟩ := dropc (by omega : i < t.list.length)
  rw [zhs]
  simp only [z57, z8v (by omega : i < t.list.length), cond_true, hx, Option.bind_some, hl x (List.mem_of_getElem? hx), zoa (b := 152) (by omega) (show ((t.list.take i).map (fun u => cl (bu u))).length ≤ 1073741824 by simp; omega)]
  rw [show (t.list.take i).map (fun u => cl (bu u)) ++ [cl (bu x)] = (t.list.take (i + 1)).map (fun u => cl (bu u)) from z5g (f := fun u => cl (bu u)) hx]
  exact Z5q t hl hb k (i + 1) (by omega)
theorem Z5s (l : List (Str × Term)) (hl : ∀ u, u ∈ l → zbk u.2 = some (cl (bu u.2))) (hb : l.length ≤ 1073741824) : ∀ k i, k + i = l.length → zeo zbk l ((l.take i).map cbE) i = some (l.map cbE)
 | 0, i, h => by
  rw [zi0]
  simp only [z59, z9m (by omega : ¬ i < l.length), cond_false]
  rw [List.take_of_length_le (by omega)]
 | k + 1, i, h => by
  obtain ⟨x, hx, _⟩ := dropc (by omega : i < l.length)
  rw [zi0]
  simp only [z59, z8v (by omega : i < l.length), cond_true, hx, Option.bind_some, hl x (List.mem_of_getElem? hx), zoa (b := 168) (x := (x.1, cl (bu x.2))) (by omega) (show ((l.take i).map cbE).length ≤ 1073741824 by simp; omega)]
  rw [show (l.take i).map cbE ++ [(x.1, cl (bu x.2))] = (l.take (i + 1)).map cbE from z5g (f := cbE) hx]
  exact Z5s l hl hb k (i + 1) (by omega)
theorem zm7 (t : Term) : Fine (bu t) → zbk t = some (cl (bu t)) := by
 induction t using Term.byParts with
 | _ t ih =>
 intro hx
 have hp := hx.own.2
 have hn := hx.own.1
 rw [← zcr] at hp
 have hm : ∀ u, u ∈ z3u t → zbk u = some (cl (bu u)) := fun u hu => ih u hu (hp _ (List.mem_map_of_mem hu))
 have hb := zo2 t
 rw [Z50, zkg]
 have hE : (t.kind = 9 ∨ t.kind = 10) → t.fields.length ≤ 1073741824 → ztp t.fields = some (t.fields.map cbE) := fun hk hl => by
  rw [Z52, zki]
  exact Z5s t.fields (fun u hu => hm _ (by unfold z3u; rw [if_neg (by omega), if_pos hk]; exact List.mem_map_of_mem hu)) hl t.fields.length 0 (by omega)
 have hD : (t.fields.map buE).map clE = t.fields.map cbE := by rw [List.map_map]; rfl
 generalize bu t = y at hb hn
 cases hb with
 | nothing hk => simp [z2w] at hn
 | alien hk => simp [z2w] at hn
 | bytes hk =>
  have hl := z7s hn
  simp only [hk, zsr (b := 1) (by omega) (show t.bytes.length ≤ 1073741824 by omega), Option.bind_some, z3t]
  rw [cl]; rfl
 | list hk =>
  have hl := z9k hn
  rw [List.length_map] at hl
  have := Z5q t (fun u hu => hm u (by unfold z3u; rw [if_pos hk]; exact hu)) (by omega) t.list.length 0 (by omega)
  rw [List.take_zero, List.map_nil] at this
  simp only [hk] at this ⊢
  rw [cl, zgf, List.map_map]
  exact this
 | dict hk =>
  have hl := zd9 hn
  rw [List.length_map] at hl
  simp only [hk, hE (.inl hk) (by omega), Option.bind_some, z3t]
  rw [cl, z8r, hD]; rfl
 | record hk =>
  have hl := (zg1 hn).2
  rw [List.length_map] at hl
  simp only [hk, hE (.inr hk) (by omega), Option.bind_some, z3t]
  rw [cl, z8r, hD]; rfl
 | _ hk => simp only [hk, z3t]; rw [cl]; rfl
end Go.Proofs.Ythidgpcbnieleaa

namespace Go.Proofs.Ythidgpcbnieleaa
open Go Aw
set_option linter.unusedVariables false
set_option linter.unusedSimpArgs false
set_option maxRecDepth 8000
theorem Z0h {n b : Nat} (hb : b ≤ 1024) (hn : n ≤ 1073741824) : zjo n b = some () := by
 have h1 : n * b ≤ 1073741824 * 1024 := Nat.mul_le_mul hn hb
 unfold zjo
 rw [Nat.ble_eq_true_of_le (by omega), Nat.ble_eq_true_of_le (by omega)]; rfl
theorem zol {α : Type} {l : List α} {i : Nat} {x : α} (h : l[i]? = some x) : l.take i ++ [x] = l.take (i + 1) := by
 rw [List.take_add_one, h]; rfl
theorem Z64 (l : List V) (hl : ∀ u, u ∈ l → zcy u = some u) (hb : l.length ≤ 1073741824) : ∀ k i, k + i = l.length → zen zcy (.list l) (l.take i) i = some (.list l)
 | 0, i, h => by
  rw [zhz]
  simp only [z58, V.asList, z9m (by omega : ¬ i < l.length), cond_false]
  rw [List.take_of_length_le (by omega)]
 | k + 1, i, h => by
  obtain ⟨x, hx, _⟩ := dropc (by omega : i < l.length)
  rw [zhz]
  simp only [z58, V.asList, z8v (by omega : i < l.length), cond_true, hx, Option.bind_some, hl x (List.mem_of_getElem? hx), zoa (b := 16) (by omega) (show (l.take i).length ≤ 1073741824 by simp; omega), zol hx]
  exact Z64 l hl hb k (i + 1) (by omega)
theorem Z65 (l : List (Str × V)) (hl : ∀ u, u ∈ l → zcy u.2 = some u.2) (hb : l.length ≤ 1073741824) : ∀ k i, k + i = l.length → zes zcy l (l.take i) i = some l
 | 0, i, h => by
  rw [zi4]
  simp only [z5d, z9m (by omega : ¬ i < l.length), cond_false]
  rw [List.take_of_length_le (by omega)]
 | k + 1, i, h => by
  obtain ⟨x, hx, _⟩ := dropc (by omega : i < l.length)
  rw [zi4]
  simp only [z5d, z8v (by omega : i < l.length), cond_true, hx, Option.bind_some, hl x (List.mem_of_getElem? hx), zoa (b := 32) (x := (x.1, x.2)) (by omega) (show (l.take i).length ≤ 1073741824 by simp; omega)]
  rw [show l.take i ++ [(x.1, x.2)] = l.take (i + 1) from zol hx]
  exact Z65 l hl hb k (i + 1) (by omega)
theorem zse (x : V) : Fine x → zcy x = some x := by
 induction x using V.byParts with
 | _ x ih =>
 intro hx
 have hn := hx.own.1
 have hp : ∀ u, u ∈ x.parts → zcy u = some u := fun u hu => ih u hu (hx.own.2 u hu)
 have hD : ∀ l : List (Str × V), l.length ≤ 4096 → (∀ u, u ∈ l → u.2 ∈ x.parts) → ztr l = some l := fun l hl h => by
  rw [Z56, zkm, Z0h (by omega) (by omega), Option.bind_some]
  exact Z65 l (fun u hu => hp _ (h u hu)) (by omega) l.length 0 (by omega)
 rw [Z51, zkh]
 cases x with
 | bytes b =>
  have hb := z7s hn
  simp only [V.isBytes, V.asBytes, cond_true, zsr (by omega : 1 ≤ 1024) (show b.length ≤ 1073741824 by omega), Option.bind_some]
 | list l =>
  have hb := z9k hn
  simp only [V.isBytes, V.isList, V.asList, cond_true, cond_false, Z0h (by omega : 16 ≤ 1024) (show l.length ≤ 1073741824 by omega), Option.bind_some]
  exact Z64 l hp (by omega) l.length 0 (by omega)
 | dict l =>
  have hb := zd9 hn
  simp only [V.isBytes, V.isList, V.isDict, V.asDict, cond_true, cond_false, hD l hb (fun u hu => List.mem_map_of_mem hu), Option.bind_some]
 | record c v l =>
  have hb := (zg1 hn).2
  simp only [V.isBytes, V.isList, V.isDict, V.isRec, V.asRec, cond_true, cond_false, Option.bind_some, hD l hb (fun u hu => List.mem_map_of_mem hu)]
 | nothing => simp [z2w] at hn
 | _ => rfl
theorem zge {x : V} (h : Can x) : zcw x = some (x, 0) := by
 simp only [zcw, zpk, zja h, Option.bind_some]
 rw [show ((0 : Int) != 0) = false from rfl, cond_false, zse x (z9w h)]; rfl
theorem zuo {x : V} (h : ¬ Can x) : zcw x = some (.nil, (z1j x).2) := by
 simp only [zcw, zpk, Option.bind_some]
 rw [ze0 (zbg h), cond_true]
end Go.Proofs.Ythidgpcbnieleaa

namespace Go.Proofs.Ythidgpcbnieleaa
open Go Aw
set_option linter.unusedVariables false
set_option linter.unusedSimpArgs false
set_option maxRecDepth 8000
abbrev Stp := S_api_Step
def stN (n : Str) : Stp := S_api_Step.mk n false 0
def stA (i : Nat) : Stp := S_api_Step.mk [] true ((i : Nat) : Int)
theorem zkp : ∀ {l : List V} {y : V}, y ∈ l → cnt y ≤ cntL l ∧ dpt y ≤ dptL l
 | x :: r, y, h => by
  have hp : 0 ≤ cntL r ∧ 0 ≤ dptL r := by
   clear h
   induction r with
   | nil => simp [cntL, dptL]
   | cons z q ih => have := zdq z; simp only [cntL, dptL]; omega
  have hx := zdq x
  simp only [cntL, dptL]
  rcases List.mem_cons.1 h with rfl | h
  ·omega
  ·have := zkp h; omega
theorem z8y {x y : V} (h : Can x) (hy : y ∈ x.parts) : Can y := by
 have h1 := zkp hy
 have h2 := zm5 x
 have h3 := zj6 x
 obtain ⟨a, b, c⟩ := h
 exact ⟨a.part y hy, by omega, by omega⟩
theorem zth {c : Int} : th c 0 = c := by
 unfold th; by_cases h : c = 0
 ·rw [if_pos h, h]
 ·rw [if_neg h]
theorem zfc (a b : Str) : cmpS a b = z8w (zf1 a) (zf1 b) := by
 have h := zw2 a b [] []
 rw [List.append_nil, List.append_nil] at h
 rw [h, show z8w [] [] = 0 from rfl, zth]
def zlt (a b : Str) : Prop := cmpS a b = -1
theorem zbw {a b c : Str} (h : zlt a b) (k : zlt b c) : zlt a c := by
 unfold zlt at *
 rw [zfc] at *
 have := zf0 (zf1 a) (zf1 b) (zf1 c) (by omega) (by omega)
 have h2 := this.2 (.inl (by omega))
 have := zlo (zf1 a) (zf1 c)
 omega
theorem zuq (s : Str) : cmpS s s = 0 := by
 rw [zfc]; have := zg4 (zf1 s) (zf1 s); omega
theorem zoc (a : Str) : ¬ zlt a a := by unfold zlt; rw [zuq]; omega
theorem Z6f {a b : Str} (h : leB b a = false) : zlt a b := by
 simp only [leB, Bool.or_eq_false_iff] at h
 have h1 : cmpS b a = 1 := by unfold cmpS; rw [if_neg (by simp [h.1]), if_neg (by simp [h.2])]
 unfold zlt
 rw [zfc] at h1 ⊢
 have := zg4 (zf1 b) (zf1 a)
 omega
theorem Z5h : ∀ {l : List Str} {p : Option Str}, zbj p l = true → l.Pairwise zlt ∧ ∀ q, p = some q → ∀ s, s ∈ l → zlt q s
 | [], _, _ => ⟨.nil, fun _ _ s hs => by cases hs⟩
 | s :: r, p, h => by
  simp only [zbj, Bool.and_eq_true] at h
  have ih := Z5h h.2
  refine ⟨.cons (fun x hx => ih.2 s rfl x hx) ih.1, fun q hq x hx => ?_⟩
  subst hq
  have h1 : zlt q s := Z6f (by simpa using h.1.2)
  rcases List.mem_cons.1 hx with rfl | hx
  ·exact h1
  ·exact zbw h1 (ih.2 s rfl x hx)
theorem z4f {l : List Str} (h : z3m l = 0) : l.Pairwise zlt := by
 unfold z3m at h
 split at h
 ·cases h
 ·split at h
  ·rename_i h2; exact (Z5h h2).1
  ·cases h
end Go.Proofs.Ythidgpcbnieleaa

namespace Go.Proofs.Ythidgpcbnieleaa
open Go Aw
set_option linter.unusedVariables false
set_option linter.unusedSimpArgs false
set_option maxRecDepth 8000
theorem zrm (s : Str) (c : UInt8) : decide (ixB s c ≥ 0) = s.contains c := by
 unfold ixB
 cases h : (List.range s.length).find? fun i => s.toArray[i]! == c with
 | some i =>
  have h1 := List.find?_some h
  have h2 := List.mem_of_find?_eq_some h
  rw [List.mem_range] at h2
  have h3 : s.toArray[i]! = s[i] := by rw [getElem!_pos _ _ (by simpa using h2)]; rfl
  rw [h3] at h1
  have h4 : s[i] = c := by simpa using h1
  rw [decide_eq_true (by simp : ((i : Nat) : Int) ≥ 0)]
  exact (List.contains_iff_mem.2 (by rw [← h4]; exact List.getElem_mem h2)).symm
 | none =>
  rw [List.find?_eq_none] at h
  cases hc : s.contains c with
  | false => rfl
  | true =>
   have hm := List.contains_iff_mem.1 hc
   obtain ⟨i, hi, e⟩ := List.mem_iff_getElem.1 hm
   have h3 : s.toArray[i]! = s[i] := by rw [getElem!_pos _ _ (by simpa using hi)]; rfl
   exact absurd (by rw [h3, e]; simp : (s.toArray[i]! == c) = true) (h i (List.mem_range.2 hi))
theorem zlv (s : Str) (c : UInt8) : zqq s c = some (ixB s c) := rfl
def zow (p : UInt8 → Bool) (s : Str) (n : Nat) : Nat := ((s.drop n).takeWhile p).length
theorem zvp (s of : Str) (a : Int) (hl : s.length ≤ 4611686018427387904) : ∀ k n, n + k = s.length → zhi s a of (n : Int) = z83 s a ((n + zow of.contains s n : Nat) : Int)
 | 0, n, h => by
  rw [zhh]
  simp only [z65, z9m (by omega : ¬ n < s.length), cond_false, z99]
  have e : zow of.contains s n = 0 := by unfold zow; rw [List.drop_of_length_le (by omega)]; rfl
  rw [e, Nat.add_zero]
  cases z83 s a (n : Int) <;> rfl
 | k + 1, n, h => by
  obtain ⟨c, hc, hd⟩ := dropc (by omega : n < s.length)
  rw [zhh]
  simp only [z65, z8v (by omega : n < s.length), cond_true, z31, hc, Option.bind_some, zlv, zrm, z99]
  have e : zow of.contains s n = if of.contains c then 1 + zow of.contains s (n + 1) else 0 := by
   unfold zow
   rw [hd, List.takeWhile_cons]
   cases of.contains c with
   | true => rw [if_pos rfl, if_pos rfl, List.length_cons]; omega
   | false => rfl
  cases hm : of.contains c with
  | true =>
   rw [hm, if_pos rfl] at e
   rw [cond_true, z46 (by omega) (by omega), show ((n : Int) + 1) = ((n + 1 : Nat) : Int) from by omega, zvp s of a hl k (n + 1) (by omega), e]
   congr 2; omega
  | false =>
   rw [hm] at e
   rw [cond_false, e]
   show _ = z83 s a ((n + 0 : Nat) : Int)
   rw [Nat.add_zero]
   cases z83 s a (n : Int) <;> rfl
theorem z5e {α : Type} {s : List α} {a b : Nat} (h1 : a ≤ b) (h2 : b ≤ s.length) : z83 s (a : Int) (b : Int) = some ((s.take b).drop a) := by
 unfold z83
 rw [decide_eq_true (by omega : (0 : Int) ≤ (a : Int)), decide_eq_true (by omega : (a : Int) ≤ (b : Int)), decide_eq_true (by omega : (b : Int) ≤ (s.length : Int))]; rfl
theorem Z0g (p : UInt8 → Bool) (s : Str) (n : Nat) (h : n ≤ s.length) : n + zow p s n ≤ s.length := by
 unfold zow
 have : ((s.drop n).takeWhile p).length ≤ (s.drop n).length := (List.takeWhile_prefix p).length_le
 rw [List.length_drop] at this; omega
theorem zwx {s of : Str} {n : Nat} (hl : s.length ≤ 4611686018427387904) (h : n ≤ s.length) : zqd s (n : Int) of = some ((s.drop n).takeWhile of.contains) := by
 have := Z0g of.contains s n h
 unfold zqd
 rw [zvp s of _ hl (s.length - n) n (by omega), z5e (by omega) (by omega)]
 congr 1
 rw [List.drop_take, show n + zow of.contains s n - n = zow of.contains s n from by omega]
 unfold zow
 exact (List.prefix_iff_eq_take.1 (List.takeWhile_prefix _)).symm
abbrev lowS : Str := [97, 98, 99, 100, 101, 102, 103, 104, 105, 106, 107, 108, 109, 110, 111, 112, 113, 114, 115, 116, 117, 118, 119, 120, 121, 122]
abbrev nmS : Str := [97, 98, 99, 100, 101, 102, 103, 104, 105, 106, 107, 108, 109, 110, 111, 112, 113, 114, 115, 116, 117, 118, 119, 120, 121, 122, 48, 49, 50, 51, 52, 53, 54, 55, 56, 57, 95]
theorem Z6c {p : UInt8 → Bool} (h : (List.range 256).all (fun n => p (UInt8.ofNat n)) = true) (c : UInt8) : p c = true := by
 have := List.all_eq_true.1 h c.toNat (List.mem_range.2 c.toNat_lt)
 rwa [UInt8.ofNat_toNat] at this
theorem zxw (c : UInt8) : lowS.contains c = zsu c := by
 have := Z6c (p := fun c => lowS.contains c == zsu c) (by decide +kernel) c
 simpa using this
theorem Z0v (c : UInt8) : nmS.contains c = znz c := by
 have := Z6c (p := fun c => nmS.contains c == znz c) (by decide +kernel) c
 simpa using this
theorem zkx {p : UInt8 → Bool} : ∀ s : Str, (s.takeWhile p == s) = s.all p
 | [] => rfl
 | c :: r => by
  rw [List.takeWhile_cons, List.all_cons]
  cases p c with
  | true => rw [if_pos rfl, ← zkx r]; simp
  | false => rfl
theorem zro (s : Str) : zql s = some (z2z s) := by
 unfold zql
 cases s with
 | nil => rfl
 | cons c r =>
  have he : ((c :: r) == ([] : Str)) = false := rfl
  have h0 : (c :: r)[0]? = some c := rfl
  rw [he]
  simp only [Bool.not_false, cond_true, h0, Option.bind_some, zlv, zrm, zxw]
  by_cases h32 : (c :: r).length ≤ 32
  ·rw [decide_eq_true (by omega : (((c :: r).length : Nat) : Int) ≤ 32), cond_true]
   have hs := zwx (s := c :: r) (of := nmS) (n := 0) (by omega) (by omega)
   rw [show ((0 : Nat) : Int) = 0 from rfl, List.drop_zero] at hs
   have hf : (nmS.contains : UInt8 → Bool) = znz := funext Z0v
   rw [hf] at hs
   unfold z2z
   rw [Nat.ble_eq_true_of_le h32, Nat.ble_eq_true_of_le (by simp : 1 ≤ (c :: r).length), List.headD_cons]
   cases zsu c with
   | true => rw [cond_true, hs, Option.bind_some, zkx]; rfl
   | false => rfl
  ·rw [decide_eq_false (by omega : ¬ (((c :: r).length : Nat) : Int) ≤ 32), cond_false]
   have e2 : Nat.ble (c :: r).length 32 = false := by
    cases hb : Nat.ble (c :: r).length 32 with
    | false => rfl
    | true => exact absurd (Nat.le_of_ble_eq_true hb) h32
   unfold z2z
   rw [e2, Bool.and_false, Bool.false_and, Bool.false_and]
def z5f (s : Stp) : Int :=
 if s.f_At = false ∧ z2z s.f_Name = false then 8 else if s.f_At = false ∧ s.f_Index ≠ 0 then 1 else if s.f_At = true ∧ s.f_Name ≠ [] then 8 else if s.f_At = true ∧ (s.f_Index < 0 ∨ 4096 ≤ s.f_Index) then 1 else 0
theorem Z2d (s : Stp) : zq3 s = some (z5f s) := by
 unfold zq3 z5f
 cases ha : s.f_At with
 | false =>
  simp only [Bool.not_false, cond_true, zro, Option.bind_some, zcg, zcf, zce, zb0, ha, cond_false]
  cases z2z s.f_Name with
  | false => rfl
  | true =>
   simp only [Bool.not_true, cond_false]
   by_cases hi : s.f_Index = 0
   ·rw [hi]; rfl
   ·rw [show (s.f_Index != 0) = true from by simpa using hi, cond_true]; simp [hi]
 | true =>
  simp only [Bool.not_true, cond_false, zcg, zcf, zce, zb0, ha, cond_true]
  by_cases hn : s.f_Name = []
  ·rw [hn]
   simp only [beq_self_eq_true, Bool.not_true, cond_false]
   by_cases h1 : s.f_Index < 0
   ·rw [decide_eq_true h1]; simp [h1]
   ·rw [decide_eq_false h1, cond_false]
    by_cases h2 : s.f_Index ≥ 4096
    ·rw [decide_eq_true h2]; have h3 : 4096 ≤ s.f_Index := h2; simp [h3]
    ·rw [decide_eq_false h2]; have h3 : ¬ 4096 ≤ s.f_Index := h2; simp [h1, h3]
  ·rw [show (s.f_Name == ([] : Str)) = false from by simpa using hn]; simp [hn]
def z85 : List Stp → Int
 | [] => 0
 | s :: r => if z5f s ≠ 0 then z5f s else z85 r
def z2f (w : List Stp) : Int := if 64 < w.length then 2 else z85 w
theorem zoi (w : List Stp) : ∀ k i, k + i = w.length → zhk w i = some (z85 (w.drop i))
 | 0, i, h => by
  rw [zhj]
  simp only [z66, z9m (by omega : ¬ i < w.length), cond_false]
  rw [List.drop_of_length_le (by omega)]; rfl
 | k + 1, i, h => by
  obtain ⟨s, hs, hd⟩ := dropc (by omega : i < w.length)
  rw [zhj]
  simp only [z66, z8v (by omega : i < w.length), cond_true, hs, Option.bind_some, Z2d, zoi w k (i + 1) (by omega)]
  rw [hd, z85]
  by_cases he : z5f s = 0
  ·rw [he]; rfl
  ·rw [show (z5f s != 0) = true from by simpa using he, cond_true, if_pos he]
theorem zt2 (w : List Stp) : zqg w = some (z2f w) := by
 unfold zqg z2f
 by_cases h : 64 < w.length
 ·rw [decide_eq_true (by omega : ((w.length : Nat) : Int) > 64), if_pos h]; rfl
 ·rw [decide_eq_false (by omega : ¬ ((w.length : Nat) : Int) > 64), if_neg h, cond_false]
  have := zoi w w.length 0 (by omega)
  rw [List.drop_zero] at this; exact this
theorem steps_zero {w : List Stp} : z85 w = 0 ↔ ∀ s, s ∈ w → z5f s = 0 := by
 induction w with
 | nil => simp [z85]
 | cons s r ih =>
  rw [z85]
  by_cases h : z5f s = 0
  ·rw [if_neg (by simp [h]), ih]; simp [h]
  ·rw [if_pos h]; simp [h]
theorem zgg {s : Stp} (h : z5f s = 0) (ha : s.f_At = true) : s = stA s.f_Index.toNat ∧ 0 ≤ s.f_Index ∧ s.f_Index < 4096 := by
 unfold z5f at h
 rw [if_neg (by simp [ha]), if_neg (by simp [ha])] at h
 split at h
 ·cases h
 ·split at h
  ·cases h
  ·rename_i h1 h2
   obtain ⟨n, a, i⟩ := s
   simp only at ha h1 h2
   subst ha
   have hn : n = [] := Classical.byContradiction fun hn => h1 ⟨rfl, hn⟩
   subst hn
   have h3 : 0 ≤ i ∧ i < 4096 := by constructor <;> (apply Classical.byContradiction; intro h4; apply h2; refine ⟨rfl, ?_⟩; omega)
   refine ⟨?_, h3⟩
   simp only [stA]; congr 1; omega
theorem Z2c {s : Stp} (h : z5f s = 0) (ha : s.f_At = false) : s = stN s.f_Name ∧ z2z s.f_Name = true := by
 unfold z5f at h
 split at h
 ·cases h
 ·split at h
  ·cases h
  ·rename_i h1 h2
   obtain ⟨n, a, i⟩ := s
   simp only at ha h1 h2
   subst ha
   have h3 : z2z n = true := by cases hn : z2z n with
    | true => rfl
    | false => exact absurd ⟨rfl, hn⟩ h1
   have h4 : i = 0 := Classical.byContradiction fun hn => h2 ⟨rfl, hn⟩
   subst h4
   exact ⟨rfl, h3⟩
end Go.Proofs.Ythidgpcbnieleaa

namespace Go.Proofs.Ythidgpcbnieleaa
open Go Aw
set_option linter.unusedVariables false
set_option linter.unusedSimpArgs false
set_option maxRecDepth 8000
abbrev Fds := List (Str × V)
def fget (d : Fds) (n : Str) : Option V := (d.find? (fun f => f.1 == n)).map (·.2)
theorem zdk {f : Str × V} {r : Fds} {n : Str} : fget (f :: r) n = if f.1 = n then some f.2 else fget r n := by
 unfold fget
 rw [List.find?_cons]
 by_cases h : f.1 = n
 ·rw [show (f.1 == n) = true from by simpa using h, if_pos h]; rfl
 ·rw [show (f.1 == n) = false from by simpa using h, if_neg h]
theorem zug {d : Fds} {n : Str} {v : V} (h : fget d n = some v) : (n, v) ∈ d := by
 induction d with
 | nil => cases h
 | cons f r ih =>
  rw [zdk] at h
  by_cases he : f.1 = n
  ·rw [if_pos he] at h; injection h with h; subst h; subst he; simp
  ·rw [if_neg he] at h; simp [ih h]
theorem zs0 {d : Fds} {n : Str} : fget d n = none ↔ n ∉ d.map (·.1) := by
 induction d with
 | nil => simp [fget]
 | cons f r ih =>
  rw [zdk]
  by_cases he : f.1 = n
  ·rw [if_pos he]; simp [he]
  ·rw [if_neg he, ih, List.map_cons, List.mem_cons, not_or]
   exact ⟨fun h => ⟨fun e => he e.symm, h⟩, fun h => h.2⟩
theorem bl_lt {a b : Str} : Op.bytesLess a b = true ↔ zlt a b := by
 unfold zlt cmpS
 cases Op.bytesLess a b with
 | true => simp
 | false => rw [if_neg (by simp)]; split <;> simp
structure Cut (d : Fds) (n : Str) (c : Nat) : Prop where
 le : c ≤ d.length
 lo : ∀ k x, d[k]? = some x → k < c → Op.bytesLess x.1 n = true
 hi : ∀ k x, d[k]? = some x → c ≤ k → Op.bytesLess x.1 n = false
theorem Z1g (x : Str × V) (n : Str) : zni x n = some (if Op.bytesLess x.1 n = true then -1 else if x.1 = n then 0 else 1) := by
 unfold zni
 cases h : Op.bytesLess x.1 n with
 | true => rfl
 | false =>
  rw [cond_false, Bool.false_or]
  by_cases he : x.1 = n
  ·rw [show (x.1 == n) = true from by simpa using he, if_neg (by simp), if_pos he]; rfl
  ·rw [show (x.1 == n) = false from by simpa using he, if_neg (by simp), if_neg he]; rfl
theorem Z6m {i j : Nat} (h : i + j ≤ 1073741824) : IntKind.i64.wrap (zt7 .u64 (IntKind.u64.wrap (IntKind.i64.wrap ((i : Int) + (j : Int)))) 1) = (((i + j) / 2 : Nat) : Int) := by
 have e1 : IntKind.i64.wrap ((i : Int) + (j : Int)) = ((i + j : Nat) : Int) := by rw [z46 (by omega) (by omega)]; omega
 have e2 : IntKind.u64.wrap ((i + j : Nat) : Int) = ((i + j : Nat) : Int) := by
  have h : IntKind.u64.wrap ((i + j : Nat) : Int) = ((i + j : Nat) : Int) % 18446744073709551616 := rfl
  rw [h]; omega
 have e3 : zt7 .u64 ((i + j : Nat) : Int) 1 = ((i + j : Nat) : Int).fdiv 2 := rfl
 rw [e1, e2, e3, Int.fdiv_eq_ediv_of_nonneg _ (by omega), z46 (by omega) (by omega)]
 omega
theorem bs_l (d : Fds) (n : Str) (hs : (d.map (·.1)).Pairwise zlt) (hd : d.length ≤ 268435456) : ∀ m i j, j - i ≤ m → i ≤ j → j ≤ d.length →
 (∀ k x, d[k]? = some x → k < i → Op.bytesLess x.1 n = true) → (∀ k x, d[k]? = some x → j ≤ k → Op.bytesLess x.1 n = false) →
 ∃ c, Cut d n c ∧ zi8 d n (i : Int) (j : Int) = some ((c : Int), decide ((d[c]?).map (·.1) = some n)) := by
 have sorted : ∀ (a b : Nat) (x y : Str × V), a < b → d[a]? = some x → d[b]? = some y → zlt x.1 y.1 := by
  intro a b x y hab hx hy
  have := List.pairwise_iff_getElem.1 hs a b (by simp [(List.getElem?_eq_some_iff.1 hx).1]) (by simp [(List.getElem?_eq_some_iff.1 hy).1]) hab
  simp only [List.getElem_map] at this
  rwa [(List.getElem?_eq_some_iff.1 hx).2, (List.getElem?_eq_some_iff.1 hy).2] at this
 intro m
 induction m with
 | zero =>
  intro i j h1 h2 h3 hlo hhi
  have e : i = j := by omega
  subst e
  refine ⟨i, ⟨h3, hlo, hhi⟩, ?_⟩
  rw [zi7]
  simp only [z6c, z9m (by omega : ¬ i < i), cond_false]
  by_cases hi : i < d.length
  ·obtain ⟨x, hx, _⟩ := dropc hi
   rw [z8v hi, cond_true, z31, hx, Option.bind_some, Z1g, Option.bind_some, if_neg (by rw [hhi i x hx (Nat.le_refl _)]; simp)]
   by_cases hn : x.1 = n
   ·rw [if_pos hn]; simp [hn]
   ·rw [if_neg hn]; simp [hn]
  ·rw [z9m hi, cond_false, List.getElem?_eq_none (by omega)]; rfl
 | succ m ih =>
  intro i j h1 h2 h3 hlo hhi
  by_cases hij : i < j
  ·have hmid : (i + j) / 2 < d.length := by omega
   obtain ⟨x, hx, _⟩ := dropc hmid
   rw [zi7]
   simp only [z6c, z8v hij, cond_true, Z6m (by omega : i + j ≤ 1073741824), z31, hx, Option.bind_some, Z1g]
   cases hb : Op.bytesLess x.1 n with
   | true =>
    rw [if_pos rfl, show decide ((-1 : Int) < 0) = true from rfl, cond_true, z46 (by omega) (by omega), show ((((i + j) / 2 : Nat) : Int) + 1) = (((i + j) / 2 + 1 : Nat) : Int) from by omega]
    refine ih _ j (by omega) (by omega) h3 (fun k y hy hk => ?_) hhi
    rcases Nat.lt_or_ge k ((i + j) / 2) with h | h
    ·exact bl_lt.2 (zbw (sorted _ _ _ _ h hy hx) (bl_lt.1 hb))
    ·have : k = (i + j) / 2 := by omega
     subst this
     rw [hx] at hy; injection hy with hy; subst hy; exact hb
   | false =>
    have hz : decide ((if False then (-1 : Int) else if x.1 = n then 0 else 1) < 0) = false := by
     rw [if_neg (by simp)]; split <;> rfl
    rw [if_neg (by simp)]
    have hz2 : decide ((if x.1 = n then (0 : Int) else 1) < 0) = false := by split <;> rfl
    rw [hz2, cond_false]
    refine ih i _ (by omega) (by omega) (by omega) hlo (fun k y hy hk => ?_)
    rcases Nat.lt_or_ge ((i + j) / 2) k with h | h
    ·cases hc : Op.bytesLess y.1 n with
     | false => rfl
     | true =>
      have := bl_lt.2 (zbw (sorted _ _ _ _ h hx hy) (bl_lt.1 hc))
      rw [hb] at this; cases this
    ·have : k = (i + j) / 2 := by omega
     subst this
     rw [hx] at hy; injection hy with hy; subst hy; exact hb
  ·exact ih i j (by omega) h2 h3 hlo hhi
theorem zga {d : Fds} {n : Str} (hs : (d.map (·.1)).Pairwise zlt) (hd : d.length ≤ 268435456) : ∃ c, Cut d n c ∧ zju d n = some ((c : Int), decide ((d[c]?).map (·.1) = some n)) := by
 obtain ⟨c, h1, h2⟩ := bs_l d n hs hd d.length 0 d.length (by omega) (by omega) (by omega) (fun k x _ h => by omega) (fun k x hx h => by have := (List.getElem?_eq_some_iff.1 hx).1; omega)
 refine ⟨c, h1, ?_⟩
 unfold zju zts
 rw [show ((0 : Nat) : Int) = 0 from rfl] at h2
 rw [h2]; rfl
theorem zdp {d : Fds} {n : Str} {c : Nat} (hs : (d.map (·.1)).Pairwise zlt) (h : Cut d n c) : fget d n = match d[c]? with | some x => if x.1 = n then some x.2 else none | none => none := by
 have key : ∀ (d : Fds) (c : Nat), (d.map (·.1)).Pairwise zlt → (∀ k x, d[k]? = some x → k < c → Op.bytesLess x.1 n = true) → (∀ k x, d[k]? = some x → c ≤ k → Op.bytesLess x.1 n = false) → fget d n = match d[c]? with | some x => if x.1 = n then some x.2 else none | none => none := by
  intro d
  induction d with
  | nil => intro c _ _ _; simp [fget]
  | cons f r ih =>
   intro c hs hlo hhi
   rw [List.map_cons, List.pairwise_cons] at hs
   rw [zdk]
   cases c with
   | zero =>
    rw [List.getElem?_cons_zero]
    simp only
    by_cases he : f.1 = n
    ·rw [if_pos he, if_pos he]
    ·rw [if_neg he, if_neg he, zs0]
     intro hm
     have h1 := hs.1 n hm
     rw [← bl_lt, hhi 0 f rfl (Nat.le_refl _)] at h1; cases h1
   | succ c =>
    have h0 := hlo 0 f rfl (by omega)
    rw [if_neg (fun e => by rw [e] at h0; exact zoc _ (bl_lt.1 h0)), List.getElem?_cons_succ]
    exact ih c hs.2 (fun k x hx hk => hlo (k + 1) x (by simpa using hx) (by omega)) (fun k x hx hk => hhi (k + 1) x (by simpa using hx) (by omega))
 exact key d c hs h.lo h.hi
def fdF : V → Option Fds
 | .dict d => some d
 | .record _ _ d => some d
 | _ => none
theorem Z1d {v : V} (h : v ≠ .nothing) : zto v = some (match fdF v with | some d => (d, true) | none => ([], false)) := by
 cases v with
 | nothing => exact absurd rfl h
 | _ => rfl
theorem z7w {l : List Str} (h : z3m l = 0) : l.length ≤ 4096 := by
 unfold z3m at h
 split at h
 ·cases h
 ·omega
theorem zk7 {v : V} {d : Fds} (hc : Can v) (h : fdF v = some d) : z3m (d.map (·.1)) = 0 := by
 have hn := hc.1.own
 cases v with
 | dict x => cases h; exact hn
 | record c k x =>
  cases h
  simp only [z2w] at hn
  split at hn
  ·cases hn
  ·split at hn
   ·cases hn
   ·exact hn
 | _ => cases h
theorem zlx {v : V} {d : Fds} (h : fdF v = some d) : v.parts = d.map (·.2) := by
 cases v <;> first | (cases h; rfl) | cases h
def z1g (v : V) (s : Stp) : V × Int :=
 match v with
 | .list l => if s.f_At = true then (match l[s.f_Index.toNat]? with | some x => (x, 0) | none => (.nil, 42)) else (.nil, 41)
 | v => match fdF v with
  | some d => if s.f_At = true then (.nil, 41) else (match fget d s.f_Name with | some x => (x, 0) | none => (.nil, 40))
  | none => (.nil, 41)
theorem z4h {v : V} {d : Fds} (h : fdF v = some d) (s : Stp) : z1g v s = if s.f_At = true then (V.nil, (41 : Int)) else (match fget d s.f_Name with | some x => (x, (0 : Int)) | none => (V.nil, 40)) := by
 cases v <;> first | (cases h; rfl) | cases h
theorem zop (l : List V) (i : Nat) : z1g (.list l) (stA i) = match l[i]? with | some x => (x, 0) | none => (.nil, 42) := by
 simp only [z1g]
 rw [if_pos (by rfl), show (stA i).f_Index.toNat = i from by simp [stA]]
structure Wv (N : Nat) (v : V) : Prop where
 nn : v ≠ .nothing
 fd : ∀ d, fdF v = some d → (d.map (·.1)).Pairwise zlt ∧ d.length ≤ N
 li : ∀ l, v = .list l → l.length ≤ N
inductive Wd (N : Nat) : V → Prop
 | mk {v : V} : Wv N v → (∀ x, x ∈ v.parts → Wd N x) → Wd N v
theorem Wd.v {N : Nat} {v : V} (h : Wd N v) : Wv N v := by cases h; assumption
theorem Wd.part {N : Nat} {v : V} (h : Wd N v) : ∀ x, x ∈ v.parts → Wd N x := by cases h; assumption
theorem zxt {v : V} (h : Near v) : Wd 4096 v := by
 induction h with
 | @mk x h1 h2 ih =>
  refine .mk ⟨fun e => (by subst e; cases h1), fun d hd => ?_, fun l hl => (by subst hl; exact z9k h1)⟩ ih
  have hf : z3m (d.map (·.1)) = 0 := by
   cases x with
   | dict y => cases hd; exact h1
   | record c k y =>
    cases hd
    simp only [z2w] at h1
    split at h1
    ·cases h1
    ·split at h1
     ·cases h1
     ·exact h1
   | _ => cases hd
  exact ⟨z4f hf, by have := z7w hf; rwa [List.length_map] at this⟩
theorem zsk {v : V} (hc : Can v) : Wd 4096 v := zxt hc.1
theorem zxr {N : Nat} {v : V} {s : Stp} (hw : Wv N v) (hN : N ≤ 268435456) (hs : z5f s = 0) : z8g v s = some (z1g v s) := by
 have flds : ∀ d, fdF v = some d → v.isList = false → z8g v s = some (z1g v s) := by
  intro d hd hl
  unfold z8g
  rw [hl, cond_false]
  unfold zb1
  rw [cond_false, Z1d hw.nn, hd, Option.bind_some, z4h hd]
  simp only [Bool.not_true, cond_false]
  unfold zed
  cases s.f_At with
  | true => rfl
  | false =>
   obtain ⟨c, h1, h2⟩ := zga (n := s.f_Name) (hw.fd d hd).1 (Nat.le_trans (hw.fd d hd).2 hN)
   rw [cond_false, if_neg (by simp), h2, Option.bind_some, zdp (hw.fd d hd).1 h1]
   simp only
   cases hx : d[c]? with
   | none => rfl
   | some x =>
    simp only [Option.map_some, Option.some.injEq]
    by_cases he : x.1 = s.f_Name
    ·rw [decide_eq_true he, if_pos he, Bool.not_true, cond_false, z31, hx]; rfl
    ·rw [decide_eq_false he, if_neg he]; rfl
 have none_ : fdF v = none → v.isList = false → z1g v s = (.nil, 41) → z8g v s = some (z1g v s) := by
  intro hd hl he
  unfold z8g
  rw [hl, cond_false]
  unfold zb1
  rw [cond_false, Z1d hw.nn, hd, he]; rfl
 cases v with
 | list l =>
  unfold z8g z1g
  simp only [V.isList, cond_true, V.asList]
  cases ha : s.f_At with
  | true =>
   obtain ⟨_, h1, h2⟩ := zgg hs ha
   unfold zb1
   rw [cond_true, if_pos rfl]
   simp only [V.asList]
   have e : s.f_Index = ((s.f_Index.toNat : Nat) : Int) := by omega
   by_cases hl : s.f_Index.toNat < l.length
   ·obtain ⟨x, hx, _⟩ := dropc hl
    rw [decide_eq_false (by omega : ¬ s.f_Index ≥ ((l.length : Nat) : Int)), cond_false, e, z31, Int.toNat_natCast, hx]; rfl
   ·rw [decide_eq_true (by omega : s.f_Index ≥ ((l.length : Nat) : Int)), cond_true, List.getElem?_eq_none (by omega)]
  | false => rfl
 | dict d => exact flds d rfl rfl
 | record c k d => exact flds d rfl rfl
 | nothing => exact absurd rfl hw.nn
 | _ => exact none_ rfl rfl rfl
theorem z93 {v x : V} {s : Stp} (h : z1g v s = (x, 0)) : x ∈ v.parts := by
 have flds : ∀ d, fdF v = some d → x ∈ v.parts := by
  intro d hd
  rw [z4h hd] at h
  rw [zlx hd]
  split at h
  ·cases h
  ·cases hg : fget d s.f_Name with
   | none => rw [hg] at h; cases h
   | some y => rw [hg] at h; injection h with h; subst h; exact List.mem_map.2 ⟨_, zug hg, rfl⟩
 cases v with
 | list l =>
  simp only [z1g] at h
  split at h
  ·cases hg : l[s.f_Index.toNat]? with
   | none => rw [hg] at h; cases h
   | some y => rw [hg] at h; injection h with h; subst h; exact List.mem_of_getElem? hg
  ·cases h
 | dict d => exact flds d rfl
 | record c k d => exact flds d rfl
 | _ => cases h
def z5v (v : V) : List Stp → V × Int
 | [] => (v, 0)
 | s :: r => if (z1g v s).2 ≠ 0 then (.nil, (z1g v s).2) else z5v (z1g v s).1 r
theorem Z1a {N : Nat} (hN : N ≤ 268435456) (w : List Stp) : ∀ k i v, k + i = w.length → Wd N v → (∀ s, s ∈ w → z5f s = 0) → zha w v i = some (z5v v (w.drop i))
 | 0, i, v, h, hc, hw => by
  rw [zh9]
  simp only [z61, z9m (by omega : ¬ i < w.length), cond_false]
  rw [List.drop_of_length_le (by omega)]; rfl
 | k + 1, i, v, h, hc, hw => by
  obtain ⟨s, hs, hd⟩ := dropc (by omega : i < w.length)
  rw [zh9]
  simp only [z61, z8v (by omega : i < w.length), cond_true, hs, Option.bind_some, zxr hc.v hN (hw s (List.mem_of_getElem? hs))]
  rw [hd, z5v]
  by_cases he : (z1g v s).2 = 0
  ·rw [if_neg (by simp [he]), show ((z1g v s).2 != 0) = false from by simp [he], cond_false]
   have hp : z1g v s = ((z1g v s).1, 0) := Prod.ext rfl he
   exact Z1a hN w k (i + 1) _ (by omega) (hc.part _ (z93 hp)) hw
  ·rw [if_pos he, show ((z1g v s).2 != 0) = true from by simpa using he, cond_true]
theorem Z43 {N : Nat} {v : V} {w : List Stp} (hc : Wd N v) (hN : N ≤ 268435456) (hw : ∀ s, s ∈ w → z5f s = 0) : zq4 v w = some (z5v v w) := by
 have := Z1a hN w w.length 0 v (by omega) hc hw
 rw [List.drop_zero] at this; exact this
theorem Z1b {v : V} {w : List Stp} (hc : Can v) (hw : ∀ s, s ∈ w → z5f s = 0) : zq4 v w = some (z5v v w) := Z43 (zsk hc) (by omega) hw
theorem zg9 : ∀ {w : List Stp} {v x : V}, Can v → z5v v w = (x, 0) → Can x
 | [], v, x, hc, h => by injection h with h; subst h; exact hc
 | s :: r, v, x, hc, h => by
  rw [z5v] at h
  by_cases he : (z1g v s).2 = 0
  ·rw [if_neg (by simp [he])] at h
   exact zg9 (z8y hc (z93 (Prod.ext rfl he : z1g v s = ((z1g v s).1, 0)))) h
  ·rw [if_pos he] at h; injection h with h1 h2; exact absurd h2 he
theorem z3x {w : List Stp} (h : z2f w = 0) : w.length ≤ 64 ∧ ∀ s, s ∈ w → z5f s = 0 := by
 unfold z2f at h
 split at h
 ·cases h
 ·exact ⟨by omega, steps_zero.1 h⟩
theorem z3r {x : V} (h : (z1j x).2 = 0) : Can x := Classical.byContradiction fun hc => zbg hc h
end Go.Proofs.Ythidgpcbnieleaa

namespace Go.Proofs.Ythidgpcbnieleaa
open Go Aw
set_option linter.unusedVariables false
set_option linter.unusedSimpArgs false
set_option maxRecDepth 8000
def zob (v : V) (w : List Stp) : V × Int := if (z1j v).2 ≠ 0 then (.nil, (z1j v).2) else if z2f w ≠ 0 then (.nil, z2f w) else if (z5v v w).2 ≠ 0 then (.nil, (z5v v w).2) else z5v v w
theorem zgi (v : V) (w : List Stp) : zjw v w = some (if (z1j v).2 ≠ 0 then (z1j v).2 else z2f w) := by
 unfold zjw
 rw [zvv, Option.bind_some]
 by_cases h : (z1j v).2 = 0
 ·rw [show ((z1j v).2 != 0) = false from by simp [h], cond_false, zt2, if_neg (by simp [h])]; rfl
 ·rw [show ((z1j v).2 != 0) = true from by simpa using h, cond_true, if_pos h]
theorem Z2n (v : V) (w : List Stp) : zq7 v w = some (zob v w) := by
 unfold zq7 zob
 rw [zgi, Option.bind_some]
 by_cases h : (z1j v).2 = 0
 ·rw [if_neg (by simp [h]), if_neg (by simp [h])]
  by_cases h2 : z2f w = 0
  ·rw [show (z2f w != 0) = false from by simp [h2], cond_false, if_neg (by simp [h2]), Z1b (z3r h) (z3x h2).2, Option.bind_some]
   by_cases h3 : (z5v v w).2 = 0
   ·rw [show ((z5v v w).2 != 0) = false from by simp [h3], cond_false, if_neg (by simp [h3]), zge (zg9 (z3r h) (Prod.ext rfl h3 : z5v v w = ((z5v v w).1, 0)))]
    rw [Option.bind_some, ← h3]
   ·rw [show ((z5v v w).2 != 0) = true from by simpa using h3, cond_true, if_pos h3]
  ·rw [show (z2f w != 0) = true from by simpa using h2, cond_true, if_pos h2]
 ·rw [if_pos h, if_pos h, show ((z1j v).2 != 0) = true from by simpa using h, cond_true]
end Go.Proofs.Ythidgpcbnieleaa

