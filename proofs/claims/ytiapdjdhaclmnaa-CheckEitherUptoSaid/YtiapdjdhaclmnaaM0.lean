/- Plain laws, one behind the other. -/
import Derived.Test.YtiapdjdhaclmnaaRd
import Derived.Test.YtiapdjdhaclmnaaG11
namespace Go.Proofs.Ytiapdjdhaclmnaa
open Go Aw
set_option linter.unusedVariables false
set_option linter.unusedSimpArgs false
theorem z7o {i n : Nat} (h : i < n) : decide ((i : Int) < (n : Int)) = true := decide_eq_true (by omega)
theorem z7n {i n : Nat} (h : ¬ i < n) : decide ((i : Int) < (n : Int)) = false := decide_eq_false (by omega)
theorem dropc {α : Type} {l : List α} {i : Nat} (h : i < l.length) : ∃ x, l[i]? = some x ∧ l.drop i = x :: l.drop (i + 1) :=
  ⟨l[i], List.getElem?_eq_getElem h, List.drop_eq_getElem_cons h⟩
theorem z4d {x : Int} (h1 : -9223372036854775808 ≤ x) (h2 : x ≤ 9223372036854775807) : IntKind.i64.wrap x = x := zae h1 h2
theorem z5k {α : Type} (l : List α) (i : Nat) : zc1 l (i : Int) = l[i]? := by
  unfold zc1; rw [decide_eq_true (by omega : (0 : Int) ≤ (i : Nat))]; rfl
/-- A letter of a name. -/
def ztn (c : UInt8) : Bool := (Nat.ble 97 c.toNat && Nat.ble c.toNat 122) || (Nat.ble 48 c.toNat && Nat.ble c.toNat 57) || Nat.beq c.toNat 95
def zz0 (c : UInt8) : Bool := Nat.ble 97 c.toNat && Nat.ble c.toNat 122
def z3c (s : Str) : Bool := Nat.ble 1 s.length && Nat.ble s.length 32 && zz0 (s.headD 0) && s.all ztn
theorem chOk_iff {c : UInt8} : ztn c = true ↔ (97 ≤ c.toNat ∧ c.toNat ≤ 122) ∨ (48 ≤ c.toNat ∧ c.toNat ≤ 57) ∨ c.toNat = 95 := by
  simp only [ztn, Bool.or_eq_true, Bool.and_eq_true, Nat.ble_eq, Nat.beq_eq]; omega
theorem loOk_iff {c : UInt8} : zz0 c = true ↔ 97 ≤ c.toNat ∧ c.toNat ≤ 122 := by
  simp only [zz0, Bool.and_eq_true, Nat.ble_eq]
theorem zya (c : UInt8) (g : Nat → Option Bool) (i : Nat) (s : Str) (hi : i < s.length) (hc : s[i]? = some c) : z5s s g i = bif ztn c then g (i + 1) else some false := by
  have h97 : (97 : UInt8).toNat = 97 := rfl
  have h122 : (122 : UInt8).toNat = 122 := rfl
  have h48 : (48 : UInt8).toNat = 48 := rfl
  have h57 : (57 : UInt8).toNat = 57 := rfl
  have h95 : (95 : UInt8).toNat = 95 := rfl
  simp only [z5s, z7o hi, hc, cond_true, Option.bind_some, z6h, h97, h122, h48, h57, h95]
  simp only [Bool.cond_eq_ite, decide_eq_true_eq, bne_iff_ne, ne_eq, Bool.false_eq_true, if_false, chOk_iff]
  repeat (split <;> (try (first | rfl | (exfalso; omega))))
theorem Z63 (s : Str) : ∀ k i, k + i = s.length → zh4 s i = some ((s.drop i).all ztn)
  | 0, i, h => by
    rw [zh3]
    simp only [z5s, z7n (by omega : ¬ i < s.length), cond_false]
    rw [List.drop_of_length_le (by omega)]; rfl
  | k + 1, i, h => by
    obtain ⟨c, hc, hd⟩ := dropc (by omega : i < s.length)
    rw [zh3, zya c _ i s (by omega) hc, Z63 s k (i + 1) (by omega), hd, List.all_cons]
    cases ztn c <;> rfl
theorem zx7 (s : Str) : zjn s = some (z3c s) := by
  have h97 : (97 : UInt8).toNat = 97 := rfl
  have h122 : (122 : UInt8).toNat = 122 := rfl
  cases s with
  | nil => rfl
  | cons c r =>
    have hl := Z63 (c :: r) (c :: r).length 0 (by simp)
    rw [List.drop_zero] at hl
    simp only [zjn, zbn, h97, h122]
    have he : ((c :: r) == ([] : Str)) = false := rfl
    have h0 : (c :: r)[0]? = some c := rfl
    simp only [he, h0, cond_true, cond_false, Option.bind_some]
    by_cases h32 : (c :: r).length ≤ 32
    · have hs : zed (c :: r).length = some () := by unfold zed; rw [Nat.ble_eq_true_of_le (by omega)]; rfl
      simp only [hs, hl, Option.bind_some]
      have e1 : decide (((c :: r).length : Int) > 32) = false := decide_eq_false (by omega)
      rw [e1]
      simp only [cond_false, z3c, List.headD_cons, Nat.ble_eq_true_of_le h32, Nat.ble_eq_true_of_le (by simp : 1 ≤ (c :: r).length), Bool.true_and]
      cases hlo : zz0 c with
      | true =>
        have := loOk_iff.1 hlo
        have e2 : decide ((c.toNat : Int) < (97 : Nat)) = false := decide_eq_false (by omega)
        have e3 : decide ((c.toNat : Int) > (122 : Nat)) = false := decide_eq_false (by omega)
        rw [e2, e3]; rfl
      | false =>
        have h2 : ¬ (97 ≤ c.toNat ∧ c.toNat ≤ 122) := fun h => by rw [loOk_iff.2 h] at hlo; cases hlo
        by_cases h3 : c.toNat < 97
        · have e2 : decide ((c.toNat : Int) < (97 : Nat)) = true := decide_eq_true (by omega)
          rw [e2]; rfl
        · have e2 : decide ((c.toNat : Int) < (97 : Nat)) = false := decide_eq_false (by omega)
          have e3 : decide ((c.toNat : Int) > (122 : Nat)) = true := decide_eq_true (by omega)
          rw [e2, e3]; rfl
    · have e1 : decide (((c :: r).length : Int) > 32) = true := decide_eq_true (by omega)
      have e2 : Nat.ble (c :: r).length 32 = false := by
        cases hb : Nat.ble (c :: r).length 32 with
        | false => rfl
        | true => exact absurd (Nat.le_of_ble_eq_true hb) h32
      rw [e1]
      simp only [cond_true, z3c, e2, Bool.and_false, Bool.false_and]
end Go.Proofs.Ytiapdjdhaclmnaa

namespace Go.Proofs.Ytiapdjdhaclmnaa
open Go Aw
set_option linter.unusedVariables false
set_option linter.unusedSimpArgs false
set_option maxRecDepth 8000
/-! ### fields: names that rise -/
def leB (a b : Str) : Bool := Op.bytesLess a b || a == b
def risen : Option Str → List Str → Bool
  | _, [] => true
  | p, s :: r => z3c s && (match p with | none => true | some q => !(leB s q)) && risen (some s) r
def z4n (l : List Str) (i : Nat) : Option Str := if i = 0 then none else l[i - 1]?
def z5a (l : List Str) : Int := if 4096 < l.length then 2 else if risen none l then 0 else 8
theorem zee {l : List Str} {i : Nat} {s : Str} (h : l[i]? = some s) (p : Option Str) : risen p (l.drop i) = (z3c s && (match p with | none => true | some q => !(leB s q)) && risen (z4n l (i + 1)) (l.drop (i + 1))) := by
  have hi := (List.getElem?_eq_some_iff.1 h).1
  have hd : l.drop i = s :: l.drop (i + 1) := by rw [List.drop_eq_getElem_cons hi, (List.getElem?_eq_some_iff.1 h).2]
  have : z4n l (i + 1) = some s := by simp [z4n, h]
  rw [hd, this]
  cases p <;> simp only [risen]
theorem zcw (p : Option Str) : risen p [] = true := by cases p <;> rfl
def r08 (b : Bool) : Int := if b then 0 else 8
/-- One round over names, whatever stands beside them. -/
theorem zbt {α : Type} (l : List (Str × α)) (i : Nat) (hi : i < l.length) (hb : l.length ≤ 4096) (g : Option Int) (hg : g = some (r08 (risen (z4n (l.map (·.1)) (i + 1)) ((l.map (·.1)).drop (i + 1))))) (x : Str × α) (hx : l[i]? = some x) :
    (bif !(z3c x.1) then some 8 else (bif decide (((i : Nat) : Int) > 0) then Option.bind (zc1 l (IntKind.i64.wrap (((i : Nat) : Int) - 1))) fun y => (bif (Op.bytesLess x.1 y.1 || x.1 == y.1) then some 8 else g) else g)) = some (r08 (risen (z4n (l.map (·.1)) i) ((l.map (·.1)).drop i))) := by
  have hs : (l.map (·.1))[i]? = some x.1 := by rw [List.getElem?_map, hx]; rfl
  rw [zee hs]
  cases hn : z3c x.1 with
  | false => rfl
  | true =>
    simp only [Bool.not_true, cond_false, Bool.true_and]
    by_cases h0 : i = 0
    · subst h0
      have e : decide (((0 : Nat) : Int) > 0) = false := rfl
      rw [e, hg]
      simp only [cond_false, z4n, if_pos, Bool.true_and]
    · have e : decide ((i : Int) > 0) = true := decide_eq_true (by omega)
      have hw : IntKind.i64.wrap ((i : Int) - 1) = ((i - 1 : Nat) : Int) := by rw [z4d (by omega) (by omega)]; omega
      obtain ⟨y, hy, _⟩ := dropc (by omega : i - 1 < l.length)
      rw [e, hw, z5k, hy]
      have hp : z4n (l.map (·.1)) i = some y.1 := by simp only [z4n, if_neg h0, List.getElem?_map, hy, Option.map_some]
      simp only [cond_true, Option.bind_some, hp, hg]
      show (bif leB x.1 y.1 then _ else _) = _
      cases leB x.1 y.1 <;> rfl
theorem Z65 (l : List (Str × V)) (hb : l.length ≤ 4096) : ∀ k i, k + i = l.length → zhi l i = some (r08 (risen (z4n (l.map (·.1)) i) ((l.map (·.1)).drop i)))
  | 0, i, h => by
    rw [zhh]
    simp only [z70, z7n (by omega : ¬ i < l.length), cond_false]
    rw [List.drop_of_length_le (by simp; omega), zcw]; rfl
  | k + 1, i, h => by
    obtain ⟨x, hx, _⟩ := dropc (by omega : i < l.length)
    have hr := zbt l i (by omega) hb _ (Z65 l hb k (i + 1) (by omega)) x hx
    rw [zhh]
    simp only [z70, z7o (by omega : i < l.length), cond_true, hx, Option.bind_some, zx7, z9f, cond_false]
    exact hr
theorem zxa (l : List (Str × V)) : zjq l = some (z5a (l.map (·.1))) := by
  simp only [zjq, z5a, List.length_map]
  by_cases h : 4096 < l.length
  · rw [decide_eq_true (by omega : (l.length : Int) > 4096), if_pos h]; rfl
  · rw [decide_eq_false (by omega : ¬ (l.length : Int) > 4096), if_neg h, cond_false, Z65 l (by omega) l.length 0 (by omega)]; rfl
/-! ### what is wrong with a part itself -/
def z1m : V → Int
  | .nil => 1
  | .bool _ => 2
  | .int _ => 3
  | .float _ => 4
  | .text _ => 5
  | .bytes _ => 6
  | .ref _ => 7
  | .list _ => 8
  | .dict _ => 9
  | .record _ _ _ => 10
  | .nothing => 11
  | .alien _ => 0
theorem zlk (x : V) : zg0 x = some (z1m x) := by cases x <;> rfl
theorem zpc (x : V) : znm x = some (z1m x) := by simp only [znm, zlk, Option.bind_some]
def zvk : V → Int
  | .nothing => 7
  | .alien _ => 6
  | _ => 2
def z3e : V → Int
  | .text s => if 65536 < s.length then 2 else 0
  | .bytes b => if 65536 < b.length then 2 else 0
  | .list l => if 4096 < l.length then 2 else 0
  | .dict l => z5a (l.map (·.1))
  | .record c v l => if z3c c = false then 8 else if v < 1 ∨ 1000 < v then 1 else z5a (l.map (·.1))
  | .nothing => 7
  | .alien _ => 6
  | _ => 0
def z89 (x : V) (n deep : Int) : Int := if 16384 ≤ n ∨ 64 < deep then zvk x else z3e x
theorem Z1u (x : V) : z8p x true = some (zvk x) := by
  simp only [z8p, cond_true, zlk, Option.bind_some]
  cases x <;> rfl
theorem ztc (n m : Nat) : (bif decide ((n : Int) > (m : Int)) then some (2 : Int) else zbj) = some (if m < n then 2 else 0) := by
  by_cases h : m < n
  · rw [decide_eq_true (by omega : (n : Int) > m), if_pos h]; rfl
  · rw [decide_eq_false (by omega : ¬ (n : Int) > m), if_neg h]; rfl
theorem Z1e (x : V) : z8p x false = some (z3e x) := by
  cases x with
  | text s => exact ztc s.length 65536
  | bytes s => exact ztc s.length 65536
  | list s => exact ztc s.length 4096
  | dict l =>
    have : z8p (.dict l) false = Option.bind (zjq l) fun x => some x := rfl
    rw [this, zxa]; rfl
  | record c v l =>
    have : z8p (.record c v l) false = Option.bind (zjn c) fun x17 => bif !x17 then some 8 else bif decide (v < 1) then zbi ⟨c, v, l⟩ true else zbi ⟨c, v, l⟩ (decide (v > 1000)) := rfl
    rw [this, zx7]
    simp only [Option.bind_some, z3e, zbi, zxa]
    cases hn : z3c c with
    | false => rfl
    | true =>
      simp only [Bool.not_true, cond_false, cond_true]
      by_cases h1 : v < 1
      · rw [decide_eq_true h1, cond_true, if_neg (by simp), if_pos (Or.inl h1)]
      · rw [decide_eq_false h1, cond_false, if_neg (by simp)]
        by_cases h2 : v > 1000
        · rw [decide_eq_true h2, cond_true, if_pos (Or.inr h2)]
        · rw [decide_eq_false h2, cond_false, if_neg (by omega)]
  | _ => rfl
theorem Z0x (x : V) (n d : Int) : zqo x n d = some (z89 x n d) := by
  simp only [zqo, z89]
  by_cases h1 : n ≥ 16384
  · rw [decide_eq_true h1, cond_true, if_pos (Or.inl h1), Z1u]
  · rw [decide_eq_false h1, cond_false]
    by_cases h2 : d > 64
    · rw [decide_eq_true h2, if_pos (Or.inr h2), Z1u]
    · rw [decide_eq_false h2, if_neg (by omega), Z1e]
/-! ### the value of a term -/
theorem zzv {c : Bool} {x y : Option V} (h1 : ∃ a, x = some (.alien a)) (h2 : ∃ a, y = some (.alien a)) : ∃ a, (bif c then x else y) = some (.alien a) := by cases c <;> assumption
theorem zmy (n : Int) : ∃ a, zni n = some (.alien a) := by
  unfold zni
  repeat (first | exact ⟨_, rfl⟩ | refine zzv ⟨_, rfl⟩ ?_)
noncomputable def alT (n : Int) : {t : Nat // zfk t = true} := (zmy n).choose
theorem zwv (n : Int) : zni n = some (.alien (alT n)) := (zmy n).choose_spec
mutual
noncomputable def bu : Term → V
  | .mk k b i f t y r l d c v => if k = 1 then .nil else if k = 2 then .bool b else if k = 3 then .int i else if k = 4 then .float f else if k = 5 then .text t else if k = 6 then .bytes y else if k = 7 then .ref r
    else if k = 8 then .list (Z2x l) else if k = 9 then .dict (Z01 d) else if k = 10 then .record c v (Z01 d) else if k = 11 then .nothing else .alien (alT i)
noncomputable def Z2x : List Term → List V
  | [] => []
  | x :: r => bu x :: Z2x r
noncomputable def Z01 : List (Str × Term) → List (Str × V)
  | [] => []
  | (s, x) :: r => (s, bu x) :: Z01 r
end
noncomputable def buE (p : Str × Term) : Str × V := (p.1, bu p.2)
theorem zch : ∀ l, Z2x l = l.map bu
  | [] => by rw [Z2x]; rfl
  | x :: r => by rw [Z2x, zch r]; rfl
theorem za8 : ∀ l, Z01 l = l.map buE
  | [] => by rw [Z01]; rfl
  | (s, x) :: r => by rw [Z01, za8 r]; rfl
theorem zgl (l : List (Str × Term)) : (l.map buE).map (·.1) = l.map (·.1) := by rw [List.map_map]; rfl
theorem zt5 (l : List (Str × Term)) : (l.map buE).map (·.2) = (l.map (·.2)).map bu := by rw [List.map_map, List.map_map]; rfl
inductive BuC (t : Term) : V → Prop
  | nil : t.kind = 1 → BuC t .nil
  | bool : t.kind = 2 → BuC t (.bool t.bool)
  | int : t.kind = 3 → BuC t (.int t.int)
  | float : t.kind = 4 → BuC t (.float t.float)
  | text : t.kind = 5 → BuC t (.text t.text)
  | bytes : t.kind = 6 → BuC t (.bytes t.bytes)
  | ref : t.kind = 7 → BuC t (.ref t.ref)
  | list : t.kind = 8 → BuC t (.list (t.list.map bu))
  | dict : t.kind = 9 → BuC t (.dict (t.fields.map buE))
  | record : t.kind = 10 → BuC t (.record t.cls t.ver (t.fields.map buE))
  | nothing : t.kind = 11 → BuC t .nothing
  | alien : t.kind < 1 ∨ 11 < t.kind → BuC t (.alien (alT t.int))
theorem Z3a (t : Term) : BuC t (bu t) := by
  cases t with
  | mk k b i f t y r l d c v =>
    rw [bu, zch, za8]
    by_cases h1 : k = 1; · rw [if_pos h1]; exact .nil h1
    by_cases h2 : k = 2; · rw [if_neg h1, if_pos h2]; exact .bool h2
    by_cases h3 : k = 3; · rw [if_neg h1, if_neg h2, if_pos h3]; exact .int h3
    by_cases h4 : k = 4; · rw [if_neg h1, if_neg h2, if_neg h3, if_pos h4]; exact .float h4
    by_cases h5 : k = 5; · rw [if_neg h1, if_neg h2, if_neg h3, if_neg h4, if_pos h5]; exact .text h5
    by_cases h6 : k = 6; · rw [if_neg h1, if_neg h2, if_neg h3, if_neg h4, if_neg h5, if_pos h6]; exact .bytes h6
    by_cases h7 : k = 7; · rw [if_neg h1, if_neg h2, if_neg h3, if_neg h4, if_neg h5, if_neg h6, if_pos h7]; exact .ref h7
    by_cases h8 : k = 8; · rw [if_neg h1, if_neg h2, if_neg h3, if_neg h4, if_neg h5, if_neg h6, if_neg h7, if_pos h8]; exact .list h8
    by_cases h9 : k = 9; · rw [if_neg h1, if_neg h2, if_neg h3, if_neg h4, if_neg h5, if_neg h6, if_neg h7, if_neg h8, if_pos h9]; exact .dict h9
    by_cases h10 : k = 10; · rw [if_neg h1, if_neg h2, if_neg h3, if_neg h4, if_neg h5, if_neg h6, if_neg h7, if_neg h8, if_neg h9, if_pos h10]; exact .record h10
    by_cases h11 : k = 11; · rw [if_neg h1, if_neg h2, if_neg h3, if_neg h4, if_neg h5, if_neg h6, if_neg h7, if_neg h8, if_neg h9, if_neg h10, if_pos h11]; exact .nothing h11
    rw [if_neg h1, if_neg h2, if_neg h3, if_neg h4, if_neg h5, if_neg h6, if_neg h7, if_neg h8, if_neg h9, if_neg h10, if_neg h11]
    exact .alien (by show k < 1 ∨ 11 < k; omega)
theorem zzo (n m : Nat) (g : Bool → Option Int) (h1 : g true = some 2) (h2 : g false = some 0) : g (decide ((n : Int) > (m : Int))) = some (if m < n then 2 else 0) := by
  by_cases h : m < n
  · rw [decide_eq_true (by omega : (n : Int) > m), if_pos h]; exact h1
  · rw [decide_eq_false (by omega : ¬ (n : Int) > m), if_neg h]; exact h2
end Go.Proofs.Ytiapdjdhaclmnaa

namespace Go.Proofs.Ytiapdjdhaclmnaa
open Go Aw
set_option linter.unusedVariables false
set_option linter.unusedSimpArgs false
set_option maxRecDepth 8000
/-- What a count tells: all was well, the parts, the depth, what is wrong. -/
structure Ct where
  ok : Bool
  n : Int
  dp : Int
  why : Int
mutual
def z2l : V → Int → Int → Int → Ct
  | .list l, n, dp, d => if z89 (.list l) n d = 0 then z3d l (n + 1) (max dp d) (d + 1) else ⟨false, n, dp, z89 (.list l) n d⟩
  | .dict l, n, dp, d => if z89 (.dict l) n d = 0 then zbd l (n + 1) (max dp d) (d + 1) else ⟨false, n, dp, z89 (.dict l) n d⟩
  | .record c v l, n, dp, d => if z89 (.record c v l) n d = 0 then zbd l (n + 1) (max dp d) (d + 1) else ⟨false, n, dp, z89 (.record c v l) n d⟩
  | x, n, dp, d => if z89 x n d = 0 then ⟨true, n + 1, max dp d, 0⟩ else ⟨false, n, dp, z89 x n d⟩
def z3d : List V → Int → Int → Int → Ct
  | [], n, dp, d => ⟨true, n, dp, 0⟩
  | x :: r, n, dp, d => if (z2l x n dp d).ok then z3d r (z2l x n dp d).n (z2l x n dp d).dp d else z2l x n dp d
def zbd : List (Str × V) → Int → Int → Int → Ct
  | [], n, dp, d => ⟨true, n, dp, 0⟩
  | (s, x) :: r, n, dp, d => if (z2l x n dp d).ok then zbd r (z2l x n dp d).n (z2l x n dp d).dp d else z2l x n dp d
end
def V.parts : V → List V
  | .list l => l
  | .dict l => l.map (·.2)
  | .record _ _ l => l.map (·.2)
  | _ => []
theorem zdt : ∀ (l : List (Str × V)) (n dp d : Int), zbd l n dp d = z3d (l.map (·.2)) n dp d
  | [], n, dp, d => by simp only [zbd, z3d, List.map_nil]
  | (s, x) :: r, n, dp, d => by simp only [zbd, z3d, List.map_cons, zdt r]
theorem z46 (x : V) (n dp d : Int) : z2l x n dp d = if z89 x n d = 0 then z3d x.parts (n + 1) (max dp d) (d + 1) else ⟨false, n, dp, z89 x n d⟩ := by
  cases x <;> simp only [z2l, V.parts, zdt, z3d]
theorem z2u (x : V) (r : List V) (n dp d : Int) : z3d (x :: r) n dp d = if (z2l x n dp d).ok then z3d r (z2l x n dp d).n (z2l x n dp d).dp d else z2l x n dp d := by simp only [z3d]
theorem z3h (n dp d : Int) : z3d [] n dp d = ⟨true, n, dp, 0⟩ := by simp only [z3d]
theorem Z1t (x : V) : zvk x ≠ 0 := by cases x <;> simp [zvk]
theorem z88 {x : V} {n d : Int} (h : z89 x n d = 0) : n < 16384 ∧ d ≤ 64 ∧ z3e x = 0 := by
  unfold z89 at h
  split at h
  · exact absurd h (Z1t x)
  · rename_i hc; exact ⟨by omega, by omega, h⟩
theorem zu2 {x y : V} (h : y ∈ x.parts) : SizeOf.sizeOf y < SizeOf.sizeOf x := by
  cases x <;> simp only [V.parts, List.not_mem_nil] at h
  · have := List.sizeOf_lt_of_mem h; simp; omega
  · obtain ⟨⟨s, z⟩, hz, rfl⟩ := List.mem_map.1 h
    have := List.sizeOf_lt_of_mem hz; simp at this ⊢; omega
  · obtain ⟨⟨s, z⟩, hz, rfl⟩ := List.mem_map.1 h
    have := List.sizeOf_lt_of_mem hz; simp at this ⊢; omega
/-- By a value's parts. -/
theorem V.byParts {P : V → Prop} (h : ∀ x, (∀ y, y ∈ x.parts → P y) → P x) (x : V) : P x :=
  h x (fun y hy => V.byParts h y)
termination_by SizeOf.sizeOf x
decreasing_by exact zu2 hy
/-- What is always so of a count. -/
structure CtOk (c : Ct) (n : Int) : Prop where
  lo : n ≤ c.n
  ok : c.ok = true → c.n ≤ 16384 ∧ c.why = 0
  bad : c.ok = false → c.why ≠ 0
theorem zda {d : Int} : ∀ (l : List V), (∀ y, y ∈ l → ∀ n dp, CtOk (z2l y n dp d) n) → ∀ n dp, n ≤ 16384 → CtOk (z3d l n dp d) n
  | [], _, n, dp, hm => by rw [z3h]; exact ⟨Int.le_refl _, fun _ => ⟨hm, rfl⟩, by simp⟩
  | x :: r, h, n, dp, hm => by
    have h1 := h x (by simp) n dp
    rw [z2u]
    split
    · rename_i hk
      have h2 := zda r (fun y hy => h y (by simp [hy])) _ (z2l x n dp d).dp (h1.ok hk).1
      exact ⟨Int.le_trans h1.lo h2.lo, h2.ok, h2.bad⟩
    · exact h1
theorem z6j (x : V) : ∀ d n dp, CtOk (z2l x n dp d) n := by
  induction x using V.byParts with
  | _ x ih =>
  intro d n dp
  rw [z46]
  split
  · rename_i h
    have := z88 h
    have h2 := zda x.parts (fun y hy n dp => ih y hy (d + 1) n dp) (n + 1) (max dp d) (by omega)
    exact ⟨by have := h2.lo; omega, h2.ok, h2.bad⟩
  · rename_i h; exact ⟨Int.le_refl _, by simp, fun _ => h⟩
/-! ### the program's -/
def ctS (c : Ct) : Bool × S_value_count := (c.ok, ⟨c.n, c.dp, c.why⟩)
def zmz (x : V) : Prop := ∀ n dp w d, -4611686018427387904 ≤ n → n ≤ 16384 → -4611686018427387904 ≤ d → d ≤ 65 → zg2 ⟨n, dp, w⟩ x d = some (ctS (z2l x n dp d))
theorem Z6t (l : List V) (d : Int) (hl : ∀ y, y ∈ l → zmz y) (hd : -4611686018427387904 ≤ d) (hd' : d ≤ 64) : ∀ k i n dp, k + i = l.length → -4611686018427387904 ≤ n → n ≤ 16384 → zf2 zg2 (.list l) d i n dp 0 = some (ctS (z3d (l.drop i) n dp (d + 1)))
  | 0, i, n, dp, h, hn, hm => by
    rw [zhq]
    simp only [z65, V.asList, z7n (by omega : ¬ i < l.length), cond_false, zf3]
    rw [List.drop_of_length_le (by omega), z3h]; rfl
  | k + 1, i, n, dp, h, hn, hm => by
    obtain ⟨x, hx, hdr⟩ := dropc (by omega : i < l.length)
    have hp := hl x (List.mem_of_getElem? hx) n dp 0 (d + 1) hn hm (by omega) (by omega)
    have hw : IntKind.i64.wrap (d + 1) = d + 1 := z4d (by omega) (by omega)
    rw [zhq]
    simp only [z65, V.asList, z7o (by omega : i < l.length), cond_true, hx, Option.bind_some, hw, hp, ctS]
    rw [hdr, z2u]
    have hf := z6j x (d + 1) n dp
    cases hk : (z2l x n dp (d + 1)).ok with
    | false => simp only [Bool.not_false, cond_true, Bool.false_eq_true, if_false, hk]
    | true =>
      have h1 := hf.ok hk
      have h2 := hf.lo
      simp only [Bool.not_true, cond_false, if_true]
      rw [h1.2, Z6t l d hl hd hd' k (i + 1) _ _ (by omega) (by omega) h1.1]; rfl
theorem Z6y (l : List (Str × V)) (d : Int) (hl : ∀ y, y ∈ l.map (·.2) → zmz y) (hd : -4611686018427387904 ≤ d) (hd' : d ≤ 64) : ∀ k i n dp, k + i = l.length → -4611686018427387904 ≤ n → n ≤ 16384 → zf1 zg2 l d i n dp 0 = some (ctS (z3d ((l.map (·.2)).drop i) n dp (d + 1)))
  | 0, i, n, dp, h, hn, hm => by
    rw [zhp]
    simp only [z64, z7n (by omega : ¬ i < l.length), cond_false]
    rw [List.drop_of_length_le (by simp; omega), z3h]; rfl
  | k + 1, i, n, dp, h, hn, hm => by
    obtain ⟨x, hx, _⟩ := dropc (by omega : i < l.length)
    have hx2 : (l.map (·.2))[i]? = some x.2 := by rw [List.getElem?_map, hx]; rfl
    obtain ⟨x', hx', hdr⟩ := dropc (by rw [List.length_map]; omega : i < (l.map (·.2)).length)
    rw [hx2] at hx'; injection hx' with hx'; subst hx'
    have hp := hl x.2 (List.mem_of_getElem? hx2) n dp 0 (d + 1) hn hm (by omega) (by omega)
    have hw : IntKind.i64.wrap (d + 1) = d + 1 := z4d (by omega) (by omega)
    rw [zhp]
    simp only [z64, z7o (by omega : i < l.length), cond_true, hx, Option.bind_some, hw, hp, ctS]
    rw [hdr, z2u]
    have hf := z6j x.2 (d + 1) n dp
    cases hk : (z2l x.2 n dp (d + 1)).ok with
    | false => simp only [Bool.not_false, cond_true, Bool.false_eq_true, if_false, hk]
    | true =>
      have h1 := hf.ok hk
      have h2 := hf.lo
      simp only [Bool.not_true, cond_false, if_true]
      rw [h1.2, Z6y l d hl hd hd' k (i + 1) _ _ (by omega) (by omega) h1.1]; rfl
theorem zxb (l : List (Str × V)) (d n dp : Int) (hl : ∀ y, y ∈ l.map (·.2) → zmz y) (hd : -4611686018427387904 ≤ d) (hd' : d ≤ 64) (hn : -4611686018427387904 ≤ n) (hm : n ≤ 16384) : zny ⟨n, dp, 0⟩ l d = some (ctS (z3d (l.map (·.2)) n dp (d + 1))) := by
  rw [Z5p, zl0]
  exact Z6y l d hl hd hd' l.length 0 n dp (by omega) hn hm
theorem zxc (x : V) : zmz x := by
  induction x using V.byParts with
  | _ x ih =>
  intro n dp w d hn hm hd hd'
  rw [Z5q, zl1, z46]
  simp only [Z0x, Option.bind_some]
  by_cases h : z89 x n d = 0
  · have h0 := z88 h
    have hw : IntKind.i64.wrap (n + 1) = n + 1 := z4d (by omega) (by omega)
    have hmx : (if d > dp then d else dp) = max dp d := by omega
    rw [if_pos h, h, hw, hmx]
    have e0 : ((0 : Int) != 0) = false := rfl
    rw [e0, cond_false]
    cases x with
    | list l => exact Z6t l d ih hd (by omega) l.length 0 (n + 1) (max dp d) (by omega) (by omega) (by omega)
    | dict l =>
      show Option.bind (zny ⟨n + 1, max dp d, 0⟩ l d) (fun x => some (x.1, x.2)) = _
      rw [zxb l d _ _ ih hd (by omega) (by omega) (by omega)]; rfl
    | record c v l =>
      show Option.bind (zny ⟨n + 1, max dp d, 0⟩ l d) (fun x => some (x.1, x.2)) = _
      rw [zxb l d _ _ ih hd (by omega) (by omega) (by omega)]; rfl
    | nothing => have := h0.2.2; simp [z3e] at this
    | _ => simp only [V.parts, z3h]; rfl
  · rw [if_neg h]
    have e0 : (z89 x n d != 0) = true := by simpa using h
    rw [e0]; rfl
def z21 (x : V) : Int × Int := if (z2l x 0 0 1).ok then (0, 0) else ((z2l x 0 0 1).n, (z2l x 0 0 1).why)
def ztt (x : V) : Int × Int × Int := if (z2l x 0 0 1).ok then ((z2l x 0 0 1).n, (z2l x 0 0 1).dp, 0) else (0, 0, (z2l x 0 0 1).why)
theorem zll (x : V) : zg1 x = some (z21 x) := by
  simp only [zg1, zxc x 0 0 0 1 (by omega) (by omega) (by omega) (by omega), Option.bind_some, ctS, z21]
  cases (z2l x 0 0 1).ok <;> rfl
theorem zh5 (x : V) : zjo x = some (z21 x) := by simp only [zjo, zll, Option.bind_some]
/-! ### the document's -/
def z3v (t : Term) : List Term := if t.kind = 8 then t.list else if t.kind = 9 ∨ t.kind = 10 then t.fields.map (·.2) else []
theorem zdb (t : Term) : (z3v t).map bu = (bu t).parts := by
  have hb := Z3a t
  unfold z3v
  generalize bu t = x at hb
  cases hb with
  | list hk => rw [if_pos hk]; rfl
  | dict hk => rw [if_neg (by omega), if_pos (Or.inl hk)]; simp only [V.parts, zt5]
  | record hk => rw [if_neg (by omega), if_pos (Or.inr hk)]; simp only [V.parts, zt5]
  | _ hk => rw [if_neg (by omega), if_neg (by omega)]; rfl
theorem zqm {t u : Term} (h : u ∈ z3v t) : SizeOf.sizeOf u < SizeOf.sizeOf t := by
  cases t with
  | mk k b i f s y r l d c v =>
  unfold z3v at h
  split at h
  · have := List.sizeOf_lt_of_mem h; simp [Term.list] at this ⊢; omega
  · split at h
    · obtain ⟨⟨s, z⟩, hz, rfl⟩ := List.mem_map.1 h
      have := List.sizeOf_lt_of_mem hz; simp [Term.fields] at this ⊢; omega
    · cases h
theorem Term.byParts {P : Term → Prop} (h : ∀ t, (∀ u, u ∈ z3v t → P u) → P t) (t : Term) : P t :=
  h t (fun u hu => Term.byParts h u)
termination_by SizeOf.sizeOf t
decreasing_by exact zqm hu
end Go.Proofs.Ytiapdjdhaclmnaa

namespace Go.Proofs.Ytiapdjdhaclmnaa
open Go Aw
set_option linter.unusedVariables false
set_option linter.unusedSimpArgs false
set_option maxRecDepth 8000
theorem Z10 (x : V) : zqq x = some (ztt x) := by
  simp only [zqq, zxc x 0 0 0 1 (by omega) (by omega) (by omega) (by omega), Option.bind_some, ctS, ztt]
  cases (z2l x 0 0 1).ok <;> rfl
end Go.Proofs.Ytiapdjdhaclmnaa

namespace Go.Proofs.Ytiapdjdhaclmnaa
open Go Aw
set_option linter.unusedVariables false
set_option linter.unusedSimpArgs false
set_option maxRecDepth 8000
/-- The document's: the first one a letter, the others any. -/
theorem zoz (c : UInt8) (g : Int → Option Bool) (i : Nat) (s : Str) (hi : i < s.length) (hb : s.length ≤ 32) (hc : s[i]? = some c) :
    z53 s g (i : Int) = bif (if i = 0 then zz0 c else ztn c) then g ((i + 1 : Nat) : Int) else some false := by
  have h97 : (97 : UInt8).toNat = 97 := rfl
  have h122 : (122 : UInt8).toNat = 122 := rfl
  have h48 : (48 : UInt8).toNat = 48 := rfl
  have h57 : (57 : UInt8).toNat = 57 := rfl
  have h95 : (95 : UInt8).toNat = 95 := rfl
  have hw : IntKind.i64.wrap ((i : Int) + 1) = ((i + 1 : Nat) : Int) := by rw [z4d (by omega) (by omega)]; omega
  simp only [z53, z7o hi, z5k, hc, cond_true, Option.bind_some, zbm, z7s, h97, h122, h48, h57, h95, hw]
  by_cases h0 : i = 0
  · subst h0
    simp only [Bool.cond_eq_ite, decide_eq_true_eq, bne_iff_ne, ne_eq, Bool.false_eq_true, if_false, if_true, loOk_iff, Bool.not_eq_true', Bool.not_false, decide_eq_false_iff_not]
    repeat (split <;> (try (first | rfl | (exfalso; omega))))
    all_goals (first | rfl | (exfalso; simp_all; omega) | (simp_all; done))
  · have e0 : ((i : Int) == 0) = false := by simp; omega
    rw [if_neg h0]
    simp only [e0, Bool.cond_eq_ite, decide_eq_true_eq, bne_iff_ne, ne_eq, Bool.false_eq_true, if_false, if_true, chOk_iff, Bool.not_eq_true', Bool.not_false, decide_eq_false_iff_not]
    repeat (split <;> (try (first | rfl | (exfalso; omega))))
    all_goals (first | rfl | (exfalso; simp_all; omega) | (simp_all; done))
theorem Z6a (s : Str) (hb : s.length ≤ 32) : ∀ k i, k + i = s.length → 0 < i → zbl s (i : Int) = some ((s.drop i).all ztn)
  | 0, i, h, h0 => by
    rw [zcz]
    simp only [z53, z7n (by omega : ¬ i < s.length), cond_false]
    rw [List.drop_of_length_le (by omega)]; rfl
  | k + 1, i, h, h0 => by
    obtain ⟨c, hc, hd⟩ := dropc (by omega : i < s.length)
    rw [zcz, zoz c _ i s (by omega) hb hc, if_neg (by omega), Z6a s hb k (i + 1) (by omega) (by omega), hd, List.all_cons]
    cases ztn c <;> rfl
theorem Z4d {c : UInt8} (h : zz0 c = true) : ztn c = true := chOk_iff.2 (.inl (loOk_iff.1 h))
theorem zx5 (s : Str) : znk s = some (z3c s) := by
  simp only [znk, zeo]
  by_cases h1 : s.length < 1
  · have : s = [] := List.eq_nil_of_length_eq_zero (by omega)
    subst this; rfl
  · have e1 : decide ((s.length : Int) < 1) = false := decide_eq_false (by omega)
    rw [e1]
    by_cases h32 : s.length ≤ 32
    · have e2 : decide ((s.length : Int) > 32) = false := decide_eq_false (by omega)
      rw [e2]
      simp only [cond_false]
      cases s with
      | nil => simp at h1
      | cons c r =>
        have hb := zoz c (zbl (c :: r)) 0 (c :: r) (by simp) h32 rfl
        have hl := Z6a (c :: r) h32 r.length 1 (by simp) (by omega)
        have e : zbl (c :: r) 0 = z53 (c :: r) (zbl (c :: r)) ((0 : Nat) : Int) := zcz (c :: r) 0
        rw [e, hb, if_pos rfl]
        simp only [hl, z3c, List.headD_cons, Nat.ble_eq_true_of_le h32, Nat.ble_eq_true_of_le (by simp : 1 ≤ (c :: r).length), Bool.true_and, List.all_cons]
        cases hlo : zz0 c with
        | true => rw [Z4d hlo]; rfl
        | false => rfl
    · have e2 : decide ((s.length : Int) > 32) = true := decide_eq_true (by omega)
      have e3 : Nat.ble s.length 32 = false := by
        cases hb : Nat.ble s.length 32 with
        | false => rfl
        | true => exact absurd (Nat.le_of_ble_eq_true hb) h32
      rw [e2]
      simp only [cond_true, cond_false, z3c, e3, Bool.and_false, Bool.false_and]
end Go.Proofs.Ytiapdjdhaclmnaa

namespace Go.Proofs.Ytiapdjdhaclmnaa
open Go Aw
set_option linter.unusedVariables false
set_option linter.unusedSimpArgs false
set_option maxRecDepth 8000
theorem Z6b (t : Term) (hb : t.fields.length ≤ 4096) : ∀ k i, k + i = t.fields.length → zel t i = some (r08 (risen (z4n (t.fields.map (·.1)) i) ((t.fields.map (·.1)).drop i)))
  | 0, i, h => by
    rw [zh1]
    simp only [z6y, z7n (by omega : ¬ i < t.fields.length), cond_false]
    rw [List.drop_of_length_le (by simp; omega), zcw]; rfl
  | k + 1, i, h => by
    obtain ⟨x, hx, _⟩ := dropc (by omega : i < t.fields.length)
    have hr := zbt t.fields i (by omega) hb _ (Z6b t hb k (i + 1) (by omega)) x hx
    rw [zh1]
    simp only [z6y, z7o (by omega : i < t.fields.length), cond_true, hx, Option.bind_some, zx5, z9b, cond_false]
    exact hr
theorem Z0v (t : Term) : (bif decide ((t.fields.length : Int) > 4096) then some 2 else zel t 0) = some (z5a (t.fields.map (·.1))) := by
  simp only [z5a, List.length_map]
  by_cases h : 4096 < t.fields.length
  · rw [decide_eq_true (by omega : (t.fields.length : Int) > 4096), if_pos h]; rfl
  · rw [decide_eq_false (by omega : ¬ (t.fields.length : Int) > 4096), if_neg h, cond_false, Z6b t (by omega) t.fields.length 0 (by omega)]; rfl
theorem Z0y (t : Term) (n d : Int) : ze4 t n d = some (z89 (bu t) n d) := by
  have hfar : ∀ k : Int, t.kind = k → 1 ≤ k → k ≤ 10 → (16384 ≤ n ∨ 64 < d) → ze4 t n d = some 2 := by
    intro k hk h1 h2 h3
    have e1 : (t.kind == 11) = false := by rw [hk]; simp; omega
    have e2 : decide (t.kind < 1) = false := decide_eq_false (by omega)
    have e3 : decide (t.kind > 10) = false := decide_eq_false (by omega)
    simp only [ze4, e1, e2, e3, cond_false, zbk]
    by_cases h4 : n ≥ 16384
    · rw [decide_eq_true h4]; rfl
    · rw [decide_eq_false h4, cond_false, decide_eq_true (by omega : d > 64)]; rfl
  have hnear : ∀ k : Int, t.kind = k → 1 ≤ k → k ≤ 10 → ¬ (16384 ≤ n ∨ 64 < d) → ze4 t n d = z4u t false := by
    intro k hk h1 h2 h3
    have e1 : (t.kind == 11) = false := by rw [hk]; simp; omega
    have e2 : decide (t.kind < 1) = false := decide_eq_false (by omega)
    have e3 : decide (t.kind > 10) = false := decide_eq_false (by omega)
    simp only [ze4, e1, e2, e3, cond_false, zbk]
    rw [decide_eq_false (by omega : ¬ n ≥ 16384), cond_false, decide_eq_false (by omega : ¬ d > 64)]
  have hb := Z3a t
  simp only [z89]
  generalize bu t = x at hb
  cases hb with
  | nothing hk => have e1 : (t.kind == 11) = true := by rw [hk]; rfl
                  simp only [ze4, e1, cond_true, zvk, z3e, ite_self]
  | alien hk =>
    have e1 : (t.kind == 11) = false := by simp; omega
    simp only [ze4, e1, cond_false, zvk, z3e, ite_self, zbk]
    rcases hk with hk | hk
    · rw [decide_eq_true hk]; rfl
    · rw [decide_eq_false (by omega : ¬ t.kind < 1), cond_false, decide_eq_true (by omega : t.kind > 10)]; rfl
  | nil hk | bool hk | int hk | float hk | ref hk =>
    by_cases h : 16384 ≤ n ∨ 64 < d
    · rw [if_pos h, hfar _ hk (by decide) (by decide) h]; rfl
    · rw [if_neg h, hnear _ hk (by decide) (by decide) h]
      simp only [z4u, z7r, z6g, z3u, z6f, z8q, hk]; rfl
  | text hk =>
    by_cases h : 16384 ≤ n ∨ 64 < d
    · rw [if_pos h, hfar _ hk (by decide) (by decide) h]; rfl
    · rw [if_neg h, hnear _ hk (by decide) (by decide) h]
      have e : z4u t false = bif decide ((t.text.length : Int) > 65536) then z3u t true else z3u t false := by
        simp only [z4u, z7r, z6g, hk]; rfl
      rw [e]
      refine zzo t.text.length 65536 (fun b => bif b then z3u t true else z3u t false) rfl ?_
      show z3u t false = some 0
      simp only [z3u, z6f, z8q, hk]; rfl
  | bytes hk =>
    by_cases h : 16384 ≤ n ∨ 64 < d
    · rw [if_pos h, hfar _ hk (by decide) (by decide) h]; rfl
    · rw [if_neg h, hnear _ hk (by decide) (by decide) h]
      have e : z4u t false = z3u t (decide ((t.bytes.length : Int) > 65536)) := by
        simp only [z4u, z7r, z6g, hk]; rfl
      rw [e]
      refine zzo t.bytes.length 65536 (fun b => z3u t b) rfl ?_
      simp only [z3u, z6f, z8q, hk]; rfl
  | list hk =>
    by_cases h : 16384 ≤ n ∨ 64 < d
    · rw [if_pos h, hfar _ hk (by decide) (by decide) h]; rfl
    · rw [if_neg h, hnear _ hk (by decide) (by decide) h]
      have e : z4u t false = z6f t (decide ((t.list.length : Int) > 4096)) := by
        simp only [z4u, z7r, z6g, z3u, hk]; rfl
      rw [e]
      simp only [z3e, List.length_map]
      refine zzo t.list.length 4096 (fun b => z6f t b) rfl ?_
      simp only [z6f, z8q, hk]; rfl
  | dict hk =>
    by_cases h : 16384 ≤ n ∨ 64 < d
    · rw [if_pos h, hfar _ hk (by decide) (by decide) h]; rfl
    · rw [if_neg h, hnear _ hk (by decide) (by decide) h]
      have e : z4u t false = z8q t false := by
        simp only [z4u, z7r, z6g, z3u, z6f, hk]; rfl
      rw [e, z3e, zgl, ← Z0v]; rfl
  | record hk =>
    by_cases h : 16384 ≤ n ∨ 64 < d
    · rw [if_pos h, hfar _ hk (by decide) (by decide) h]; rfl
    · rw [if_neg h, hnear _ hk (by decide) (by decide) h]
      have e7 : z6g t false = some (z5a (t.fields.map (·.1))) := by
        rw [← Z0v]
        simp only [z6g, z3u, z6f, hk]; rfl
      have e1 : (t.kind == 10) = true := by rw [hk]; rfl
      simp only [z4u, z7r, e1, cond_true, cond_false, zx5, Option.bind_some, z3e, zgl]
      cases hn : z3c t.cls with
      | false => rfl
      | true =>
        simp only [Bool.not_true, cond_false]
        by_cases h1 : t.ver < 1
        · rw [decide_eq_true h1, cond_true, if_neg (by simp), if_pos (Or.inl h1)]; rfl
        · rw [decide_eq_false h1, cond_false, if_neg (by simp)]
          by_cases h2 : t.ver > 1000
          · rw [decide_eq_true h2, if_pos (Or.inr h2)]; rfl
          · rw [decide_eq_false h2, if_neg (by omega), e7]
theorem Z69 (t : Term) (hb : t.fields.length ≤ 268435456) : ∀ k i acc, k + i = t.fields.length → acc.length = i → zh7 t acc i = some (acc ++ (t.fields.map (·.2)).drop i)
  | 0, i, acc, h, ha => by
    rw [zh6]
    simp only [z6z, z7n (by omega : ¬ i < t.fields.length), cond_false, zeq]
    rw [List.drop_of_length_le (by simp; omega), List.append_nil]
  | k + 1, i, acc, h, ha => by
    obtain ⟨x, hx, _⟩ := dropc (by omega : i < t.fields.length)
    have hx2 : (t.fields.map (·.2))[i]? = some x.2 := by rw [List.getElem?_map, hx]; rfl
    obtain ⟨x', hx', hdr⟩ := dropc (by rw [List.length_map]; omega : i < (t.fields.map (·.2)).length)
    rw [hx2] at hx'; injection hx' with hx'; subst hx'
    have hap : zad 152 acc [x.2] = some (acc ++ [x.2]) := by
      unfold zad; rw [Nat.ble_eq_true_of_le (by simp; omega)]; rfl
    rw [zh6]
    simp only [z6z, z7o (by omega : i < t.fields.length), cond_true, hx, Option.bind_some, hap]
    rw [Z69 t hb k (i + 1) (acc ++ [x.2]) (by omega) (by simp [ha]), hdr]; simp
theorem Z13 (t : Term) (hb : t.fields.length ≤ 268435456) : zqt t = some (z3v t) := by
  unfold z3v zqt
  by_cases h8 : t.kind = 8
  · rw [if_pos h8, h8]; rfl
  · have e8 : (t.kind == 8) = false := by simpa using h8
    rw [if_neg h8, e8, cond_false]
    have hl : zep t true = some (t.fields.map (·.2)) := Z69 t hb t.fields.length 0 [] (by omega) rfl
    by_cases h9 : t.kind = 9
    · rw [if_pos (Or.inl h9), h9]; exact hl
    · have e9 : (t.kind == 9) = false := by simpa using h9
      rw [e9, cond_false]
      by_cases h10 : t.kind = 10
      · rw [if_pos (Or.inr h10), h10]; exact hl
      · have e10 : (t.kind == 10) = false := by simpa using h10
        rw [if_neg (by omega), e10]; rfl
def seS (c : Ct) (a : Int) : S_ref01_seen := if c.ok then ⟨c.n, c.dp, a, 0⟩ else ⟨c.n, c.dp, c.n, c.why⟩
def zy5 (t : Term) : Prop := ∀ n dp a d, -4611686018427387904 ≤ n → n ≤ 16384 → -4611686018427387904 ≤ d → d ≤ 65 → zi7 ⟨n, dp, a, 0⟩ t d = some (seS (z2l (bu t) n dp d) a)
theorem Z67 (l : List Term) (a d : Int) (hl : ∀ y, y ∈ l → zy5 y) (hd : -4611686018427387904 ≤ d) (hd' : d ≤ 64) : ∀ k i n dp, k + i = l.length → -4611686018427387904 ≤ n → n ≤ 16384 → zd4 zi7 d l i n dp a 0 = some (seS (z3d ((l.map bu).drop i) n dp (d + 1)) a)
  | 0, i, n, dp, h, hn, hm => by
    rw [zho]
    simp only [z63, z7n (by omega : ¬ i < l.length), cond_false]
    rw [List.drop_of_length_le (by simp; omega), z3h]; rfl
  | k + 1, i, n, dp, h, hn, hm => by
    obtain ⟨x, hx, _⟩ := dropc (by omega : i < l.length)
    have hx2 : (l.map bu)[i]? = some (bu x) := by rw [List.getElem?_map, hx]; rfl
    obtain ⟨x', hx', hdr⟩ := dropc (by rw [List.length_map]; omega : i < (l.map bu).length)
    rw [hx2] at hx'; injection hx' with hx'; subst hx'
    have hp := hl x (List.mem_of_getElem? hx) n dp a (d + 1) hn hm (by omega) (by omega)
    have hw : IntKind.i64.wrap (d + 1) = d + 1 := z4d (by omega) (by omega)
    rw [zho]
    simp only [z63, z7o (by omega : i < l.length), cond_true, hx, Option.bind_some, hw, hp]
    rw [hdr, z2u]
    have hf := z6j (bu x) (d + 1) n dp
    cases hk : (z2l (bu x) n dp (d + 1)).ok with
    | false =>
      have h1 := hf.bad hk
      have e : ((seS (z2l (bu x) n dp (d + 1)) a).f_why != 0) = true := by simp only [seS, hk]; simpa using h1
      rw [e, cond_true, if_neg (by simp)]
    | true =>
      have h1 := hf.ok hk
      have h2 := hf.lo
      have e : seS (z2l (bu x) n dp (d + 1)) a = ⟨(z2l (bu x) n dp (d + 1)).n, (z2l (bu x) n dp (d + 1)).dp, a, 0⟩ := by simp only [seS, hk]; rfl
      rw [e, if_pos rfl]
      show zd4 zi7 d l (i + 1) _ _ a 0 = _
      rw [Z67 l a d hl hd hd' k (i + 1) _ _ (by omega) (by omega) h1.1]
theorem zyc (t : Term) : bkT t ≤ 268435456 → zy5 t := by
  induction t using Term.byParts with
  | _ t ih =>
  intro hb n dp a d hn hm hd hd'
  have hfl : t.fields.length ≤ 268435456 := by
    cases t with
    | mk k b i f s y r l dd c v =>
      have hsum : ∀ l : List (Str × Term), l.length ≤ bkEs l := by
        intro l; induction l with
        | nil => simp
        | cons x r ih => obtain ⟨s, x⟩ := x; rw [bkEs, List.length_cons]; omega
      have := hsum dd
      rw [bkT] at hb; show dd.length ≤ _; omega
  have hbp : ∀ u, u ∈ z3v t → bkT u ≤ 268435456 := by
    intro u hu
    cases t with
    | mk k b i f s y r l dd c v =>
      have h1 : ∀ {l : List Term} {u : Term}, u ∈ l → bkT u ≤ ze0 l := by
        intro l u h; induction l with
        | nil => cases h
        | cons x r ih => rw [ze0]; rcases List.mem_cons.1 h with rfl | h; (· omega); (· have := ih h; omega)
      have h2 : ∀ {l : List (Str × Term)} {u : Term}, u ∈ l.map (·.2) → bkT u ≤ bkEs l := by
        intro l u h; induction l with
        | nil => cases h
        | cons x r ih => obtain ⟨s, x⟩ := x; rw [bkEs]; rcases List.mem_cons.1 h with rfl | h; (· show bkT u ≤ _; omega); (· have := ih h; omega)
      rw [bkT] at hb
      unfold z3v at hu
      split at hu
      · have := h1 hu; simp only [Term.list] at this; omega
      · split at hu
        · have := h2 hu; simp only [Term.fields] at this; omega
        · cases hu
  rw [Z5o, zkz, z46]
  simp only [Z0y, Option.bind_some]
  by_cases h : z89 (bu t) n d = 0
  · have h0 := z88 h
    have hw : IntKind.i64.wrap (n + 1) = n + 1 := z4d (by omega) (by omega)
    have e0 : ((0 : Int) != 0) = false := rfl
    rw [if_pos h, h, e0, cond_false]
    have hj : ∀ m, z9l zi7 ⟨n, dp, a, 0⟩ t d m = some (seS (z3d ((z3v t).map bu) (n + 1) m (d + 1)) a) := by
      intro m
      simp only [z9l, Z13 t hfl, Option.bind_some, hw]
      exact Z67 (z3v t) a d (fun y hy => ih y hy (hbp y hy)) hd (by omega) (z3v t).length 0 (n + 1) m (by omega) (by omega) (by omega)
    rw [hj, hj, zdb]
    by_cases hdd : d > dp
    · rw [decide_eq_true hdd, cond_true, show max dp d = d by omega]
    · rw [decide_eq_false hdd, cond_false, show max dp d = dp by omega]
  · rw [if_neg h]
    have e0 : (z89 (bu t) n d != 0) = true := by simpa using h
    rw [e0]; rfl
theorem zx8 (t : Term) (hb : bkT t ≤ 268435456) : zqs t = some (z21 (bu t)) := by
  simp only [zqs, zyc t hb 0 0 0 1 (by omega) (by omega) (by omega) (by omega), Option.bind_some, z21, seS]
  cases (z2l (bu t) 0 0 1).ok <;> rfl
end Go.Proofs.Ytiapdjdhaclmnaa

namespace Go.Proofs.Ytiapdjdhaclmnaa
open Go Aw
set_option linter.unusedVariables false
set_option linter.unusedSimpArgs false
set_option maxRecDepth 8000
theorem zto {α : Type} {b : Nat} {acc : List α} {x : α} (hb : b ≤ 1024) (h : acc.length ≤ 1073741824) : zad b acc [x] = some (acc ++ [x]) := by
  have h1 : (acc.length + 1) * b ≤ (1073741824 + 1) * 1024 := Nat.mul_le_mul (by omega) hb
  unfold zad
  rw [Nat.ble_eq_true_of_le (by simp only [List.length_cons, List.length_nil, Nat.zero_add]; omega)]; rfl
theorem Z02 {α : Type} {b : Nat} {l : List α} (hb : b ≤ 1024) (h : l.length ≤ 1073741824) : zad b [] l = some l := by
  have h1 : l.length * b ≤ 1073741824 * 1024 := Nat.mul_le_mul h hb
  unfold zad
  rw [Nat.ble_eq_true_of_le (by simp only [List.length_nil, Nat.zero_add]; omega)]; rfl
theorem zmt : ∀ {l : List Term} {u : Term}, u ∈ l → bkT u ≤ ze0 l
  | x :: r, u, h => by
    rw [ze0]; rcases List.mem_cons.1 h with rfl | h
    · omega
    · have := zmt h; omega
theorem zmv : ∀ {l : List (Str × Term)} {u : Str × Term}, u ∈ l → bkT u.2 ≤ bkEs l
  | (s, x) :: r, u, h => by
    rw [bkEs]; rcases List.mem_cons.1 h with rfl | h
    · show bkT x ≤ _; omega
    · have := zmv h; omega
theorem zmu : ∀ (l : List Term), l.length ≤ ze0 l
  | [] => by simp
  | .mk k b i f s y r l dd c v :: q => by rw [ze0, List.length_cons, bkT]; have := zmu q; omega
theorem zmw : ∀ (l : List (Str × Term)), l.length ≤ bkEs l
  | [] => by simp
  | (s, x) :: q => by rw [bkEs, List.length_cons]; have := zmw q; omega
theorem zaa (t : Term) : bkT t = t.text.length + t.bytes.length + t.cls.length + ze0 t.list + bkEs t.fields + 12 := by cases t; rw [bkT]; rfl
theorem zt6 {t u : Term} (h : u ∈ t.list) : bkT u < bkT t := by have := zmt h; have := zaa t; omega
theorem zj6 {t : Term} {u : Str × Term} (h : u ∈ t.fields) : bkT u.2 < bkT t := by have := zmv h; have := zaa t; omega
theorem zm5 (t : Term) : t.list.length ≤ bkT t := by have := zmu t.list; have := zaa t; omega
theorem zfc (t : Term) : t.fields.length ≤ bkT t := by have := zmw t.fields; have := zaa t; omega
theorem zig (t : Term) : t.bytes.length ≤ bkT t := by have := zaa t; omega
theorem z4m {α β : Type} {l : List α} {f : α → β} {i : Nat} {x : α} (h : l[i]? = some x) : (l.take i).map f ++ [f x] = (l.take (i + 1)).map f := by
  obtain ⟨hi, rfl⟩ := List.getElem?_eq_some_iff.1 h
  rw [List.take_add_one, List.getElem?_eq_getElem hi, List.map_append]; rfl
end Go.Proofs.Ytiapdjdhaclmnaa

namespace Go.Proofs.Ytiapdjdhaclmnaa
open Go Aw
set_option linter.unusedVariables false
set_option linter.unusedSimpArgs false
set_option maxRecDepth 8000
theorem Z6z (t : Term) (hl : ∀ u, u ∈ t.list → z9o u = some (bu u)) (hb : t.list.length ≤ 1073741824) : ∀ k i, k + i = t.list.length → zcy z9o t ((t.list.take i).map bu) i = some (.list (t.list.map bu))
  | 0, i, h => by
    rw [zgz]
    simp only [z5q, z7n (by omega : ¬ i < t.list.length), cond_false]
    rw [List.take_of_length_le (by omega)]
  | k + 1, i, h => by
    obtain ⟨x, hx, _⟩ := dropc (by omega : i < t.list.length)
    rw [zgz]
    simp only [z5q, z7o (by omega : i < t.list.length), cond_true, hx, Option.bind_some, hl x (List.mem_of_getElem? hx), zto (b := 16) (by omega) (show ((t.list.take i).map bu).length ≤ 1073741824 by simp; omega), z4m hx]
    exact Z6z t hl hb k (i + 1) (by omega)
theorem Z71 (l : List (Str × Term)) (hl : ∀ u, u ∈ l → z9o u.2 = some (bu u.2)) (hb : l.length ≤ 1073741824) : ∀ k i, k + i = l.length → zej z9o l ((l.take i).map buE) i = some (l.map buE)
  | 0, i, h => by
    rw [zgx]
    simp only [z5o, z7n (by omega : ¬ i < l.length), cond_false]
    rw [List.take_of_length_le (by omega)]
  | k + 1, i, h => by
    obtain ⟨x, hx, _⟩ := dropc (by omega : i < l.length)
    rw [zgx]
    simp only [z5o, z7o (by omega : i < l.length), cond_true, hx, Option.bind_some, hl x (List.mem_of_getElem? hx), zto (b := 32) (x := (x.1, bu x.2)) (by omega) (show ((l.take i).map buE).length ≤ 1073741824 by simp; omega)]
    have : ((l.take i).map buE) ++ [(x.1, bu x.2)] = (l.take (i + 1)).map buE := z4m (f := buE) hx
    rw [this]
    exact Z71 l hl hb k (i + 1) (by omega)
theorem zid : ∀ (n : Nat) (t : Term), bkT t ≤ n → n ≤ 268435456 → z9o t = some (bu t) := by
  intro n
  induction n with
  | zero => intro t h _; have := zaa t; omega
  | succ n ih =>
    intro t h hn
    have hl : ∀ u, u ∈ t.list → z9o u = some (bu u) := fun u hu => ih u (by have := zt6 hu; omega) (by omega)
    have hf : ∀ u, u ∈ t.fields → z9o u.2 = some (bu u.2) := fun u hu => ih u.2 (by have := zj6 hu; omega) (by omega)
    have hd : zu3 t.fields = some (t.fields.map buE) := by
      rw [Z58, zkh]
      exact Z71 t.fields hf (by have := zfc t; omega) t.fields.length 0 (by omega)
    have hll : zcy z9o t [] 0 = some (.list (t.list.map bu)) := Z6z t hl (by have := zm5 t; omega) t.list.length 0 (by omega)
    have hb := Z3a t
    rw [Z5a, zkj]
    generalize bu t = x at hb
    cases hb with
    | bytes hk => simp only [hk, Z02 (by omega : 1 ≤ 1024) (show t.bytes.length ≤ 1073741824 by have := zig t; omega)]; rfl
    | list hk => simp only [hk, hll]; rfl
    | dict hk => simp only [hk, hd]; rfl
    | record hk => simp only [hk, hd]; rfl
    | alien hk =>
      have e : ∀ k : Int, 1 ≤ k → k ≤ 11 → (t.kind == k) = false := fun k h1 h2 => by simp; omega
      simp only [e 1 (by omega) (by omega), e 2 (by omega) (by omega), e 3 (by omega) (by omega), e 4 (by omega) (by omega), e 5 (by omega) (by omega), e 6 (by omega) (by omega), e 7 (by omega) (by omega), e 8 (by omega) (by omega),
        e 9 (by omega) (by omega), e 10 (by omega) (by omega), e 11 (by omega) (by omega), cond_false, zwv, Option.bind_some]
    | _ hk => simp only [hk]; rfl
theorem Z0w (t : Term) (h : bkT t ≤ 268435456) : z9o t = some (bu t) := zid _ t h (Nat.le_refl _)
end Go.Proofs.Ytiapdjdhaclmnaa

namespace Go.Proofs.Ytiapdjdhaclmnaa
open Go Aw
set_option linter.unusedVariables false
set_option linter.unusedSimpArgs false
set_option maxRecDepth 8000
def c3 (a b : Int) : Int := if a < b then -1 else if a > b then 1 else 0
def th (c d : Int) : Int := if c = 0 then d else c
def z4r : List Int → List Int → Int
  | [], [] => 0
  | [], _ :: _ => -1
  | _ :: _, [] => 1
  | a :: x, b :: y => th (c3 a b) (z4r x y)
theorem zmo (a b : Int) : c3 a b = -1 ∨ c3 a b = 0 ∨ c3 a b = 1 := by unfold c3; split; (· exact .inl rfl); split; (· exact .inr (.inr rfl)); exact .inr (.inl rfl)
theorem Z2v (a b : Int) : c3 b a = - c3 a b := by unfold c3; split <;> split <;> (try split) <;> (try split) <;> omega
theorem c3_zero {a b : Int} : c3 a b = 0 ↔ a = b := by unfold c3; split <;> (try split) <;> omega
theorem zkf (a : Int) : c3 a a = 0 := c3_zero.2 rfl
theorem c3_lt {a b : Int} : c3 a b = -1 ↔ a < b := by unfold c3; split <;> (try split) <;> omega
theorem zvv (a b k : Int) : c3 (a + k) (b + k) = c3 a b := by unfold c3; split <;> split <;> (try split) <;> (try split) <;> omega
theorem z84 (a b c : Int) : th (th a b) c = th a (th b c) := by unfold th; by_cases h : a = 0 <;> by_cases h2 : b = 0 <;> simp_all
theorem zm4 : ∀ x y, z4r x y = -1 ∨ z4r x y = 0 ∨ z4r x y = 1
  | [], [] => .inr (.inl rfl)
  | [], _ :: _ => .inl rfl
  | _ :: _, [] => .inr (.inr rfl)
  | a :: x, b :: y => by
    rw [z4r]; unfold th; split
    · exact zm4 x y
    · exact zmo a b
theorem z8h : ∀ x y, z4r y x = - z4r x y
  | [], [] => rfl
  | [], _ :: _ => rfl
  | _ :: _, [] => rfl
  | a :: x, b :: y => by
    have := z8h x y
    have := Z2v a b
    rw [z4r, z4r]; unfold th; split <;> split <;> omega
/-- Through a third: z4r is that of a total order. -/
theorem z8g : ∀ x y z, z4r x y ≤ 0 → z4r y z ≤ 0 → z4r x z ≤ 0 ∧ (z4r x y < 0 ∨ z4r y z < 0 → z4r x z < 0)
  | [], [], [], _, _ => by simp [z4r]
  | [], [], _ :: _, _, _ => by simp [z4r]
  | [], _ :: _, [], _, h => by simp [z4r] at h
  | [], _ :: _, _ :: _, _, _ => by simp [z4r]
  | _ :: _, [], _, h, _ => by simp [z4r] at h
  | _ :: _, _ :: _, [], _, h => by simp [z4r] at h
  | a :: x, b :: y, c :: z, h1, h2 => by
    have ih := z8g x y z
    have ra := zmo a b; have rb := zmo b c; have rc := zmo a c
    have za := @c3_zero a b; have zb := @c3_zero b c; have zc := @c3_zero a c
    have la := @c3_lt a b; have lb := @c3_lt b c; have lc := @c3_lt a c
    rw [z4r] at h1 h2
    rw [z4r, z4r, z4r]
    unfold th at h1 h2 ⊢
    by_cases e1 : c3 a b = 0
    · rw [if_pos e1] at h1 ⊢
      by_cases e2 : c3 b c = 0
      · rw [if_pos e2] at h2 ⊢
        rw [if_pos (by omega : c3 a c = 0)]
        exact ih h1 h2
      · rw [if_neg e2] at h2 ⊢
        have : c3 a c = -1 := by omega
        rw [if_neg (by omega), this]; omega
    · rw [if_neg e1] at h1 ⊢
      by_cases e2 : c3 b c = 0
      · rw [if_pos e2] at h2 ⊢
        have : c3 a c = -1 := by omega
        rw [if_neg (by omega), this]; omega
      · rw [if_neg e2] at h2 ⊢
        have : c3 a c = -1 := by omega
        rw [if_neg (by omega), this]; omega
theorem zj4 (a b : Int) : (bif decide (a < b) then some (-1 : Int) else bif decide (a > b) then some 1 else some 0) = some (c3 a b) := by
  unfold c3
  by_cases h : a < b
  · rw [decide_eq_true h, if_pos h]; rfl
  · rw [decide_eq_false h, if_neg h, cond_false]
    by_cases h2 : a > b
    · rw [decide_eq_true h2, if_pos h2]; rfl
    · rw [decide_eq_false h2, if_neg h2]; rfl
/-! ### texts -/
def cmpS (a b : Str) : Int := if Op.bytesLess a b then -1 else if a == b then 0 else 1
def zac : Str → List Int
  | [] => [0]
  | c :: r => ((c.toNat : Int) + 1) :: zac r
theorem zzm (a b : UInt8) (x y : Str) : Op.bytesLess (a :: x) (b :: y) = (a < b || (a == b && Op.bytesLess x y)) := rfl
theorem zj1 (a b : UInt8) (x y : Str) : cmpS (a :: x) (b :: y) = th (c3 ((a.toNat : Int) + 1) ((b.toNat : Int) + 1)) (cmpS x y) := by
  unfold cmpS
  rw [zzm]
  rcases Nat.lt_trichotomy a.toNat b.toNat with h | h | h
  · have h1 : a < b := UInt8.lt_iff_toNat_lt.2 h
    have : c3 ((a.toNat : Int) + 1) ((b.toNat : Int) + 1) = -1 := c3_lt.2 (by omega)
    rw [this]; simp [h1, th]
  · have h1 : a = b := UInt8.toNat_inj.1 h
    subst h1
    have : c3 ((a.toNat : Int) + 1) ((a.toNat : Int) + 1) = 0 := zkf _
    rw [this]
    have h2 : ¬ a < a := by rw [UInt8.lt_iff_toNat_lt]; omega
    simp [h2, th]
  · have h1 : ¬ a < b := by rw [UInt8.lt_iff_toNat_lt]; omega
    have h2 : (a == b) = false := by rw [beq_eq_false_iff_ne]; intro e; subst e; omega
    have : c3 ((a.toNat : Int) + 1) ((b.toNat : Int) + 1) = 1 := by unfold c3; rw [if_neg (by omega), if_pos (by omega)]
    have h3 : a ≠ b := by simpa using h2
    rw [this]; simp [h1, h2, th, h3]
theorem zfd : ∀ (a b : Str) (r s : List Int), z4r (zac a ++ r) (zac b ++ s) = th (cmpS a b) (z4r r s)
  | [], [], r, s => by show th (c3 0 0) _ = _; rfl
  | [], b :: y, r, s => by
    have : c3 0 ((b.toNat : Int) + 1) = -1 := c3_lt.2 (by omega)
    show th (c3 0 ((b.toNat : Int) + 1)) _ = _
    rw [this]; rfl
  | a :: x, [], r, s => by
    have : c3 ((a.toNat : Int) + 1) 0 = 1 := by unfold c3; rw [if_neg (by omega), if_pos (by omega)]
    show th (c3 ((a.toNat : Int) + 1) 0) _ = _
    rw [this]; rfl
  | a :: x, b :: y, r, s => by
    show th (c3 ((a.toNat : Int) + 1) ((b.toNat : Int) + 1)) (z4r (zac x ++ r) (zac y ++ s)) = _
    rw [zfd x y r s, zj1, z84]
theorem zqb (a b : Str) : zjs a b = some (cmpS a b) := by
  simp only [zjs, cmpS]
  cases h : Op.bytesLess a b with
  | true => rfl
  | false => simp only [cond_false, Bool.false_or, Bool.false_eq_true, if_false]; cases a == b <;> rfl
/-! ### values -/
def trI (b : Bool) : Int := if b then 1 else 0
noncomputable def plV (f : Nat) : Int := if zzx .u64 (f : Int) 63 = 1 then Z4c .u64 f else orK .u64 f 9223372036854775808
mutual
noncomputable def z4x : V → V → Int
  | .bool a, y => match y with | .bool b => c3 (trI a) (trI b) | y => c3 2 (z1m y)
  | .int a, y => match y with | .int b => c3 a b | y => c3 3 (z1m y)
  | .float a, y => match y with | .float b => c3 (plV a) (plV b) | y => c3 4 (z1m y)
  | .text a, y => match y with | .text b => cmpS a b | y => c3 5 (z1m y)
  | .bytes a, y => match y with | .bytes b => cmpS a b | y => c3 6 (z1m y)
  | .ref a, y => match y with | .ref b => c3 a b | y => c3 7 (z1m y)
  | .list a, y => match y with | .list b => zi8 a b | y => c3 8 (z1m y)
  | .dict a, y => match y with | .dict b => ze9 a b | y => c3 9 (z1m y)
  | .record c v a, y => match y with | .record c' v' b => th (cmpS c c') (th (c3 v v') (ze9 a b)) | y => c3 10 (z1m y)
  | .nil, y => c3 1 (z1m y)
  | .nothing, y => c3 11 (z1m y)
  | .alien _, y => c3 0 (z1m y)
noncomputable def zi8 : List V → List V → Int
  | [], y => match y with | [] => 0 | _ :: _ => -1
  | a :: x, y => match y with | [] => 1 | b :: y => th (z4x a b) (zi8 x y)
noncomputable def ze9 : List (Str × V) → List (Str × V) → Int
  | [], y => match y with | [] => 0 | _ :: _ => -1
  | (s, a) :: x, y => match y with | [] => 1 | (t, b) :: y => th (th (cmpS s t) (z4x a b)) (ze9 x y)
end
mutual
noncomputable def key : V → List Int
  | .nil => [1]
  | .bool b => [2, trI b]
  | .int i => [3, i]
  | .float f => [4, plV f]
  | .text s => 5 :: zac s
  | .bytes s => 6 :: zac s
  | .ref i => [7, i]
  | .list l => 8 :: zk5 l
  | .dict l => 9 :: zfe l
  | .record c v l => 10 :: (zac c ++ (v :: zfe l))
  | .nothing => [11]
  | .alien _ => [0]
noncomputable def zk5 : List V → List Int
  | [] => [0]
  | x :: r => 1 :: (key x ++ zk5 r)
noncomputable def zfe : List (Str × V) → List Int
  | [] => [0]
  | (s, x) :: r => 1 :: (zac s ++ (key x ++ zfe r))
end
theorem z52 (a b : Int) : th (c3 a a) b = b := by rw [zkf]; rfl
theorem zjd (b : Int) : th b 0 = b := by unfold th; split <;> simp_all
theorem zm7 (x : V) : ∃ r, key x = z1m x :: r := by cases x <;> exact ⟨_, by rw [key]; rfl⟩
theorem z6p {x y : V} (h : z1m x ≠ z1m y) (r s : List Int) : z4r (key x ++ r) (key y ++ s) = th (c3 (z1m x) (z1m y)) (z4r r s) := by
  obtain ⟨a, ha⟩ := zm7 x
  obtain ⟨b, hb⟩ := zm7 y
  rw [ha, hb]
  show th (c3 _ _) _ = _
  have : c3 (z1m x) (z1m y) ≠ 0 := fun e => h (c3_zero.1 e)
  unfold th; rw [if_neg this, if_neg this]
mutual
theorem zz3 : ∀ (x y : V) (r s : List Int), z4r (key x ++ r) (key y ++ s) = th (z4x x y) (z4r r s)
  | .nil, y, r, s => by
    cases y <;> first | (refine z6p (x := .nil) ?_ r s; simp [z1m]; done) | (rw [key]; show th (c3 1 1) _ = _; rw [z4x]; rfl)
  | .nothing, y, r, s => by
    cases y <;> first | (refine z6p (x := .nothing) ?_ r s; simp [z1m]; done) | (rw [key]; show th (c3 11 11) _ = _; rw [z4x]; rfl)
  | .alien t, y, r, s => by
    cases y <;> first | (refine z6p (x := .alien t) ?_ r s; simp [z1m]; done) | (rw [key, key]; show th (c3 0 0) _ = _; rw [z4x]; rfl)
  | .bool a, y, r, s => by
    cases y <;> first | (refine z6p (x := .bool a) ?_ r s; simp [z1m]; done) | (rw [key, key, z4x]; show th (c3 2 2) (th _ _) = _; rw [z52]; rfl)
  | .int a, y, r, s => by
    cases y <;> first | (refine z6p (x := .int a) ?_ r s; simp [z1m]; done) | (rw [key, key, z4x]; show th (c3 3 3) (th _ _) = _; rw [z52]; rfl)
  | .float a, y, r, s => by
    cases y <;> first | (refine z6p (x := .float a) ?_ r s; simp [z1m]; done) | (rw [key, key, z4x]; show th (c3 4 4) (th _ _) = _; rw [z52]; rfl)
  | .ref a, y, r, s => by
    cases y <;> first | (refine z6p (x := .ref a) ?_ r s; simp [z1m]; done) | (rw [key, key, z4x]; show th (c3 7 7) (th _ _) = _; rw [z52]; rfl)
  | .text a, y, r, s => by
    cases y <;> first | (refine z6p (x := .text a) ?_ r s; simp [z1m]; done) | (rw [key, key, z4x]; show th (c3 5 5) (z4r (zac _ ++ r) (zac _ ++ s)) = _; rw [z52, zfd])
  | .bytes a, y, r, s => by
    cases y <;> first | (refine z6p (x := .bytes a) ?_ r s; simp [z1m]; done) | (rw [key, key, z4x]; show th (c3 6 6) (z4r (zac _ ++ r) (zac _ ++ s)) = _; rw [z52, zfd])
  | .list a, y, r, s => by
    cases y <;> first | (refine z6p (x := .list a) ?_ r s; simp [z1m]; done) | (rw [key, key, z4x]; show th (c3 8 8) (z4r (zk5 _ ++ r) (zk5 _ ++ s)) = _; rw [z52, zxi])
  | .dict a, y, r, s => by
    cases y <;> first | (refine z6p (x := .dict a) ?_ r s; simp [z1m]; done) | (rw [key, key, z4x]; show th (c3 9 9) (z4r (zfe _ ++ r) (zfe _ ++ s)) = _; rw [z52, zs2])
  | .record c v a, y, r, s => by
    cases y <;> first
      | (refine z6p (x := .record c v a) ?_ r s; simp [z1m]; done)
      | (rw [key, key, z4x]
         show th (c3 10 10) (z4r ((zac _ ++ (_ :: zfe _)) ++ r) ((zac _ ++ (_ :: zfe _)) ++ s)) = _
         rw [z52, List.append_assoc, List.append_assoc, zfd]
         show th _ (th (c3 _ _) (z4r (zfe _ ++ r) (zfe _ ++ s))) = _
         rw [zs2, z84, z84])
theorem zxi : ∀ (x y : List V) (r s : List Int), z4r (zk5 x ++ r) (zk5 y ++ s) = th (zi8 x y) (z4r r s)
  | [], [], r, s => by rw [zk5, zi8]; rfl
  | [], b :: y, r, s => by rw [zk5, zk5, zi8]; rfl
  | a :: x, [], r, s => by rw [zk5, zk5, zi8]; rfl
  | a :: x, b :: y, r, s => by
    rw [zk5, zk5, zi8]
    show th (c3 1 1) (z4r ((key a ++ zk5 x) ++ r) ((key b ++ zk5 y) ++ s)) = _
    rw [z52, List.append_assoc, List.append_assoc, zz3 a b, zxi x y r s, z84]
theorem zs2 : ∀ (x y : List (Str × V)) (r s : List Int), z4r (zfe x ++ r) (zfe y ++ s) = th (ze9 x y) (z4r r s)
  | [], [], r, s => by rw [zfe, ze9]; rfl
  | [], (t, b) :: y, r, s => by rw [zfe, zfe, ze9]; rfl
  | (u, a) :: x, [], r, s => by rw [zfe, zfe, ze9]; rfl
  | (u, a) :: x, (t, b) :: y, r, s => by
    rw [zfe, zfe, ze9]
    show th (c3 1 1) (z4r ((zac u ++ (key a ++ zfe x)) ++ r) ((zac t ++ (key b ++ zfe y)) ++ s)) = _
    simp only [List.append_assoc]
    rw [z52, zfd, zz3 a b, zs2 x y r s, z84, z84]
end
theorem zg3 (x y : V) : z4x x y = z4r (key x) (key y) := by
  have := zz3 x y [] []
  rw [List.append_nil, List.append_nil] at this
  rw [this]; exact (zjd _).symm
end Go.Proofs.Ytiapdjdhaclmnaa

namespace Go.Proofs.Ytiapdjdhaclmnaa
open Go Aw
set_option linter.unusedVariables false
set_option linter.unusedSimpArgs false
set_option maxRecDepth 8000
def Fine (x : V) : Prop := ∃ n dp d, (z2l x n dp d).ok = true
theorem zi5 {d : Int} : ∀ {l : List V} {n dp : Int}, (z3d l n dp d).ok = true → ∀ y, y ∈ l → ∃ n dp, (z2l y n dp d).ok = true
  | x :: r, n, dp, h, y, hy => by
    rw [z2u] at h
    cases hk : (z2l x n dp d).ok with
    | false => rw [if_neg (by simp [hk])] at h; rw [hk] at h; cases h
    | true =>
      rw [if_pos hk] at h
      rcases List.mem_cons.1 hy with rfl | hy
      · exact ⟨n, dp, hk⟩
      · exact zi5 h y hy
theorem Fine.own {x : V} (h : Fine x) : z3e x = 0 ∧ ∀ y, y ∈ x.parts → Fine y := by
  obtain ⟨n, dp, d, h⟩ := h
  rw [z46] at h
  split at h
  · rename_i ho
    exact ⟨(z88 ho).2.2, fun y hy => let ⟨n', dp', h'⟩ := zi5 h y hy; ⟨n', dp', _, h'⟩⟩
  · cases h
theorem z51 {x : V} (h : (z21 x).2 = 0) : Fine x ∧ z21 x = (0, 0) := by
  unfold z21 at h ⊢
  cases hk : (z2l x 0 0 1).ok with
  | true => exact ⟨⟨0, 0, 1, hk⟩, rfl⟩
  | false =>
    rw [if_neg (by simp [hk])] at h
    exact absurd h ((z6j x 1 0 0).bad hk)
theorem Z36 {a : Int} (h : a ≠ 0) : (a != 0) = true := by simpa using h
theorem zdu {l : List Str} (h : z5a l = 0) : l.length ≤ 4096 := by
  unfold z5a at h
  split at h
  · cases h
  · omega
theorem zrp {l : List V} (h : z3e (.list l) = 0) : l.length ≤ 4096 := by
  simp only [z3e] at h
  split at h
  · cases h
  · omega
theorem zuq {c : Str} {v : Int} {l : List (Str × V)} (h : z3e (.record c v l) = 0) : (1 ≤ v ∧ v ≤ 1000) ∧ l.length ≤ 4096 := by
  simp only [z3e] at h
  split at h
  · cases h
  · split at h
    · cases h
    · have := zdu h; rw [List.length_map] at this; omega
theorem zdn {l : List (Str × V)} (h : z3e (.dict l) = 0) : l.length ≤ 4096 := by
  have := zdu h; rwa [List.length_map] at this
end Go.Proofs.Ytiapdjdhaclmnaa

namespace Go.Proofs.Ytiapdjdhaclmnaa
open Go Aw
set_option linter.unusedVariables false
set_option linter.unusedSimpArgs false
set_option maxRecDepth 8000
/-! ### values that can be -/
theorem zpu (a b : Int) : znt a b = some (c3 a b) := zj4 a b
theorem Z19 (a b : Int) : zu5 a b = some (c3 a b) := zj4 a b
theorem Z1a (a b : Int) : zu6 a b = some (c3 a b) := zj4 a b
theorem zbv (a b : Int) : zu7 a b = some (c3 a b) := zj4 a b
theorem Z15 (b : Bool) : zqu b = some (trI b) := by cases b <;> rfl
theorem Z12 (f : Nat) : znn f = some (plV f) := by
  unfold znn plV
  by_cases h : zzx .u64 (f : Int) 63 = 1
  · rw [if_pos h, h]; rfl
  · rw [if_neg h]
    have : (zzx .u64 (f : Int) 63 == 1) = false := by simpa using h
    rw [this]; rfl
theorem Z4n {i n : Nat} (h : n ≤ i) : decide ((i : Int) ≥ (n : Int)) = true := decide_eq_true (by omega)
theorem Z4o {i n : Nat} (h : ¬ n ≤ i) : decide ((i : Int) ≥ (n : Int)) = false := decide_eq_false (by omega)
theorem zcn (c d : Int) : (bif c != 0 then some c else some d) = some (th c d) := by
  unfold th
  by_cases h : c = 0
  · subst h; rfl
  · have : (c != 0) = true := by simpa using h
    rw [this, if_neg h]; rfl
theorem zkg (a b : UInt8) : zqz a b = some (c3 ((a.toNat : Int) + 1) ((b.toNat : Int) + 1)) := by
  have h1 : ∀ x : UInt8, znx x = some false := fun x => by unfold znx; simp
  simp only [zqz, h1, Option.bind_some, cond_false, zvv]
  exact zj4 _ _
theorem zt4 (a b : Str) : ∀ k i, k + i = a.length → i ≤ b.length → zhu a b i = some (cmpS (a.drop i) (b.drop i))
  | 0, i, h, hb => by
    rw [zht]
    simp only [z73, z7n (by omega : ¬ i < a.length), cond_false]
    rw [List.drop_of_length_le (by omega : a.length ≤ i)]
    by_cases hl : a.length < b.length
    · obtain ⟨y, hy, hd⟩ := dropc (by omega : i < b.length)
      rw [z7o hl, hd]; rfl
    · rw [z7n hl, List.drop_of_length_le (by omega : b.length ≤ i)]; rfl
  | k + 1, i, h, hb => by
    obtain ⟨x, hx, hdx⟩ := dropc (by omega : i < a.length)
    rw [zht]
    simp only [z73, z7o (by omega : i < a.length), cond_true, hx, Option.bind_some]
    by_cases hl : i < b.length
    · obtain ⟨y, hy, hdy⟩ := dropc hl
      rw [Z4o (by omega : ¬ b.length ≤ i), hdx, hdy, zj1]
      simp only [cond_false, hy, Option.bind_some, zkg, zt4 a b k (i + 1) (by omega) (by omega), zcn]
    · rw [Z4n (by omega : b.length ≤ i), hdx, List.drop_of_length_le (by omega : b.length ≤ i)]; rfl
theorem zj5 (a b : Str) : zu8 a b = some (cmpS a b) := zt4 a b a.length 0 (by omega) (by omega)
theorem Z64 (a b : List V) (hab : ∀ x, x ∈ a → ∀ y, y ∈ b → z9p x y = some (z4x x y)) : ∀ k i, k + i = a.length → i ≤ b.length → zf6 z9p a b i = some (zi8 (a.drop i) (b.drop i))
  | 0, i, h, hb => by
    rw [zi2]
    simp only [z69, z7n (by omega : ¬ i < a.length), cond_false]
    rw [List.drop_of_length_le (by omega : a.length ≤ i)]
    by_cases hl : a.length < b.length
    · obtain ⟨y, hy, hd⟩ := dropc (by omega : i < b.length)
      rw [z7o hl, hd, zi8]; rfl
    · rw [z7n hl, List.drop_of_length_le (by omega : b.length ≤ i), zi8]; rfl
  | k + 1, i, h, hb => by
    obtain ⟨x, hx, hdx⟩ := dropc (by omega : i < a.length)
    rw [zi2]
    simp only [z69, z7o (by omega : i < a.length), cond_true, hx, Option.bind_some]
    by_cases hl : i < b.length
    · obtain ⟨y, hy, hdy⟩ := dropc hl
      rw [Z4o (by omega : ¬ b.length ≤ i), hdx, hdy, zi8]
      simp only [cond_false, hy, Option.bind_some, hab x (List.mem_of_getElem? hx) y (List.mem_of_getElem? hy), Z64 a b hab k (i + 1) (by omega) (by omega), zcn]
    · rw [Z4n (by omega : b.length ≤ i), hdx, List.drop_of_length_le (by omega : b.length ≤ i), zi8]; rfl
theorem zvj (p q : Str × V) (h : z9p p.2 q.2 = some (z4x p.2 q.2)) : zjp p q = some (th (cmpS p.1 q.1) (z4x p.2 q.2)) := by
  rw [Z5f, zkp]
  simp only [zqb, Option.bind_some, h, zcn]
theorem Z66 (a b : List (Str × V)) (hab : ∀ x, x ∈ a → ∀ y, y ∈ b → z9p x.2 y.2 = some (z4x x.2 y.2)) : ∀ k i, k + i = a.length → i ≤ b.length → zf7 zjp a b i = some (ze9 (a.drop i) (b.drop i))
  | 0, i, h, hb => by
    rw [zi3]
    simp only [z6a, z7n (by omega : ¬ i < a.length), cond_false]
    rw [List.drop_of_length_le (by omega : a.length ≤ i)]
    by_cases hl : a.length < b.length
    · obtain ⟨y, hy, hd⟩ := dropc (by omega : i < b.length)
      rw [z7o hl, hd, ze9]; rfl
    · rw [z7n hl, List.drop_of_length_le (by omega : b.length ≤ i), ze9]; rfl
  | k + 1, i, h, hb => by
    obtain ⟨x, hx, hdx⟩ := dropc (by omega : i < a.length)
    rw [zi3]
    simp only [z6a, z7o (by omega : i < a.length), cond_true, hx, Option.bind_some]
    obtain ⟨sx, vx⟩ := x
    by_cases hl : i < b.length
    · obtain ⟨y, hy, hdy⟩ := dropc hl
      obtain ⟨sy, vy⟩ := y
      rw [Z4o (by omega : ¬ b.length ≤ i), hdx, hdy, ze9]
      simp only [cond_false, hy, Option.bind_some, zvj _ _ (hab _ (List.mem_of_getElem? hx) _ (List.mem_of_getElem? hy)), Z66 a b hab k (i + 1) (by omega) (by omega), zcn]
    · rw [Z4n (by omega : b.length ≤ i), hdx, List.drop_of_length_le (by omega : b.length ≤ i), ze9]; rfl
theorem zsu (a b : List (Str × V)) (hab : ∀ x, x ∈ a → ∀ y, y ∈ b → z9p x.2 y.2 = some (z4x x.2 y.2)) : zo0 a b = some (ze9 a b) := by
  rw [Z5w, zl7]
  exact Z66 a b hab a.length 0 (by omega) (by omega)
theorem zz1 (a b : List V) (hab : ∀ x, x ∈ a → ∀ y, y ∈ b → z9p x y = some (z4x x y)) : znz a b = some (zi8 a b) := by
  rw [Z5v, zl6]
  exact Z64 a b hab a.length 0 (by omega) (by omega)
theorem zr8 {x y : V} (h : z1m x ≠ z1m y) : z4x x y = c3 (z1m x) (z1m y) := by
  rw [zg3]
  have := z6p h [] []
  rw [List.append_nil, List.append_nil] at this
  rw [this]; exact zjd _
theorem Z17 (x : V) : ∀ y, Fine x → Fine y → z9p x y = some (z4x x y) := by
  induction x using V.byParts with
  | _ x ih =>
  intro y hx hy
  have hpx := hx.own.2
  have hpy := hy.own.2
  have e0 : ((0 : Int) != 0) = false := rfl
  rw [Z5i, zkt]
  simp only [zlk, zpu, Option.bind_some]
  by_cases hk : z1m x = z1m y
  · rw [hk, zkf, e0, cond_false]
    cases x with
    | nil => cases y <;> first | (simp [z1m] at hk; done) | (rw [z4x]; rfl)
    | nothing => have := hx.own.1; simp [z3e] at this
    | alien t => have := hx.own.1; simp [z3e] at this
    | bool a => cases y <;> first | (simp [z1m] at hk; done) | (rw [z4x]; simp only [V.isBool, V.asBool, V.theBool, cond_true, Z15, Option.bind_some, zpu])
    | int a => cases y <;> first | (simp [z1m] at hk; done) | (rw [z4x]; simp only [V.isBool, V.isInt, V.asInt, V.theInt, cond_true, cond_false, Option.bind_some, Z19])
    | float a => cases y <;> first | (simp [z1m] at hk; done) | (rw [z4x]; simp only [V.isBool, V.isInt, V.isFloat, V.asFloat, V.theFloat, cond_true, cond_false, Option.bind_some, Z12, Z1a])
    | text a => cases y <;> first | (simp [z1m] at hk; done) | (rw [z4x]; simp only [V.isBool, V.isInt, V.isFloat, V.isText, V.asText, V.theText, cond_true, cond_false, Option.bind_some, zqb])
    | bytes a => cases y <;> first | (simp [z1m] at hk; done) | (rw [z4x]; simp only [V.isBool, V.isInt, V.isFloat, V.isText, V.isBytes, V.asBytes, V.theBytes, cond_true, cond_false, Option.bind_some, zj5])
    | ref a => cases y <;> first | (simp [z1m] at hk; done) | (rw [z4x]; simp only [V.isBool, V.isInt, V.isFloat, V.isText, V.isBytes, V.isRef, V.asRef, V.theRef, cond_true, cond_false, Option.bind_some, zbv])
    | list a =>
      cases y <;> first
        | (simp [z1m] at hk; done)
        | (rename_i b
           rw [z4x]
           simp only [V.isBool, V.isInt, V.isFloat, V.isText, V.isBytes, V.isRef, V.isList, V.asList, V.theList, cond_true, cond_false, Option.bind_some]
           rw [zz1 a b (fun u hu v hv => ih u hu v (hpx u hu) (hpy v hv))]; rfl)
    | dict a =>
      cases y <;> first
        | (simp [z1m] at hk; done)
        | (rename_i b
           rw [z4x]
           simp only [V.isBool, V.isInt, V.isFloat, V.isText, V.isBytes, V.isRef, V.isList, V.isDict, V.asDict, V.theDict, cond_true, cond_false, Option.bind_some]
           rw [zsu a b (fun u hu v hv => ih u.2 (List.mem_map_of_mem hu) v.2 (hpx _ (List.mem_map_of_mem hu)) (hpy _ (List.mem_map_of_mem hv)))]; rfl)
    | record c v a =>
      cases y <;> first
        | (simp [z1m] at hk; done)
        | (rename_i b
           rw [z4x]
           simp only [V.isBool, V.isInt, V.isFloat, V.isText, V.isBytes, V.isRef, V.isList, V.isDict, V.isRec, V.asRec, V.theRec, cond_true, cond_false, Option.bind_some, zqb, zpu]
           rw [zsu a b (fun u hu v hv => ih u.2 (List.mem_map_of_mem hu) v.2 (hpx _ (List.mem_map_of_mem hu)) (hpy _ (List.mem_map_of_mem hv)))]
           simp only [Option.bind_some, zcn])
  · have h2 : c3 (z1m x) (z1m y) ≠ 0 := fun e => hk (c3_zero.1 e)
    have e1 : (c3 (z1m x) (z1m y) != 0) = true := by simpa using h2
    rw [e1, cond_true, zr8 hk]
/-! ### Order and Same -/
noncomputable def zgt (x y : V) : Bool := (z21 x).2 == 0 && ((z21 y).2 == 0 && z4x x y == 0)
theorem Z11 (x y : V) : zqr x y = some (zgt x y) := by
  simp only [zqr, zll, Option.bind_some, zgt]
  by_cases hx : (z21 x).2 = 0
  · have ex : ((z21 x).2 == 0) = true := by simpa using hx
    rw [ex, cond_true, Bool.true_and]
    by_cases hy : (z21 y).2 = 0
    · have ey : ((z21 y).2 == 0) = true := by simpa using hy
      rw [ey, cond_true, Bool.true_and, Z17 x y (z51 hx).1 (z51 hy).1]; rfl
    · have ey : ((z21 y).2 == 0) = false := by simpa using hy
      rw [ey]; rfl
  · have ex : ((z21 x).2 == 0) = false := by simpa using hx
    rw [ex]; rfl
end Go.Proofs.Ytiapdjdhaclmnaa

namespace Go.Proofs.Ytiapdjdhaclmnaa
open Go Aw
set_option linter.unusedVariables false
set_option linter.unusedSimpArgs false
set_option maxRecDepth 8000
mutual
def cnt : V → Int
  | .list l => 1 + cntL l
  | .dict l => 1 + zog l
  | .record _ _ l => 1 + zog l
  | _ => 1
def cntL : List V → Int
  | [] => 0
  | x :: r => cnt x + cntL r
def zog : List (Str × V) → Int
  | [] => 0
  | (_, x) :: r => cnt x + zog r
end
mutual
def dpt : V → Int
  | .list l => 1 + dptL l
  | .dict l => 1 + Z00 l
  | .record _ _ l => 1 + Z00 l
  | _ => 1
def dptL : List V → Int
  | [] => 0
  | x :: r => max (dpt x) (dptL r)
def Z00 : List (Str × V) → Int
  | [] => 0
  | (_, x) :: r => max (dpt x) (Z00 r)
end
theorem za5 : ∀ l, zog l = cntL (l.map (·.2))
  | [] => by simp only [zog, cntL, List.map_nil]
  | (s, x) :: r => by simp only [zog, cntL, List.map_cons, za5 r]
theorem zmj : ∀ l, Z00 l = dptL (l.map (·.2))
  | [] => by simp only [Z00, dptL, List.map_nil]
  | (s, x) :: r => by simp only [Z00, dptL, List.map_cons, zmj r]
theorem zml (x : V) : cnt x = 1 + cntL x.parts := by cases x <;> simp only [cnt, V.parts, za5, cntL] <;> rfl
theorem ziw (x : V) : dpt x = 1 + dptL x.parts := by cases x <;> simp only [dpt, V.parts, zmj, dptL] <;> rfl
/-- Nothing is wrong with it, but for how many and how deep. -/
inductive Near : V → Prop
  | mk {x : V} : z3e x = 0 → (∀ y, y ∈ x.parts → Near y) → Near x
theorem Near.own {x : V} (h : Near x) : z3e x = 0 := by cases h; assumption
theorem Near.part {x : V} (h : Near x) : ∀ y, y ∈ x.parts → Near y := by cases h; assumption
theorem z4i (x : V) : 1 ≤ cnt x ∧ 1 ≤ dpt x := by
  induction x using V.byParts with
  | _ x ih =>
    rw [zml, ziw]
    have : ∀ l : List V, (∀ y, y ∈ l → 1 ≤ cnt y ∧ 1 ≤ dpt y) → 0 ≤ cntL l ∧ 0 ≤ dptL l := by
      intro l
      induction l with
      | nil => intro _; simp [cntL, dptL]
      | cons y r ihr =>
        intro h
        have h1 := h y (by simp)
        have h2 := ihr (fun z hz => h z (by simp [hz]))
        simp only [cntL, dptL]; omega
    have := this x.parts ih
    omega
theorem own_iff {x : V} {n d : Int} : z89 x n d = 0 ↔ n < 16384 ∧ d ≤ 64 ∧ z3e x = 0 := by
  constructor
  · exact z88
  · rintro ⟨h1, h2, h3⟩
    unfold z89; rw [if_neg (by omega)]; exact h3
theorem zur {x : V} (h : z3e x = 0) : zvk x = 2 := by cases x <;> first | rfl | (simp [z3e] at h)
/-- How a count goes, whatever was counted ahead. -/
structure Goes (x : V) : Prop where
  yes : ∀ n dp d, Near x → d - 1 ≤ dp → n + cnt x ≤ 16384 → d + dpt x - 1 ≤ 64 → z2l x n dp d = ⟨true, n + cnt x, max dp (d + dpt x - 1), 0⟩
  ok : ∀ n dp d, (z2l x n dp d).ok = true → Near x ∧ n + cnt x ≤ 16384 ∧ d + dpt x - 1 ≤ 64 ∧ (z2l x n dp d).n = n + cnt x
  long : ∀ n dp d, Near x → (z2l x n dp d).ok = false → (z2l x n dp d).why = 2
theorem Z1s {l : List V} (h : ∀ y, y ∈ l → Goes y) :
    (∀ n dp d, (∀ y, y ∈ l → Near y) → d - 1 ≤ dp → n + cntL l ≤ 16384 → d + dptL l - 1 ≤ 64 → z3d l n dp d = ⟨true, n + cntL l, max dp (d + dptL l - 1), 0⟩) ∧
    (∀ n dp d, n ≤ 16384 → d ≤ 65 → (z3d l n dp d).ok = true → (∀ y, y ∈ l → Near y) ∧ n + cntL l ≤ 16384 ∧ d + dptL l - 1 ≤ 64 ∧ (z3d l n dp d).n = n + cntL l) ∧
    (∀ n dp d, (∀ y, y ∈ l → Near y) → (z3d l n dp d).ok = false → (z3d l n dp d).why = 2) := by
  induction l with
  | nil =>
    refine ⟨fun n dp d _ hd _ _ => ?_, fun n dp d hn hd _ => ?_, fun n dp d _ hk => ?_⟩
    · rw [z3h, cntL, dptL]; congr 1 <;> omega
    · rw [z3h, cntL, dptL]; exact ⟨by simp, by omega, by omega, by simp⟩
    · rw [z3h] at hk; cases hk
  | cons x r ih =>
    have hx := h x (by simp)
    obtain ⟨i1, i2, i3⟩ := ih (fun y hy => h y (by simp [hy]))
    have hp := z4i x
    have hr : 0 ≤ cntL r ∧ 0 ≤ dptL r := by
      clear i1 i2 i3 ih h hx
      induction r with
      | nil => simp [cntL, dptL]
      | cons y q ihq => have := z4i y; simp only [cntL, dptL]; omega
    refine ⟨fun n dp d hnr hd hn hdd => ?_, fun n dp d hn hd hk => ?_, fun n dp d hnr hk => ?_⟩
    · rw [cntL] at hn ⊢
      rw [dptL] at hdd ⊢
      have e := hx.yes n dp d (hnr x (by simp)) hd (by omega) (by omega)
      rw [z2u, e, if_pos rfl]
      rw [i1 _ _ d (fun y hy => hnr y (by simp [hy])) (by simp only; omega) (by simp only; omega) (by omega)]
      congr 1
      · simp only; omega
      · simp only; omega
    · rw [z2u] at hk ⊢
      cases hk1 : (z2l x n dp d).ok with
      | false => rw [if_neg (by simp [hk1])] at hk; rw [hk1] at hk; cases hk
      | true =>
        rw [if_pos hk1] at hk
        rw [if_pos rfl]
        obtain ⟨a1, a2, a3, a4⟩ := hx.ok n dp d hk1
        rw [a4] at hk ⊢
        obtain ⟨b1, b2, b3, b4⟩ := i2 _ _ d (by omega) hd hk
        rw [cntL, dptL]
        refine ⟨fun y hy => ?_, by omega, by omega, by omega⟩
        rcases List.mem_cons.1 hy with rfl | hy
        · exact a1
        · exact b1 y hy
    · rw [z2u] at hk ⊢
      cases hk1 : (z2l x n dp d).ok with
      | false => rw [if_neg (by simp [hk1])]; exact hx.long n dp d (hnr x (by simp)) hk1
      | true =>
        rw [if_pos hk1] at hk
        rw [if_pos rfl]
        exact i3 _ _ d (fun y hy => hnr y (by simp [hy])) hk
theorem goes (x : V) : Goes x := by
  induction x using V.byParts with
  | _ x ih =>
    obtain ⟨i1, i2, i3⟩ := Z1s ih
    have hp := z4i x
    refine ⟨fun n dp d hnr hd hn hdd => ?_, fun n dp d hk => ?_, fun n dp d hnr hk => ?_⟩
    · rw [z46, if_pos (own_iff.2 ⟨by omega, by omega, hnr.own⟩)]
      rw [zml] at hn ⊢
      rw [ziw] at hdd ⊢
      have hd0 := hp.2
      rw [ziw] at hd0
      rw [i1 _ _ (d + 1) hnr.part (by omega) (by omega) (by omega)]
      congr 1 <;> omega
    · rw [z46] at hk ⊢
      by_cases ho : z89 x n d = 0
      · rw [if_pos ho] at hk ⊢
        have h0 := z88 ho
        obtain ⟨b1, b2, b3, b4⟩ := i2 _ _ (d + 1) (by omega) (by omega) hk
        rw [zml, ziw]
        exact ⟨.mk h0.2.2 b1, by omega, by omega, by omega⟩
      · rw [if_neg ho] at hk; cases hk
    · rw [z46] at hk ⊢
      by_cases ho : z89 x n d = 0
      · rw [if_pos ho] at hk ⊢; exact i3 _ _ _ hnr.part hk
      · rw [if_neg ho]
        have : z89 x n d = zvk x := by
          unfold z89 at ho ⊢
          split
          · rfl
          · rename_i hc; rw [if_neg hc] at ho; exact absurd hnr.own ho
        show z89 x n d = 2
        rw [this]; exact zur hnr.own
/-- Near, and neither too many nor too deep. -/
def Can (x : V) : Prop := Near x ∧ cnt x ≤ 16384 ∧ dpt x ≤ 64
theorem can_ok {x : V} : (z2l x 0 0 1).ok = true ↔ Can x := by
  constructor
  · intro h
    obtain ⟨a, b, c, _⟩ := (goes x).ok 0 0 1 h
    exact ⟨a, by omega, by omega⟩
  · rintro ⟨a, b, c⟩
    rw [(goes x).yes 0 0 1 a (by omega) (by omega) (by omega)]
theorem zts {x : V} (h : Can x) : ztt x = (cnt x, dpt x, 0) := by
  have hp := z4i x
  unfold ztt
  rw [if_pos (can_ok.2 h), (goes x).yes 0 0 1 h.1 (by omega) (by have := h.2.1; omega) (by have := h.2.2; omega)]
  simp only [Prod.mk.injEq, and_true]
  omega
theorem z82 {x : V} (h : Can x) : z21 x = (0, 0) := by unfold z21; rw [if_pos (can_ok.2 h)]
theorem z81 {x : V} (h : ¬ Can x) : (z21 x).2 ≠ 0 := by
  unfold z21
  have hk : (z2l x 0 0 1).ok = false := by
    cases hk : (z2l x 0 0 1).ok with
    | false => rfl
    | true => exact absurd (can_ok.1 hk) h
  rw [if_neg (by simp [hk])]
  exact (z6j x 1 0 0).bad hk
end Go.Proofs.Ytiapdjdhaclmnaa

namespace Go.Proofs.Ytiapdjdhaclmnaa
open Go Aw
set_option linter.unusedVariables false
set_option linter.unusedSimpArgs false
set_option maxRecDepth 8000
/-! ### a value of a term, as the program makes it -/
theorem loA_ex : ∃ a, z7m (.mk 0 false 0 0 [] [] 0 [] [] [] 0) = some (.alien a) := by rw [zzj]; exact ⟨_, rfl⟩
noncomputable def loA : {t : Nat // zfk t = true} := loA_ex.choose
theorem Z1i : z7m (.mk 0 false 0 0 [] [] 0 [] [] [] 0) = some (.alien loA) := loA_ex.choose_spec
mutual
noncomputable def lo : Term → V
  | .mk k b i f t y r l d c v => if k = 1 then .nil else if k = 2 then .bool b else if k = 3 then .int i else if k = 4 then .float f else if k = 5 then .text t else if k = 6 then .bytes y else if k = 7 then .ref r
    else if k = 8 then .list (Z1h l) else if k = 9 then .dict (zzy d) else if k = 10 then .record c v (zzy d) else if k = 11 then .nothing else .alien loA
noncomputable def Z1h : List Term → List V
  | [] => []
  | x :: r => lo x :: Z1h r
noncomputable def zzy : List (Str × Term) → List (Str × V)
  | [] => []
  | (s, x) :: r => (s, lo x) :: zzy r
end
noncomputable def loE (p : Str × Term) : Str × V := (p.1, lo p.2)
theorem zm1 : ∀ l, Z1h l = l.map lo
  | [] => by rw [Z1h]; rfl
  | x :: r => by rw [Z1h, zm1 r]; rfl
theorem zm2 : ∀ l, zzy l = l.map loE
  | [] => by rw [zzy]; rfl
  | (s, x) :: r => by rw [zzy, zm2 r]; rfl
theorem zus (l : List (Str × Term)) : (l.map loE).map (·.1) = l.map (·.1) := by rw [List.map_map]; rfl
theorem zrz (l : List (Str × Term)) : (l.map loE).map (·.2) = (l.map (·.2)).map lo := by rw [List.map_map, List.map_map]; rfl
/-- Two values of one term: built, and made by the program. -/
inductive LoC (t : Term) : V → V → Prop
  | nil : t.kind = 1 → LoC t .nil .nil
  | bool : t.kind = 2 → LoC t (.bool t.bool) (.bool t.bool)
  | int : t.kind = 3 → LoC t (.int t.int) (.int t.int)
  | float : t.kind = 4 → LoC t (.float t.float) (.float t.float)
  | text : t.kind = 5 → LoC t (.text t.text) (.text t.text)
  | bytes : t.kind = 6 → LoC t (.bytes t.bytes) (.bytes t.bytes)
  | ref : t.kind = 7 → LoC t (.ref t.ref) (.ref t.ref)
  | list : t.kind = 8 → LoC t (.list (t.list.map lo)) (.list (t.list.map bu))
  | dict : t.kind = 9 → LoC t (.dict (t.fields.map loE)) (.dict (t.fields.map buE))
  | record : t.kind = 10 → LoC t (.record t.cls t.ver (t.fields.map loE)) (.record t.cls t.ver (t.fields.map buE))
  | nothing : t.kind = 11 → LoC t .nothing .nothing
  | alien : t.kind < 1 ∨ 11 < t.kind → LoC t (.alien loA) (.alien (alT t.int))
theorem Z37 (t : Term) : LoC t (lo t) (bu t) := by
  cases t with
  | mk k b i f t y r l d c v =>
    rw [lo, zm1, zm2, bu, zch, za8]
    by_cases h1 : k = 1; · rw [if_pos h1, if_pos h1]; exact .nil h1
    rw [if_neg h1, if_neg h1]
    by_cases h2 : k = 2; · rw [if_pos h2, if_pos h2]; exact .bool h2
    rw [if_neg h2, if_neg h2]
    by_cases h3 : k = 3; · rw [if_pos h3, if_pos h3]; exact .int h3
    rw [if_neg h3, if_neg h3]
    by_cases h4 : k = 4; · rw [if_pos h4, if_pos h4]; exact .float h4
    rw [if_neg h4, if_neg h4]
    by_cases h5 : k = 5; · rw [if_pos h5, if_pos h5]; exact .text h5
    rw [if_neg h5, if_neg h5]
    by_cases h6 : k = 6; · rw [if_pos h6, if_pos h6]; exact .bytes h6
    rw [if_neg h6, if_neg h6]
    by_cases h7 : k = 7; · rw [if_pos h7, if_pos h7]; exact .ref h7
    rw [if_neg h7, if_neg h7]
    by_cases h8 : k = 8; · rw [if_pos h8, if_pos h8]; exact .list h8
    rw [if_neg h8, if_neg h8]
    by_cases h9 : k = 9; · rw [if_pos h9, if_pos h9]; exact .dict h9
    rw [if_neg h9, if_neg h9]
    by_cases h10 : k = 10; · rw [if_pos h10, if_pos h10]; exact .record h10
    rw [if_neg h10, if_neg h10]
    by_cases h11 : k = 11; · rw [if_pos h11, if_pos h11]; exact .nothing h11
    rw [if_neg h11, if_neg h11]
    exact .alien (show k < 1 ∨ 11 < k by omega)
theorem zqn (t : Term) : (z3v t).map lo = (lo t).parts := by
  have hb := Z37 t
  unfold z3v
  generalize lo t = x at hb
  generalize bu t = y at hb
  cases hb with
  | list hk => rw [if_pos hk]; rfl
  | dict hk => rw [if_neg (by omega), if_pos (Or.inl hk)]; simp only [V.parts, zrz]
  | record hk => rw [if_neg (by omega), if_pos (Or.inr hk)]; simp only [V.parts, zrz]
  | _ hk => rw [if_neg (by omega), if_neg (by omega)]; rfl
theorem Z1g (t : Term) (n d : Int) : z89 (lo t) n d = z89 (bu t) n d := by
  have hb := Z37 t
  generalize lo t = x at hb
  generalize bu t = y at hb
  cases hb <;> simp only [z89, zvk, z3e, List.length_map, zus, zgl]
theorem zlz (d : Int) : ∀ (l : List Term), (∀ u, u ∈ l → ∀ n dp, z2l (lo u) n dp d = z2l (bu u) n dp d) → ∀ n dp, z3d (l.map lo) n dp d = z3d (l.map bu) n dp d
  | [], _, n, dp => rfl
  | x :: r, h, n, dp => by
    rw [List.map_cons, List.map_cons, z2u, z2u, h x (by simp)]
    split
    · exact zlz d r (fun u hu => h u (by simp [hu])) _ _
    · rfl
theorem zyy (t : Term) : ∀ n dp d, z2l (lo t) n dp d = z2l (bu t) n dp d := by
  induction t using Term.byParts with
  | _ t ih =>
  intro n dp d
  rw [z46, z46, Z1g, ← zqn, ← zdb, zlz (d + 1) (z3v t) (fun u hu n dp => ih u hu n dp (d + 1))]
theorem zm0 (t : Term) : z21 (lo t) = z21 (bu t) := by unfold z21; rw [zyy]
/-! ### the program makes it -/
theorem zoy {n b : Nat} (hb : b ≤ 1024) (hn : n ≤ 1073741824) : zjl n b = some () := by
  have h1 : n * b ≤ 1073741824 * 1024 := Nat.mul_le_mul hn hb
  unfold zjl
  rw [Nat.ble_eq_true_of_le (by omega), Nat.ble_eq_true_of_le (by omega)]; rfl
theorem Z6c (t : Term) (hl : ∀ u, u ∈ t.list → z7m u = some (lo u)) (hb : t.list.length ≤ 1073741824) : ∀ k i, k + i = t.list.length → zd1 z7m t ((t.list.take i).map lo) i = some (.list (t.list.map lo))
  | 0, i, h => by
    rw [zh8]
    simp only [z5t, z7n (by omega : ¬ i < t.list.length), cond_false]
    rw [List.take_of_length_le (by omega)]
  | k + 1, i, h => by
    obtain ⟨x, hx, _⟩ := dropc (by omega : i < t.list.length)
    rw [zh8]
    simp only [z5t, z7o (by omega : i < t.list.length), cond_true, hx, Option.bind_some, hl x (List.mem_of_getElem? hx), zto (b := 16) (by omega) (show ((t.list.take i).map lo).length ≤ 1073741824 by simp; omega), z4m hx]
    exact Z6c t hl hb k (i + 1) (by omega)
theorem Z6e (l : List (Str × Term)) (hl : ∀ u, u ∈ l → z7m u.2 = some (lo u.2)) (hb : l.length ≤ 1073741824) : ∀ k i, k + i = l.length → zen z7m l ((l.take i).map loE) i = some (l.map loE)
  | 0, i, h => by
    rw [zh2]
    simp only [z5r, z7n (by omega : ¬ i < l.length), cond_false]
    rw [List.take_of_length_le (by omega)]
  | k + 1, i, h => by
    obtain ⟨x, hx, _⟩ := dropc (by omega : i < l.length)
    rw [zh2]
    simp only [z5r, z7o (by omega : i < l.length), cond_true, hx, Option.bind_some, hl x (List.mem_of_getElem? hx), zto (b := 32) (x := (x.1, lo x.2)) (by omega) (show ((l.take i).map loE).length ≤ 1073741824 by simp; omega)]
    have : ((l.take i).map loE) ++ [(x.1, lo x.2)] = (l.take (i + 1)).map loE := z4m (f := loE) hx
    rw [this]
    exact Z6e l hl hb k (i + 1) (by omega)
theorem zoa (t : Term) (hl : ∀ u, u ∈ t.list → z7m u = some (lo u)) (hf : ∀ u, u ∈ t.fields → z7m u.2 = some (lo u.2))
    (b1 : t.list.length ≤ 1073741824) (b2 : t.fields.length ≤ 1073741824) (b3 : t.bytes.length ≤ 1073741824) : z7m t = some (lo t) := by
  have hd : zu4 t.fields = some (t.fields.map loE) := by
    rw [Z5c, zkl, zoy (by omega) b2]
    exact Z6e t.fields hf b2 t.fields.length 0 (by omega)
  have hll : zd1 z7m t [] 0 = some (.list (t.list.map lo)) := Z6c t hl b1 t.list.length 0 (by omega)
  have hr := zoy (b := 16) (by omega) b1
  have hb := Z37 t
  rw [zzj, zkn]
  generalize lo t = x at hb
  generalize bu t = y at hb
  cases hb with
  | bytes hk => simp only [hk, Z02 (by omega : 1 ≤ 1024) b3]; rfl
  | list hk => simp only [hk, hll, hr]; rfl
  | dict hk => simp only [hk, hd]; rfl
  | record hk => simp only [hk, hd]; rfl
  | alien hk =>
    have e : ∀ k : Int, 1 ≤ k → k ≤ 11 → (t.kind == k) = false := fun k h1 h2 => by simp; omega
    simp only [e 1 (by omega) (by omega), e 2 (by omega) (by omega), e 3 (by omega) (by omega), e 4 (by omega) (by omega), e 5 (by omega) (by omega), e 6 (by omega) (by omega), e 7 (by omega) (by omega), e 8 (by omega) (by omega),
      e 9 (by omega) (by omega), e 10 (by omega) (by omega), e 11 (by omega) (by omega), cond_false]
    rw [← Z1i, zzj]; rfl
  | _ hk => simp only [hk]; rfl
theorem zck : ∀ (n : Nat) (t : Term), bkT t ≤ n → n ≤ 268435456 → z7m t = some (lo t) := by
  intro n
  induction n with
  | zero => intro t h _; have := zaa t; omega
  | succ n ih =>
    intro t h hn
    exact zoa t (fun u hu => ih u (by have := zt6 hu; omega) (by omega)) (fun u hu => ih u.2 (by have := zj6 hu; omega) (by omega))
      (by have := zm5 t; omega) (by have := zfc t; omega) (by have := zig t; omega)
theorem Z14 (t : Term) (h : bkT t ≤ 268435456) : z7m t = some (lo t) := zck _ t h (Nat.le_refl _)
noncomputable def ofF (x : V) : V × Int := if (z21 x).2 ≠ 0 then (.nil, (z21 x).2) else (x, 0)
theorem Z4a {t : Term} {x : V} (h : z7m t = some x) : ze3 t = some (ofF x) := by
  simp only [ze3, h, Option.bind_some, zll, ofF]
  by_cases hx : (z21 x).2 = 0
  · rw [if_neg (by simp [hx]), hx]; rfl
  · rw [if_pos hx, Z36 hx]; rfl
end Go.Proofs.Ytiapdjdhaclmnaa

namespace Go.Proofs.Ytiapdjdhaclmnaa
open Go Aw
set_option linter.unusedVariables false
set_option linter.unusedSimpArgs false
set_option maxRecDepth 8000
mutual
def cl : V → Term
  | .nil => .mk 1 false 0 0 [] [] 0 [] [] [] 0
  | .bool b => .mk 2 b 0 0 [] [] 0 [] [] [] 0
  | .int i => .mk 3 false i 0 [] [] 0 [] [] [] 0
  | .float f => .mk 4 false 0 f [] [] 0 [] [] [] 0
  | .text s => .mk 5 false 0 0 s [] 0 [] [] [] 0
  | .bytes s => .mk 6 false 0 0 [] s 0 [] [] [] 0
  | .ref r => .mk 7 false 0 0 [] [] r [] [] [] 0
  | .list l => .mk 8 false 0 0 [] [] 0 (clL l) [] [] 0
  | .dict l => .mk 9 false 0 0 [] [] 0 [] (clD l) [] 0
  | .record c v l => .mk 10 false 0 0 [] [] 0 [] (clD l) c v
  | .nothing => .mk 11 false 0 0 [] [] 0 [] [] [] 0
  | .alien _ => .mk 0 false 0 0 [] [] 0 [] [] [] 0
def clL : List V → List Term
  | [] => []
  | x :: r => cl x :: clL r
def clD : List (Str × V) → List (Str × Term)
  | [] => []
  | (s, x) :: r => (s, cl x) :: clD r
end
def clE (p : Str × V) : Str × Term := (p.1, cl p.2)
theorem zgg : ∀ l, clL l = l.map cl
  | [] => by rw [clL]; rfl
  | x :: r => by rw [clL, zgg r]; rfl
theorem z93 : ∀ l, clD l = l.map clE
  | [] => by rw [clD]; rfl
  | (s, x) :: r => by rw [clD, z93 r]; rfl
theorem zo7 {b : Str} (h : z3e (.bytes b) = 0) : b.length ≤ 65536 := by
  simp only [z3e] at h; split at h <;> omega
/-! ### the document's term of a value -/
end Go.Proofs.Ytiapdjdhaclmnaa

namespace Go.Proofs.Ytiapdjdhaclmnaa
open Go Aw
set_option linter.unusedVariables false
set_option linter.unusedSimpArgs false
set_option maxRecDepth 8000
theorem Z62 (l : List V) (x1 : Int) (hl : ∀ u, u ∈ l → ze5 u = some (cl u)) (hb : l.length ≤ 1073741824) : ∀ k i, k + i = l.length → zes ze5 (.list l) x1 i ((l.take i).map cl) = some (.mk x1 false 0 0 [] [] 0 (l.map cl) [] [] 0)
  | 0, i, h => by
    rw [zhc]
    simp only [z5v, V.asList, z7n (by omega : ¬ i < l.length), cond_false, z5g]
    rw [List.take_of_length_le (by omega)]
  | k + 1, i, h => by
    obtain ⟨x, hx, _⟩ := dropc (by omega : i < l.length)
    rw [zhc]
    simp only [z5v, V.asList, z7o (by omega : i < l.length), cond_true, hx, Option.bind_some, hl x (List.mem_of_getElem? hx), zto (b := 152) (by omega) (show ((l.take i).map cl).length ≤ 1073741824 by simp; omega), z4m hx]
    exact Z62 l x1 hl hb k (i + 1) (by omega)
theorem Z3e (l : List (Str × V)) (hl : ∀ u, u ∈ l → ze5 u.2 = some (cl u.2)) (hb : l.length ≤ 1073741824) : ∀ k i, k + i = l.length → zey ze5 l ((l.take i).map clE) i = some (l.map clE)
  | 0, i, h => by
    rw [zhj]
    simp only [z60, z7n (by omega : ¬ i < l.length), cond_false]
    rw [List.take_of_length_le (by omega)]
  | k + 1, i, h => by
    obtain ⟨x, hx, _⟩ := dropc (by omega : i < l.length)
    rw [zhj]
    simp only [z60, z7o (by omega : i < l.length), cond_true, hx, Option.bind_some, hl x (List.mem_of_getElem? hx), zto (b := 168) (x := (x.1, cl x.2)) (by omega) (show ((l.take i).map clE).length ≤ 1073741824 by simp; omega)]
    have : ((l.take i).map clE) ++ [(x.1, cl x.2)] = (l.take (i + 1)).map clE := z4m (f := clE) hx
    rw [this]
    exact Z3e l hl hb k (i + 1) (by omega)
theorem Z16 (x : V) : Fine x → ze5 x = some (cl x) := by
  induction x using V.byParts with
  | _ x ih =>
  intro hx
  have hp := hx.own.2
  have hn := hx.own.1
  rw [Z5h, zkr, zlk]
  cases x with
  | nothing => simp [z3e] at hn
  | alien t => simp [z3e] at hn
  | bytes b => rw [cl]; simp only [V.isBool, V.isInt, V.isFloat, V.isText, V.isBytes, V.asBytes, cond_true, cond_false, Option.bind_some, Z02 (by omega : 1 ≤ 1024) (show b.length ≤ 1073741824 by have := zo7 hn; omega)]; rfl
  | list l =>
    have hb := zrp hn
    rw [cl, zgg]
    exact Z62 l 8 (fun u hu => ih u hu (hp u hu)) (by omega) l.length 0 (by omega)
  | dict l =>
    have hb := zdn hn
    have : zqx l = some (l.map clE) := by
      rw [Z2p, zj8]
      exact Z3e l (fun u hu => ih u.2 (List.mem_map_of_mem hu) (hp _ (List.mem_map_of_mem hu))) (by omega) l.length 0 (by omega)
    rw [cl, z93]
    simp only [V.isBool, V.isInt, V.isFloat, V.isText, V.isBytes, V.isRef, V.isList, V.isDict, V.asDict, cond_true, cond_false, Option.bind_some, this]; rfl
  | record c v l =>
    have hb := (zuq hn).2
    have : zqx l = some (l.map clE) := by
      rw [Z2p, zj8]
      exact Z3e l (fun u hu => ih u.2 (List.mem_map_of_mem hu) (hp _ (List.mem_map_of_mem hu))) (by omega) l.length 0 (by omega)
    rw [cl, z93]
    simp only [V.isBool, V.isInt, V.isFloat, V.isText, V.isBytes, V.isRef, V.isList, V.isDict, V.isRec, V.asRec, cond_true, cond_false, Option.bind_some, this]; rfl
  | _ => rw [cl]; rfl
end Go.Proofs.Ytiapdjdhaclmnaa

namespace Go.Proofs.Ytiapdjdhaclmnaa
open Go Aw
set_option linter.unusedVariables false
set_option linter.unusedSimpArgs false
set_option maxRecDepth 8000
theorem Typ.eta (t : Typ) : Typ.mk t.kind t.of t.only t.parts t.names t.lacks t.opn t.cls = t := by cases t; rfl
theorem zt1 (s : Str) : (z21 (.dict [(s, .nil)])).2 = if z3c s then 0 else 8 := by
  have ho : ∀ n d, n < 16384 → d ≤ 64 → z89 (.dict [(s, .nil)]) n d = if z3c s then 0 else 8 := by
    intro n d h1 h2
    have : ¬ (16384 ≤ n ∨ 64 < d) := by omega
    simp only [z89, if_neg this, z3e, z5a, List.map_cons, List.map_nil, List.length_cons, List.length_nil, risen, Bool.and_true]
    rfl
  have hn : z89 .nil 1 2 = 0 := rfl
  unfold z21
  rw [z46, ho 0 1 (by omega) (by omega)]
  cases z3c s with
  | true =>
    simp only [if_true, V.parts, List.map_cons, List.map_nil, z2u, z3h]
    rw [z46]
    simp [V.parts, z3h, z89, z3e]
  | false => simp
theorem zx6 (s : Str) : znl s = some (z3c s) := by
  simp only [znl, zh5, Option.bind_some, zt1]
  cases z3c s <;> rfl
/-! ### what is asked of one type -/
noncomputable def z2v (t : Typ) : Bool :=
  t.kind == 1 || t.kind == 2 || (t.kind == 3 && decide (1 ≤ t.of) && decide (t.of ≤ 10)) || (t.kind == 4 && (z21 (bu t.only)).2 == 0) || (t.kind == 8 && z3c t.cls)
def zc3 (t : Typ) : Bool :=
  (t.kind == 5 && t.parts.length == 1) || (t.kind == 7 && decide (1 < t.parts.length)) ||
    (t.kind == 6 && decide (t.names.length ≤ 4096) && t.parts.length == t.names.length && t.lacks.length == t.names.length && risen none t.names)
mutual
noncomputable def za3 : Typ → Int → Int → Bool × Int
  | .mk k o y p n l q c, left, d =>
    if left - 1 < 0 ∨ 64 < d then (false, left - 1) else if z2v (.mk k o y p n l q c) then (true, left - 1) else if zc3 (.mk k o y p n l q c) then fitsF p (left - 1) (d + 1) else (false, left - 1)
noncomputable def fitsF : List Typ → Int → Int → Bool × Int
  | [], left, d => (true, left)
  | x :: r, left, d => if (za3 x left d).1 then fitsF r (za3 x left d).2 d else (false, (za3 x left d).2)
end
theorem z59 (t : Typ) (left d : Int) : za3 t left d = if left - 1 < 0 ∨ 64 < d then (false, left - 1) else if z2v t then (true, left - 1) else if zc3 t then fitsF t.parts (left - 1) (d + 1) else (false, left - 1) := by
  cases t; rw [za3]; rfl
theorem z6u (x : Typ) (r : List Typ) (left d : Int) : fitsF (x :: r) left d = if (za3 x left d).1 then fitsF r (za3 x left d).2 d else (false, (za3 x left d).2) := by rw [fitsF]
theorem zir (left d : Int) : fitsF [] left d = (true, left) := by rw [fitsF]
theorem zcl {t u : Typ} (h : u ∈ t.parts) : SizeOf.sizeOf u < SizeOf.sizeOf t := by
  cases t; have := List.sizeOf_lt_of_mem h; simp [Typ.parts] at this ⊢; omega
theorem Typ.byParts {P : Typ → Prop} (h : ∀ t, (∀ u, u ∈ t.parts → P u) → P t) (t : Typ) : P t := h t (fun u hu => Typ.byParts h u)
termination_by SizeOf.sizeOf t
decreasing_by exact zcl hu
theorem ziq {d : Int} : ∀ (l : List Typ), (∀ u, u ∈ l → ∀ left, (za3 u left d).2 ≤ left ∧ ((za3 u left d).1 = true → 0 ≤ (za3 u left d).2)) → ∀ left, (fitsF l left d).2 ≤ left ∧ (0 ≤ left → (fitsF l left d).1 = true → 0 ≤ (fitsF l left d).2)
  | [], _, left => by rw [zir]; exact ⟨Int.le_refl _, fun h _ => h⟩
  | x :: r, h, left => by
    have h1 := h x (by simp) left
    have h2 := ziq r (fun u hu => h u (by simp [hu])) (za3 x left d).2
    rw [z6u]
    split
    · rename_i hc; exact ⟨by omega, fun _ => h2.2 (h1.2 hc)⟩
    · exact ⟨h1.1, fun _ h => by cases h⟩
theorem zvi (t : Typ) : ∀ left d, (za3 t left d).2 ≤ left ∧ ((za3 t left d).1 = true → 0 ≤ (za3 t left d).2) := by
  induction t using Typ.byParts with
  | _ t ih =>
  intro left d
  rw [z59]
  split
  · exact ⟨by simp only []; omega, fun h => by cases h⟩
  · split
    · exact ⟨by simp only []; omega, fun _ => by simp only []; omega⟩
    · split
      · have := ziq (d := d + 1) t.parts (fun u hu left => ih u hu left (d + 1)) (left - 1)
        exact ⟨by omega, this.2 (by omega)⟩
      · exact ⟨by simp only []; omega, fun h => by cases h⟩
/-! ### bulk of types -/
theorem zj7 : ∀ {l : List Typ} {u : Typ}, u ∈ l → bkTy u ≤ bkTys l
  | x :: r, u, h => by
    rw [bkTys]; rcases List.mem_cons.1 h with rfl | h
    · omega
    · have := zj7 h; omega
theorem zgm (t : Typ) : bkTy t = bkT t.only + bkTys t.parts + (t.names.map (fun s => s.length + 1)).sum + t.lacks.length + t.cls.length + 8 := by cases t; rw [bkTy]; rfl
theorem za9 : ∀ (l : List Typ), l.length ≤ bkTys l
  | [] => by simp
  | x :: r => by have := za9 r; have := zgm x; rw [bkTys, List.length_cons]; omega
theorem zou : ∀ (l : List Str), l.length ≤ (l.map (fun s => s.length + 1)).sum
  | [] => by simp
  | x :: r => by have := zou r; rw [List.length_cons, List.map_cons, List.sum_cons]; omega
structure TB (t : Typ) : Prop where
  only : bkT t.only ≤ 268435456
  parts : ∀ u, u ∈ t.parts → bkTy u ≤ 268435456
  np : t.parts.length ≤ 268435456
  nn : t.names.length ≤ 268435456
  nl : t.lacks.length ≤ 268435456
theorem tb {t : Typ} (h : bkTy t ≤ 268435456) : TB t := by
  have h1 := zgm t
  have h2 := zou t.names
  have h3 := za9 t.parts
  exact ⟨by omega, fun u hu => by have := zj7 hu; omega, by omega, by omega, by omega⟩
/-! ### the program's -/
def zzw (t : Typ) : Prop := ∀ left d, 0 ≤ left → left ≤ 16384 → 0 ≤ d → d ≤ 65 → zjr ⟨left⟩ t d = some ((za3 t left d).1, ⟨(za3 t left d).2⟩)
theorem Z2u (l : List Typ) (d : Int) (hl : ∀ u, u ∈ l → zzw u) (hd : 0 ≤ d) (hd' : d ≤ 64) : ∀ k i left, k + i = l.length → 0 ≤ left → left ≤ 16384 →
    zf0 zjr l d i left = some ((fitsF (l.drop i) left (d + 1)).1, ⟨(fitsF (l.drop i) left (d + 1)).2⟩)
  | 0, i, left, h, h0, h1 => by
    rw [zhn]
    simp only [z62, z7n (by omega : ¬ i < l.length), cond_false]
    rw [List.drop_of_length_le (by omega), zir]
  | k + 1, i, left, h, h0, h1 => by
    obtain ⟨x, hx, hdr⟩ := dropc (by omega : i < l.length)
    have hp := hl x (List.mem_of_getElem? hx) left (d + 1) h0 h1 (by omega) (by omega)
    have hw : IntKind.i64.wrap (d + 1) = d + 1 := z4d (by omega) (by omega)
    have hf := zvi x left (d + 1)
    rw [zhn]
    simp only [z62, z7o (by omega : i < l.length), cond_true, hx, Option.bind_some, Typ.eta, hw, hp]
    rw [hdr, z6u]
    cases hk : (za3 x left (d + 1)).1 with
    | false => simp
    | true =>
      have h2 := hf.2 hk
      simp only [Bool.not_true, cond_false, if_true]
      exact Z2u l d hl hd hd' k (i + 1) _ (by omega) h2 (by omega)
theorem Z18 (l : List Typ) (d left : Int) (hl : ∀ u, u ∈ l → zzw u) (hd : 0 ≤ d) (hd' : d ≤ 64) (h0 : 0 ≤ left) (h1 : left ≤ 16384) :
    znw ⟨left⟩ l d = some ((fitsF l left (d + 1)).1, ⟨(fitsF l left (d + 1)).2⟩) := by
  rw [Z5n, zky]
  exact Z2u l d hl hd hd' l.length 0 left (by omega) h0 h1
/-- Names of a type, one by one. -/
theorem zjz (l : List Str) (i : Nat) (hi : i < l.length) (hb : l.length ≤ 268435456) {β : Type} (no : β) (g : Option β) (s : Str) (hs : l[i]? = some s) (yes : Bool → Option β)
    (hg : g = yes (risen (z4n l (i + 1)) (l.drop (i + 1)))) (hno : yes false = some no) :
    (bif !(z3c s) then some no else (bif decide (((i : Nat) : Int) > 0) then Option.bind (zc1 l (IntKind.i64.wrap (((i : Nat) : Int) - 1))) fun y => (bif (Op.bytesLess s y || s == y) then some no else g) else g)) = yes (risen (z4n l i) (l.drop i)) := by
  rw [zee hs]
  cases hn : z3c s with
  | false => rw [Bool.false_and]; exact hno.symm
  | true =>
    simp only [Bool.not_true, cond_false, Bool.true_and]
    by_cases h0 : i = 0
    · subst h0
      have e : decide (((0 : Nat) : Int) > 0) = false := rfl
      rw [e, hg]
      simp only [cond_false, z4n, if_pos, Bool.true_and]
    · have e : decide ((i : Int) > 0) = true := decide_eq_true (by omega)
      have hw : IntKind.i64.wrap ((i : Int) - 1) = ((i - 1 : Nat) : Int) := by rw [z4d (by omega) (by omega)]; omega
      obtain ⟨y, hy, _⟩ := dropc (by omega : i - 1 < l.length)
      rw [e, hw, z5k, hy]
      have hp : z4n l i = some y := by simp only [z4n, if_neg h0, hy]
      simp only [cond_true, Option.bind_some, hp, hg]
      show (bif leB s y then _ else _) = _
      cases leB s y with
      | true => simp only [cond_true, Bool.not_true, Bool.false_and]; exact hno.symm
      | false => simp only [cond_false, Bool.not_false, Bool.true_and]
theorem Z6u (t : Typ) (left d : Int) (r : Bool × S_check_room) (hr : znw ⟨IntKind.i64.wrap (left - 1)⟩ t.parts d = some r) (hb : t.names.length ≤ 268435456) : ∀ k i, k + i = t.names.length →
    zez znw ⟨left⟩ t d i = if risen (z4n t.names i) (t.names.drop i) then some r else some (false, ⟨IntKind.i64.wrap (left - 1)⟩)
  | 0, i, h => by
    rw [zhm]
    simp only [z61, z7n (by omega : ¬ i < t.names.length), cond_false, hr, Option.bind_some]
    rw [List.drop_of_length_le (by omega), zcw]; rfl
  | k + 1, i, h => by
    obtain ⟨s, hs, _⟩ := dropc (by omega : i < t.names.length)
    have := zjz t.names i (by omega) hb (no := (false, (⟨IntKind.i64.wrap (left - 1)⟩ : S_check_room))) _ s hs (fun b => if b then some r else some (false, ⟨IntKind.i64.wrap (left - 1)⟩)) (Z6u t left d r hr hb k (i + 1) (by omega)) rfl
    rw [zhm]
    simp only [z61, z7o (by omega : i < t.names.length), cond_true, hs, Option.bind_some, zx6, z9k, cond_false]
    exact this
theorem zbf {a b : Int} (h : a = b) : (a == b) = true := by simpa using h
theorem z1v {a b : Int} (h : ¬ a = b) : (a == b) = false := by simpa using h
/-- The kinds of types. -/
theorem kinds (k : Int) : k = 1 ∨ k = 2 ∨ k = 3 ∨ k = 4 ∨ k = 5 ∨ k = 6 ∨ k = 7 ∨ k = 8 ∨ (k ≠ 1 ∧ k ≠ 2 ∧ k ≠ 3 ∧ k ≠ 4 ∧ k ≠ 5 ∧ k ≠ 6 ∧ k ≠ 7 ∧ k ≠ 8) := by omega
theorem zlj (t : Term) (h : bkT t ≤ 268435456) : ze3 t = some (ofF (lo t)) := Z4a (Z14 t h)
theorem Z4b (x : V) : (ofF x).2 = (z21 x).2 := by unfold ofF; split <;> (try rfl); rename_i h; simp at h; rw [h]
theorem Z0z (t : Typ) : bkTy t ≤ 268435456 → zzw t := by
  induction t using Typ.byParts with
  | _ t ih =>
  intro hb left d h0 h1 hd hd'
  have B := tb hb
  have hw : IntKind.i64.wrap (left - 1) = left - 1 := z4d (by omega) (by omega)
  rw [Z5m, zkx, z59]
  simp only [hw]
  by_cases hl : left - 1 < 0
  · rw [decide_eq_true hl, if_pos (Or.inl hl)]; simp only [cond_true, z8s, hw]
  · rw [decide_eq_false hl, cond_false]
    by_cases hdd : 64 < d
    · rw [decide_eq_true (show d > 64 from hdd), if_pos (Or.inr hdd)]; simp only [cond_true, z8s, hw]
    · rw [decide_eq_false (show ¬ d > 64 from hdd), if_neg (by omega)]
      have hall := Z18 t.parts d (left - 1) (fun u hu => ih u hu (B.parts u hu)) hd (by omega) (by omega) (by omega)
      have hnm := Z6u t left d _ (by rw [hw]; exact hall) B.nn t.names.length 0 (by omega)
      rw [hw] at hnm
      simp only [cond_false, z8s, zbs, hw]
      generalize hF : fitsF t.parts (left - 1) (d + 1) = F at hall hnm
      rcases kinds t.kind with h | h | h | h | h | h | h | h | h
      · simp [z2v, h]
      · simp [z2v, h]
      · simp only [z2v, zc3, h]
        by_cases a : 1 ≤ t.of
        · by_cases b : t.of ≤ 10
          · simp [a, b]
          · simp [a, b]
        · simp [a]
      · simp only [z2v, zc3, h, zlj t.only B.only, Option.bind_some, Z4b, zm0]
        cases hc : (z21 (bu t.only)).2 == 0 <;> simp_all
      · simp only [z2v, zc3, h]
        by_cases a : t.parts.length = 1
        · have a' : (((t.parts.length : Nat) : Int) == 1) = true := by simp [a]
          simp [a, hall]
        · have a' : (((t.parts.length : Nat) : Int) == 1) = false := by simp; omega
          simp [a, a']
      · simp only [z2v, zc3, h]
        have e0 : risen (z4n t.names 0) (List.drop 0 t.names) = risen none t.names := rfl
        rw [e0] at hnm
        by_cases a : t.names.length ≤ 4096
        · have a' : decide (((t.names.length : Nat) : Int) > 4096) = false := decide_eq_false (by omega)
          by_cases b : t.parts.length = t.names.length
          · have b' : (((t.parts.length : Nat) : Int) != ((t.names.length : Nat) : Int)) = false := by simp [b]
            by_cases c : t.lacks.length = t.names.length
            · have c' : (((t.lacks.length : Nat) : Int) != ((t.names.length : Nat) : Int)) = false := by simp [c]
              cases hc : risen none t.names with
              | true => simp [a', b', c', z6i, hnm, hc, a, b, c]
              | false => simp [a', b', c', z6i, hnm, hc]
            · have c' : (((t.lacks.length : Nat) : Int) != ((t.names.length : Nat) : Int)) = true := by simp; omega
              simp [a', b', c', z6i, hw, c]
          · have b' : (((t.parts.length : Nat) : Int) != ((t.names.length : Nat) : Int)) = true := by simp; omega
            simp [a', b', z6i, hw, b]
        · have a' : decide (((t.names.length : Nat) : Int) > 4096) = true := decide_eq_true (by omega)
          simp [a', z6i, hw, a]
      · simp only [z2v, zc3, h]
        by_cases a : 1 < t.parts.length
        · have a' : decide (((t.parts.length : Nat) : Int) > 1) = true := decide_eq_true (by omega)
          simp [a, a', hall]
        · have a' : decide (((t.parts.length : Nat) : Int) > 1) = false := decide_eq_false (by omega)
          simp [a, a']
      · simp only [z2v, zc3, h, zx6, Option.bind_some]
        cases hc : z3c t.cls <;> simp [hc]
      · obtain ⟨g1, g2, g3, g4, g5, g6, g7, g8⟩ := h
        simp only [z2v, zc3, z1v g1, z1v g2, z1v g3, z1v g4, z1v g5, z1v g6, z1v g7, z1v g8, cond_false, Bool.false_and, Bool.or_self, Bool.false_eq_true, if_false]
noncomputable def z24 (t : Typ) : Bool := (za3 t 16384 1).1
theorem zd0 (t : Typ) (h : bkTy t ≤ 268435456) : zde t = some (z24 t) := by
  simp only [zde, Typ.eta, Z0z t h 16384 1 (by omega) (by omega) (by omega) (by omega), Option.bind_some]; rfl
end Go.Proofs.Ytiapdjdhaclmnaa

namespace Go.Proofs.Ytiapdjdhaclmnaa
open Go Aw
set_option linter.unusedVariables false
set_option linter.unusedSimpArgs false
set_option maxRecDepth 8000
abbrev Tst := V → Int → Bool × Int
def plc (b : Bool) (a : Int) : Bool × Int := if b then (true, 0) else (false, a)
def zl9 : List Tst → V → Int → Bool
  | [], _, _ => false
  | f :: r, v, a => (f v a).1 || zl9 r v a
def z6o (f : Tst) : List V → Int → Bool × Int
  | [], _ => (true, 0)
  | x :: r, n => if (f x n).1 then z6o f r (n + cnt x) else (false, (f x n).2)
def z2q (q : Bool) (a : Int) : List (Str × Bool × Tst) → List (Str × V) → Int → Bool × Int
  | [], [], _ => (true, 0)
  | (s, l, f) :: ts, [], n => if l then z2q q a ts [] n else (false, a)
  | [], (m, x) :: r, n => if q then z2q q a [] r (n + cnt x) else (false, a)
  | (s, l, f) :: ts, (m, x) :: r, n =>
    if Op.bytesLess s m then (if l then z2q q a ts ((m, x) :: r) n else (false, a))
    else if s == m then (if (f x n).1 then z2q q a ts r (n + cnt x) else (false, (f x n).2))
    else if q then z2q q a ((s, l, f) :: ts) r (n + cnt x) else (false, a)
termination_by ts fs => ts.length + fs.length
decreasing_by all_goals (simp only [List.length_cons, List.length_nil]; omega)
def zn6 (c : Str) : V → Bool
  | .record c' _ _ => c' == c
  | _ => false
noncomputable def isG (k o : Int) (y : Term) (n : List Str) (l : List Bool) (q : Bool) (c : Str) (fs : List Tst) (v : V) (a : Int) : Bool × Int :=
  if k = 1 then (true, 0) else if k = 3 then plc (z1m v == o) a else if k = 4 then plc (zgt v (bu y)) a else if k = 8 then plc (zn6 c v) a else if k = 7 then plc (zl9 fs v a) a
  else if k = 5 then (match v with | .list x => (match fs with | f :: _ => z6o f x (a + 1) | [] => (false, a)) | _ => (false, a))
  else if k = 6 then (match v with | .dict d => z2q q a (n.zip (l.zip fs)) d (a + 1) | _ => (false, a))
  else (false, a)
mutual
noncomputable def isF : Typ → Tst
  | .mk k o y p n l q c => isG k o y n l q c (Z1k p)
noncomputable def Z1k : List Typ → List Tst
  | [] => []
  | x :: r => isF x :: Z1k r
end
theorem zm8 : ∀ l, Z1k l = l.map isF
  | [] => by rw [Z1k]; rfl
  | x :: r => by rw [Z1k, zm8 r]; rfl
theorem z2w (t : Typ) (v : V) (a : Int) : isF t v a = isG t.kind t.of t.only t.names t.lacks t.opn t.cls (t.parts.map isF) v a := by cases t; rw [isF, zm8]; rfl
/-! ### types that can be, part by part -/
def VT (t : Typ) : Prop := ∃ left d, (za3 t left d).1 = true
theorem zmg {d : Int} : ∀ {l : List Typ} {left : Int}, (fitsF l left d).1 = true → ∀ u, u ∈ l → VT u
  | x :: r, left, h, u, hu => by
    rw [z6u] at h
    cases hk : (za3 x left d).1 with
    | false => rw [if_neg (by simp [hk])] at h; cases h
    | true =>
      rw [if_pos hk] at h
      rcases List.mem_cons.1 hu with rfl | hu
      · exact ⟨left, d, hk⟩
      · exact zmg h u hu
theorem VT.cases {t : Typ} (h : VT t) : z2v t = true ∨ (z2v t = false ∧ zc3 t = true ∧ ∀ u, u ∈ t.parts → VT u) := by
  obtain ⟨left, d, h⟩ := h
  rw [z59] at h
  split at h
  · cases h
  · cases hl : z2v t with
    | true => exact .inl rfl
    | false =>
      rw [if_neg (by simp [hl])] at h
      cases hv : zc3 t with
      | false => rw [if_neg (by simp [hv])] at h; cases h
      | true => rw [if_pos hv] at h; exact .inr ⟨rfl, rfl, zmg h⟩
theorem z3z {t : Typ} (h : z24 t = true) : VT t := ⟨_, _, h⟩
/-- What is known of a type that can be. -/
inductive VK (t : Typ) : Prop
  | any : t.kind = 1 → VK t
  | none : t.kind = 2 → VK t
  | kind : t.kind = 3 → VK t
  | only : t.kind = 4 → (z21 (bu t.only)).2 = 0 → VK t
  | list : t.kind = 5 → (∃ p, t.parts = [p] ∧ VT p) → VK t
  | dict : t.kind = 6 → t.names.length ≤ 4096 → t.parts.length = t.names.length → t.lacks.length = t.names.length → (∀ u, u ∈ t.parts → VT u) → VK t
  | union : t.kind = 7 → (∀ u, u ∈ t.parts → VT u) → VK t
  | recd : t.kind = 8 → VK t
theorem VT.know {t : Typ} (h : VT t) : VK t := by
  rcases h.cases with hl | ⟨hl, hv, hp⟩
  · simp only [z2v, Bool.or_eq_true, Bool.and_eq_true, beq_iff_eq, decide_eq_true_eq] at hl
    rcases hl with (((h | h) | ⟨⟨h, _⟩, _⟩) | ⟨h, h2⟩) | ⟨h, _⟩
    · exact .any h
    · exact .none h
    · exact .kind h
    · exact .only h h2
    · exact .recd h
  · simp only [zc3, Bool.or_eq_true, Bool.and_eq_true, beq_iff_eq, decide_eq_true_eq] at hv
    rcases hv with (⟨h, h2⟩ | ⟨h, _⟩) | ⟨⟨⟨⟨h, h2⟩, h3⟩, h4⟩, _⟩
    · obtain ⟨p, hp'⟩ := List.length_eq_one_iff.1 h2
      exact .list h ⟨p, hp', hp p (by rw [hp']; simp)⟩
    · exact .union h hp
    · exact .dict h h2 h3 h4 hp
/-! ### parts of values that can be -/
theorem zsy : ∀ {l : List V} {y : V}, y ∈ l → cnt y ≤ cntL l ∧ dpt y ≤ dptL l
  | x :: r, y, h => by
    have hp : 0 ≤ cntL r ∧ 0 ≤ dptL r := by
      clear h
      induction r with
      | nil => simp [cntL, dptL]
      | cons z q ih => have := z4i z; simp only [cntL, dptL]; omega
    have hx := z4i x
    simp only [cntL, dptL]
    rcases List.mem_cons.1 h with rfl | h
    · omega
    · have := zsy h; omega
theorem Can.part {x y : V} (h : Can x) (hy : y ∈ x.parts) : Can y := by
  have h1 := zsy hy
  have h2 := zml x
  have h3 := ziw x
  obtain ⟨a, b, c⟩ := h
  exact ⟨a.part y hy, by omega, by omega⟩
theorem z7i (l : List V) : 0 ≤ cntL l := by
  induction l with
  | nil => simp [cntL]
  | cons z q ih => have := z4i z; simp only [cntL]; omega
theorem zx9 {x : V} (h : Can x) : znq x = some (cnt x) := by
  simp only [znq, Z10, zts h, Option.bind_some]
theorem zyz (t : Term) : Fine (bu t) → lo t = bu t := by
  induction t using Term.byParts with
  | _ t ih =>
  intro hx
  have hp := hx.own.2
  have hn := hx.own.1
  rw [← zdb] at hp
  have hs : ∀ u, u ∈ z3v t → lo u = bu u := fun u hu => ih u hu (hp _ (List.mem_map_of_mem hu))
  have hb := Z37 t
  generalize lo t = x at hb
  generalize bu t = y at hb hn
  cases hb with
  | list hk => exact congrArg V.list (List.map_congr_left fun u hu => hs u (by unfold z3v; rw [if_pos hk]; exact hu))
  | dict hk => exact congrArg V.dict (List.map_congr_left fun u hu => congrArg (Prod.mk u.1) (hs _ (by unfold z3v; rw [if_neg (by omega), if_pos (Or.inl hk)]; exact List.mem_map_of_mem hu)))
  | record hk => exact congrArg (V.record t.cls t.ver) (List.map_congr_left fun u hu => congrArg (Prod.mk u.1) (hs _ (by unfold z3v; rw [if_neg (by omega), if_pos (Or.inr hk)]; exact List.mem_map_of_mem hu)))
  | alien => simp [z3e] at hn
  | _ => rfl
/-! ### the program's -/
def Z3b (t : Typ) : Prop := ∀ v a, Can v → 0 ≤ a → a + cnt v ≤ 1099511627776 → z8j v t a = some (isF t v a)
theorem zi4 (b : Bool) (a : Int) : z6e a b = some (plc b a) := by cases b <;> rfl
theorem Z6f (t : Typ) (v : V) (a : Int) (hv : Can v) (h0 : 0 ≤ a) (h1 : a + cnt v ≤ 1099511627776) (hl : ∀ u, u ∈ t.parts → Z3b u) : ∀ k i, k + i = t.parts.length → zek z8j v t a i = some (plc (zl9 ((t.parts.drop i).map isF) v a) a)
  | 0, i, h => by
    rw [zgy]
    simp only [z5p, z7n (by omega : ¬ i < t.parts.length), cond_false, zi4]
    rw [List.drop_of_length_le (by omega)]; rfl
  | k + 1, i, h => by
    obtain ⟨x, hx, hdr⟩ := dropc (by omega : i < t.parts.length)
    rw [zgy]
    simp only [z5p, z7o (by omega : i < t.parts.length), cond_true, hx, Option.bind_some, Typ.eta, hl x (List.mem_of_getElem? hx) v a hv h0 h1]
    rw [hdr, List.map_cons, zl9]
    cases (isF x v a).1 with
    | true => rfl
    | false => simp only [cond_false, Bool.false_or]; exact Z6f t v a hv h0 h1 hl k (i + 1) (by omega)
theorem Z6d (l : List V) (t : Typ) (ht : Z3b t) (hc : ∀ y, y ∈ l → Can y) : ∀ k i n, k + i = l.length → 0 ≤ n → n + cntL (l.drop i) ≤ 1099511627776 → zex z8j l t n i = some (z6o (isF t) (l.drop i) n)
  | 0, i, n, h, h0, h1 => by
    rw [zhg]
    simp only [z5z, z7n (by omega : ¬ i < l.length), cond_false]
    rw [List.drop_of_length_le (by omega)]; rfl
  | k + 1, i, n, h, h0, h1 => by
    obtain ⟨x, hx, hdr⟩ := dropc (by omega : i < l.length)
    have hcx := hc x (List.mem_of_getElem? hx)
    have hcp := z4i x
    rw [hdr] at h1 ⊢
    simp only [cntL] at h1
    have hp := z7i (l.drop (i + 1))
    have hw : IntKind.i64.wrap (n + cnt x) = n + cnt x := z4d (by omega) (by omega)
    rw [zhg]
    simp only [z5z, z7o (by omega : i < l.length), cond_true, hx, Option.bind_some, Typ.eta, ht x n hcx h0 (by omega), zx9 hcx, hw]
    rw [z6o]
    cases (isF t x n).1 with
    | false => rfl
    | true => simp only [Bool.not_true, cond_false, if_true]; exact Z6d l t ht hc k (i + 1) _ (by omega) (by omega) (by omega)
/-- What stands at a place of three rows. -/
theorem zld {α β γ : Type} {n : List α} {l : List β} {p : List γ} {i : Nat} {x : α} {y : β} {z : γ} (hx : n[i]? = some x) (hy : l[i]? = some y) (hz : p[i]? = some z) : (n.zip (l.zip p)).drop i = (x, y, z) :: (n.zip (l.zip p)).drop (i + 1) := by
  obtain ⟨h1, rfl⟩ := List.getElem?_eq_some_iff.1 hx
  obtain ⟨h2, rfl⟩ := List.getElem?_eq_some_iff.1 hy
  obtain ⟨h3, rfl⟩ := List.getElem?_eq_some_iff.1 hz
  rw [List.drop_eq_getElem_cons (by simp only [List.length_zip]; omega)]
  simp
theorem zy7 {α β γ : Type} {n : List α} {l : List β} {p : List γ} {i : Nat} (h : n.length ≤ i) : (n.zip (l.zip p)).drop i = [] := List.drop_of_length_le (by simp only [List.length_zip]; omega)
structure DT (t : Typ) : Prop where
  n : t.names.length ≤ 4096
  p : t.parts.length = t.names.length
  l : t.lacks.length = t.names.length
noncomputable def ztp (t : Typ) : List (Str × Bool × Tst) := t.names.zip (t.lacks.zip (t.parts.map isF))
theorem DT.at_ {t : Typ} (h : DT t) {i : Nat} (hi : i < t.names.length) : ∃ s b u, t.names[i]? = some s ∧ t.lacks[i]? = some b ∧ t.parts[i]? = some u ∧ (ztp t).drop i = (s, b, isF u) :: (ztp t).drop (i + 1) := by
  have h1 := List.getElem?_eq_getElem hi
  have h2 := List.getElem?_eq_getElem (show i < t.lacks.length by rw [h.l]; exact hi)
  have h3 := List.getElem?_eq_getElem (show i < t.parts.length by rw [h.p]; exact hi)
  exact ⟨_, _, _, h1, h2, h3, zld h1 h2 (by rw [List.getElem?_map, h3]; rfl)⟩
theorem zfn {t : Typ} {i : Nat} (h : t.names.length ≤ i) : (ztp t).drop i = [] := zy7 h
theorem zzb (t : Typ) (D : DT t) (a : Int) : ∀ k i n, k + i = t.names.length → zhl t a (i : Nat) = some (z2q t.opn a ((ztp t).drop i) [] n)
  | 0, i, n, h => by
    rw [zhk]
    simp only [z71, z7n (by omega : ¬ i < t.names.length), cond_false]
    rw [zfn (by omega), z2q]
  | k + 1, i, n, h => by
    obtain ⟨s, b, u, h1, h2, h3, h4⟩ := D.at_ (by omega : i < t.names.length)
    have hw : IntKind.i64.wrap ((i : Int) + 1) = ((i + 1 : Nat) : Int) := by rw [z4d (by omega) (by have := D.n; omega)]; omega
    rw [zhk]
    simp only [z71, z7o (by omega : i < t.names.length), cond_true, z5k, h2, Option.bind_some, hw]
    rw [h4, z2q]
    cases b with
    | false => rfl
    | true => simp only [Bool.not_true, cond_false, if_true]; exact zzb t D a k (i + 1) n (by omega)
theorem Z7b (t : Typ) (D : DT t) (d : List (Str × V)) (hd : d.length ≤ 4096) (a : Int) (hl : ∀ u, u ∈ t.parts → Z3b u) (hc : ∀ y, y ∈ d → Can y.2) :
    ∀ m i k n, (t.names.length - i) + (d.length - k) ≤ m → i ≤ t.names.length → k ≤ d.length → 0 ≤ n → n + zog (d.drop k) ≤ 1099511627776 →
      z9g z8j d t a (i : Nat) n (k : Nat) = some (z2q t.opn a ((ztp t).drop i) (d.drop k) n) ∧
      ∀ x, d[k]? = some x → zd2 z8j (z9g z8j d t a) t a n (k : Nat) x (i : Nat) = some (z2q t.opn a ((ztp t).drop i) (d.drop k) n) := by
  intro m
  induction m with
  | zero =>
    intro i k n hm hi hk h0 h1
    have hkd : ¬ k < d.length := by omega
    refine ⟨?_, fun x hx => absurd (List.getElem?_eq_some_iff.1 hx).1 hkd⟩
    rw [zd3]
    simp only [z54, z7n hkd, cond_false]
    rw [List.drop_of_length_le (by omega : d.length ≤ k)]
    exact zzb t D a (t.names.length - i) i n (by omega)
  | succ m ih =>
    intro i k n hm hi hk h0 h1
    have L2 : ∀ x, d[k]? = some x → zd2 z8j (z9g z8j d t a) t a n (k : Nat) x (i : Nat) = some (z2q t.opn a ((ztp t).drop i) (d.drop k) n) := by
      intro x hx
      obtain ⟨hkd, hxe⟩ := List.getElem?_eq_some_iff.1 hx
      have hdr : d.drop k = x :: d.drop (k + 1) := by rw [List.drop_eq_getElem_cons hkd, hxe]
      obtain ⟨nm, v⟩ := x
      have hcv : Can v := hc _ (List.mem_of_getElem? hx)
      have hcp := z4i v
      have h1' := h1
      rw [hdr] at h1'
      simp only [zog] at h1'
      have hpp : 0 ≤ zog (d.drop (k + 1)) := by rw [za5]; exact z7i _
      have hw1 : IntKind.i64.wrap (n + cnt v) = n + cnt v := z4d (by omega) (by omega)
      have hw2 : IntKind.i64.wrap ((k : Int) + 1) = ((k + 1 : Nat) : Int) := by rw [z4d (by omega) (by omega)]; omega
      have hw3 : IntKind.i64.wrap ((i : Int) + 1) = ((i + 1 : Nat) : Int) := by have := D.n; rw [z4d (by omega) (by omega)]; omega
      have j2 : ∀ j : Nat, i ≤ j → j ≤ t.names.length → z9i (z9g z8j d t a) n (k : Nat) (nm, v) (j : Nat) = some (z2q t.opn a ((ztp t).drop j) (d.drop (k + 1)) (n + cnt v)) := by
        intro j hj hj'
        simp only [z9i, zx9 hcv, Option.bind_some, hw1, hw2]
        exact (ih j (k + 1) (n + cnt v) (by omega) hj' (by omega) (by omega) (by omega)).1
      rw [zpv, hdr]
      simp only [z72]
      by_cases hin : i < t.names.length
      · obtain ⟨s, b, u, e1, e2, e3, e4⟩ := D.at_ hin
        rw [z7o hin, e4, z2q]
        simp only [cond_true, z5k, e1, Option.bind_some, z9j]
        cases hls : Op.bytesLess s nm with
        | true =>
          simp only [cond_true, e2, Option.bind_some, hw3, if_true]
          cases b with
          | false => rfl
          | true =>
            simp only [Bool.not_true, cond_false, if_true]
            rw [← hdr]
            exact (ih (i + 1) k n (by omega) (by omega) hk h0 h1).2 _ hx
        | false =>
          have lte : decide (((i : Nat) : Int) < (t.names.length : Int)) = true := z7o hin
          simp only [cond_false, lte, cond_true, e1, Option.bind_some, z9h, Bool.false_eq_true, if_false]
          cases heq : s == nm with
          | true =>
            simp only [cond_true, z5k, e3, Option.bind_some, hl u (List.mem_of_getElem? e3) v n hcv h0 (by omega), hw3, if_true]
            cases (isF u v n).1 with
            | false => rfl
            | true => simp only [Bool.not_true, cond_false, if_true]; exact j2 (i + 1) (by omega) (by omega)
          | false =>
            simp only [cond_false, Bool.false_eq_true, if_false]
            cases ho : t.opn with
            | false => rfl
            | true =>
              simp only [Bool.not_true, cond_false, if_true]
              rw [← e4, ← ho]; exact j2 i (Nat.le_refl _) hi
      · rw [z7n hin]
        simp only [cond_false, z9j, z7n hin, z9h]
        rw [zfn (by omega), z2q]
        cases ho : t.opn with
        | false => rfl
        | true =>
          simp only [Bool.not_true, cond_false, if_true]
          have := j2 i (Nat.le_refl _) hi
          rw [zfn (by omega), ho] at this; exact this
    refine ⟨?_, L2⟩
    by_cases hkd : k < d.length
    · obtain ⟨x, hx, _⟩ := dropc hkd
      rw [zd3]
      simp only [z54, z7o hkd, cond_true, z5k, hx, Option.bind_some]
      exact L2 x hx
    · rw [zd3]
      simp only [z54, z7n hkd, cond_false]
      rw [List.drop_of_length_le (by omega : d.length ≤ k)]
      exact zzb t D a (t.names.length - i) i n (by omega)
theorem zx3 (t : Typ) : VT t → bkTy t ≤ 268435456 → Z3b t := by
  induction t using Typ.byParts with
  | _ t ih =>
  intro hv hb v a hc h0 h1
  have B := tb hb
  have hK := hv.know
  have hw : IntKind.i64.wrap (a + 1) = a + 1 := by have := z4i v; exact z4d (by omega) (by omega)
  have hnr := hc.1
  rw [Z59, zki, z2w]
  unfold isG
  cases hK with
  | any hk => simp [hk, zi4, plc]
  | none hk => simp [hk, zi4, plc]
  | kind hk => simp [hk, zi4, zpc]
  | only hk ho =>
    have hf := z51 ho
    have e : (ofF (lo t.only)).1 = bu t.only := by rw [zyz _ hf.1, ofF, if_neg (by simp [ho])]
    simp [hk, zi4, zlj t.only B.only, Z11, e]
  | recd hk =>
    cases v with
    | nothing => have := hnr.own; simp [z3e] at this
    | _ => simp [hk, zi4, zn6]
  | union hk hp =>
    have := Z6f t v a hc h0 h1 (fun u hu => ih u hu (hp u hu) (B.parts u hu)) t.parts.length 0 (by omega)
    rw [List.drop_zero] at this
    simp [hk, this]
  | list hk hp =>
    obtain ⟨p, hp1, hp2⟩ := hp
    cases v with
    | list l =>
      have hcl : cnt (.list l) = 1 + cntL l := by rw [cnt]
      have hcp := z7i l
      have hL : zns l p a = some (z6o (isF p) l (a + 1)) := by
        rw [Z5j, zku, hw]
        have := Z6d l p (ih p (by rw [hp1]; simp) hp2 (B.parts p (by rw [hp1]; simp))) (fun y hy => hc.part hy) l.length 0 (a + 1) (by omega) (by omega) (by rw [List.drop_zero]; omega)
        rw [List.drop_zero] at this; exact this
      rw [hk, hp1]
      show Option.bind (zns l p a) (fun x => some (x.1, x.2)) = _
      rw [hL]; rfl
    | _ => simp [hk, zi4, plc]
  | dict hk hn hpl hll hp =>
    cases v with
    | dict d =>
      have hcl : cnt (.dict d) = 1 + zog d := by rw [cnt]
      have hdl := zdn hnr.own
      have hL : znu d t a = some (z2q t.opn a (ztp t) d (a + 1)) := by
        rw [Z5l, zkw, hw]
        have := (Z7b t ⟨hn, hpl, hll⟩ d hdl a (fun u hu => ih u hu (hp u hu) (B.parts u hu)) (fun y hy => hc.part (List.mem_map_of_mem hy)) _ 0 0 (a + 1) (Nat.le_refl _) (by omega) (by omega) (by omega) (by rw [List.drop_zero]; omega)).1
        rw [List.drop_zero, List.drop_zero] at this; exact this
      have e : (fun x : Typ => x) (Typ.mk t.kind t.of t.only t.parts t.names t.lacks t.opn t.cls) = t := Typ.eta t
      (try rw [Typ.eta]); rw [hk]
      show Option.bind (znu d t a) (fun x => some (x.1, x.2)) = _
      rw [hL]; rfl
    | _ => simp [hk, zi4, plc]
/-- What Is says. -/
noncomputable def isA (v : V) (t : Typ) : Bool × Int × Int := if (z21 v).2 ≠ 0 then (false, 0, (z21 v).2) else if z24 t then ((isF t v 0).1, (isF t v 0).2, 0) else (false, 0, 70)
theorem zgh (v : V) (t : Typ) (h : bkTy t ≤ 268435456) : zqp v t = some (if (z21 v).2 ≠ 0 then (z21 v).2 else if z24 t then 0 else 70) := by
  simp only [zqp, zh5, Option.bind_some, Typ.eta, zd0 t h]
  by_cases hx : (z21 v).2 = 0
  · rw [if_neg (by simp [hx]), hx]
    cases z24 t <;> rfl
  · rw [if_pos hx, Z36 hx]; rfl
theorem za7 {v : V} (h : (z21 v).2 = 0) : Can v := by
  rcases Classical.em (Can v) with hc | hc
  · exact hc
  · exact absurd h (z81 hc)
theorem zh0 (v : V) (t : Typ) (h : bkTy t ≤ 268435456) : zfz v t = some (isA v t) := by
  simp only [zfz, Typ.eta, zgh v t h, Option.bind_some, isA]
  by_cases hx : (z21 v).2 = 0
  · simp only [hx, ne_eq, not_true_eq_false, if_false]
    cases hv : z24 t with
    | false => rfl
    | true =>
      have hc := za7 hx
      have := zx3 t (z3z hv) h v 0 hc (by omega) (by have := hc.2.1; omega)
      simp [this]
  · simp only [hx, ne_eq, not_false_eq_true, if_true, Z36 hx, cond_true]
end Go.Proofs.Ytiapdjdhaclmnaa

