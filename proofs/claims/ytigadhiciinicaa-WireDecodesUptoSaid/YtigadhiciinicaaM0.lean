/- Plain laws, one behind the other. -/
import Derived.Test.YtigadhiciinicaaRd
import Derived.Test.YtigadhiciinicaaG7
namespace Go.Proofs.Ytigadhiciinicaa
open Go Aw
set_option linter.unusedVariables false
set_option linter.unusedSimpArgs false
theorem lt_t {i n : Nat} (h : i < n) : decide ((i : Int) < (n : Int)) = true := decide_eq_true (by omega)
theorem lt_f {i n : Nat} (h : ¬ i < n) : decide ((i : Int) < (n : Int)) = false := decide_eq_false (by omega)
theorem dropc {α : Type} {l : List α} {i : Nat} (h : i < l.length) : ∃ x, l[i]? = some x ∧ l.drop i = x :: l.drop (i + 1) :=
  ⟨l[i], List.getElem?_eq_getElem h, List.drop_eq_getElem_cons h⟩
theorem w64_in {x : Int} (h1 : -9223372036854775808 ≤ x) (h2 : x ≤ 9223372036854775807) : IntKind.i64.wrap x = x := wrap_in h1 h2
theorem idxI_nat {α : Type} (l : List α) (i : Nat) : idxI l (i : Int) = l[i]? := by
  unfold idxI; rw [decide_eq_true (by omega : (0 : Int) ≤ (i : Nat))]; rfl
/-- A letter of a name. -/
def chOk (c : UInt8) : Bool := (Nat.ble 97 c.toNat && Nat.ble c.toNat 122) || (Nat.ble 48 c.toNat && Nat.ble c.toNat 57) || Nat.beq c.toNat 95
def loOk (c : UInt8) : Bool := Nat.ble 97 c.toNat && Nat.ble c.toNat 122
def nameOk (s : Str) : Bool := Nat.ble 1 s.length && Nat.ble s.length 32 && loOk (s.headD 0) && s.all chOk
theorem chOk_iff {c : UInt8} : chOk c = true ↔ (97 ≤ c.toNat ∧ c.toNat ≤ 122) ∨ (48 ≤ c.toNat ∧ c.toNat ≤ 57) ∨ c.toNat = 95 := by
  simp only [chOk, Bool.or_eq_true, Bool.and_eq_true, Nat.ble_eq, Nat.beq_eq]; omega
theorem loOk_iff {c : UInt8} : loOk c = true ↔ 97 ≤ c.toNat ∧ c.toNat ≤ 122 := by
  simp only [loOk, Bool.and_eq_true, Nat.ble_eq]
theorem vn_body (c : UInt8) (g : Nat → Option Bool) (i : Nat) (s : Str) (hi : i < s.length) (hc : s[i]? = some c) : value_name_l1b s g i = bif chOk c then g (i + 1) else some false := by
  have h97 : (97 : UInt8).toNat = 97 := rfl
  have h122 : (122 : UInt8).toNat = 122 := rfl
  have h48 : (48 : UInt8).toNat = 48 := rfl
  have h57 : (57 : UInt8).toNat = 57 := rfl
  have h95 : (95 : UInt8).toNat = 95 := rfl
  simp only [value_name_l1b, lt_t hi, hc, cond_true, Option.bind_some, value_name_j2, h97, h122, h48, h57, h95]
  simp only [Bool.cond_eq_ite, decide_eq_true_eq, bne_iff_ne, ne_eq, Bool.false_eq_true, if_false, chOk_iff]
  repeat (split <;> (try (first | rfl | (exfalso; omega))))
theorem vn_l (s : Str) : ∀ k i, k + i = s.length → value_name_l1 s i = some ((s.drop i).all chOk)
  | 0, i, h => by
    rw [value_name_l1_eq]
    simp only [value_name_l1b, lt_f (by omega : ¬ i < s.length), cond_false]
    rw [List.drop_of_length_le (by omega)]; rfl
  | k + 1, i, h => by
    obtain ⟨c, hc, hd⟩ := dropc (by omega : i < s.length)
    rw [value_name_l1_eq, vn_body c _ i s (by omega) hc, vn_l s k (i + 1) (by omega), hd, List.all_cons]
    cases chOk c <;> rfl
theorem value_name_eq (s : Str) : p_value_name s = some (nameOk s) := by
  have h97 : (97 : UInt8).toNat = 97 := rfl
  have h122 : (122 : UInt8).toNat = 122 := rfl
  cases s with
  | nil => rfl
  | cons c r =>
    have hl := vn_l (c :: r) (c :: r).length 0 (by simp)
    rw [List.drop_zero] at hl
    simp only [p_value_name, value_name_j1, h97, h122]
    have he : ((c :: r) == ([] : Str)) = false := rfl
    have h0 : (c :: r)[0]? = some c := rfl
    simp only [he, h0, cond_true, cond_false, Option.bind_some]
    by_cases h32 : (c :: r).length ≤ 32
    · have hs : smallO (c :: r).length = some () := by unfold smallO; rw [Nat.ble_eq_true_of_le (by omega)]; rfl
      simp only [hs, hl, Option.bind_some]
      have e1 : decide (((c :: r).length : Int) > 32) = false := decide_eq_false (by omega)
      rw [e1]
      simp only [cond_false, nameOk, List.headD_cons, Nat.ble_eq_true_of_le h32, Nat.ble_eq_true_of_le (by simp : 1 ≤ (c :: r).length), Bool.true_and]
      cases hlo : loOk c with
      | true =>
        have := loOk_iff.1 hlo
        have e2 : decide ((c.toNat : Int) < (97 : Nat)) = false := decide_eq_false (by omega)
        have e3 : decide ((c.toNat : Int) > (122 : Nat)) = false := decide_eq_false (by omega)
        rw [e2, e3]; rfl
      | false =>
        have h2 : ¬ (97 ≤ c.toNat ∧ c.toNat ≤ 122) := fun h => by rw [loOk_iff.2 h] at hlo; cases hlo
        by_cases h3 : c.toNat < 97
        · have e2 : decide ((c.toNat : Int) < (97 : Nat)) = true := decide_eq_true (by omega)
          rw [e2]; rfl
        · have e2 : decide ((c.toNat : Int) < (97 : Nat)) = false := decide_eq_false (by omega)
          have e3 : decide ((c.toNat : Int) > (122 : Nat)) = true := decide_eq_true (by omega)
          rw [e2, e3]; rfl
    · have e1 : decide (((c :: r).length : Int) > 32) = true := decide_eq_true (by omega)
      have e2 : Nat.ble (c :: r).length 32 = false := by
        cases hb : Nat.ble (c :: r).length 32 with
        | false => rfl
        | true => exact absurd (Nat.le_of_ble_eq_true hb) h32
      rw [e1]
      simp only [cond_true, nameOk, e2, Bool.and_false, Bool.false_and]
end Go.Proofs.Ytigadhiciinicaa

namespace Go.Proofs.Ytigadhiciinicaa
open Go Aw
set_option linter.unusedVariables false
set_option linter.unusedSimpArgs false
set_option maxRecDepth 8000
/-! ### fields: names that rise -/
def leB (a b : Str) : Bool := Op.bytesLess a b || a == b
def risen : Option Str → List Str → Bool
  | _, [] => true
  | p, s :: r => nameOk s && (match p with | none => true | some q => !(leB s q)) && risen (some s) r
def prevOf (l : List Str) (i : Nat) : Option Str := if i = 0 then none else l[i - 1]?
def fieldsE (l : List Str) : Int := if 4096 < l.length then 2 else if risen none l then 0 else 8
theorem risen_step {l : List Str} {i : Nat} {s : Str} (h : l[i]? = some s) (p : Option Str) : risen p (l.drop i) = (nameOk s && (match p with | none => true | some q => !(leB s q)) && risen (prevOf l (i + 1)) (l.drop (i + 1))) := by
  have hi := (List.getElem?_eq_some_iff.1 h).1
  have hd : l.drop i = s :: l.drop (i + 1) := by rw [List.drop_eq_getElem_cons hi, (List.getElem?_eq_some_iff.1 h).2]
  have : prevOf l (i + 1) = some s := by simp [prevOf, h]
  rw [hd, this]
  cases p <;> simp only [risen]
theorem risen_nil (p : Option Str) : risen p [] = true := by cases p <;> rfl
def r08 (b : Bool) : Int := if b then 0 else 8
/-- One round over names, whatever stands beside them. -/
theorem fields_round {α : Type} (l : List (Str × α)) (i : Nat) (hi : i < l.length) (hb : l.length ≤ 4096) (g : Option Int) (hg : g = some (r08 (risen (prevOf (l.map (·.1)) (i + 1)) ((l.map (·.1)).drop (i + 1))))) (x : Str × α) (hx : l[i]? = some x) :
    (bif !(nameOk x.1) then some 8 else (bif decide (((i : Nat) : Int) > 0) then Option.bind (idxI l (IntKind.i64.wrap (((i : Nat) : Int) - 1))) fun y => (bif (Op.bytesLess x.1 y.1 || x.1 == y.1) then some 8 else g) else g)) = some (r08 (risen (prevOf (l.map (·.1)) i) ((l.map (·.1)).drop i))) := by
  have hs : (l.map (·.1))[i]? = some x.1 := by rw [List.getElem?_map, hx]; rfl
  rw [risen_step hs]
  cases hn : nameOk x.1 with
  | false => rfl
  | true =>
    simp only [Bool.not_true, cond_false, Bool.true_and]
    by_cases h0 : i = 0
    · subst h0
      have e : decide (((0 : Nat) : Int) > 0) = false := rfl
      rw [e, hg]
      simp only [cond_false, prevOf, if_pos, Bool.true_and]
    · have e : decide ((i : Int) > 0) = true := decide_eq_true (by omega)
      have hw : IntKind.i64.wrap ((i : Int) - 1) = ((i - 1 : Nat) : Int) := by rw [w64_in (by omega) (by omega)]; omega
      obtain ⟨y, hy, _⟩ := dropc (by omega : i - 1 < l.length)
      rw [e, hw, idxI_nat, hy]
      have hp : prevOf (l.map (·.1)) i = some y.1 := by simp only [prevOf, if_neg h0, List.getElem?_map, hy, Option.map_some]
      simp only [cond_true, Option.bind_some, hp, hg]
      show (bif leB x.1 y.1 then _ else _) = _
      cases leB x.1 y.1 <;> rfl
theorem vf_l (l : List (Str × V)) (hb : l.length ≤ 4096) : ∀ k i, k + i = l.length → value_fields_l1 l i = some (r08 (risen (prevOf (l.map (·.1)) i) ((l.map (·.1)).drop i)))
  | 0, i, h => by
    rw [value_fields_l1_eq]
    simp only [value_fields_l1b, lt_f (by omega : ¬ i < l.length), cond_false]
    rw [List.drop_of_length_le (by simp; omega), risen_nil]; rfl
  | k + 1, i, h => by
    obtain ⟨x, hx, _⟩ := dropc (by omega : i < l.length)
    have hr := fields_round l i (by omega) hb _ (vf_l l hb k (i + 1) (by omega)) x hx
    rw [value_fields_l1_eq]
    simp only [value_fields_l1b, lt_t (by omega : i < l.length), cond_true, hx, Option.bind_some, value_name_eq, value_fields_j1, cond_false]
    exact hr
theorem value_fields_eq (l : List (Str × V)) : p_value_fields l = some (fieldsE (l.map (·.1))) := by
  simp only [p_value_fields, fieldsE, List.length_map]
  by_cases h : 4096 < l.length
  · rw [decide_eq_true (by omega : (l.length : Int) > 4096), if_pos h]; rfl
  · rw [decide_eq_false (by omega : ¬ (l.length : Int) > 4096), if_neg h, cond_false, vf_l l (by omega) l.length 0 (by omega)]; rfl
/-! ### what is wrong with a part itself -/
def kindOf : V → Int
  | .nil => 1
  | .bool _ => 2
  | .int _ => 3
  | .float _ => 4
  | .text _ => 5
  | .bytes _ => 6
  | .ref _ => 7
  | .list _ => 8
  | .dict _ => 9
  | .record _ _ _ => 10
  | .nothing => 11
  | .alien _ => 0
theorem value_kind_eq (x : V) : p_value_kind x = some (kindOf x) := by cases x <;> rfl
def farE : V → Int
  | .nothing => 7
  | .alien _ => 6
  | _ => 2
def nearE : V → Int
  | .text s => if 65536 < s.length then 2 else 0
  | .bytes b => if 65536 < b.length then 2 else 0
  | .list l => if 4096 < l.length then 2 else 0
  | .dict l => fieldsE (l.map (·.1))
  | .record c v l => if nameOk c = false then 8 else if v < 1 ∨ 1000 < v then 1 else fieldsE (l.map (·.1))
  | .nothing => 7
  | .alien _ => 6
  | _ => 0
def ownE (x : V) (n deep : Int) : Int := if 16384 ≤ n ∨ 64 < deep then farE x else nearE x
theorem far_j (x : V) : value_own_j1 x true = some (farE x) := by
  simp only [value_own_j1, cond_true, value_kind_eq, Option.bind_some]
  cases x <;> rfl
theorem big_if (n m : Nat) : (bif decide ((n : Int) > (m : Int)) then some (2 : Int) else value_own_j2) = some (if m < n then 2 else 0) := by
  by_cases h : m < n
  · rw [decide_eq_true (by omega : (n : Int) > m), if_pos h]; rfl
  · rw [decide_eq_false (by omega : ¬ (n : Int) > m), if_neg h]; rfl
theorem near_j (x : V) : value_own_j1 x false = some (nearE x) := by
  cases x with
  | text s => exact big_if s.length 65536
  | bytes s => exact big_if s.length 65536
  | list s => exact big_if s.length 4096
  | dict l =>
    have : value_own_j1 (.dict l) false = Option.bind (p_value_fields l) fun x => some x := rfl
    rw [this, value_fields_eq]; rfl
  | record c v l =>
    have : value_own_j1 (.record c v l) false = Option.bind (p_value_name c) fun x17 => bif !x17 then some 8 else bif decide (v < 1) then value_own_j3 ⟨c, v, l⟩ true else value_own_j3 ⟨c, v, l⟩ (decide (v > 1000)) := rfl
    rw [this, value_name_eq]
    simp only [Option.bind_some, nearE, value_own_j3, value_fields_eq]
    cases hn : nameOk c with
    | false => rfl
    | true =>
      simp only [Bool.not_true, cond_false, cond_true]
      by_cases h1 : v < 1
      · rw [decide_eq_true h1, cond_true, if_neg (by simp), if_pos (Or.inl h1)]
      · rw [decide_eq_false h1, cond_false, if_neg (by simp)]
        by_cases h2 : v > 1000
        · rw [decide_eq_true h2, cond_true, if_pos (Or.inr h2)]
        · rw [decide_eq_false h2, cond_false, if_neg (by omega)]
  | _ => rfl
theorem value_own_eq (x : V) (n d : Int) : p_value_own x n d = some (ownE x n d) := by
  simp only [p_value_own, ownE]
  by_cases h1 : n ≥ 16384
  · rw [decide_eq_true h1, cond_true, if_pos (Or.inl h1), far_j]
  · rw [decide_eq_false h1, cond_false]
    by_cases h2 : d > 64
    · rw [decide_eq_true h2, if_pos (Or.inr h2), far_j]
    · rw [decide_eq_false h2, if_neg (by omega), near_j]
/-! ### the value of a term -/
theorem al_cond {c : Bool} {x y : Option V} (h1 : ∃ a, x = some (.alien a)) (h2 : ∃ a, y = some (.alien a)) : ∃ a, (bif c then x else y) = some (.alien a) := by cases c <;> assumption
theorem alien_ex (n : Int) : ∃ a, p_mk_Alien n = some (.alien a) := by
  unfold p_mk_Alien
  repeat (first | exact ⟨_, rfl⟩ | refine al_cond ⟨_, rfl⟩ ?_)
noncomputable def alT (n : Int) : {t : Nat // alienT t = true} := (alien_ex n).choose
mutual
noncomputable def bu : Term → V
  | .mk k b i f t y r l d c v => if k = 1 then .nil else if k = 2 then .bool b else if k = 3 then .int i else if k = 4 then .float f else if k = 5 then .text t else if k = 6 then .bytes y else if k = 7 then .ref r
    else if k = 8 then .list (buTs l) else if k = 9 then .dict (buEs d) else if k = 10 then .record c v (buEs d) else if k = 11 then .nothing else .alien (alT i)
noncomputable def buTs : List Term → List V
  | [] => []
  | x :: r => bu x :: buTs r
noncomputable def buEs : List (Str × Term) → List (Str × V)
  | [] => []
  | (s, x) :: r => (s, bu x) :: buEs r
end
noncomputable def buE (p : Str × Term) : Str × V := (p.1, bu p.2)
theorem buTs_map : ∀ l, buTs l = l.map bu
  | [] => by rw [buTs]; rfl
  | x :: r => by rw [buTs, buTs_map r]; rfl
theorem buEs_map : ∀ l, buEs l = l.map buE
  | [] => by rw [buEs]; rfl
  | (s, x) :: r => by rw [buEs, buEs_map r]; rfl
theorem bu_snds (l : List (Str × Term)) : (l.map buE).map (·.2) = (l.map (·.2)).map bu := by rw [List.map_map, List.map_map]; rfl
inductive BuC (t : Term) : V → Prop
  | nil : t.kind = 1 → BuC t .nil
  | bool : t.kind = 2 → BuC t (.bool t.bool)
  | int : t.kind = 3 → BuC t (.int t.int)
  | float : t.kind = 4 → BuC t (.float t.float)
  | text : t.kind = 5 → BuC t (.text t.text)
  | bytes : t.kind = 6 → BuC t (.bytes t.bytes)
  | ref : t.kind = 7 → BuC t (.ref t.ref)
  | list : t.kind = 8 → BuC t (.list (t.list.map bu))
  | dict : t.kind = 9 → BuC t (.dict (t.fields.map buE))
  | record : t.kind = 10 → BuC t (.record t.cls t.ver (t.fields.map buE))
  | nothing : t.kind = 11 → BuC t .nothing
  | alien : t.kind < 1 ∨ 11 < t.kind → BuC t (.alien (alT t.int))
theorem bu_c (t : Term) : BuC t (bu t) := by
  cases t with
  | mk k b i f t y r l d c v =>
    rw [bu, buTs_map, buEs_map]
    by_cases h1 : k = 1; · rw [if_pos h1]; exact .nil h1
    by_cases h2 : k = 2; · rw [if_neg h1, if_pos h2]; exact .bool h2
    by_cases h3 : k = 3; · rw [if_neg h1, if_neg h2, if_pos h3]; exact .int h3
    by_cases h4 : k = 4; · rw [if_neg h1, if_neg h2, if_neg h3, if_pos h4]; exact .float h4
    by_cases h5 : k = 5; · rw [if_neg h1, if_neg h2, if_neg h3, if_neg h4, if_pos h5]; exact .text h5
    by_cases h6 : k = 6; · rw [if_neg h1, if_neg h2, if_neg h3, if_neg h4, if_neg h5, if_pos h6]; exact .bytes h6
    by_cases h7 : k = 7; · rw [if_neg h1, if_neg h2, if_neg h3, if_neg h4, if_neg h5, if_neg h6, if_pos h7]; exact .ref h7
    by_cases h8 : k = 8; · rw [if_neg h1, if_neg h2, if_neg h3, if_neg h4, if_neg h5, if_neg h6, if_neg h7, if_pos h8]; exact .list h8
    by_cases h9 : k = 9; · rw [if_neg h1, if_neg h2, if_neg h3, if_neg h4, if_neg h5, if_neg h6, if_neg h7, if_neg h8, if_pos h9]; exact .dict h9
    by_cases h10 : k = 10; · rw [if_neg h1, if_neg h2, if_neg h3, if_neg h4, if_neg h5, if_neg h6, if_neg h7, if_neg h8, if_neg h9, if_pos h10]; exact .record h10
    by_cases h11 : k = 11; · rw [if_neg h1, if_neg h2, if_neg h3, if_neg h4, if_neg h5, if_neg h6, if_neg h7, if_neg h8, if_neg h9, if_neg h10, if_pos h11]; exact .nothing h11
    rw [if_neg h1, if_neg h2, if_neg h3, if_neg h4, if_neg h5, if_neg h6, if_neg h7, if_neg h8, if_neg h9, if_neg h10, if_neg h11]
    exact .alien (by show k < 1 ∨ 11 < k; omega)
end Go.Proofs.Ytigadhiciinicaa

namespace Go.Proofs.Ytigadhiciinicaa
open Go Aw
set_option linter.unusedVariables false
set_option linter.unusedSimpArgs false
set_option maxRecDepth 8000
/-- What a count tells: all was well, the parts, the depth, what is wrong. -/
structure Ct where
  ok : Bool
  n : Int
  dp : Int
  why : Int
mutual
def partF : V → Int → Int → Int → Ct
  | .list l, n, dp, d => if ownE (.list l) n d = 0 then partsF l (n + 1) (max dp d) (d + 1) else ⟨false, n, dp, ownE (.list l) n d⟩
  | .dict l, n, dp, d => if ownE (.dict l) n d = 0 then fieldsF l (n + 1) (max dp d) (d + 1) else ⟨false, n, dp, ownE (.dict l) n d⟩
  | .record c v l, n, dp, d => if ownE (.record c v l) n d = 0 then fieldsF l (n + 1) (max dp d) (d + 1) else ⟨false, n, dp, ownE (.record c v l) n d⟩
  | x, n, dp, d => if ownE x n d = 0 then ⟨true, n + 1, max dp d, 0⟩ else ⟨false, n, dp, ownE x n d⟩
def partsF : List V → Int → Int → Int → Ct
  | [], n, dp, d => ⟨true, n, dp, 0⟩
  | x :: r, n, dp, d => if (partF x n dp d).ok then partsF r (partF x n dp d).n (partF x n dp d).dp d else partF x n dp d
def fieldsF : List (Str × V) → Int → Int → Int → Ct
  | [], n, dp, d => ⟨true, n, dp, 0⟩
  | (s, x) :: r, n, dp, d => if (partF x n dp d).ok then fieldsF r (partF x n dp d).n (partF x n dp d).dp d else partF x n dp d
end
def V.parts : V → List V
  | .list l => l
  | .dict l => l.map (·.2)
  | .record _ _ l => l.map (·.2)
  | _ => []
theorem fieldsF_map : ∀ (l : List (Str × V)) (n dp d : Int), fieldsF l n dp d = partsF (l.map (·.2)) n dp d
  | [], n, dp, d => by simp only [fieldsF, partsF, List.map_nil]
  | (s, x) :: r, n, dp, d => by simp only [fieldsF, partsF, List.map_cons, fieldsF_map r]
theorem partF_eq (x : V) (n dp d : Int) : partF x n dp d = if ownE x n d = 0 then partsF x.parts (n + 1) (max dp d) (d + 1) else ⟨false, n, dp, ownE x n d⟩ := by
  cases x <;> simp only [partF, V.parts, fieldsF_map, partsF]
theorem partsF_cons (x : V) (r : List V) (n dp d : Int) : partsF (x :: r) n dp d = if (partF x n dp d).ok then partsF r (partF x n dp d).n (partF x n dp d).dp d else partF x n dp d := by simp only [partsF]
theorem partsF_nil (n dp d : Int) : partsF [] n dp d = ⟨true, n, dp, 0⟩ := by simp only [partsF]
theorem far_ne (x : V) : farE x ≠ 0 := by cases x <;> simp [farE]
theorem own_zero {x : V} {n d : Int} (h : ownE x n d = 0) : n < 16384 ∧ d ≤ 64 ∧ nearE x = 0 := by
  unfold ownE at h
  split at h
  · exact absurd h (far_ne x)
  · rename_i hc; exact ⟨by omega, by omega, h⟩
theorem parts_lt {x y : V} (h : y ∈ x.parts) : SizeOf.sizeOf y < SizeOf.sizeOf x := by
  cases x <;> simp only [V.parts, List.not_mem_nil] at h
  · have := List.sizeOf_lt_of_mem h; simp; omega
  · obtain ⟨⟨s, z⟩, hz, rfl⟩ := List.mem_map.1 h
    have := List.sizeOf_lt_of_mem hz; simp at this ⊢; omega
  · obtain ⟨⟨s, z⟩, hz, rfl⟩ := List.mem_map.1 h
    have := List.sizeOf_lt_of_mem hz; simp at this ⊢; omega
/-- By a value's parts. -/
theorem V.byParts {P : V → Prop} (h : ∀ x, (∀ y, y ∈ x.parts → P y) → P x) (x : V) : P x :=
  h x (fun y hy => V.byParts h y)
termination_by SizeOf.sizeOf x
decreasing_by exact parts_lt hy
/-- What is always so of a count. -/
structure CtOk (c : Ct) (n : Int) : Prop where
  lo : n ≤ c.n
  ok : c.ok = true → c.n ≤ 16384 ∧ c.why = 0
  bad : c.ok = false → c.why ≠ 0
theorem parts_facts {d : Int} : ∀ (l : List V), (∀ y, y ∈ l → ∀ n dp, CtOk (partF y n dp d) n) → ∀ n dp, n ≤ 16384 → CtOk (partsF l n dp d) n
  | [], _, n, dp, hm => by rw [partsF_nil]; exact ⟨Int.le_refl _, fun _ => ⟨hm, rfl⟩, by simp⟩
  | x :: r, h, n, dp, hm => by
    have h1 := h x (by simp) n dp
    rw [partsF_cons]
    split
    · rename_i hk
      have h2 := parts_facts r (fun y hy => h y (by simp [hy])) _ (partF x n dp d).dp (h1.ok hk).1
      exact ⟨Int.le_trans h1.lo h2.lo, h2.ok, h2.bad⟩
    · exact h1
theorem part_facts (x : V) : ∀ d n dp, CtOk (partF x n dp d) n := by
  induction x using V.byParts with
  | _ x ih =>
  intro d n dp
  rw [partF_eq]
  split
  · rename_i h
    have := own_zero h
    have h2 := parts_facts x.parts (fun y hy n dp => ih y hy (d + 1) n dp) (n + 1) (max dp d) (by omega)
    exact ⟨by have := h2.lo; omega, h2.ok, h2.bad⟩
  · rename_i h; exact ⟨Int.le_refl _, by simp, fun _ => h⟩
/-! ### the program's -/
def ctS (c : Ct) : Bool × S_value_count := (c.ok, ⟨c.n, c.dp, c.why⟩)
def PartOk (x : V) : Prop := ∀ n dp w d, -4611686018427387904 ≤ n → n ≤ 16384 → -4611686018427387904 ≤ d → d ≤ 65 → p_value_count_part ⟨n, dp, w⟩ x d = some (ctS (partF x n dp d))
theorem cp_l (l : List V) (d : Int) (hl : ∀ y, y ∈ l → PartOk y) (hd : -4611686018427387904 ≤ d) (hd' : d ≤ 64) : ∀ k i n dp, k + i = l.length → -4611686018427387904 ≤ n → n ≤ 16384 → value_count_part_l1 p_value_count_part (.list l) d i n dp 0 = some (ctS (partsF (l.drop i) n dp (d + 1)))
  | 0, i, n, dp, h, hn, hm => by
    rw [value_count_part_l1_eq]
    simp only [value_count_part_l1b, V.asList, lt_f (by omega : ¬ i < l.length), cond_false, value_count_part_j1]
    rw [List.drop_of_length_le (by omega), partsF_nil]; rfl
  | k + 1, i, n, dp, h, hn, hm => by
    obtain ⟨x, hx, hdr⟩ := dropc (by omega : i < l.length)
    have hp := hl x (List.mem_of_getElem? hx) n dp 0 (d + 1) hn hm (by omega) (by omega)
    have hw : IntKind.i64.wrap (d + 1) = d + 1 := w64_in (by omega) (by omega)
    rw [value_count_part_l1_eq]
    simp only [value_count_part_l1b, V.asList, lt_t (by omega : i < l.length), cond_true, hx, Option.bind_some, hw, hp, ctS]
    rw [hdr, partsF_cons]
    have hf := part_facts x (d + 1) n dp
    cases hk : (partF x n dp (d + 1)).ok with
    | false => simp only [Bool.not_false, cond_true, Bool.false_eq_true, if_false, hk]
    | true =>
      have h1 := hf.ok hk
      have h2 := hf.lo
      simp only [Bool.not_true, cond_false, if_true]
      rw [h1.2, cp_l l d hl hd hd' k (i + 1) _ _ (by omega) (by omega) h1.1]; rfl
theorem ca_l (l : List (Str × V)) (d : Int) (hl : ∀ y, y ∈ l.map (·.2) → PartOk y) (hd : -4611686018427387904 ≤ d) (hd' : d ≤ 64) : ∀ k i n dp, k + i = l.length → -4611686018427387904 ≤ n → n ≤ 16384 → value_count_all_l1 p_value_count_part l d i n dp 0 = some (ctS (partsF ((l.map (·.2)).drop i) n dp (d + 1)))
  | 0, i, n, dp, h, hn, hm => by
    rw [value_count_all_l1_eq]
    simp only [value_count_all_l1b, lt_f (by omega : ¬ i < l.length), cond_false]
    rw [List.drop_of_length_le (by simp; omega), partsF_nil]; rfl
  | k + 1, i, n, dp, h, hn, hm => by
    obtain ⟨x, hx, _⟩ := dropc (by omega : i < l.length)
    have hx2 : (l.map (·.2))[i]? = some x.2 := by rw [List.getElem?_map, hx]; rfl
    obtain ⟨x', hx', hdr⟩ := dropc (by rw [List.length_map]; omega : i < (l.map (·.2)).length)
    rw [hx2] at hx'; injection hx' with hx'; subst hx'
    have hp := hl x.2 (List.mem_of_getElem? hx2) n dp 0 (d + 1) hn hm (by omega) (by omega)
    have hw : IntKind.i64.wrap (d + 1) = d + 1 := w64_in (by omega) (by omega)
    rw [value_count_all_l1_eq]
    simp only [value_count_all_l1b, lt_t (by omega : i < l.length), cond_true, hx, Option.bind_some, hw, hp, ctS]
    rw [hdr, partsF_cons]
    have hf := part_facts x.2 (d + 1) n dp
    cases hk : (partF x.2 n dp (d + 1)).ok with
    | false => simp only [Bool.not_false, cond_true, Bool.false_eq_true, if_false, hk]
    | true =>
      have h1 := hf.ok hk
      have h2 := hf.lo
      simp only [Bool.not_true, cond_false, if_true]
      rw [h1.2, ca_l l d hl hd hd' k (i + 1) _ _ (by omega) (by omega) h1.1]; rfl
theorem value_count_all_eq (l : List (Str × V)) (d n dp : Int) (hl : ∀ y, y ∈ l.map (·.2) → PartOk y) (hd : -4611686018427387904 ≤ d) (hd' : d ≤ 64) (hn : -4611686018427387904 ≤ n) (hm : n ≤ 16384) : p_value_count_all ⟨n, dp, 0⟩ l d = some (ctS (partsF (l.map (·.2)) n dp (d + 1))) := by
  rw [e_value_count_all, b_value_count_all]
  exact ca_l l d hl hd hd' l.length 0 n dp (by omega) hn hm
theorem value_count_part_eq (x : V) : PartOk x := by
  induction x using V.byParts with
  | _ x ih =>
  intro n dp w d hn hm hd hd'
  rw [e_value_count_part, b_value_count_part, partF_eq]
  simp only [value_own_eq, Option.bind_some]
  by_cases h : ownE x n d = 0
  · have h0 := own_zero h
    have hw : IntKind.i64.wrap (n + 1) = n + 1 := w64_in (by omega) (by omega)
    have hmx : (if d > dp then d else dp) = max dp d := by omega
    rw [if_pos h, h, hw, hmx]
    have e0 : ((0 : Int) != 0) = false := rfl
    rw [e0, cond_false]
    cases x with
    | list l => exact cp_l l d ih hd (by omega) l.length 0 (n + 1) (max dp d) (by omega) (by omega) (by omega)
    | dict l =>
      show Option.bind (p_value_count_all ⟨n + 1, max dp d, 0⟩ l d) (fun x => some (x.1, x.2)) = _
      rw [value_count_all_eq l d _ _ ih hd (by omega) (by omega) (by omega)]; rfl
    | record c v l =>
      show Option.bind (p_value_count_all ⟨n + 1, max dp d, 0⟩ l d) (fun x => some (x.1, x.2)) = _
      rw [value_count_all_eq l d _ _ ih hd (by omega) (by omega) (by omega)]; rfl
    | nothing => have := h0.2.2; simp [nearE] at this
    | _ => simp only [V.parts, partsF_nil]; rfl
  · rw [if_neg h]
    have e0 : (ownE x n d != 0) = true := by simpa using h
    rw [e0]; rfl
def checkF (x : V) : Int × Int := if (partF x 0 0 1).ok then (0, 0) else ((partF x 0 0 1).n, (partF x 0 0 1).why)
theorem value_check_eq (x : V) : p_value_check x = some (checkF x) := by
  simp only [p_value_check, value_count_part_eq x 0 0 0 1 (by omega) (by omega) (by omega) (by omega), Option.bind_some, ctS, checkF]
  cases (partF x 0 0 1).ok <;> rfl
theorem value_Check_eq (x : V) : p_value_Check x = some (checkF x) := by simp only [p_value_Check, value_check_eq, Option.bind_some]
/-! ### the document's -/
def partsT (t : Term) : List Term := if t.kind = 8 then t.list else if t.kind = 9 ∨ t.kind = 10 then t.fields.map (·.2) else []
theorem partsT_bu (t : Term) : (partsT t).map bu = (bu t).parts := by
  have hb := bu_c t
  unfold partsT
  generalize bu t = x at hb
  cases hb with
  | list hk => rw [if_pos hk]; rfl
  | dict hk => rw [if_neg (by omega), if_pos (Or.inl hk)]; simp only [V.parts, bu_snds]
  | record hk => rw [if_neg (by omega), if_pos (Or.inr hk)]; simp only [V.parts, bu_snds]
  | _ hk => rw [if_neg (by omega), if_neg (by omega)]; rfl
theorem partsT_lt {t u : Term} (h : u ∈ partsT t) : SizeOf.sizeOf u < SizeOf.sizeOf t := by
  cases t with
  | mk k b i f s y r l d c v =>
  unfold partsT at h
  split at h
  · have := List.sizeOf_lt_of_mem h; simp [Term.list] at this ⊢; omega
  · split at h
    · obtain ⟨⟨s, z⟩, hz, rfl⟩ := List.mem_map.1 h
      have := List.sizeOf_lt_of_mem hz; simp [Term.fields] at this ⊢; omega
    · cases h
theorem Term.byParts {P : Term → Prop} (h : ∀ t, (∀ u, u ∈ partsT t → P u) → P t) (t : Term) : P t :=
  h t (fun u hu => Term.byParts h u)
termination_by SizeOf.sizeOf t
decreasing_by exact partsT_lt hu
end Go.Proofs.Ytigadhiciinicaa

namespace Go.Proofs.Ytigadhiciinicaa
open Go Aw
set_option linter.unusedVariables false
set_option linter.unusedSimpArgs false
set_option maxRecDepth 8000
/-- The document's: the first one a letter, the others any. -/
theorem rn_body (c : UInt8) (g : Int → Option Bool) (i : Nat) (s : Str) (hi : i < s.length) (hb : s.length ≤ 32) (hc : s[i]? = some c) :
    ref01_Name_l1b s g (i : Int) = bif (if i = 0 then loOk c else chOk c) then g ((i + 1 : Nat) : Int) else some false := by
  have h97 : (97 : UInt8).toNat = 97 := rfl
  have h122 : (122 : UInt8).toNat = 122 := rfl
  have h48 : (48 : UInt8).toNat = 48 := rfl
  have h57 : (57 : UInt8).toNat = 57 := rfl
  have h95 : (95 : UInt8).toNat = 95 := rfl
  have hw : IntKind.i64.wrap ((i : Int) + 1) = ((i + 1 : Nat) : Int) := by rw [w64_in (by omega) (by omega)]; omega
  simp only [ref01_Name_l1b, lt_t hi, idxI_nat, hc, cond_true, Option.bind_some, ref01_Name_j2, ref01_Name_j3, h97, h122, h48, h57, h95, hw]
  by_cases h0 : i = 0
  · subst h0
    simp only [Bool.cond_eq_ite, decide_eq_true_eq, bne_iff_ne, ne_eq, Bool.false_eq_true, if_false, if_true, loOk_iff, Bool.not_eq_true', Bool.not_false, decide_eq_false_iff_not]
    repeat (split <;> (try (first | rfl | (exfalso; omega))))
    all_goals (first | rfl | (exfalso; simp_all; omega) | (simp_all; done))
  · have e0 : ((i : Int) == 0) = false := by simp; omega
    rw [if_neg h0]
    simp only [e0, Bool.cond_eq_ite, decide_eq_true_eq, bne_iff_ne, ne_eq, Bool.false_eq_true, if_false, if_true, chOk_iff, Bool.not_eq_true', Bool.not_false, decide_eq_false_iff_not]
    repeat (split <;> (try (first | rfl | (exfalso; omega))))
    all_goals (first | rfl | (exfalso; simp_all; omega) | (simp_all; done))
theorem rn_l (s : Str) (hb : s.length ≤ 32) : ∀ k i, k + i = s.length → 0 < i → ref01_Name_l1 s (i : Int) = some ((s.drop i).all chOk)
  | 0, i, h, h0 => by
    rw [ref01_Name_l1_eq]
    simp only [ref01_Name_l1b, lt_f (by omega : ¬ i < s.length), cond_false]
    rw [List.drop_of_length_le (by omega)]; rfl
  | k + 1, i, h, h0 => by
    obtain ⟨c, hc, hd⟩ := dropc (by omega : i < s.length)
    rw [ref01_Name_l1_eq, rn_body c _ i s (by omega) hb hc, if_neg (by omega), rn_l s hb k (i + 1) (by omega) (by omega), hd, List.all_cons]
    cases chOk c <;> rfl
theorem lo_ch {c : UInt8} (h : loOk c = true) : chOk c = true := chOk_iff.2 (.inl (loOk_iff.1 h))
theorem ref01_Name_eq (s : Str) : p_ref01_Name s = some (nameOk s) := by
  simp only [p_ref01_Name, ref01_Name_j1]
  by_cases h1 : s.length < 1
  · have : s = [] := List.eq_nil_of_length_eq_zero (by omega)
    subst this; rfl
  · have e1 : decide ((s.length : Int) < 1) = false := decide_eq_false (by omega)
    rw [e1]
    by_cases h32 : s.length ≤ 32
    · have e2 : decide ((s.length : Int) > 32) = false := decide_eq_false (by omega)
      rw [e2]
      simp only [cond_false]
      cases s with
      | nil => simp at h1
      | cons c r =>
        have hb := rn_body c (ref01_Name_l1 (c :: r)) 0 (c :: r) (by simp) h32 rfl
        have hl := rn_l (c :: r) h32 r.length 1 (by simp) (by omega)
        have e : ref01_Name_l1 (c :: r) 0 = ref01_Name_l1b (c :: r) (ref01_Name_l1 (c :: r)) ((0 : Nat) : Int) := ref01_Name_l1_eq (c :: r) 0
        rw [e, hb, if_pos rfl]
        simp only [hl, nameOk, List.headD_cons, Nat.ble_eq_true_of_le h32, Nat.ble_eq_true_of_le (by simp : 1 ≤ (c :: r).length), Bool.true_and, List.all_cons]
        cases hlo : loOk c with
        | true => rw [lo_ch hlo]; rfl
        | false => rfl
    · have e2 : decide ((s.length : Int) > 32) = true := decide_eq_true (by omega)
      have e3 : Nat.ble s.length 32 = false := by
        cases hb : Nat.ble s.length 32 with
        | false => rfl
        | true => exact absurd (Nat.le_of_ble_eq_true hb) h32
      rw [e2]
      simp only [cond_true, cond_false, nameOk, e3, Bool.and_false, Bool.false_and]
end Go.Proofs.Ytigadhiciinicaa

namespace Go.Proofs.Ytigadhiciinicaa
open Go Aw
set_option linter.unusedVariables false
set_option linter.unusedSimpArgs false
set_option maxRecDepth 8000
theorem app1 {α : Type} {b : Nat} {acc : List α} {x : α} (hb : b ≤ 1024) (h : acc.length ≤ 1073741824) : appO b acc [x] = some (acc ++ [x]) := by
  have h1 : (acc.length + 1) * b ≤ (1073741824 + 1) * 1024 := Nat.mul_le_mul (by omega) hb
  unfold appO
  rw [Nat.ble_eq_true_of_le (by simp only [List.length_cons, List.length_nil, Nat.zero_add]; omega)]; rfl
theorem app0 {α : Type} {b : Nat} {l : List α} (hb : b ≤ 1024) (h : l.length ≤ 1073741824) : appO b [] l = some l := by
  have h1 : l.length * b ≤ 1073741824 * 1024 := Nat.mul_le_mul h hb
  unfold appO
  rw [Nat.ble_eq_true_of_le (by simp only [List.length_nil, Nat.zero_add]; omega)]; rfl
theorem take_snoc {α β : Type} {l : List α} {f : α → β} {i : Nat} {x : α} (h : l[i]? = some x) : (l.take i).map f ++ [f x] = (l.take (i + 1)).map f := by
  obtain ⟨hi, rfl⟩ := List.getElem?_eq_some_iff.1 h
  rw [List.take_add_one, List.getElem?_eq_getElem hi, List.map_append]; rfl
end Go.Proofs.Ytigadhiciinicaa

namespace Go.Proofs.Ytigadhiciinicaa
open Go Aw
set_option linter.unusedVariables false
set_option linter.unusedSimpArgs false
set_option maxRecDepth 8000
def Fine (x : V) : Prop := ∃ n dp d, (partF x n dp d).ok = true
theorem partsF_ok {d : Int} : ∀ {l : List V} {n dp : Int}, (partsF l n dp d).ok = true → ∀ y, y ∈ l → ∃ n dp, (partF y n dp d).ok = true
  | x :: r, n, dp, h, y, hy => by
    rw [partsF_cons] at h
    cases hk : (partF x n dp d).ok with
    | false => rw [if_neg (by simp [hk])] at h; rw [hk] at h; cases h
    | true =>
      rw [if_pos hk] at h
      rcases List.mem_cons.1 hy with rfl | hy
      · exact ⟨n, dp, hk⟩
      · exact partsF_ok h y hy
theorem Fine.own {x : V} (h : Fine x) : nearE x = 0 ∧ ∀ y, y ∈ x.parts → Fine y := by
  obtain ⟨n, dp, d, h⟩ := h
  rw [partF_eq] at h
  split at h
  · rename_i ho
    exact ⟨(own_zero ho).2.2, fun y hy => let ⟨n', dp', h'⟩ := partsF_ok h y hy; ⟨n', dp', _, h'⟩⟩
  · cases h
theorem ne_t {a : Int} (h : a ≠ 0) : (a != 0) = true := by simpa using h
theorem fieldsE_len {l : List Str} (h : fieldsE l = 0) : l.length ≤ 4096 := by
  unfold fieldsE at h
  split at h
  · cases h
  · omega
theorem near_list {l : List V} (h : nearE (.list l) = 0) : l.length ≤ 4096 := by
  simp only [nearE] at h
  split at h
  · cases h
  · omega
theorem near_rec {c : Str} {v : Int} {l : List (Str × V)} (h : nearE (.record c v l) = 0) : (1 ≤ v ∧ v ≤ 1000) ∧ l.length ≤ 4096 := by
  simp only [nearE] at h
  split at h
  · cases h
  · split at h
    · cases h
    · have := fieldsE_len h; rw [List.length_map] at this; omega
theorem near_dict {l : List (Str × V)} (h : nearE (.dict l) = 0) : l.length ≤ 4096 := by
  have := fieldsE_len h; rwa [List.length_map] at this
end Go.Proofs.Ytigadhiciinicaa

namespace Go.Proofs.Ytigadhiciinicaa
open Go Aw
set_option linter.unusedVariables false
set_option linter.unusedSimpArgs false
set_option maxRecDepth 8000
mutual
def cnt : V → Int
  | .list l => 1 + cntL l
  | .dict l => 1 + cntD l
  | .record _ _ l => 1 + cntD l
  | _ => 1
def cntL : List V → Int
  | [] => 0
  | x :: r => cnt x + cntL r
def cntD : List (Str × V) → Int
  | [] => 0
  | (_, x) :: r => cnt x + cntD r
end
mutual
def dpt : V → Int
  | .list l => 1 + dptL l
  | .dict l => 1 + dptD l
  | .record _ _ l => 1 + dptD l
  | _ => 1
def dptL : List V → Int
  | [] => 0
  | x :: r => max (dpt x) (dptL r)
def dptD : List (Str × V) → Int
  | [] => 0
  | (_, x) :: r => max (dpt x) (dptD r)
end
theorem cntD_map : ∀ l, cntD l = cntL (l.map (·.2))
  | [] => by simp only [cntD, cntL, List.map_nil]
  | (s, x) :: r => by simp only [cntD, cntL, List.map_cons, cntD_map r]
theorem dptD_map : ∀ l, dptD l = dptL (l.map (·.2))
  | [] => by simp only [dptD, dptL, List.map_nil]
  | (s, x) :: r => by simp only [dptD, dptL, List.map_cons, dptD_map r]
theorem cnt_eq (x : V) : cnt x = 1 + cntL x.parts := by cases x <;> simp only [cnt, V.parts, cntD_map, cntL] <;> rfl
theorem dpt_eq (x : V) : dpt x = 1 + dptL x.parts := by cases x <;> simp only [dpt, V.parts, dptD_map, dptL] <;> rfl
/-- Nothing is wrong with it, but for how many and how deep. -/
inductive Near : V → Prop
  | mk {x : V} : nearE x = 0 → (∀ y, y ∈ x.parts → Near y) → Near x
theorem Near.own {x : V} (h : Near x) : nearE x = 0 := by cases h; assumption
theorem Near.part {x : V} (h : Near x) : ∀ y, y ∈ x.parts → Near y := by cases h; assumption
theorem cnt_pos (x : V) : 1 ≤ cnt x ∧ 1 ≤ dpt x := by
  induction x using V.byParts with
  | _ x ih =>
    rw [cnt_eq, dpt_eq]
    have : ∀ l : List V, (∀ y, y ∈ l → 1 ≤ cnt y ∧ 1 ≤ dpt y) → 0 ≤ cntL l ∧ 0 ≤ dptL l := by
      intro l
      induction l with
      | nil => intro _; simp [cntL, dptL]
      | cons y r ihr =>
        intro h
        have h1 := h y (by simp)
        have h2 := ihr (fun z hz => h z (by simp [hz]))
        simp only [cntL, dptL]; omega
    have := this x.parts ih
    omega
theorem own_iff {x : V} {n d : Int} : ownE x n d = 0 ↔ n < 16384 ∧ d ≤ 64 ∧ nearE x = 0 := by
  constructor
  · exact own_zero
  · rintro ⟨h1, h2, h3⟩
    unfold ownE; rw [if_neg (by omega)]; exact h3
theorem near_far {x : V} (h : nearE x = 0) : farE x = 2 := by cases x <;> first | rfl | (simp [nearE] at h)
/-- How a count goes, whatever was counted ahead. -/
structure Goes (x : V) : Prop where
  yes : ∀ n dp d, Near x → d - 1 ≤ dp → n + cnt x ≤ 16384 → d + dpt x - 1 ≤ 64 → partF x n dp d = ⟨true, n + cnt x, max dp (d + dpt x - 1), 0⟩
  ok : ∀ n dp d, (partF x n dp d).ok = true → Near x ∧ n + cnt x ≤ 16384 ∧ d + dpt x - 1 ≤ 64 ∧ (partF x n dp d).n = n + cnt x
  long : ∀ n dp d, Near x → (partF x n dp d).ok = false → (partF x n dp d).why = 2
theorem goes_l {l : List V} (h : ∀ y, y ∈ l → Goes y) :
    (∀ n dp d, (∀ y, y ∈ l → Near y) → d - 1 ≤ dp → n + cntL l ≤ 16384 → d + dptL l - 1 ≤ 64 → partsF l n dp d = ⟨true, n + cntL l, max dp (d + dptL l - 1), 0⟩) ∧
    (∀ n dp d, n ≤ 16384 → d ≤ 65 → (partsF l n dp d).ok = true → (∀ y, y ∈ l → Near y) ∧ n + cntL l ≤ 16384 ∧ d + dptL l - 1 ≤ 64 ∧ (partsF l n dp d).n = n + cntL l) ∧
    (∀ n dp d, (∀ y, y ∈ l → Near y) → (partsF l n dp d).ok = false → (partsF l n dp d).why = 2) := by
  induction l with
  | nil =>
    refine ⟨fun n dp d _ hd _ _ => ?_, fun n dp d hn hd _ => ?_, fun n dp d _ hk => ?_⟩
    · rw [partsF_nil, cntL, dptL]; congr 1 <;> omega
    · rw [partsF_nil, cntL, dptL]; exact ⟨by simp, by omega, by omega, by simp⟩
    · rw [partsF_nil] at hk; cases hk
  | cons x r ih =>
    have hx := h x (by simp)
    obtain ⟨i1, i2, i3⟩ := ih (fun y hy => h y (by simp [hy]))
    have hp := cnt_pos x
    have hr : 0 ≤ cntL r ∧ 0 ≤ dptL r := by
      clear i1 i2 i3 ih h hx
      induction r with
      | nil => simp [cntL, dptL]
      | cons y q ihq => have := cnt_pos y; simp only [cntL, dptL]; omega
    refine ⟨fun n dp d hnr hd hn hdd => ?_, fun n dp d hn hd hk => ?_, fun n dp d hnr hk => ?_⟩
    · rw [cntL] at hn ⊢
      rw [dptL] at hdd ⊢
      have e := hx.yes n dp d (hnr x (by simp)) hd (by omega) (by omega)
      rw [partsF_cons, e, if_pos rfl]
      rw [i1 _ _ d (fun y hy => hnr y (by simp [hy])) (by simp only; omega) (by simp only; omega) (by omega)]
      congr 1
      · simp only; omega
      · simp only; omega
    · rw [partsF_cons] at hk ⊢
      cases hk1 : (partF x n dp d).ok with
      | false => rw [if_neg (by simp [hk1])] at hk; rw [hk1] at hk; cases hk
      | true =>
        rw [if_pos hk1] at hk
        rw [if_pos rfl]
        obtain ⟨a1, a2, a3, a4⟩ := hx.ok n dp d hk1
        rw [a4] at hk ⊢
        obtain ⟨b1, b2, b3, b4⟩ := i2 _ _ d (by omega) hd hk
        rw [cntL, dptL]
        refine ⟨fun y hy => ?_, by omega, by omega, by omega⟩
        rcases List.mem_cons.1 hy with rfl | hy
        · exact a1
        · exact b1 y hy
    · rw [partsF_cons] at hk ⊢
      cases hk1 : (partF x n dp d).ok with
      | false => rw [if_neg (by simp [hk1])]; exact hx.long n dp d (hnr x (by simp)) hk1
      | true =>
        rw [if_pos hk1] at hk
        rw [if_pos rfl]
        exact i3 _ _ d (fun y hy => hnr y (by simp [hy])) hk
theorem goes (x : V) : Goes x := by
  induction x using V.byParts with
  | _ x ih =>
    obtain ⟨i1, i2, i3⟩ := goes_l ih
    have hp := cnt_pos x
    refine ⟨fun n dp d hnr hd hn hdd => ?_, fun n dp d hk => ?_, fun n dp d hnr hk => ?_⟩
    · rw [partF_eq, if_pos (own_iff.2 ⟨by omega, by omega, hnr.own⟩)]
      rw [cnt_eq] at hn ⊢
      rw [dpt_eq] at hdd ⊢
      have hd0 := hp.2
      rw [dpt_eq] at hd0
      rw [i1 _ _ (d + 1) hnr.part (by omega) (by omega) (by omega)]
      congr 1 <;> omega
    · rw [partF_eq] at hk ⊢
      by_cases ho : ownE x n d = 0
      · rw [if_pos ho] at hk ⊢
        have h0 := own_zero ho
        obtain ⟨b1, b2, b3, b4⟩ := i2 _ _ (d + 1) (by omega) (by omega) hk
        rw [cnt_eq, dpt_eq]
        exact ⟨.mk h0.2.2 b1, by omega, by omega, by omega⟩
      · rw [if_neg ho] at hk; cases hk
    · rw [partF_eq] at hk ⊢
      by_cases ho : ownE x n d = 0
      · rw [if_pos ho] at hk ⊢; exact i3 _ _ _ hnr.part hk
      · rw [if_neg ho]
        have : ownE x n d = farE x := by
          unfold ownE at ho ⊢
          split
          · rfl
          · rename_i hc; rw [if_neg hc] at ho; exact absurd hnr.own ho
        show ownE x n d = 2
        rw [this]; exact near_far hnr.own
/-- Near, and neither too many nor too deep. -/
def Can (x : V) : Prop := Near x ∧ cnt x ≤ 16384 ∧ dpt x ≤ 64
theorem can_ok {x : V} : (partF x 0 0 1).ok = true ↔ Can x := by
  constructor
  · intro h
    obtain ⟨a, b, c, _⟩ := (goes x).ok 0 0 1 h
    exact ⟨a, by omega, by omega⟩
  · rintro ⟨a, b, c⟩
    rw [(goes x).yes 0 0 1 a (by omega) (by omega) (by omega)]
theorem can_fine {x : V} (h : Can x) : Fine x := ⟨0, 0, 1, can_ok.2 h⟩
theorem eq_t {a : Int} (h : a ≠ 0) : (a == 0) = false := by simpa using h
end Go.Proofs.Ytigadhiciinicaa

namespace Go.Proofs.Ytigadhiciinicaa
open Go Aw
set_option linter.unusedVariables false
set_option linter.unusedSimpArgs false
set_option maxRecDepth 8000
mutual
def cl : V → Term
  | .nil => .mk 1 false 0 0 [] [] 0 [] [] [] 0
  | .bool b => .mk 2 b 0 0 [] [] 0 [] [] [] 0
  | .int i => .mk 3 false i 0 [] [] 0 [] [] [] 0
  | .float f => .mk 4 false 0 f [] [] 0 [] [] [] 0
  | .text s => .mk 5 false 0 0 s [] 0 [] [] [] 0
  | .bytes s => .mk 6 false 0 0 [] s 0 [] [] [] 0
  | .ref r => .mk 7 false 0 0 [] [] r [] [] [] 0
  | .list l => .mk 8 false 0 0 [] [] 0 (clL l) [] [] 0
  | .dict l => .mk 9 false 0 0 [] [] 0 [] (clD l) [] 0
  | .record c v l => .mk 10 false 0 0 [] [] 0 [] (clD l) c v
  | .nothing => .mk 11 false 0 0 [] [] 0 [] [] [] 0
  | .alien _ => .mk 0 false 0 0 [] [] 0 [] [] [] 0
def clL : List V → List Term
  | [] => []
  | x :: r => cl x :: clL r
def clD : List (Str × V) → List (Str × Term)
  | [] => []
  | (s, x) :: r => (s, cl x) :: clD r
end
def clE (p : Str × V) : Str × Term := (p.1, cl p.2)
theorem clL_map : ∀ l, clL l = l.map cl
  | [] => by rw [clL]; rfl
  | x :: r => by rw [clL, clL_map r]; rfl
theorem clD_map : ∀ l, clD l = l.map clE
  | [] => by rw [clD]; rfl
  | (s, x) :: r => by rw [clD, clD_map r]; rfl
theorem near_bytes {b : Str} (h : nearE (.bytes b) = 0) : b.length ≤ 65536 := by
  simp only [nearE] at h; split at h <;> omega
/-! ### the document's term of a value -/
theorem mp_l (l : List V) (d : Int) (hl : ∀ u, u ∈ l → p_mk_plain u (IntKind.i64.wrap (d + 1)) = some (cl u)) (hb : l.length ≤ 1073741824) : ∀ k i, k + i = l.length → mk_plain_l1 p_mk_plain (.list l) d i ((l.take i).map cl) = some (.mk 8 false 0 0 [] [] 0 (l.map cl) [] [] 0)
  | 0, i, h => by
    rw [mk_plain_l1_eq]
    simp only [mk_plain_l1b, V.asList, lt_f (by omega : ¬ i < l.length), cond_false]
    rw [List.take_of_length_le (by omega)]
  | k + 1, i, h => by
    obtain ⟨x, hx, _⟩ := dropc (by omega : i < l.length)
    rw [mk_plain_l1_eq]
    simp only [mk_plain_l1b, V.asList, lt_t (by omega : i < l.length), cond_true, hx, Option.bind_some, hl x (List.mem_of_getElem? hx), app1 (b := 152) (by omega) (show ((l.take i).map cl).length ≤ 1073741824 by simp; omega), take_snoc hx]
    exact mp_l l d hl hb k (i + 1) (by omega)
theorem me_l (l : List (Str × V)) (d : Int) (hl : ∀ u, u ∈ l → p_mk_plain u.2 (IntKind.i64.wrap (d + 1)) = some (cl u.2)) (hb : l.length ≤ 1073741824) : ∀ k i, k + i = l.length → mk_entries_l1 p_mk_plain l d ((l.take i).map clE) i = some (l.map clE)
  | 0, i, h => by
    rw [mk_entries_l1_eq]
    simp only [mk_entries_l1b, lt_f (by omega : ¬ i < l.length), cond_false]
    rw [List.take_of_length_le (by omega)]
  | k + 1, i, h => by
    obtain ⟨x, hx, _⟩ := dropc (by omega : i < l.length)
    rw [mk_entries_l1_eq]
    simp only [mk_entries_l1b, lt_t (by omega : i < l.length), cond_true, hx, Option.bind_some, hl x (List.mem_of_getElem? hx), app1 (b := 168) (x := (x.1, cl x.2)) (by omega) (show ((l.take i).map clE).length ≤ 1073741824 by simp; omega)]
    have : ((l.take i).map clE) ++ [(x.1, cl x.2)] = (l.take (i + 1)).map clE := take_snoc (f := clE) hx
    rw [this]
    exact me_l l d hl hb k (i + 1) (by omega)
theorem mk_plain_eq (x : V) : ∀ n dp d, (partF x n dp d).ok = true → 1 ≤ d → p_mk_plain x (d - 1) = some (cl x) := by
  induction x using V.byParts with
  | _ x ih =>
  intro n dp d hk h1
  have hx : Fine x := ⟨n, dp, d, hk⟩
  have hn := hx.own.1
  rw [partF_eq] at hk
  by_cases ho : ownE x n d = 0
  · rw [if_pos ho] at hk
    have h64 := (own_zero ho).2.1
    have hw : IntKind.i64.wrap (d - 1 + 1) = (d + 1) - 1 := by rw [w64_in (by omega) (by omega)]; omega
    have hp : ∀ u, u ∈ x.parts → p_mk_plain u (IntKind.i64.wrap (d - 1 + 1)) = some (cl u) := fun u hu => by
      obtain ⟨n', dp', h'⟩ := partsF_ok hk u hu
      rw [hw]; exact ih u hu n' dp' (d + 1) h' (by omega)
    rw [e_mk_plain, b_mk_plain, decide_eq_false (by omega : ¬ d - 1 > 400), cond_false]
    cases x with
    | nothing => simp [nearE] at hn
    | alien t => simp [nearE] at hn
    | bytes b => rw [cl]; simp only [V.isNil, V.isBool, V.isInt, V.isFloat, V.isText, V.isBytes, V.asBytes, cond_true, cond_false, Option.bind_some, app0 (by omega : 1 ≤ 1024) (show b.length ≤ 1073741824 by have := near_bytes hn; omega)]
    | list l =>
      have hb := near_list hn
      rw [cl, clL_map]
      exact mp_l l (d - 1) hp (by omega) l.length 0 (by omega)
    | dict l =>
      have hb := near_dict hn
      have : p_mk_entries l (d - 1) = some (l.map clE) := by
        rw [e_mk_entries, b_mk_entries]
        exact me_l l (d - 1) (fun u hu => hp _ (List.mem_map_of_mem hu)) (by omega) l.length 0 (by omega)
      rw [cl, clD_map]
      simp only [V.isNil, V.isBool, V.isInt, V.isFloat, V.isText, V.isBytes, V.isRef, V.isList, V.isDict, V.asDict, cond_true, cond_false, Option.bind_some, this]
    | record c v l =>
      have hb := (near_rec hn).2
      have : p_mk_entries l (d - 1) = some (l.map clE) := by
        rw [e_mk_entries, b_mk_entries]
        exact me_l l (d - 1) (fun u hu => hp _ (List.mem_map_of_mem hu)) (by omega) l.length 0 (by omega)
      rw [cl, clD_map]
      simp only [V.isNil, V.isBool, V.isInt, V.isFloat, V.isText, V.isBytes, V.isRef, V.isList, V.isDict, V.isRec, V.asRec, Option.isNone, cond_true, cond_false, Option.bind_some, this]
    | _ => rw [cl]; rfl
  · rw [if_neg ho] at hk; cases hk
/-! ### there and back -/
end Go.Proofs.Ytigadhiciinicaa

namespace Go.Proofs.Ytigadhiciinicaa
open Go Aw
set_option linter.unusedVariables false
set_option linter.unusedSimpArgs false
set_option maxRecDepth 8000
theorem spSzL_cnt : ∀ (l : List V), (∀ x, x ∈ l → (spSz x : Int) + 1 ≤ 65538 * cnt x) → (spSzL l : Int) ≤ 65538 * cntL l
  | [], _ => by simp [spSzL, cntL]
  | x :: r, h => by
    have h1 := h x (by simp)
    have h2 := spSzL_cnt r (fun y hy => h y (by simp [hy]))
    simp only [spSzL, cntL]; omega
theorem spSzD_cnt : ∀ (l : List (Str × V)), (∀ x, x ∈ l → (spSz x.2 : Int) + 1 ≤ 65538 * cnt x.2) → (spSzD l : Int) ≤ 65538 * cntD l
  | [], _ => by simp [spSzD, cntD]
  | (s, x) :: r, h => by
    have h1 := h (s, x) (by simp)
    have h2 := spSzD_cnt r (fun y hy => h y (by simp [hy]))
    simp only [spSzD, cntD]; dsimp only at h1; omega
theorem spSz_cnt (x : V) : Near x → (spSz x : Int) + 1 ≤ 65538 * cnt x := by
  induction x using V.byParts with
  | _ x ih =>
  intro hx
  have hp : ∀ y, y ∈ x.parts → (spSz y : Int) + 1 ≤ 65538 * cnt y := fun y hy => ih y hy (hx.part y hy)
  cases x with
  | bytes b => have := near_bytes hx.own; simp only [spSz, cnt]; omega
  | list l => have := spSzL_cnt l hp; simp only [spSz, cnt]; omega
  | dict l => have := spSzD_cnt l (fun y hy => hp _ (List.mem_map_of_mem hy)); simp only [spSz, cnt]; omega
  | record c v l => have := spSzD_cnt l (fun y hy => hp _ (List.mem_map_of_mem hy)); simp only [spSz, cnt]; omega
  | _ => simp only [spSz, cnt]; omega
theorem spoil_can {x : V} (h : Can x) : spoilO x = some () := by
  have h1 := spSz_cnt x h.1
  have h2 := h.2.1
  unfold spoilO
  rw [Nat.ble_eq_true_of_le (by omega)]; rfl
end Go.Proofs.Ytigadhiciinicaa

namespace Go.Proofs.Ytigadhiciinicaa
open Go Aw
set_option linter.unusedVariables false
set_option linter.unusedSimpArgs false
set_option maxRecDepth 8000
theorem wu_eqW (x : Int) : IntKind.u64.wrap x = x % 18446744073709551616 := rfl
theorem wu_inW {x : Int} (h0 : 0 ≤ x) (h1 : x < 18446744073709551616) : IntKind.u64.wrap x = x := by rw [wu_eqW]; omega
theorem wu_nat {x : Nat} (h1 : x < 18446744073709551616) : IntKind.u64.wrap (x : Int) = (x : Int) := wu_inW (by omega) (by omega)
theorem bv64 {x : Nat} (h : x < 18446744073709551616) : (BitVec.ofInt 64 (x : Int)).toNat = x := by rw [BitVec.toNat_ofInt]; omega
theorem or_nat {x y : Nat} (hx : x < 18446744073709551616) (hy : y < 18446744073709551616) : orK .u64 (x : Int) (y : Int) = ((x ||| y : Nat) : Int) := by
  show IntKind.u64.wrap ((BitVec.ofInt 64 (x : Int) ||| BitVec.ofInt 64 (y : Int)).toNat : Int) = _
  rw [BitVec.toNat_or, bv64 hx, bv64 hy]
  exact wu_nat (Nat.or_lt_two_pow (n := 64) hx hy)
theorem shl_nat {c s : Nat} (h : c * 2 ^ s < 18446744073709551616) (hs : s ≤ 64) : shlK .u64 (c : Int) (s : Int) = ((c * 2 ^ s : Nat) : Int) := by
  show IntKind.u64.wrap ((c : Int) * 2 ^ (min ((s : Int)).toNat 64)) = _
  rw [show min ((s : Int)).toNat 64 = s by simp; omega]
  have e : ((c : Int) * 2 ^ s) = ((c * 2 ^ s : Nat) : Int) := by push_cast; rfl
  rw [e]; exact wu_nat h
theorem or_add {a c s : Nat} (ha : a < 2 ^ s) (h : a + c * 2 ^ s < 18446744073709551616) (hs : s ≤ 63) : orK .u64 (a : Int) (shlK .u64 (c : Int) (s : Int)) = ((a + c * 2 ^ s : Nat) : Int) := by
  rw [shl_nat (by omega) (by omega), or_nat (by omega) (by omega)]
  have := Nat.two_pow_add_eq_or_of_lt (i := s) (b := a) ha c
  rw [Nat.or_comm, Nat.mul_comm c, ← this, Nat.add_comm]
theorem shr_nat (n s : Nat) (hs : s ≤ 64) : shrK .u64 (n : Int) (s : Int) = ((n / 2 ^ s : Nat) : Int) := by
  show (n : Int).fdiv (2 ^ (min ((s : Int)).toNat 64)) = _
  rw [show min ((s : Int)).toNat 64 = s by simp; omega]
  rw [Int.fdiv_eq_ediv_of_nonneg _ (Int.le_of_lt (Int.pow_pos (by decide))), Int.natCast_ediv, Int.natCast_pow]; rfl
theorem u8_of {n : Nat} (h : n < 256) : (UInt8.ofInt (n : Int)) = UInt8.ofNat n := by
  apply UInt8.toNat_inj.1
  have := toU8_wrap (n : Int)
  have e : IntKind.u8.wrap (n : Int) = (n : Int) % 256 := rfl
  rw [e] at this
  rw [UInt8.toNat_ofNat']; omega
theorem u8_toNat {n : Nat} (h : n < 256) : (UInt8.ofNat n).toNat = n := by rw [UInt8.toNat_ofNat']; omega
theorem u8_ofInt (n : Nat) : (UInt8.ofInt (n : Int)).toNat = n % 256 := by
  have := toU8_wrap (n : Int)
  have e : IntKind.u8.wrap (n : Int) = (n : Int) % 256 := rfl
  rw [e] at this; omega
theorem bv8 {x : Nat} (h : x < 256) : (BitVec.ofInt 8 (x : Int)).toNat = x := by rw [BitVec.toNat_ofInt]; omega
theorem and127 (c : UInt8) : (UInt8.ofInt (andR .u8 (c.toNat : Int) (((127 : UInt8)).toNat : Int))).toNat = c.toNat % 128 := by
  have hc := c.toNat_lt
  have e : andR .u8 (c.toNat : Int) (((127 : UInt8)).toNat : Int) = ((c.toNat % 128 : Nat) : Int) := by
    show ((BitVec.ofInt 8 (c.toNat : Int) &&& BitVec.ofInt 8 ((127 : Nat) : Int)).toNat : Int) = _
    rw [BitVec.toNat_and, bv8 (by omega), bv8 (by omega)]
    have := Nat.and_two_pow_sub_one_eq_mod c.toNat 7
    rw [show (2 ^ 7 - 1 : Nat) = 127 by decide, show (2 ^ 7 : Nat) = 128 by decide] at this
    rw [this]
  rw [e, u8_ofInt]; omega
/-! ### numbers -/
def num (n : Nat) : Str := if h : n < 128 then [UInt8.ofNat n] else UInt8.ofNat (n % 128 + 128) :: num (n / 128)
termination_by n
decreasing_by omega
theorem app1W {acc : Str} {x : UInt8} (h : acc.length ≤ 1073741824) : appO 1 acc [x] = some (acc ++ [x]) := app1 (by omega) h
def zig (a : Int) : Nat := if 0 ≤ a then (2 * a).toNat else (-2 * a - 1).toNat
def unzig (n : Nat) : Int := if n % 2 = 0 then ((n / 2 : Nat) : Int) else -((n / 2 : Nat) : Int) - 1
theorem unzig_zig (a : Int) : unzig (zig a) = a := by
  unfold zig unzig
  by_cases h : 0 ≤ a
  · rw [if_pos h]; rw [if_pos (by omega)]; omega
  · rw [if_neg h]; rw [if_neg (by omega)]; omega
theorem zig_unzig (n : Nat) : zig (unzig n) = n := by
  unfold zig unzig
  by_cases h : n % 2 = 0
  · rw [if_pos h, if_pos (by omega)]; omega
  · rw [if_neg h, if_neg (by omega)]; omega
theorem zig_lt {a : Int} (h1 : -9223372036854775808 ≤ a) (h2 : a ≤ 9223372036854775807) : zig a < 18446744073709551616 := by unfold zig; split <;> omega
theorem unzig_in {n : Nat} (h : n < 18446744073709551616) : -9223372036854775808 ≤ unzig n ∧ unzig n ≤ 9223372036854775807 := by unfold unzig; split <;> omega
theorem xor_ones {x : Nat} (h : x < 18446744073709551616) : x ^^^ 18446744073709551615 = 18446744073709551615 - x := by
  apply Nat.eq_of_testBit_eq
  intro i
  rw [Nat.testBit_xor]
  have e : (18446744073709551615 : Nat) = 2 ^ 64 - 1 := by decide
  rw [e, Nat.testBit_two_pow_sub_one, show 2 ^ 64 - 1 - x = 2 ^ 64 - (x + 1) by omega, Nat.testBit_two_pow_sub_succ h]
  by_cases hi : i < 64
  · simp [hi]
  · have : x.testBit i = false := Nat.testBit_lt_two_pow (Nat.lt_of_lt_of_le h (Nat.pow_le_pow_right (n := 2) (by omega) (by omega : 64 ≤ i)))
    simp [hi, this]
theorem dezig (n : Nat) (h : n < 18446744073709551616) : xorK .i64 (IntKind.i64.wrap (shrK .u64 (n : Int) 1)) (IntKind.i64.wrap (0 - (IntKind.i64.wrap (andK .u64 (n : Int) 1)))) = unzig n := by
  have hand : andK .u64 (n : Int) 1 = ((n % 2 : Nat) : Int) := by
    show IntKind.u64.wrap ((BitVec.ofInt 64 (n : Int) &&& BitVec.ofInt 64 ((1 : Nat) : Int)).toNat : Int) = _
    rw [BitVec.toNat_and, bv64 h, bv64 (by omega), Nat.and_one_is_mod]
    exact wu_nat (by omega)
  rw [show (1 : Int) = ((1 : Nat) : Int) from rfl, shr_nat n 1 (by omega)] 
  have w1 : IntKind.i64.wrap ((n % 2 : Nat) : Int) = ((n % 2 : Nat) : Int) := w64_in (by omega) (by omega)
  have w2 : IntKind.i64.wrap (0 - ((n % 2 : Nat) : Int)) = 0 - ((n % 2 : Nat) : Int) := w64_in (by omega) (by omega)
  have w3 : IntKind.i64.wrap ((n / 2 ^ 1 : Nat) : Int) = ((n / 2 ^ 1 : Nat) : Int) := w64_in (by omega) (by omega)
  rw [show ((1 : Nat) : Int) = 1 from rfl, hand, w1, w2, w3]
  have hx : ∀ (x : Nat) (y : Int), xorK .i64 (x : Int) y = IntKind.i64.wrap ((BitVec.ofInt 64 (x : Int) ^^^ BitVec.ofInt 64 y).toNat : Int) := fun _ _ => rfl
  rw [hx, BitVec.toNat_xor, bv64 (by omega)]
  unfold unzig
  have hw : ∀ i : Int, IntKind.i64.wrap i = (i + 9223372036854775808) % 18446744073709551616 - 9223372036854775808 := IntKind.wrap_i64
  by_cases hn : n % 2 = 0
  · rw [if_pos hn, hn]
    have : (BitVec.ofInt 64 (0 - ((0 : Nat) : Int))).toNat = 0 := rfl
    rw [this, Nat.xor_zero, show (2 ^ 1 : Nat) = 2 by decide, w64_in (by omega) (by omega)]
  · rw [if_neg hn, show n % 2 = 1 by omega]
    have : (BitVec.ofInt 64 (0 - ((1 : Nat) : Int))).toNat = 18446744073709551615 := rfl
    rw [this, xor_ones (by omega), show (2 ^ 1 : Nat) = 2 by decide, hw]
    omega
end Go.Proofs.Ytigadhiciinicaa

namespace Go.Proofs.Ytigadhiciinicaa
open Go Aw
set_option linter.unusedVariables false
set_option linter.unusedSimpArgs false
set_option maxRecDepth 8000
/-! ### the writing -/
def be8 (f : Nat) : Str := [UInt8.ofNat (f / 72057594037927936), UInt8.ofNat (f / 281474976710656), UInt8.ofNat (f / 1099511627776), UInt8.ofNat (f / 4294967296), UInt8.ofNat (f / 16777216), UInt8.ofNat (f / 65536), UInt8.ofNat (f / 256), UInt8.ofNat f]
def beS (s : Str) : Nat := s.foldl (fun a c => a * 256 + c.toNat) 0
mutual
def enc : V → Str
  | .nil => [1]
  | .bool b => [2, if b then 1 else 0]
  | .int i => 3 :: num (zig i)
  | .float f => 4 :: be8 f
  | .text s => 5 :: (num s.length ++ s)
  | .bytes s => 6 :: (num s.length ++ s)
  | .ref r => 7 :: num r.toNat
  | .list l => 8 :: (num l.length ++ encL l)
  | .dict d => 9 :: (num d.length ++ encD d)
  | .record c v d => 10 :: (num c.length ++ (c ++ (num v.toNat ++ (num d.length ++ encD d))))
  | .nothing => [11]
  | .alien _ => [0]
def encL : List V → Str
  | [] => []
  | x :: r => enc x ++ encL r
def encD : List (Str × V) → Str
  | [] => []
  | (s, x) :: r => num s.length ++ (s ++ (enc x ++ encD r))
end
/-! ### the numbers in a value are a machine's -/
mutual
def okV : V → Prop
  | .int i => -9223372036854775808 ≤ i ∧ i ≤ 9223372036854775807
  | .float f => f < 18446744073709551616
  | .ref r => 0 ≤ r ∧ r < 18446744073709551616
  | .list l => okL l
  | .dict d => okD d
  | .record _ _ d => okD d
  | _ => True
def okL : List V → Prop
  | [] => True
  | x :: r => okV x ∧ okL r
def okD : List (Str × V) → Prop
  | [] => True
  | (_, x) :: r => okV x ∧ okD r
end
/-! ### the reader -/
inductive Rs (α : Type) where
  | ok (a : α) (r : Str)
  | bad (rem : Nat) (why : Int)
def Rs.bind {α β : Type} : Rs α → (α → Str → Rs β) → Rs β
  | .ok a r, f => f a r
  | .bad p w, _ => .bad p w
theorem bind_ok {α β : Type} {o : Rs α} {f : α → Str → Rs β} {x : β} {r : Str} (h : o.bind f = .ok x r) : ∃ y r1, o = .ok y r1 ∧ f y r1 = .ok x r := by
  cases o with
  | ok a r1 => exact ⟨a, r1, rfl, h⟩
  | bad p w => cases h
def numS (fr : Nat) : Nat → Nat → Nat → Str → Rs Nat
  | 0, _, _, _ => .bad 0 0
  | _ + 1, _, _, [] => .bad 0 4
  | k + 1, i, acc, c :: r => if (i = 9 ∧ 1 < c.toNat) ∨ (0 < i ∧ c.toNat = 0) then .bad fr 31 else
    if c.toNat < 128 then .ok (acc + c.toNat % 128 * 2 ^ (7 * i)) r else numS fr k (i + 1) (acc + c.toNat % 128 * 2 ^ (7 * i)) r
def nmS (r : Str) : Rs Nat := numS r.length 10 0 0 r
def takeS (n : Nat) (r : Str) : Rs Str := if r.length < n then .bad 0 4 else .ok (r.take n) (r.drop n)
def mostS (part lim : Nat) (r : Str) : Rs Nat := (nmS r).bind fun m r => if lim < m then .bad part 2 else .ok m r
def nameS (part : Nat) (r : Str) : Rs Str := (nmS r).bind fun m r => if m < 1 ∨ 32 < m then .bad part 8 else (takeS m r).bind fun s r => if nameOk s then .ok s r else .bad part 8
def itemsS (f : Nat → Str → Rs (V × Nat)) : Nat → Nat → Str → Rs (List V × Nat)
  | 0, n, r => .ok ([], n) r
  | k + 1, n, r => (f n r).bind fun x r => (itemsS f k x.2 r).bind fun y r => .ok (x.1 :: y.1, y.2) r
def fldsS (f : Nat → Str → Rs (V × Nat)) (part : Nat) : Nat → Str → Nat → Str → Rs (List (Str × V) × Nat)
  | 0, _, n, r => .ok ([], n) r
  | k + 1, last, n, r => (nameS part r).bind fun s r => if leB s last then .bad part 8 else (f n r).bind fun x r => (fldsS f part k s x.2 r).bind fun y r => .ok ((s, x.1) :: y.1, y.2) r
def boolS (n : Nat) : Str → Rs (V × Nat)
  | [] => .bad 0 4
  | c :: r => if 1 < c.toNat then .bad (r.length + 1) 30 else .ok (.bool (c.toNat == 1), n) r
def bodyS (f : Nat → Str → Rs (V × Nat)) (tag part n : Nat) (r : Str) : Rs (V × Nat) :=
  if tag = 2 then boolS n r
  else if tag = 3 then (nmS r).bind fun m r => .ok (.int (unzig m), n) r
  else if tag = 4 then (takeS 8 r).bind fun s r => .ok (.float (beS s), n) r
  else if tag = 5 then (mostS part 65536 r).bind fun m r => (takeS m r).bind fun s r => .ok (.text s, n) r
  else if tag = 6 then (mostS part 65536 r).bind fun m r => (takeS m r).bind fun s r => .ok (.bytes s, n) r
  else if tag = 7 then (nmS r).bind fun m r => .ok (.ref (m : Int), n) r
  else if tag = 8 then (mostS part 4096 r).bind fun m r => (itemsS f m n r).bind fun x r => .ok (.list x.1, x.2) r
  else if tag = 9 then (mostS part 4096 r).bind fun m r => (fldsS f part m [] n r).bind fun x r => .ok (.dict x.1, x.2) r
  else if tag = 10 then (nameS part r).bind fun s r => (nmS r).bind fun v r => if v < 1 ∨ 1000 < v then .bad part 1 else (mostS part 4096 r).bind fun m r => (fldsS f part m [] n r).bind fun x r => .ok (.record s (v : Int) x.1, x.2) r
  else .ok (.nil, n) r
def valS : Nat → Nat → Str → Rs (V × Nat)
  | _, _, [] => .bad 0 4
  | 0, _, c :: r => .bad (r.length + 1) 2
  | d + 1, n, c :: r => if 16384 ≤ n then .bad (r.length + 1) 2 else if c.toNat < 1 ∨ 10 < c.toNat then .bad (r.length + 1) 30 else bodyS (valS d) c.toNat (r.length + 1) (n + 1) r
/-! ### numbers -/
theorem u8_num {n : Nat} (h : n < 128) : (UInt8.ofNat n).toNat = n := u8_toNat (by omega)
theorem numS_num (fr : Nat) : ∀ (n k i acc : Nat) (post : Str), k + i = 10 → n * 2 ^ (7 * i) < 18446744073709551616 → i ≤ 9 → (0 < i → n ≠ 0) → numS fr k i acc (num n ++ post) = .ok (acc + n * 2 ^ (7 * i)) post := by
  intro n
  induction n using Nat.strongRecOn with
  | _ n ih =>
    intro k i acc post hk hb hi h0
    obtain ⟨k, rfl⟩ : ∃ j, k = j + 1 := ⟨k - 1, by omega⟩
    have hi9 : i = 9 → n ≤ 1 := by
      rintro rfl
      rw [show (2 : Nat) ^ (7 * 9) = 9223372036854775808 by decide] at hb; omega
    rw [num]
    by_cases h : n < 128
    · rw [dif_pos h, List.singleton_append, numS, u8_num h, if_neg (by rintro (⟨h1, h2⟩ | ⟨h1, h2⟩); (have := hi9 h1; omega); exact h0 h1 h2), if_pos h, Nat.mod_eq_of_lt h]
    · have hlt : i < 9 := by
        rcases Nat.lt_or_ge i 9 with h1 | h1
        · exact h1
        · have := hi9 (by omega); omega
      rw [dif_neg h, List.cons_append, numS, u8_toNat (by omega), if_neg (by omega), if_neg (by omega)]
      have hp : 2 ^ (7 * (i + 1)) = 128 * 2 ^ (7 * i) := by rw [show 7 * (i + 1) = 7 * i + 7 by omega, Nat.pow_add, Nat.mul_comm]
      have e : n * 2 ^ (7 * i) = n / 128 * (128 * 2 ^ (7 * i)) + n % 128 * 2 ^ (7 * i) := by
        rw [← Nat.mul_assoc, ← Nat.add_mul]; congr 1; omega
      rw [ih (n / 128) (by omega) k (i + 1) _ post (by omega) (by rw [hp]; omega) (by omega) (fun _ => by omega), hp, show (n % 128 + 128) % 128 = n % 128 by omega]
      congr 1; omega
theorem numS_inv (fr : Nat) : ∀ (k i acc : Nat) (r r' : Str) (v : Nat), k + i = 10 → numS fr k i acc r = .ok v r' → ∃ n, r = num n ++ r' ∧ v = acc + n * 2 ^ (7 * i) ∧ (0 < i → n ≠ 0) ∧ n * 2 ^ (7 * i) < 18446744073709551616
  | 0, i, acc, r, r', v, _, h => by cases h
  | k + 1, i, acc, [], r', v, _, h => by cases h
  | k + 1, i, acc, c :: r, r', v, hk, h => by
    have hc := c.toNat_lt
    rw [numS] at h
    split at h
    · cases h
    · rename_i hno
      split at h
      · rename_i hlt
        injection h with h1 h2
        subst h2
        refine ⟨c.toNat, ?_, by rw [← h1, Nat.mod_eq_of_lt hlt], fun hi h0 => hno (.inr ⟨hi, h0⟩), ?_⟩
        · rw [num, dif_pos hlt]; simp
        · rcases Nat.lt_or_ge i 9 with h9 | h9
          · have : 2 ^ (7 * i) ≤ 2 ^ 56 := Nat.pow_le_pow_right (by omega) (by omega)
            have := Nat.mul_lt_mul_of_lt_of_le hlt this (by decide)
            omega
          · have : i = 9 := by omega
            subst this
            have : c.toNat ≤ 1 := by
              rcases Nat.lt_or_ge 1 c.toNat with h1 | h1
              · exact absurd (.inl ⟨rfl, h1⟩) hno
              · exact h1
            have := Nat.mul_le_mul_right (2 ^ (7 * 9)) this
            rw [show (2 : Nat) ^ (7 * 9) = 9223372036854775808 by decide] at *
            omega
      · rename_i hge
        obtain ⟨n, h1, h2, h3, h4⟩ := numS_inv fr k (i + 1) _ r r' v (by omega) h
        have hp : 2 ^ (7 * (i + 1)) = 128 * 2 ^ (7 * i) := by rw [show 7 * (i + 1) = 7 * i + 7 by omega, Nat.pow_add, Nat.mul_comm]
        have hn := h3 (by omega)
        have hi8 : i ≤ 8 := by
          rcases Nat.lt_or_ge i 9 with h9 | h9
          · omega
          · have : k = 0 := by omega
            subst this; cases h
        refine ⟨n * 128 + c.toNat % 128, ?_, ?_, fun _ => by omega, ?_⟩
        · rw [num, dif_neg (by omega), show (n * 128 + c.toNat % 128) % 128 + 128 = c.toNat by omega, show (n * 128 + c.toNat % 128) / 128 = n by omega, h1]; simp
        · rw [h2, hp, Nat.add_mul, Nat.mul_assoc]; omega
        · have hq : 2 ^ (7 * (i + 1)) * 2 ^ (64 - 7 * (i + 1)) = 18446744073709551616 := by rw [← Nat.pow_add, show 7 * (i + 1) + (64 - 7 * (i + 1)) = 64 by omega]
          have h5 : n < 2 ^ (64 - 7 * (i + 1)) := by
            rcases Nat.lt_or_ge n (2 ^ (64 - 7 * (i + 1))) with h6 | h6
            · exact h6
            · have := Nat.mul_le_mul_right (2 ^ (7 * (i + 1))) h6
              rw [Nat.mul_comm (2 ^ (64 - 7 * (i + 1)))] at this; omega
          have h6 := Nat.mul_le_mul_right (2 ^ (7 * (i + 1))) (Nat.succ_le_of_lt h5)
          rw [Nat.mul_comm (2 ^ (64 - 7 * (i + 1))), hq, hp, Nat.succ_mul] at h6
          have h7 : c.toNat % 128 * 2 ^ (7 * i) < 128 * 2 ^ (7 * i) := Nat.mul_lt_mul_of_pos_right (by omega) (Nat.pow_pos (by decide))
          rw [Nat.add_mul, Nat.mul_assoc]
          omega
theorem nmS_num (n : Nat) (post : Str) (h : n < 18446744073709551616) : nmS (num n ++ post) = .ok n post := by
  have := numS_num (num n ++ post).length n 10 0 0 post rfl (by simpa using h) (by omega) (fun h => by omega)
  rw [nmS, this]; simp
theorem nmS_inv {r r' : Str} {v : Nat} (h : nmS r = .ok v r') : r = num v ++ r' ∧ v < 18446744073709551616 := by
  obtain ⟨n, h1, h2, _, h4⟩ := numS_inv _ 10 0 0 r r' v rfl h
  simp at h2 h4
  subst h2
  exact ⟨h1, h4⟩
theorem take_app {s post : Str} : takeS s.length (s ++ post) = .ok s post := by
  unfold takeS
  rw [if_neg (by simp)]; simp
theorem takeS_inv {n : Nat} {r r' s : Str} (h : takeS n r = .ok s r') : r = s ++ r' ∧ s.length = n := by
  unfold takeS at h
  split at h
  · cases h
  · injection h with h1 h2
    subst h1; subst h2
    exact ⟨(List.take_append_drop n r).symm, by rw [List.length_take]; omega⟩
/-! ### what is written is read -/
theorem nameOk_len {s : Str} (h : nameOk s = true) : 1 ≤ s.length ∧ s.length ≤ 32 := by
  simp only [nameOk, Bool.and_eq_true, Nat.ble_eq] at h
  omega
theorem nameS_num (part : Nat) (s post : Str) (h : nameOk s = true) : nameS part (num s.length ++ (s ++ post)) = .ok s post := by
  have hl := nameOk_len h
  unfold nameS
  rw [nmS_num _ _ (by omega)]
  simp only [Rs.bind]
  rw [if_neg (by omega), take_app]
  simp only []
  rw [if_pos h]
theorem nameS_inv {part : Nat} {r r' s : Str} (h : nameS part r = .ok s r') : r = num s.length ++ (s ++ r') ∧ nameOk s = true := by
  unfold nameS at h
  obtain ⟨m, r1, h1, h⟩ := bind_ok h
  split at h
  · cases h
  · obtain ⟨t, r2, h2, h⟩ := bind_ok h
    split at h
    · rename_i hk
      injection h with h3 h4
      subst h3; subst h4
      obtain ⟨e1, _⟩ := nmS_inv h1
      obtain ⟨e2, e3⟩ := takeS_inv h2
      subst e3
      exact ⟨by rw [e1, e2], hk⟩
    · cases h
theorem mostS_num (part lim n : Nat) (post : Str) (h : n ≤ lim) (hl : lim ≤ 65536) : mostS part lim (num n ++ post) = .ok n post := by
  unfold mostS
  rw [nmS_num _ _ (by omega)]
  simp only [Rs.bind]
  rw [if_neg (by omega)]
theorem mostS_inv {part lim m : Nat} {r r' : Str} (h : mostS part lim r = .ok m r') : r = num m ++ r' ∧ m ≤ lim := by
  unfold mostS at h
  obtain ⟨n, r1, h1, h⟩ := bind_ok h
  split at h
  · cases h
  · injection h with h3 h4
    subst h3; subst h4
    exact ⟨(nmS_inv h1).1, by omega⟩
theorem be_be8 {f : Nat} (h : f < 18446744073709551616) : beS (be8 f) = f := by
  simp only [beS, be8, List.foldl_cons, List.foldl_nil, UInt8.toNat_ofNat']
  omega
theorem be8_be {s : Str} (h : s.length = 8) : be8 (beS s) = s ∧ beS s < 18446744073709551616 := by
  match s, h with
  | [a, b, c, d, e, f, g, i], _ =>
    have ha := a.toNat_lt
    have hb := b.toNat_lt
    have hc := c.toNat_lt
    have hd := d.toNat_lt
    have he := e.toNat_lt
    have hf := f.toNat_lt
    have hg := g.toNat_lt
    have hi := i.toNat_lt
    have key : ∀ (x : UInt8) (n : Nat), n % 256 = x.toNat → UInt8.ofNat n = x := fun x n h => by apply UInt8.toNat_inj.1; rw [UInt8.toNat_ofNat']; omega
    simp only [beS, be8, List.foldl_cons, List.foldl_nil]
    refine ⟨?_, by omega⟩
    rw [key a _ (by omega), key b _ (by omega), key c _ (by omega), key d _ (by omega), key e _ (by omega), key f _ (by omega), key g _ (by omega), key i _ (by omega)]
theorem be8_len (f : Nat) : (be8 f).length = 8 := rfl
end Go.Proofs.Ytigadhiciinicaa

namespace Go.Proofs.Ytigadhiciinicaa
open Go Aw
set_option linter.unusedVariables false
set_option linter.unusedSimpArgs false
set_option maxRecDepth 8000
theorem okL_mem : ∀ {l : List V}, okL l → ∀ x, x ∈ l → okV x
  | y :: r, h, x, hx => by
    rw [okL] at h
    rcases List.mem_cons.1 hx with rfl | hx
    · exact h.1
    · exact okL_mem h.2 x hx
theorem okD_mem : ∀ {l : List (Str × V)}, okD l → ∀ x, x ∈ l.map (·.2) → okV x
  | (s, y) :: r, h, x, hx => by
    rw [okD] at h
    rcases List.mem_cons.1 hx with rfl | hx
    · exact h.1
    · exact okD_mem h.2 x hx
theorem ok_part {v x : V} (h : okV v) (hx : x ∈ v.parts) : okV x := by
  cases v <;> simp only [V.parts, List.not_mem_nil] at hx
  · rw [okV] at h; exact okL_mem h x hx
  · rw [okV] at h; exact okD_mem h x hx
  · rw [okV] at h; exact okD_mem h x hx
theorem dptL_le {l : List V} {d : Int} (h : dptL l ≤ d) : ∀ x, x ∈ l → dpt x ≤ d := by
  induction l with
  | nil => intro x hx; cases hx
  | cons y r ih =>
    intro x hx
    rw [dptL] at h
    rcases List.mem_cons.1 hx with rfl | hx
    · omega
    · exact ih (by omega) x hx
theorem cntL_pos' (l : List V) : 0 ≤ cntL l := by
  induction l with
  | nil => simp [cntL]
  | cons z q ih => have := cnt_pos z; simp only [cntL]; omega
/-! ### there and back -/
def CV (f : Nat → Str → Rs (V × Nat)) (v : V) : Prop := ∀ (n : Nat) (post : Str), (n : Int) + cnt v ≤ 16384 → f n (enc v ++ post) = .ok (v, n + (cnt v).toNat) post
theorem items_enc {f : Nat → Str → Rs (V × Nat)} : ∀ (l : List V), (∀ x, x ∈ l → CV f x) → ∀ (n : Nat) (post : Str), (n : Int) + cntL l ≤ 16384 → itemsS f l.length n (encL l ++ post) = .ok (l, n + (cntL l).toNat) post
  | [], _, n, post, _ => by simp [itemsS, encL, cntL]
  | x :: r, h, n, post, hn => by
    have hx := cnt_pos x
    have hr := cntL_pos' r
    rw [cntL] at hn ⊢
    rw [List.length_cons, itemsS, encL, List.append_assoc, h x (by simp) n _ (by omega)]
    simp only [Rs.bind]
    rw [items_enc r (fun y hy => h y (by simp [hy])) _ post (by omega)]
    simp only []
    congr 2; omega
theorem flds_enc {f : Nat → Str → Rs (V × Nat)} (part : Nat) : ∀ (l : List (Str × V)), (∀ x, x ∈ l.map (·.2) → CV f x) → ∀ (last : Str) (n : Nat) (post : Str), risen (some last) (l.map (·.1)) = true → (n : Int) + cntL (l.map (·.2)) ≤ 16384 →
    fldsS f part l.length last n (encD l ++ post) = .ok (l, n + (cntL (l.map (·.2))).toNat) post
  | [], _, last, n, post, _, _ => by simp [fldsS, encD, cntL]
  | (s, x) :: r, h, last, n, post, hs, hn => by
    have hx := cnt_pos x
    have hr := cntL_pos' (r.map (·.2))
    simp only [List.map_cons, risen, Bool.and_eq_true, Bool.not_eq_true'] at hs
    simp only [List.map_cons, cntL] at hn ⊢
    rw [List.length_cons, fldsS, encD, List.append_assoc, List.append_assoc, List.append_assoc, nameS_num part s _ hs.1.1]
    simp only [Rs.bind]
    rw [if_neg (by rw [hs.1.2]; simp), h x (by simp) n _ (by omega)]
    simp only []
    rw [flds_enc part r (fun y hy => h y (by rw [List.map_cons]; exact List.mem_cons_of_mem _ hy)) s _ post hs.2 (by omega)]
    simp only []
    congr 2; omega
theorem risen_some {l : List Str} (h : risen none l = true) : risen (some []) l = true := by
  cases l with
  | nil => rfl
  | cons s r =>
    simp only [risen, Bool.and_eq_true, Bool.and_true] at h ⊢
    refine ⟨⟨h.1, ?_⟩, h.2⟩
    have := nameOk_len h.1
    cases s with
    | nil => simp at this
    | cons a t => rfl
theorem fieldsE_ok {l : List Str} (h : fieldsE l = 0) : l.length ≤ 4096 ∧ risen none l = true := by
  unfold fieldsE at h
  split at h
  · cases h
  · split at h
    · rename_i h1 h2; exact ⟨by omega, h2⟩
    · cases h
theorem valS_enc (v : V) : ∀ (d : Nat), Near v → okV v → dpt v ≤ d → CV (valS d) v := by
  induction v using V.byParts with
  | _ v ih =>
  intro d hnr hok hd n post hn
  have hp := cnt_pos v
  obtain ⟨d, rfl⟩ : ∃ e, d = e + 1 := ⟨d - 1, by omega⟩
  have hown := hnr.own
  have hdp := dpt_eq v
  have hcn := cnt_eq v
  have hpart : ∀ x, x ∈ v.parts → CV (valS d) x := fun x hx => ih x hx d (hnr.part x hx) (ok_part hok hx) (dptL_le (d := d) (by omega) x hx)
  have start : ∀ (c : UInt8) (r : Str), 1 ≤ c.toNat → c.toNat ≤ 10 → valS (d + 1) n (c :: r) = bodyS (valS d) c.toNat (r.length + 1) (n + 1) r := fun c r h1 h2 => by
    rw [valS, if_neg (by omega), if_neg (by omega)]
  have lim : ∀ x : Nat, 1 = x → n + 1 = n + x := fun x h => by omega
  cases v with
  | nil => rw [enc, List.singleton_append, start 1 _ (by decide) (by decide)]; rfl
  | bool b =>
    rw [enc, List.cons_append, List.singleton_append, start 2 _ (by decide) (by decide)]
    cases b <;> rfl
  | int i =>
    rw [okV] at hok
    rw [enc, List.cons_append, start 3 _ (by decide) (by decide)]
    show (nmS (num (zig i) ++ post)).bind _ = _
    rw [nmS_num _ _ (zig_lt hok.1 hok.2)]
    simp only [Rs.bind, unzig_zig]; rfl
  | float f =>
    rw [okV] at hok
    rw [enc, List.cons_append, start 4 _ (by decide) (by decide)]
    have key : ∀ p r0, bodyS (valS d) (UInt8.toNat 4) p (n + 1) r0 = (takeS 8 r0).bind fun s r => .ok (.float (beS s), n + 1) r := fun _ _ => rfl
    rw [key]
    have := take_app (s := be8 f) (post := post)
    rw [be8_len] at this
    rw [this]
    simp only [Rs.bind, be_be8 hok]; rfl
  | text s =>
    have hl : s.length ≤ 65536 := by
      rw [nearE] at hown; split at hown
      · cases hown
      · omega
    rw [enc, List.cons_append, List.append_assoc, start 5 _ (by decide) (by decide)]
    show (mostS _ 65536 (num s.length ++ (s ++ post))).bind _ = _
    rw [mostS_num _ _ _ _ hl (by omega)]
    simp only [Rs.bind]
    rw [take_app]; rfl
  | bytes s =>
    have hl : s.length ≤ 65536 := by
      rw [nearE] at hown; split at hown
      · cases hown
      · omega
    rw [enc, List.cons_append, List.append_assoc, start 6 _ (by decide) (by decide)]
    show (mostS _ 65536 (num s.length ++ (s ++ post))).bind _ = _
    rw [mostS_num _ _ _ _ hl (by omega)]
    simp only [Rs.bind]
    rw [take_app]; rfl
  | ref r =>
    rw [okV] at hok
    rw [enc, List.cons_append, start 7 _ (by decide) (by decide)]
    show (nmS (num r.toNat ++ post)).bind _ = _
    rw [nmS_num _ _ (by omega)]
    simp only [Rs.bind]
    rw [show ((r.toNat : Nat) : Int) = r by omega]; rfl
  | list l =>
    have hl := near_list hown
    simp only [V.parts] at hpart hcn
    rw [enc, List.cons_append, List.append_assoc, start 8 _ (by decide) (by decide)]
    show (mostS _ 4096 (num l.length ++ (encL l ++ post))).bind _ = _
    rw [mostS_num _ _ _ _ hl (by omega)]
    simp only [Rs.bind]
    rw [items_enc l hpart (n + 1) post (by omega)]
    simp only []
    have := cntL_pos' l
    congr 2; omega
  | dict l =>
    rw [nearE] at hown
    obtain ⟨hl, hs⟩ := fieldsE_ok hown
    rw [List.length_map] at hl
    simp only [V.parts] at hpart hcn
    rw [enc, List.cons_append, List.append_assoc, start 9 _ (by decide) (by decide)]
    show (mostS _ 4096 (num l.length ++ (encD l ++ post))).bind _ = _
    rw [mostS_num _ _ _ _ hl (by omega)]
    simp only [Rs.bind]
    rw [flds_enc _ l hpart [] (n + 1) post (risen_some hs) (by omega)]
    simp only []
    have := cntL_pos' (l.map (·.2))
    congr 2; omega
  | record c w l =>
    rw [nearE] at hown
    split at hown
    · cases hown
    · rename_i hc
      split at hown
      · cases hown
      · rename_i hv
        obtain ⟨hl, hs⟩ := fieldsE_ok hown
        rw [List.length_map] at hl
        simp only [V.parts] at hpart hcn
        have hc' : nameOk c = true := by simpa using hc
        rw [enc, List.cons_append, List.append_assoc, List.append_assoc, List.append_assoc, List.append_assoc, start 10 _ (by decide) (by decide)]
        show (nameS _ (num c.length ++ (c ++ (num w.toNat ++ (num l.length ++ (encD l ++ post)))))).bind _ = _
        rw [nameS_num _ _ _ hc']
        simp only [Rs.bind]
        rw [nmS_num _ _ (by omega)]
        simp only []
        rw [if_neg (by omega), mostS_num _ _ _ _ hl (by omega)]
        simp only []
        rw [flds_enc _ l hpart [] (n + 1) post (risen_some hs) (by omega)]
        simp only []
        have := cntL_pos' (l.map (·.2))
        rw [show ((w.toNat : Nat) : Int) = w by omega]
        congr 2; omega
  | nothing => simp [nearE] at hown
  | alien a => simp [nearE] at hown
/-! ### what is read was written so -/
structure DVr (d n : Nat) (r : Str) (v : V) (n' : Nat) (r' : Str) : Prop where
  eq : r = enc v ++ r'
  near : Near v
  cn : (n' : Int) = n + cnt v
  dp : dpt v ≤ d
  ok : okV v
  le : n ≤ 16384 → n' ≤ 16384
def DV (f : Nat → Str → Rs (V × Nat)) (d : Nat) : Prop := ∀ n r v n' r', f n r = .ok (v, n') r' → DVr d n r v n' r'
theorem items_inv {f : Nat → Str → Rs (V × Nat)} {d : Nat} (hf : DV f d) : ∀ (k n : Nat) (r : Str) (l : List V) (n' : Nat) (r' : Str), itemsS f k n r = .ok (l, n') r' →
    r = encL l ++ r' ∧ l.length = k ∧ (n' : Int) = n + cntL l ∧ dptL l ≤ d ∧ okL l ∧ (∀ x, x ∈ l → Near x) ∧ (n ≤ 16384 → n' ≤ 16384)
  | 0, n, r, l, n', r', h => by
    rw [itemsS] at h
    injection h with h1 h2
    injection h1 with h1 h3
    subst h1; subst h2; subst h3
    simp [encL, cntL, dptL, okL]
  | k + 1, n, r, l, n', r', h => by
    rw [itemsS] at h
    obtain ⟨x, r1, h1, h⟩ := bind_ok h
    obtain ⟨y, r2, h2, h⟩ := bind_ok h
    injection h with h3 h4
    injection h3 with h3 h5
    subst h3; subst h4; subst h5
    have D := hf n r x.1 x.2 r1 h1
    obtain ⟨a1, a2, a3, a4, a5, a6, a7⟩ := items_inv hf k x.2 r1 y.1 y.2 r2 h2
    have := D.cn
    have := D.dp
    refine ⟨by rw [encL, D.eq, a1, List.append_assoc], by simp [a2], by rw [cntL]; omega, by rw [dptL]; omega, by rw [okL]; exact ⟨D.ok, a5⟩, ?_, fun h => a7 (D.le h)⟩
    intro z hz
    rcases List.mem_cons.1 hz with rfl | hz
    · exact D.near
    · exact a6 z hz
theorem flds_inv {f : Nat → Str → Rs (V × Nat)} {d : Nat} (hf : DV f d) (part : Nat) : ∀ (k : Nat) (last : Str) (n : Nat) (r : Str) (l : List (Str × V)) (n' : Nat) (r' : Str), fldsS f part k last n r = .ok (l, n') r' →
    r = encD l ++ r' ∧ l.length = k ∧ (n' : Int) = n + cntL (l.map (·.2)) ∧ dptL (l.map (·.2)) ≤ d ∧ okD l ∧ (∀ x, x ∈ l.map (·.2) → Near x) ∧ risen (some last) (l.map (·.1)) = true ∧ (n ≤ 16384 → n' ≤ 16384)
  | 0, last, n, r, l, n', r', h => by
    rw [fldsS] at h
    injection h with h1 h2
    injection h1 with h1 h3
    subst h1; subst h2; subst h3
    simp [encD, cntL, dptL, okD, risen]
  | k + 1, last, n, r, l, n', r', h => by
    rw [fldsS] at h
    obtain ⟨s, r0, h0, h⟩ := bind_ok h
    split at h
    · cases h
    · rename_i hle
      obtain ⟨x, r1, h1, h⟩ := bind_ok h
      obtain ⟨y, r2, h2, h⟩ := bind_ok h
      injection h with h3 h4
      injection h3 with h3 h5
      subst h3; subst h4; subst h5
      have D := hf n r0 x.1 x.2 r1 h1
      obtain ⟨a1, a2, a3, a4, a5, a6, a8, a7⟩ := flds_inv hf part k s x.2 r1 y.1 y.2 r2 h2
      obtain ⟨e0, hnm⟩ := nameS_inv h0
      have := D.cn
      have := D.dp
      refine ⟨by rw [encD, e0, D.eq, a1]; simp only [List.append_assoc], by simp [a2], by simp only [List.map_cons, cntL]; omega, by simp only [List.map_cons, dptL]; omega, by rw [okD]; exact ⟨D.ok, a5⟩, ?_, ?_, fun h => a7 (D.le h)⟩
      · intro z hz
        rw [List.map_cons] at hz
        rcases List.mem_cons.1 hz with rfl | hz
        · exact D.near
        · exact a6 z hz
      · simp only [List.map_cons, risen, hnm, a8, Bool.true_and, Bool.and_true]
        simpa using hle
theorem risen_none {l : List Str} {q : Str} (h : risen (some q) l = true) : risen none l = true := by
  cases l with
  | nil => rfl
  | cons s r =>
    simp only [risen, Bool.and_eq_true, Bool.and_true] at h ⊢
    exact ⟨h.1.1, h.2⟩
theorem fieldsE_of {l : List Str} (h1 : l.length ≤ 4096) (h2 : risen none l = true) : fieldsE l = 0 := by
  unfold fieldsE; rw [if_neg (by omega), if_pos h2]
theorem cons_enc {c : UInt8} {n : Nat} {r e : Str} (h : c.toNat = n) (hn : n < 256) (hr : r = e) : c :: r = UInt8.ofNat n :: e := by
  subst hr
  congr 1
  apply UInt8.toNat_inj.1
  rw [h, u8_toNat hn]
theorem boolS_inv {n n' : Nat} {r r' : Str} {v : V} (h : boolS n r = .ok (v, n') r') : ∃ b : Bool, v = .bool b ∧ n' = n ∧ r = (if b then 1 else 0) :: r' := by
  cases r with
  | nil => cases h
  | cons c r =>
    rw [boolS] at h
    split at h
    · cases h
    · rename_i hc
      injection h with h1 h2
      injection h1 with h1 h3
      refine ⟨_, h1.symm, h3.symm, ?_⟩
      subst h2
      congr 1
      apply UInt8.toNat_inj.1
      by_cases h1 : c.toNat = 1
      · rw [h1]; rfl
      · have : c.toNat = 0 := by omega
        rw [this]; rfl
theorem valS_inv : ∀ (d : Nat), DV (valS d) d
  | d, n, [], v, n', r', h => by cases d <;> cases h
  | 0, n, c :: r, v, n', r', h => by cases h
  | d + 1, n, c :: r, v, n', r', h => by
    have ih := valS_inv d
    rw [valS] at h
    split at h
    · cases h
    · rename_i hn
      split at h
      · cases h
      · rename_i hc
        unfold bodyS at h
        have leaf : ∀ {x : V} {e : Str}, v = x → n' = n + 1 → c :: r = enc x ++ r' → Near x → cnt x = 1 → dpt x = 1 → okV x → DVr (d + 1) n (c :: r) v n' r' := by
          intro x e hv hn' he h1 h2 h3 h4
          subst hv
          exact ⟨he, h1, by omega, by omega, h4, fun _ => by omega⟩
        by_cases ht : c.toNat = 2
        · rw [if_pos ht] at h
          obtain ⟨b, rfl, rfl, hr⟩ := boolS_inv h
          exact leaf (e := []) rfl rfl (by rw [enc, List.cons_append, List.singleton_append]; exact cons_enc ht (by decide) hr) (.mk rfl (fun y hy => by cases hy)) rfl rfl trivial
        · rw [if_neg ht] at h
          by_cases ht : c.toNat = 3
          · rw [if_pos ht] at h
            obtain ⟨m, r1, h1, h⟩ := bind_ok h
            injection h with h2 h3
            injection h2 with h2 h4
            obtain ⟨e1, e2⟩ := nmS_inv h1
            subst h3
            exact leaf (e := []) h2.symm h4.symm (by rw [enc, List.cons_append, zig_unzig]; exact cons_enc ht (by decide) e1) (.mk rfl (fun y hy => by cases hy)) rfl rfl (by rw [okV]; exact unzig_in e2)
          · rw [if_neg ht] at h
            by_cases ht : c.toNat = 4
            · rw [if_pos ht] at h
              obtain ⟨s, r1, h1, h⟩ := bind_ok h
              injection h with h2 h3
              injection h2 with h2 h4
              obtain ⟨e1, e2⟩ := takeS_inv h1
              subst h3
              obtain ⟨e3, e4⟩ := be8_be e2
              exact leaf (e := []) h2.symm h4.symm (by rw [enc, List.cons_append, e3]; exact cons_enc ht (by decide) e1) (.mk rfl (fun y hy => by cases hy)) rfl rfl (by rw [okV]; exact e4)
            · rw [if_neg ht] at h
              by_cases ht : c.toNat = 5
              · rw [if_pos ht] at h
                obtain ⟨m, r0, h0, h⟩ := bind_ok h
                obtain ⟨s, r1, h1, h⟩ := bind_ok h
                injection h with h2 h3
                injection h2 with h2 h4
                obtain ⟨e1, e2⟩ := takeS_inv h1
                obtain ⟨e3, e4⟩ := mostS_inv h0
                subst h3
                subst e2
                exact leaf (e := []) h2.symm h4.symm (by rw [enc, List.cons_append, List.append_assoc, ← e1]; exact cons_enc ht (by decide) e3) (.mk (by rw [nearE, if_neg (by omega)]) (fun y hy => by cases hy)) rfl rfl trivial
              · rw [if_neg ht] at h
                by_cases ht : c.toNat = 6
                · rw [if_pos ht] at h
                  obtain ⟨m, r0, h0, h⟩ := bind_ok h
                  obtain ⟨s, r1, h1, h⟩ := bind_ok h
                  injection h with h2 h3
                  injection h2 with h2 h4
                  obtain ⟨e1, e2⟩ := takeS_inv h1
                  obtain ⟨e3, e4⟩ := mostS_inv h0
                  subst h3
                  subst e2
                  exact leaf (e := []) h2.symm h4.symm (by rw [enc, List.cons_append, List.append_assoc, ← e1]; exact cons_enc ht (by decide) e3) (.mk (by rw [nearE, if_neg (by omega)]) (fun y hy => by cases hy)) rfl rfl trivial
                · rw [if_neg ht] at h
                  by_cases ht : c.toNat = 7
                  · rw [if_pos ht] at h
                    obtain ⟨m, r1, h1, h⟩ := bind_ok h
                    injection h with h2 h3
                    injection h2 with h2 h4
                    obtain ⟨e1, e2⟩ := nmS_inv h1
                    subst h3
                    exact leaf (e := []) h2.symm h4.symm (by rw [enc, List.cons_append]; exact cons_enc ht (by decide) (by simpa using e1)) (.mk rfl (fun y hy => by cases hy)) rfl rfl (by rw [okV]; omega)
                  · rw [if_neg ht] at h
                    by_cases ht : c.toNat = 8
                    · rw [if_pos ht] at h
                      obtain ⟨m, r0, h0, h⟩ := bind_ok h
                      obtain ⟨x, r1, h1, h⟩ := bind_ok h
                      injection h with h2 h3
                      injection h2 with h2 h4
                      obtain ⟨e3, e4⟩ := mostS_inv h0
                      obtain ⟨a1, a2, a3, a4, a5, a6, a7⟩ := items_inv ih m (n + 1) r0 x.1 x.2 r1 h1
                      subst h3; subst h2; subst h4; subst a2
                      refine ⟨by rw [enc, List.cons_append, List.append_assoc, ← a1]; exact cons_enc ht (by decide) e3, .mk (by rw [nearE, if_neg (by omega)]) a6, by rw [cnt]; omega, by rw [dpt]; omega, by rw [okV]; exact a5, fun _ => a7 (by omega)⟩
                    · rw [if_neg ht] at h
                      by_cases ht : c.toNat = 9
                      · rw [if_pos ht] at h
                        obtain ⟨m, r0, h0, h⟩ := bind_ok h
                        obtain ⟨x, r1, h1, h⟩ := bind_ok h
                        injection h with h2 h3
                        injection h2 with h2 h4
                        obtain ⟨e3, e4⟩ := mostS_inv h0
                        obtain ⟨a1, a2, a3, a4, a5, a6, a8, a7⟩ := flds_inv ih _ m [] (n + 1) r0 x.1 x.2 r1 h1
                        subst h3; subst h2; subst h4; subst a2
                        refine ⟨by rw [enc, List.cons_append, List.append_assoc, ← a1]; exact cons_enc ht (by decide) e3, .mk (by rw [nearE]; exact fieldsE_of (by rw [List.length_map]; omega) (risen_none a8)) a6, by rw [cnt_eq]; simp only [V.parts]; omega, by rw [dpt_eq]; simp only [V.parts]; omega, by rw [okV]; exact a5, fun _ => a7 (by omega)⟩
                      · rw [if_neg ht] at h
                        by_cases ht : c.toNat = 10
                        · rw [if_pos ht] at h
                          obtain ⟨s, r2, h5, h⟩ := bind_ok h
                          obtain ⟨w, r3, h6, h⟩ := bind_ok h
                          split at h
                          · cases h
                          · rename_i hw
                            obtain ⟨m, r0, h0, h⟩ := bind_ok h
                            obtain ⟨x, r1, h1, h⟩ := bind_ok h
                            injection h with h2 h3
                            injection h2 with h2 h4
                            obtain ⟨e3, e4⟩ := mostS_inv h0
                            obtain ⟨e5, e6⟩ := nameS_inv h5
                            obtain ⟨e7, e8⟩ := nmS_inv h6
                            obtain ⟨a1, a2, a3, a4, a5, a6, a8, a7⟩ := flds_inv ih _ m [] (n + 1) r0 x.1 x.2 r1 h1
                            subst h3; subst h2; subst h4; subst a2
                            refine ⟨?_, .mk ?_ a6, by rw [cnt_eq]; simp only [V.parts]; omega, by rw [dpt_eq]; simp only [V.parts]; omega, by rw [okV]; exact a5, fun _ => a7 (by omega)⟩
                            · rw [enc, List.cons_append]
                              simp only [List.append_assoc]
                              rw [← a1, ← e3]
                              refine cons_enc ht (by decide) ?_
                              rw [e5, e7]; simp
                            · rw [nearE, if_neg (by simp [e6]), if_neg (by omega)]
                              exact fieldsE_of (by rw [List.length_map]; omega) (risen_none a8)
                        · rw [if_neg ht] at h
                          injection h with h2 h3
                          injection h2 with h2 h4
                          subst h3
                          exact leaf (e := []) h2.symm h4.symm (by rw [enc]; exact cons_enc (n := 1) (by omega) (by decide) rfl) (.mk rfl (fun y hy => by cases hy)) rfl rfl trivial
end Go.Proofs.Ytigadhiciinicaa

namespace Go.Proofs.Ytigadhiciinicaa
open Go Aw
set_option linter.unusedVariables false
set_option linter.unusedSimpArgs false
set_option maxRecDepth 8000
/-- g on a beginning of what f reads: it reads the same, or is short. -/
def St {α : Type} (f g : Str → Rs α) : Prop := ∀ (p q : Str) (x : α) (r' : Str), f (p ++ q) = .ok x r' → (∃ r'', r' = r'' ++ q ∧ g p = .ok x r'') ∨ (r'.length < q.length ∧ g p = .bad 0 4)
/-- What is left is no longer. -/
def Le {α : Type} (f : Str → Rs α) : Prop := ∀ (r : Str) (x : α) (r' : Str), f r = .ok x r' → r'.length ≤ r.length
theorem st_bind {α β : Type} {f1 g1 : Str → Rs α} {f2 g2 : α → Str → Rs β} (h1 : St f1 g1) (h2 : ∀ x, St (f2 x) (g2 x)) (h3 : ∀ x, Le (f2 x)) : St (fun r => (f1 r).bind f2) (fun r => (g1 r).bind g2) := by
  intro p q x r' h
  obtain ⟨y, r1, e1, e2⟩ := bind_ok h
  rcases h1 p q y r1 e1 with ⟨r2, rfl, e3⟩ | ⟨e3, e4⟩
  · rcases h2 y r2 q x r' e2 with ⟨r3, rfl, e4⟩ | ⟨e4, e5⟩
    · exact .inl ⟨r3, rfl, by show (g1 p).bind g2 = _; rw [e3]; exact e4⟩
    · exact .inr ⟨e4, by show (g1 p).bind g2 = _; rw [e3]; exact e5⟩
  · exact .inr ⟨Nat.lt_of_le_of_lt (h3 y _ _ _ e2) e3, by show (g1 p).bind g2 = _; rw [e4]; rfl⟩
theorem le_bind {α β : Type} {f1 : Str → Rs α} {f2 : α → Str → Rs β} (h1 : Le f1) (h2 : ∀ x, Le (f2 x)) : Le (fun r => (f1 r).bind f2) := by
  intro r x r' h
  obtain ⟨y, r1, e1, e2⟩ := bind_ok h
  exact Nat.le_trans (h2 y _ _ _ e2) (h1 _ _ _ e1)
theorem st_ok {α : Type} {y : α} : St (fun r => .ok y r) (fun r => .ok y r) := by
  intro p q x r' h
  injection h with h1 h2
  subst h1; subst h2
  exact .inl ⟨p, rfl, rfl⟩
theorem le_ok {α : Type} {y : α} : Le (fun r => .ok y r) := by
  intro r x r' h
  injection h with h1 h2
  subst h2; exact Nat.le_refl _
theorem st_if {α : Type} {c : Prop} [Decidable c] {a a' w : Nat} {v v' : Int} {f g : Str → Rs α} (h : St f g) : St (fun r => if c then .bad a v else f r) (fun r => if c then .bad a' v' else g r) := by
  intro p q x r' e
  by_cases hc : c
  · simp only [if_pos hc] at e; cases e
  · simp only [if_neg hc] at e ⊢; exact h p q x r' e
theorem le_if {α : Type} {c : Prop} [Decidable c] {a : Nat} {v : Int} {f : Str → Rs α} (h : Le f) : Le (fun r => if c then .bad a v else f r) := by
  intro r x r' e
  by_cases hc : c
  · simp only [if_pos hc] at e; cases e
  · simp only [if_neg hc] at e; exact h r x r' e
theorem numS_st (fr fr' : Nat) : ∀ (k i acc : Nat), k + i = 10 → St (numS fr k i acc) (numS fr' k i acc)
  | 0, i, acc, _, p, q, x, r', h => by cases h
  | k + 1, i, acc, hk, [], q, x, r', h => by
    obtain ⟨n, h1, _⟩ := numS_inv fr (k + 1) i acc q r' x hk (by simpa using h)
    refine .inr ⟨?_, rfl⟩
    have : 1 ≤ (num n).length := by rw [num]; split <;> simp
    rw [h1, List.length_append]; omega
  | k + 1, i, acc, hk, c :: p, q, x, r', h => by
    rw [List.cons_append, numS] at h
    rw [numS]
    split at h
    · cases h
    · rename_i hno
      rw [if_neg hno]
      split at h
      · rename_i hlt
        rw [if_pos hlt]
        injection h with h1 h2
        subst h1; subst h2
        exact .inl ⟨p, rfl, rfl⟩
      · rename_i hge
        rw [if_neg hge]
        exact numS_st fr fr' k (i + 1) _ (by omega) p q x r' h
theorem numS_le (fr : Nat) (k i acc : Nat) (hk : k + i = 10) : Le (numS fr k i acc) := by
  intro r x r' h
  obtain ⟨n, h1, _⟩ := numS_inv fr k i acc r r' x hk h
  rw [h1, List.length_append]; omega
theorem nmS_st : St nmS nmS := fun p q x r' h => numS_st (p ++ q).length p.length 10 0 0 rfl p q x r' h
theorem nmS_le : Le nmS := fun r x r' h => numS_le r.length 10 0 0 rfl r x r' h
theorem takeS_st (n : Nat) : St (takeS n) (takeS n) := by
  intro p q x r' h
  obtain ⟨e1, e2⟩ := takeS_inv h
  unfold takeS at h ⊢
  rcases Nat.lt_or_ge p.length n with hn | hn
  · refine .inr ⟨?_, if_pos hn⟩
    have := congrArg List.length e1
    simp only [List.length_append] at this
    omega
  · rw [if_neg (by omega)]
    split at h
    · cases h
    · injection h with h1 h2
      rw [List.take_append_of_le_length hn] at h1
      rw [List.drop_append_of_le_length hn] at h2
      exact .inl ⟨p.drop n, h2.symm, by rw [h1]⟩
theorem takeS_le (n : Nat) : Le (takeS n) := fun r x r' h => by
  obtain ⟨e1, _⟩ := takeS_inv h
  rw [e1, List.length_append]; omega
theorem mostS_st (a a' lim : Nat) : St (mostS a lim) (mostS a' lim) := st_bind nmS_st (fun x => st_if (w := 0) st_ok) (fun x => le_if le_ok)
theorem mostS_le (a lim : Nat) : Le (mostS a lim) := le_bind nmS_le (fun x => le_if le_ok)
theorem nameS_st (a a' : Nat) : St (nameS a) (nameS a') := by
  refine st_bind nmS_st (fun m => st_if (w := 0) (st_bind (takeS_st m) (fun s => ?_) (fun s => ?_))) (fun m => le_if (le_bind (takeS_le m) (fun s => ?_)))
  · intro p q x r' h
    by_cases hc : nameOk s
    · simp only [if_pos hc] at h ⊢
      injection h with h1 h2
      subst h1; subst h2
      exact .inl ⟨p, rfl, rfl⟩
    · simp only [if_neg hc] at h; cases h
  · intro r x r' h
    by_cases hc : nameOk s
    · simp only [if_pos hc] at h
      injection h with h1 h2
      subst h2; exact Nat.le_refl _
    · simp only [if_neg hc] at h; cases h
  · intro r x r' h
    by_cases hc : nameOk s
    · simp only [if_pos hc] at h
      injection h with h1 h2
      subst h2; exact Nat.le_refl _
    · simp only [if_neg hc] at h; cases h
theorem nameS_le (a : Nat) : Le (nameS a) := fun r x r' h => by
  obtain ⟨e1, _⟩ := nameS_inv h
  rw [e1]; simp only [List.length_append]; omega
theorem items_le {f : Nat → Str → Rs (V × Nat)} (hf : ∀ n, Le (f n)) : ∀ k n, Le (itemsS f k n)
  | 0, n => le_ok
  | k + 1, n => le_bind (hf n) (fun x => le_bind (items_le hf k x.2) (fun y => le_ok))
theorem items_st {f : Nat → Str → Rs (V × Nat)} (hf : ∀ n, St (f n) (f n)) (hl : ∀ n, Le (f n)) : ∀ k n, St (itemsS f k n) (itemsS f k n)
  | 0, n => st_ok
  | k + 1, n => st_bind (hf n) (fun x => st_bind (items_st hf hl k x.2) (fun y => st_ok) (fun y => le_ok)) (fun x => le_bind (items_le hl k x.2) (fun y => le_ok))
theorem flds_le {f : Nat → Str → Rs (V × Nat)} (hf : ∀ n, Le (f n)) (a : Nat) : ∀ k last n, Le (fldsS f a k last n)
  | 0, last, n => le_ok
  | k + 1, last, n => le_bind (nameS_le a) (fun s => le_if (le_bind (hf n) (fun x => le_bind (flds_le hf a k s x.2) (fun y => le_ok))))
theorem flds_st {f : Nat → Str → Rs (V × Nat)} (hf : ∀ n, St (f n) (f n)) (hl : ∀ n, Le (f n)) (a a' : Nat) : ∀ k last n, St (fldsS f a k last n) (fldsS f a' k last n)
  | 0, last, n => st_ok
  | k + 1, last, n => st_bind (nameS_st a a') (fun s => st_if (w := 0) (st_bind (hf n) (fun x => st_bind (flds_st hf hl a a' k s x.2) (fun y => st_ok) (fun y => le_ok)) (fun x => le_bind (flds_le hl a k s x.2) (fun y => le_ok))))
      (fun s => le_if (le_bind (hl n) (fun x => le_bind (flds_le hl a k s x.2) (fun y => le_ok))))
theorem boolS_st (n : Nat) : St (boolS n) (boolS n) := by
  intro p q x r' h
  cases p with
  | nil =>
    cases q with
    | nil => cases h
    | cons c q =>
      obtain ⟨b, _, _, e⟩ := boolS_inv (v := x.1) (n' := x.2) h
      injection e with e1 e2
      exact .inr ⟨by rw [e2]; simp, rfl⟩
  | cons c p =>
    rw [List.cons_append, boolS] at h
    rw [boolS]
    split at h
    · cases h
    · rename_i hc
      rw [if_neg hc]
      injection h with h1 h2
      subst h1; subst h2
      exact .inl ⟨p, rfl, rfl⟩
theorem st_ite {α : Type} {c : Prop} [Decidable c] {f g f' g' : Str → Rs α} (h1 : St f f') (h2 : St g g') : St (fun r => if c then f r else g r) (fun r => if c then f' r else g' r) := by
  intro p q x r' e
  by_cases hc : c
  · simp only [if_pos hc] at e ⊢; exact h1 p q x r' e
  · simp only [if_neg hc] at e ⊢; exact h2 p q x r' e
theorem bodyS_st {f : Nat → Str → Rs (V × Nat)} (hf : ∀ n, St (f n) (f n)) (hl : ∀ n, Le (f n)) (tag a a' n : Nat) : St (bodyS f tag a n) (bodyS f tag a' n) := by
  unfold bodyS
  refine st_ite (boolS_st n) (st_ite (st_bind nmS_st (fun m => st_ok) (fun m => le_ok)) (st_ite (st_bind (takeS_st 8) (fun m => st_ok) (fun m => le_ok)) (st_ite (st_bind (mostS_st _ _ _) (fun m => st_bind (takeS_st m) (fun s => st_ok) (fun s => le_ok)) (fun m => le_bind (takeS_le m) fun s => le_ok))
    (st_ite (st_bind (mostS_st _ _ _) (fun m => st_bind (takeS_st m) (fun s => st_ok) (fun s => le_ok)) (fun m => le_bind (takeS_le m) fun s => le_ok))
    (st_ite (st_bind nmS_st (fun m => st_ok) (fun m => le_ok)) (st_ite (st_bind (mostS_st _ _ _) (fun m => st_bind (items_st hf hl m n) (fun s => st_ok) (fun s => le_ok)) (fun m => le_bind (items_le hl m n) fun s => le_ok))
    (st_ite (st_bind (mostS_st _ _ _) (fun m => st_bind (flds_st hf hl _ _ m _ n) (fun s => st_ok) (fun s => le_ok)) (fun m => le_bind (flds_le hl _ m _ n) fun s => le_ok))
    (st_ite (st_bind (nameS_st _ _) (fun s => st_bind nmS_st (fun v => st_if (w := 0) (st_bind (mostS_st _ _ _) (fun m => st_bind (flds_st hf hl _ _ m _ n) (fun s => st_ok) (fun s => le_ok)) (fun m => le_bind (flds_le hl _ m _ n) fun s => le_ok))) (fun v => le_if (le_bind (mostS_le _ _) fun m => le_bind (flds_le hl _ m _ n) fun s => le_ok)))
      (fun s => le_bind nmS_le fun v => le_if (le_bind (mostS_le _ _) fun m => le_bind (flds_le hl _ m _ n) fun s => le_ok))) st_ok))))))))
theorem valS_le : ∀ (d n : Nat), Le (valS d n) := fun d n r x r' h => by
  have D := valS_inv d n r x.1 x.2 r' h
  rw [D.eq, List.length_append]; omega
theorem valS_st : ∀ (d n : Nat), St (valS d n) (valS d n)
  | d, n, [], q, x, r', h => by
    have D := valS_inv d n q x.1 x.2 r' (by simpa using h)
    refine .inr ⟨?_, by cases d <;> rfl⟩
    have : 1 ≤ (enc x.1).length := by cases x.1 <;> simp [enc]
    rw [D.eq, List.length_append]; omega
  | 0, n, c :: p, q, x, r', h => by cases h
  | d + 1, n, c :: p, q, x, r', h => by
    rw [List.cons_append, valS] at h
    rw [valS]
    by_cases h1 : 16384 ≤ n
    · rw [if_pos h1] at h; cases h
    · rw [if_neg h1] at h ⊢
      by_cases h2 : c.toNat < 1 ∨ 10 < c.toNat
      · rw [if_pos h2] at h; cases h
      · rw [if_neg h2] at h ⊢
        exact bodyS_st (valS_st d) (valS_le d) c.toNat _ _ (n + 1) p q x r' h
/-- Of a shorter beginning of a value's bytes it is told that it is too short. -/
theorem short {v : V} (hc : Can v) (hok : okV v) {p q : Str} (he : enc v = p ++ q) (hq : q ≠ []) : valS 64 0 p = .bad 0 4 := by
  have h := valS_enc v 64 hc.1 hok hc.2.2 0 [] (by have := hc.2.1; omega)
  rw [List.append_nil, he] at h
  rcases valS_st 64 0 p q _ _ h with ⟨r'', h1, _⟩ | ⟨_, h2⟩
  · exact absurd (List.append_eq_nil_iff.1 h1.symm).2 hq
  · exact h2
end Go.Proofs.Ytigadhiciinicaa
