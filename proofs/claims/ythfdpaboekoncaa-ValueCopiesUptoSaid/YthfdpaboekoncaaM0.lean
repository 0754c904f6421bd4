/- Plain laws, one behind the other. -/
import Derived.Test.YthfdpaboekoncaaRd
import Derived.Test.YthfdpaboekoncaaG4
namespace Go.Proofs.Ythfdpaboekoncaa
open Go Aw
set_option linter.unusedVariables false
set_option linter.unusedSimpArgs false
theorem lt_t {i n : Nat} (h : i < n) : decide ((i : Int) < (n : Int)) = true := decide_eq_true (by omega)
theorem lt_f {i n : Nat} (h : ¬ i < n) : decide ((i : Int) < (n : Int)) = false := decide_eq_false (by omega)
theorem dropc {α : Type} {l : List α} {i : Nat} (h : i < l.length) : ∃ x, l[i]? = some x ∧ l.drop i = x :: l.drop (i + 1) :=
  ⟨l[i], List.getElem?_eq_getElem h, List.drop_eq_getElem_cons h⟩
theorem w64_in {x : Int} (h1 : -9223372036854775808 ≤ x) (h2 : x ≤ 9223372036854775807) : IntKind.i64.wrap x = x := wrap_in h1 h2
theorem idxI_nat {α : Type} (l : List α) (i : Nat) : idxI l (i : Int) = l[i]? := by
  unfold idxI; rw [decide_eq_true (by omega : (0 : Int) ≤ (i : Nat))]; rfl
/-- A letter of a name. -/
def chOk (c : UInt8) : Bool := (Nat.ble 97 c.toNat && Nat.ble c.toNat 122) || (Nat.ble 48 c.toNat && Nat.ble c.toNat 57) || Nat.beq c.toNat 95
def loOk (c : UInt8) : Bool := Nat.ble 97 c.toNat && Nat.ble c.toNat 122
def nameOk (s : Str) : Bool := Nat.ble 1 s.length && Nat.ble s.length 32 && loOk (s.headD 0) && s.all chOk
theorem chOk_iff {c : UInt8} : chOk c = true ↔ (97 ≤ c.toNat ∧ c.toNat ≤ 122) ∨ (48 ≤ c.toNat ∧ c.toNat ≤ 57) ∨ c.toNat = 95 := by
  simp only [chOk, Bool.or_eq_true, Bool.and_eq_true, Nat.ble_eq, Nat.beq_eq]; omega
theorem loOk_iff {c : UInt8} : loOk c = true ↔ 97 ≤ c.toNat ∧ c.toNat ≤ 122 := by
  simp only [loOk, Bool.and_eq_true, Nat.ble_eq]
theorem vn_body (c : UInt8) (g : Nat → Option Bool) (i : Nat) (s : Str) (hi : i < s.length) (hc : s[i]? = some c) : value_name_l1b s g i = bif chOk c then g (i + 1) else some false := by
  have h97 : (97 : UInt8).toNat = 97 := rfl
  have h122 : (122 : UInt8).toNat = 122 := rfl
  have h48 : (48 : UInt8).toNat = 48 := rfl
  have h57 : (57 : UInt8).toNat = 57 := rfl
  have h95 : (95 : UInt8).toNat = 95 := rfl
  simp only [value_name_l1b, lt_t hi, hc, cond_true, Option.bind_some, value_name_j2, h97, h122, h48, h57, h95]
  simp only [Bool.cond_eq_ite, decide_eq_true_eq, bne_iff_ne, ne_eq, Bool.false_eq_true, if_false, chOk_iff]
  repeat (split <;> (try (first | rfl | (exfalso; omega))))
theorem vn_l (s : Str) : ∀ k i, k + i = s.length → value_name_l1 s i = some ((s.drop i).all chOk)
  | 0, i, h => by
    rw [value_name_l1_eq]
    simp only [value_name_l1b, lt_f (by omega : ¬ i < s.length), cond_false]
    rw [List.drop_of_length_le (by omega)]; rfl
  | k + 1, i, h => by
    obtain ⟨c, hc, hd⟩ := dropc (by omega : i < s.length)
    rw [value_name_l1_eq, vn_body c _ i s (by omega) hc, vn_l s k (i + 1) (by omega), hd, List.all_cons]
    cases chOk c <;> rfl
theorem value_name_eq (s : Str) : p_value_name s = some (nameOk s) := by
  have h97 : (97 : UInt8).toNat = 97 := rfl
  have h122 : (122 : UInt8).toNat = 122 := rfl
  cases s with
  | nil => rfl
  | cons c r =>
    have hl := vn_l (c :: r) (c :: r).length 0 (by simp)
    rw [List.drop_zero] at hl
    simp only [p_value_name, value_name_j1, h97, h122]
    have he : ((c :: r) == ([] : Str)) = false := rfl
    have h0 : (c :: r)[0]? = some c := rfl
    simp only [he, h0, cond_true, cond_false, Option.bind_some]
    by_cases h32 : (c :: r).length ≤ 32
    · have hs : smallO (c :: r).length = some () := by unfold smallO; rw [Nat.ble_eq_true_of_le (by omega)]; rfl
      simp only [hs, hl, Option.bind_some]
      have e1 : decide (((c :: r).length : Int) > 32) = false := decide_eq_false (by omega)
      rw [e1]
      simp only [cond_false, nameOk, List.headD_cons, Nat.ble_eq_true_of_le h32, Nat.ble_eq_true_of_le (by simp : 1 ≤ (c :: r).length), Bool.true_and]
      cases hlo : loOk c with
      | true =>
        have := loOk_iff.1 hlo
        have e2 : decide ((c.toNat : Int) < (97 : Nat)) = false := decide_eq_false (by omega)
        have e3 : decide ((c.toNat : Int) > (122 : Nat)) = false := decide_eq_false (by omega)
        rw [e2, e3]; rfl
      | false =>
        have h2 : ¬ (97 ≤ c.toNat ∧ c.toNat ≤ 122) := fun h => by rw [loOk_iff.2 h] at hlo; cases hlo
        by_cases h3 : c.toNat < 97
        · have e2 : decide ((c.toNat : Int) < (97 : Nat)) = true := decide_eq_true (by omega)
          rw [e2]; rfl
        · have e2 : decide ((c.toNat : Int) < (97 : Nat)) = false := decide_eq_false (by omega)
          have e3 : decide ((c.toNat : Int) > (122 : Nat)) = true := decide_eq_true (by omega)
          rw [e2, e3]; rfl
    · have e1 : decide (((c :: r).length : Int) > 32) = true := decide_eq_true (by omega)
      have e2 : Nat.ble (c :: r).length 32 = false := by
        cases hb : Nat.ble (c :: r).length 32 with
        | false => rfl
        | true => exact absurd (Nat.le_of_ble_eq_true hb) h32
      rw [e1]
      simp only [cond_true, nameOk, e2, Bool.and_false, Bool.false_and]
end Go.Proofs.Ythfdpaboekoncaa

namespace Go.Proofs.Ythfdpaboekoncaa
open Go Aw
set_option linter.unusedVariables false
set_option linter.unusedSimpArgs false
set_option maxRecDepth 8000
theorem max_if (a b : Int) : (if b > a then b else a) = max a b := by omega
/-! ### fields: names that rise -/
def leB (a b : Str) : Bool := Op.bytesLess a b || a == b
def risen : Option Str → List Str → Bool
  | _, [] => true
  | p, s :: r => nameOk s && (match p with | none => true | some q => !(leB s q)) && risen (some s) r
def prevOf (l : List Str) (i : Nat) : Option Str := if i = 0 then none else l[i - 1]?
def fieldsE (l : List Str) : Int := if 4096 < l.length then 2 else if risen none l then 0 else 8
theorem risen_step {l : List Str} {i : Nat} {s : Str} (h : l[i]? = some s) (p : Option Str) : risen p (l.drop i) = (nameOk s && (match p with | none => true | some q => !(leB s q)) && risen (prevOf l (i + 1)) (l.drop (i + 1))) := by
  have hi := (List.getElem?_eq_some_iff.1 h).1
  have hd : l.drop i = s :: l.drop (i + 1) := by rw [List.drop_eq_getElem_cons hi, (List.getElem?_eq_some_iff.1 h).2]
  have : prevOf l (i + 1) = some s := by simp [prevOf, h]
  rw [hd, this]
  cases p <;> simp only [risen]
theorem risen_nil (p : Option Str) : risen p [] = true := by cases p <;> rfl
def r08 (b : Bool) : Int := if b then 0 else 8
/-- One round over names, whatever stands beside them. -/
theorem fields_round {α : Type} (l : List (Str × α)) (i : Nat) (hi : i < l.length) (hb : l.length ≤ 4096) (g : Option Int) (hg : g = some (r08 (risen (prevOf (l.map (·.1)) (i + 1)) ((l.map (·.1)).drop (i + 1))))) (x : Str × α) (hx : l[i]? = some x) :
    (bif !(nameOk x.1) then some 8 else (bif decide (((i : Nat) : Int) > 0) then Option.bind (idxI l (IntKind.i64.wrap (((i : Nat) : Int) - 1))) fun y => (bif (Op.bytesLess x.1 y.1 || x.1 == y.1) then some 8 else g) else g)) = some (r08 (risen (prevOf (l.map (·.1)) i) ((l.map (·.1)).drop i))) := by
  have hs : (l.map (·.1))[i]? = some x.1 := by rw [List.getElem?_map, hx]; rfl
  rw [risen_step hs]
  cases hn : nameOk x.1 with
  | false => rfl
  | true =>
    simp only [Bool.not_true, cond_false, Bool.true_and]
    by_cases h0 : i = 0
    · subst h0
      have e : decide (((0 : Nat) : Int) > 0) = false := rfl
      rw [e, hg]
      simp only [cond_false, prevOf, if_pos, Bool.true_and]
    · have e : decide ((i : Int) > 0) = true := decide_eq_true (by omega)
      have hw : IntKind.i64.wrap ((i : Int) - 1) = ((i - 1 : Nat) : Int) := by rw [w64_in (by omega) (by omega)]; omega
      obtain ⟨y, hy, _⟩ := dropc (by omega : i - 1 < l.length)
      rw [e, hw, idxI_nat, hy]
      have hp : prevOf (l.map (·.1)) i = some y.1 := by simp only [prevOf, if_neg h0, List.getElem?_map, hy, Option.map_some]
      simp only [cond_true, Option.bind_some, hp, hg]
      show (bif leB x.1 y.1 then _ else _) = _
      cases leB x.1 y.1 <;> rfl
theorem vf_l (l : List (Str × V)) (hb : l.length ≤ 4096) : ∀ k i, k + i = l.length → value_fields_l1 l i = some (r08 (risen (prevOf (l.map (·.1)) i) ((l.map (·.1)).drop i)))
  | 0, i, h => by
    rw [value_fields_l1_eq]
    simp only [value_fields_l1b, lt_f (by omega : ¬ i < l.length), cond_false]
    rw [List.drop_of_length_le (by simp; omega), risen_nil]; rfl
  | k + 1, i, h => by
    obtain ⟨x, hx, _⟩ := dropc (by omega : i < l.length)
    have hr := fields_round l i (by omega) hb _ (vf_l l hb k (i + 1) (by omega)) x hx
    rw [value_fields_l1_eq]
    simp only [value_fields_l1b, lt_t (by omega : i < l.length), cond_true, hx, Option.bind_some, value_name_eq, value_fields_j1, cond_false]
    exact hr
theorem value_fields_eq (l : List (Str × V)) : p_value_fields l = some (fieldsE (l.map (·.1))) := by
  simp only [p_value_fields, fieldsE, List.length_map]
  by_cases h : 4096 < l.length
  · rw [decide_eq_true (by omega : (l.length : Int) > 4096), if_pos h]; rfl
  · rw [decide_eq_false (by omega : ¬ (l.length : Int) > 4096), if_neg h, cond_false, vf_l l (by omega) l.length 0 (by omega)]; rfl
/-! ### what is wrong with a part itself -/
def kindOf : V → Int
  | .nil => 1
  | .bool _ => 2
  | .int _ => 3
  | .float _ => 4
  | .text _ => 5
  | .bytes _ => 6
  | .ref _ => 7
  | .list _ => 8
  | .dict _ => 9
  | .record _ _ _ => 10
  | .nothing => 11
  | .alien _ => 0
theorem value_kind_eq (x : V) : p_value_kind x = some (kindOf x) := by cases x <;> rfl
theorem value_Kind_eq (x : V) : p_value_Kind x = some (kindOf x) := by simp only [p_value_Kind, value_kind_eq, Option.bind_some]
def farE : V → Int
  | .nothing => 7
  | .alien _ => 6
  | _ => 2
def nearE : V → Int
  | .text s => if 65536 < s.length then 2 else 0
  | .bytes b => if 65536 < b.length then 2 else 0
  | .list l => if 4096 < l.length then 2 else 0
  | .dict l => fieldsE (l.map (·.1))
  | .record c v l => if nameOk c = false then 8 else if v < 1 ∨ 1000 < v then 1 else fieldsE (l.map (·.1))
  | .nothing => 7
  | .alien _ => 6
  | _ => 0
def ownE (x : V) (n deep : Int) : Int := if 16384 ≤ n ∨ 64 < deep then farE x else nearE x
theorem far_j (x : V) : value_own_j1 x true = some (farE x) := by
  simp only [value_own_j1, cond_true, value_kind_eq, Option.bind_some]
  cases x <;> rfl
theorem big_if (n m : Nat) : (bif decide ((n : Int) > (m : Int)) then some (2 : Int) else value_own_j2) = some (if m < n then 2 else 0) := by
  by_cases h : m < n
  · rw [decide_eq_true (by omega : (n : Int) > m), if_pos h]; rfl
  · rw [decide_eq_false (by omega : ¬ (n : Int) > m), if_neg h]; rfl
theorem near_j (x : V) : value_own_j1 x false = some (nearE x) := by
  cases x with
  | text s => exact big_if s.length 65536
  | bytes s => exact big_if s.length 65536
  | list s => exact big_if s.length 4096
  | dict l =>
    have : value_own_j1 (.dict l) false = Option.bind (p_value_fields l) fun x => some x := rfl
    rw [this, value_fields_eq]; rfl
  | record c v l =>
    have : value_own_j1 (.record c v l) false = Option.bind (p_value_name c) fun x17 => bif !x17 then some 8 else bif decide (v < 1) then value_own_j3 ⟨c, v, l⟩ true else value_own_j3 ⟨c, v, l⟩ (decide (v > 1000)) := rfl
    rw [this, value_name_eq]
    simp only [Option.bind_some, nearE, value_own_j3, value_fields_eq]
    cases hn : nameOk c with
    | false => rfl
    | true =>
      simp only [Bool.not_true, cond_false, cond_true]
      by_cases h1 : v < 1
      · rw [decide_eq_true h1, cond_true, if_neg (by simp), if_pos (Or.inl h1)]
      · rw [decide_eq_false h1, cond_false, if_neg (by simp)]
        by_cases h2 : v > 1000
        · rw [decide_eq_true h2, cond_true, if_pos (Or.inr h2)]
        · rw [decide_eq_false h2, cond_false, if_neg (by omega)]
  | _ => rfl
theorem value_own_eq (x : V) (n d : Int) : p_value_own x n d = some (ownE x n d) := by
  simp only [p_value_own, ownE]
  by_cases h1 : n ≥ 16384
  · rw [decide_eq_true h1, cond_true, if_pos (Or.inl h1), far_j]
  · rw [decide_eq_false h1, cond_false]
    by_cases h2 : d > 64
    · rw [decide_eq_true h2, if_pos (Or.inr h2), far_j]
    · rw [decide_eq_false h2, if_neg (by omega), near_j]
/-! ### the value of a term -/
theorem al_cond {c : Bool} {x y : Option V} (h1 : ∃ a, x = some (.alien a)) (h2 : ∃ a, y = some (.alien a)) : ∃ a, (bif c then x else y) = some (.alien a) := by cases c <;> assumption
theorem alien_ex (n : Int) : ∃ a, p_mk_Alien n = some (.alien a) := by
  unfold p_mk_Alien
  repeat (first | exact ⟨_, rfl⟩ | refine al_cond ⟨_, rfl⟩ ?_)
noncomputable def alT (n : Int) : {t : Nat // alienT t = true} := (alien_ex n).choose
theorem alien_eq (n : Int) : p_mk_Alien n = some (.alien (alT n)) := (alien_ex n).choose_spec
mutual
noncomputable def bu : Term → V
  | .mk k b i f t y r l d c v => if k = 1 then .nil else if k = 2 then .bool b else if k = 3 then .int i else if k = 4 then .float f else if k = 5 then .text t else if k = 6 then .bytes y else if k = 7 then .ref r
    else if k = 8 then .list (buTs l) else if k = 9 then .dict (buEs d) else if k = 10 then .record c v (buEs d) else if k = 11 then .nothing else .alien (alT i)
noncomputable def buTs : List Term → List V
  | [] => []
  | x :: r => bu x :: buTs r
noncomputable def buEs : List (Str × Term) → List (Str × V)
  | [] => []
  | (s, x) :: r => (s, bu x) :: buEs r
end
noncomputable def buE (p : Str × Term) : Str × V := (p.1, bu p.2)
theorem buTs_map : ∀ l, buTs l = l.map bu
  | [] => by rw [buTs]; rfl
  | x :: r => by rw [buTs, buTs_map r]; rfl
theorem buEs_map : ∀ l, buEs l = l.map buE
  | [] => by rw [buEs]; rfl
  | (s, x) :: r => by rw [buEs, buEs_map r]; rfl
theorem bu_names (l : List (Str × Term)) : (l.map buE).map (·.1) = l.map (·.1) := by rw [List.map_map]; rfl
theorem bu_snds (l : List (Str × Term)) : (l.map buE).map (·.2) = (l.map (·.2)).map bu := by rw [List.map_map, List.map_map]; rfl
inductive BuC (t : Term) : V → Prop
  | nil : t.kind = 1 → BuC t .nil
  | bool : t.kind = 2 → BuC t (.bool t.bool)
  | int : t.kind = 3 → BuC t (.int t.int)
  | float : t.kind = 4 → BuC t (.float t.float)
  | text : t.kind = 5 → BuC t (.text t.text)
  | bytes : t.kind = 6 → BuC t (.bytes t.bytes)
  | ref : t.kind = 7 → BuC t (.ref t.ref)
  | list : t.kind = 8 → BuC t (.list (t.list.map bu))
  | dict : t.kind = 9 → BuC t (.dict (t.fields.map buE))
  | record : t.kind = 10 → BuC t (.record t.cls t.ver (t.fields.map buE))
  | nothing : t.kind = 11 → BuC t .nothing
  | alien : t.kind < 1 ∨ 11 < t.kind → BuC t (.alien (alT t.int))
theorem bu_c (t : Term) : BuC t (bu t) := by
  cases t with
  | mk k b i f t y r l d c v =>
    rw [bu, buTs_map, buEs_map]
    by_cases h1 : k = 1; · rw [if_pos h1]; exact .nil h1
    by_cases h2 : k = 2; · rw [if_neg h1, if_pos h2]; exact .bool h2
    by_cases h3 : k = 3; · rw [if_neg h1, if_neg h2, if_pos h3]; exact .int h3
    by_cases h4 : k = 4; · rw [if_neg h1, if_neg h2, if_neg h3, if_pos h4]; exact .float h4
    by_cases h5 : k = 5; · rw [if_neg h1, if_neg h2, if_neg h3, if_neg h4, if_pos h5]; exact .text h5
    by_cases h6 : k = 6; · rw [if_neg h1, if_neg h2, if_neg h3, if_neg h4, if_neg h5, if_pos h6]; exact .bytes h6
    by_cases h7 : k = 7; · rw [if_neg h1, if_neg h2, if_neg h3, if_neg h4, if_neg h5, if_neg h6, if_pos h7]; exact .ref h7
    by_cases h8 : k = 8; · rw [if_neg h1, if_neg h2, if_neg h3, if_neg h4, if_neg h5, if_neg h6, if_neg h7, if_pos h8]; exact .list h8
    by_cases h9 : k = 9; · rw [if_neg h1, if_neg h2, if_neg h3, if_neg h4, if_neg h5, if_neg h6, if_neg h7, if_neg h8, if_pos h9]; exact .dict h9
    by_cases h10 : k = 10; · rw [if_neg h1, if_neg h2, if_neg h3, if_neg h4, if_neg h5, if_neg h6, if_neg h7, if_neg h8, if_neg h9, if_pos h10]; exact .record h10
    by_cases h11 : k = 11; · rw [if_neg h1, if_neg h2, if_neg h3, if_neg h4, if_neg h5, if_neg h6, if_neg h7, if_neg h8, if_neg h9, if_neg h10, if_pos h11]; exact .nothing h11
    rw [if_neg h1, if_neg h2, if_neg h3, if_neg h4, if_neg h5, if_neg h6, if_neg h7, if_neg h8, if_neg h9, if_neg h10, if_neg h11]
    exact .alien (by show k < 1 ∨ 11 < k; omega)
theorem big_r (n m : Nat) (g : Bool → Option Int) (h1 : g true = some 2) (h2 : g false = some 0) : g (decide ((n : Int) > (m : Int))) = some (if m < n then 2 else 0) := by
  by_cases h : m < n
  · rw [decide_eq_true (by omega : (n : Int) > m), if_pos h]; exact h1
  · rw [decide_eq_false (by omega : ¬ (n : Int) > m), if_neg h]; exact h2
end Go.Proofs.Ythfdpaboekoncaa

namespace Go.Proofs.Ythfdpaboekoncaa
open Go Aw
set_option linter.unusedVariables false
set_option linter.unusedSimpArgs false
set_option maxRecDepth 8000
/-- What a count tells: all was well, the parts, the depth, what is wrong. -/
structure Ct where
  ok : Bool
  n : Int
  dp : Int
  why : Int
mutual
def partF : V → Int → Int → Int → Ct
  | .list l, n, dp, d => if ownE (.list l) n d = 0 then partsF l (n + 1) (max dp d) (d + 1) else ⟨false, n, dp, ownE (.list l) n d⟩
  | .dict l, n, dp, d => if ownE (.dict l) n d = 0 then fieldsF l (n + 1) (max dp d) (d + 1) else ⟨false, n, dp, ownE (.dict l) n d⟩
  | .record c v l, n, dp, d => if ownE (.record c v l) n d = 0 then fieldsF l (n + 1) (max dp d) (d + 1) else ⟨false, n, dp, ownE (.record c v l) n d⟩
  | x, n, dp, d => if ownE x n d = 0 then ⟨true, n + 1, max dp d, 0⟩ else ⟨false, n, dp, ownE x n d⟩
def partsF : List V → Int → Int → Int → Ct
  | [], n, dp, d => ⟨true, n, dp, 0⟩
  | x :: r, n, dp, d => if (partF x n dp d).ok then partsF r (partF x n dp d).n (partF x n dp d).dp d else partF x n dp d
def fieldsF : List (Str × V) → Int → Int → Int → Ct
  | [], n, dp, d => ⟨true, n, dp, 0⟩
  | (s, x) :: r, n, dp, d => if (partF x n dp d).ok then fieldsF r (partF x n dp d).n (partF x n dp d).dp d else partF x n dp d
end
def V.parts : V → List V
  | .list l => l
  | .dict l => l.map (·.2)
  | .record _ _ l => l.map (·.2)
  | _ => []
theorem fieldsF_map : ∀ (l : List (Str × V)) (n dp d : Int), fieldsF l n dp d = partsF (l.map (·.2)) n dp d
  | [], n, dp, d => by simp only [fieldsF, partsF, List.map_nil]
  | (s, x) :: r, n, dp, d => by simp only [fieldsF, partsF, List.map_cons, fieldsF_map r]
theorem partF_eq (x : V) (n dp d : Int) : partF x n dp d = if ownE x n d = 0 then partsF x.parts (n + 1) (max dp d) (d + 1) else ⟨false, n, dp, ownE x n d⟩ := by
  cases x <;> simp only [partF, V.parts, fieldsF_map, partsF]
theorem partsF_cons (x : V) (r : List V) (n dp d : Int) : partsF (x :: r) n dp d = if (partF x n dp d).ok then partsF r (partF x n dp d).n (partF x n dp d).dp d else partF x n dp d := by simp only [partsF]
theorem partsF_nil (n dp d : Int) : partsF [] n dp d = ⟨true, n, dp, 0⟩ := by simp only [partsF]
theorem far_ne (x : V) : farE x ≠ 0 := by cases x <;> simp [farE]
theorem own_zero {x : V} {n d : Int} (h : ownE x n d = 0) : n < 16384 ∧ d ≤ 64 ∧ nearE x = 0 := by
  unfold ownE at h
  split at h
  · exact absurd h (far_ne x)
  · rename_i hc; exact ⟨by omega, by omega, h⟩
theorem parts_lt {x y : V} (h : y ∈ x.parts) : SizeOf.sizeOf y < SizeOf.sizeOf x := by
  cases x <;> simp only [V.parts, List.not_mem_nil] at h
  · have := List.sizeOf_lt_of_mem h; simp; omega
  · obtain ⟨⟨s, z⟩, hz, rfl⟩ := List.mem_map.1 h
    have := List.sizeOf_lt_of_mem hz; simp at this ⊢; omega
  · obtain ⟨⟨s, z⟩, hz, rfl⟩ := List.mem_map.1 h
    have := List.sizeOf_lt_of_mem hz; simp at this ⊢; omega
/-- By a value's parts. -/
theorem V.byParts {P : V → Prop} (h : ∀ x, (∀ y, y ∈ x.parts → P y) → P x) (x : V) : P x :=
  h x (fun y hy => V.byParts h y)
termination_by SizeOf.sizeOf x
decreasing_by exact parts_lt hy
/-- What is always so of a count. -/
structure CtOk (c : Ct) (n : Int) : Prop where
  lo : n ≤ c.n
  ok : c.ok = true → c.n ≤ 16384 ∧ c.why = 0
  bad : c.ok = false → c.why ≠ 0
theorem parts_facts {d : Int} : ∀ (l : List V), (∀ y, y ∈ l → ∀ n dp, CtOk (partF y n dp d) n) → ∀ n dp, n ≤ 16384 → CtOk (partsF l n dp d) n
  | [], _, n, dp, hm => by rw [partsF_nil]; exact ⟨Int.le_refl _, fun _ => ⟨hm, rfl⟩, by simp⟩
  | x :: r, h, n, dp, hm => by
    have h1 := h x (by simp) n dp
    rw [partsF_cons]
    split
    · rename_i hk
      have h2 := parts_facts r (fun y hy => h y (by simp [hy])) _ (partF x n dp d).dp (h1.ok hk).1
      exact ⟨Int.le_trans h1.lo h2.lo, h2.ok, h2.bad⟩
    · exact h1
theorem part_facts (x : V) : ∀ d n dp, CtOk (partF x n dp d) n := by
  induction x using V.byParts with
  | _ x ih =>
  intro d n dp
  rw [partF_eq]
  split
  · rename_i h
    have := own_zero h
    have h2 := parts_facts x.parts (fun y hy n dp => ih y hy (d + 1) n dp) (n + 1) (max dp d) (by omega)
    exact ⟨by have := h2.lo; omega, h2.ok, h2.bad⟩
  · rename_i h; exact ⟨Int.le_refl _, by simp, fun _ => h⟩
/-! ### the program's -/
def ctS (c : Ct) : Bool × S_value_count := (c.ok, ⟨c.n, c.dp, c.why⟩)
def PartOk (x : V) : Prop := ∀ n dp w d, -4611686018427387904 ≤ n → n ≤ 16384 → -4611686018427387904 ≤ d → d ≤ 65 → p_value_count_part ⟨n, dp, w⟩ x d = some (ctS (partF x n dp d))
theorem cp_l (l : List V) (d : Int) (hl : ∀ y, y ∈ l → PartOk y) (hd : -4611686018427387904 ≤ d) (hd' : d ≤ 64) : ∀ k i n dp, k + i = l.length → -4611686018427387904 ≤ n → n ≤ 16384 → value_count_part_l1 p_value_count_part (.list l) d i n dp 0 = some (ctS (partsF (l.drop i) n dp (d + 1)))
  | 0, i, n, dp, h, hn, hm => by
    rw [value_count_part_l1_eq]
    simp only [value_count_part_l1b, V.asList, lt_f (by omega : ¬ i < l.length), cond_false, value_count_part_j1]
    rw [List.drop_of_length_le (by omega), partsF_nil]; rfl
  | k + 1, i, n, dp, h, hn, hm => by
    obtain ⟨x, hx, hdr⟩ := dropc (by omega : i < l.length)
    have hp := hl x (List.mem_of_getElem? hx) n dp 0 (d + 1) hn hm (by omega) (by omega)
    have hw : IntKind.i64.wrap (d + 1) = d + 1 := w64_in (by omega) (by omega)
    rw [value_count_part_l1_eq]
    simp only [value_count_part_l1b, V.asList, lt_t (by omega : i < l.length), cond_true, hx, Option.bind_some, hw, hp, ctS]
    rw [hdr, partsF_cons]
    have hf := part_facts x (d + 1) n dp
    cases hk : (partF x n dp (d + 1)).ok with
    | false => simp only [Bool.not_false, cond_true, Bool.false_eq_true, if_false, hk]
    | true =>
      have h1 := hf.ok hk
      have h2 := hf.lo
      simp only [Bool.not_true, cond_false, if_true]
      rw [h1.2, cp_l l d hl hd hd' k (i + 1) _ _ (by omega) (by omega) h1.1]; rfl
theorem ca_l (l : List (Str × V)) (d : Int) (hl : ∀ y, y ∈ l.map (·.2) → PartOk y) (hd : -4611686018427387904 ≤ d) (hd' : d ≤ 64) : ∀ k i n dp, k + i = l.length → -4611686018427387904 ≤ n → n ≤ 16384 → value_count_all_l1 p_value_count_part l d i n dp 0 = some (ctS (partsF ((l.map (·.2)).drop i) n dp (d + 1)))
  | 0, i, n, dp, h, hn, hm => by
    rw [value_count_all_l1_eq]
    simp only [value_count_all_l1b, lt_f (by omega : ¬ i < l.length), cond_false]
    rw [List.drop_of_length_le (by simp; omega), partsF_nil]; rfl
  | k + 1, i, n, dp, h, hn, hm => by
    obtain ⟨x, hx, _⟩ := dropc (by omega : i < l.length)
    have hx2 : (l.map (·.2))[i]? = some x.2 := by rw [List.getElem?_map, hx]; rfl
    obtain ⟨x', hx', hdr⟩ := dropc (by rw [List.length_map]; omega : i < (l.map (·.2)).length)
    rw [hx2] at hx'; injection hx' with hx'; subst hx'
    have hp := hl x.2 (List.mem_of_getElem? hx2) n dp 0 (d + 1) hn hm (by omega) (by omega)
    have hw : IntKind.i64.wrap (d + 1) = d + 1 := w64_in (by omega) (by omega)
    rw [value_count_all_l1_eq]
    simp only [value_count_all_l1b, lt_t (by omega : i < l.length), cond_true, hx, Option.bind_some, hw, hp, ctS]
    rw [hdr, partsF_cons]
    have hf := part_facts x.2 (d + 1) n dp
    cases hk : (partF x.2 n dp (d + 1)).ok with
    | false => simp only [Bool.not_false, cond_true, Bool.false_eq_true, if_false, hk]
    | true =>
      have h1 := hf.ok hk
      have h2 := hf.lo
      simp only [Bool.not_true, cond_false, if_true]
      rw [h1.2, ca_l l d hl hd hd' k (i + 1) _ _ (by omega) (by omega) h1.1]; rfl
theorem value_count_all_eq (l : List (Str × V)) (d n dp : Int) (hl : ∀ y, y ∈ l.map (·.2) → PartOk y) (hd : -4611686018427387904 ≤ d) (hd' : d ≤ 64) (hn : -4611686018427387904 ≤ n) (hm : n ≤ 16384) : p_value_count_all ⟨n, dp, 0⟩ l d = some (ctS (partsF (l.map (·.2)) n dp (d + 1))) := by
  rw [e_value_count_all, b_value_count_all]
  exact ca_l l d hl hd hd' l.length 0 n dp (by omega) hn hm
theorem value_count_part_eq (x : V) : PartOk x := by
  induction x using V.byParts with
  | _ x ih =>
  intro n dp w d hn hm hd hd'
  rw [e_value_count_part, b_value_count_part, partF_eq]
  simp only [value_own_eq, Option.bind_some]
  by_cases h : ownE x n d = 0
  · have h0 := own_zero h
    have hw : IntKind.i64.wrap (n + 1) = n + 1 := w64_in (by omega) (by omega)
    have hmx : (if d > dp then d else dp) = max dp d := by omega
    rw [if_pos h, h, hw, hmx]
    have e0 : ((0 : Int) != 0) = false := rfl
    rw [e0, cond_false]
    cases x with
    | list l => exact cp_l l d ih hd (by omega) l.length 0 (n + 1) (max dp d) (by omega) (by omega) (by omega)
    | dict l =>
      show Option.bind (p_value_count_all ⟨n + 1, max dp d, 0⟩ l d) (fun x => some (x.1, x.2)) = _
      rw [value_count_all_eq l d _ _ ih hd (by omega) (by omega) (by omega)]; rfl
    | record c v l =>
      show Option.bind (p_value_count_all ⟨n + 1, max dp d, 0⟩ l d) (fun x => some (x.1, x.2)) = _
      rw [value_count_all_eq l d _ _ ih hd (by omega) (by omega) (by omega)]; rfl
    | nothing => have := h0.2.2; simp [nearE] at this
    | _ => simp only [V.parts, partsF_nil]; rfl
  · rw [if_neg h]
    have e0 : (ownE x n d != 0) = true := by simpa using h
    rw [e0]; rfl
def checkF (x : V) : Int × Int := if (partF x 0 0 1).ok then (0, 0) else ((partF x 0 0 1).n, (partF x 0 0 1).why)
def sizeF (x : V) : Int × Int × Int := if (partF x 0 0 1).ok then ((partF x 0 0 1).n, (partF x 0 0 1).dp, 0) else (0, 0, (partF x 0 0 1).why)
theorem value_check_eq (x : V) : p_value_check x = some (checkF x) := by
  simp only [p_value_check, value_count_part_eq x 0 0 0 1 (by omega) (by omega) (by omega) (by omega), Option.bind_some, ctS, checkF]
  cases (partF x 0 0 1).ok <;> rfl
theorem value_Check_eq (x : V) : p_value_Check x = some (checkF x) := by simp only [p_value_Check, value_check_eq, Option.bind_some]
/-! ### the document's -/
def partsT (t : Term) : List Term := if t.kind = 8 then t.list else if t.kind = 9 ∨ t.kind = 10 then t.fields.map (·.2) else []
theorem partsT_bu (t : Term) : (partsT t).map bu = (bu t).parts := by
  have hb := bu_c t
  unfold partsT
  generalize bu t = x at hb
  cases hb with
  | list hk => rw [if_pos hk]; rfl
  | dict hk => rw [if_neg (by omega), if_pos (Or.inl hk)]; simp only [V.parts, bu_snds]
  | record hk => rw [if_neg (by omega), if_pos (Or.inr hk)]; simp only [V.parts, bu_snds]
  | _ hk => rw [if_neg (by omega), if_neg (by omega)]; rfl
theorem partsT_lt {t u : Term} (h : u ∈ partsT t) : SizeOf.sizeOf u < SizeOf.sizeOf t := by
  cases t with
  | mk k b i f s y r l d c v =>
  unfold partsT at h
  split at h
  · have := List.sizeOf_lt_of_mem h; simp [Term.list] at this ⊢; omega
  · split at h
    · obtain ⟨⟨s, z⟩, hz, rfl⟩ := List.mem_map.1 h
      have := List.sizeOf_lt_of_mem hz; simp [Term.fields] at this ⊢; omega
    · cases h
theorem Term.byParts {P : Term → Prop} (h : ∀ t, (∀ u, u ∈ partsT t → P u) → P t) (t : Term) : P t :=
  h t (fun u hu => Term.byParts h u)
termination_by SizeOf.sizeOf t
decreasing_by exact partsT_lt hu
end Go.Proofs.Ythfdpaboekoncaa

namespace Go.Proofs.Ythfdpaboekoncaa
open Go Aw
set_option linter.unusedVariables false
set_option linter.unusedSimpArgs false
set_option maxRecDepth 8000
/-- The document's: the first one a letter, the others any. -/
theorem rn_body (c : UInt8) (g : Int → Option Bool) (i : Nat) (s : Str) (hi : i < s.length) (hb : s.length ≤ 32) (hc : s[i]? = some c) :
    ref01_Name_l1b s g (i : Int) = bif (if i = 0 then loOk c else chOk c) then g ((i + 1 : Nat) : Int) else some false := by
  have h97 : (97 : UInt8).toNat = 97 := rfl
  have h122 : (122 : UInt8).toNat = 122 := rfl
  have h48 : (48 : UInt8).toNat = 48 := rfl
  have h57 : (57 : UInt8).toNat = 57 := rfl
  have h95 : (95 : UInt8).toNat = 95 := rfl
  have hw : IntKind.i64.wrap ((i : Int) + 1) = ((i + 1 : Nat) : Int) := by rw [w64_in (by omega) (by omega)]; omega
  simp only [ref01_Name_l1b, lt_t hi, idxI_nat, hc, cond_true, Option.bind_some, ref01_Name_j2, ref01_Name_j3, h97, h122, h48, h57, h95, hw]
  by_cases h0 : i = 0
  · subst h0
    simp only [Bool.cond_eq_ite, decide_eq_true_eq, bne_iff_ne, ne_eq, Bool.false_eq_true, if_false, if_true, loOk_iff, Bool.not_eq_true', Bool.not_false, decide_eq_false_iff_not]
    repeat (split <;> (try (first | rfl | (exfalso; omega))))
    all_goals (first | rfl | (exfalso; simp_all; omega) | (simp_all; done))
  · have e0 : ((i : Int) == 0) = false := by simp; omega
    rw [if_neg h0]
    simp only [e0, Bool.cond_eq_ite, decide_eq_true_eq, bne_iff_ne, ne_eq, Bool.false_eq_true, if_false, if_true, chOk_iff, Bool.not_eq_true', Bool.not_false, decide_eq_false_iff_not]
    repeat (split <;> (try (first | rfl | (exfalso; omega))))
    all_goals (first | rfl | (exfalso; simp_all; omega) | (simp_all; done))
theorem rn_l (s : Str) (hb : s.length ≤ 32) : ∀ k i, k + i = s.length → 0 < i → ref01_Name_l1 s (i : Int) = some ((s.drop i).all chOk)
  | 0, i, h, h0 => by
    rw [ref01_Name_l1_eq]
    simp only [ref01_Name_l1b, lt_f (by omega : ¬ i < s.length), cond_false]
    rw [List.drop_of_length_le (by omega)]; rfl
  | k + 1, i, h, h0 => by
    obtain ⟨c, hc, hd⟩ := dropc (by omega : i < s.length)
    rw [ref01_Name_l1_eq, rn_body c _ i s (by omega) hb hc, if_neg (by omega), rn_l s hb k (i + 1) (by omega) (by omega), hd, List.all_cons]
    cases chOk c <;> rfl
theorem lo_ch {c : UInt8} (h : loOk c = true) : chOk c = true := chOk_iff.2 (.inl (loOk_iff.1 h))
theorem ref01_Name_eq (s : Str) : p_ref01_Name s = some (nameOk s) := by
  simp only [p_ref01_Name, ref01_Name_j1]
  by_cases h1 : s.length < 1
  · have : s = [] := List.eq_nil_of_length_eq_zero (by omega)
    subst this; rfl
  · have e1 : decide ((s.length : Int) < 1) = false := decide_eq_false (by omega)
    rw [e1]
    by_cases h32 : s.length ≤ 32
    · have e2 : decide ((s.length : Int) > 32) = false := decide_eq_false (by omega)
      rw [e2]
      simp only [cond_false]
      cases s with
      | nil => simp at h1
      | cons c r =>
        have hb := rn_body c (ref01_Name_l1 (c :: r)) 0 (c :: r) (by simp) h32 rfl
        have hl := rn_l (c :: r) h32 r.length 1 (by simp) (by omega)
        have e : ref01_Name_l1 (c :: r) 0 = ref01_Name_l1b (c :: r) (ref01_Name_l1 (c :: r)) ((0 : Nat) : Int) := ref01_Name_l1_eq (c :: r) 0
        rw [e, hb, if_pos rfl]
        simp only [hl, nameOk, List.headD_cons, Nat.ble_eq_true_of_le h32, Nat.ble_eq_true_of_le (by simp : 1 ≤ (c :: r).length), Bool.true_and, List.all_cons]
        cases hlo : loOk c with
        | true => rw [lo_ch hlo]; rfl
        | false => rfl
    · have e2 : decide ((s.length : Int) > 32) = true := decide_eq_true (by omega)
      have e3 : Nat.ble s.length 32 = false := by
        cases hb : Nat.ble s.length 32 with
        | false => rfl
        | true => exact absurd (Nat.le_of_ble_eq_true hb) h32
      rw [e2]
      simp only [cond_true, cond_false, nameOk, e3, Bool.and_false, Bool.false_and]
end Go.Proofs.Ythfdpaboekoncaa

namespace Go.Proofs.Ythfdpaboekoncaa
open Go Aw
set_option linter.unusedVariables false
set_option linter.unusedSimpArgs false
set_option maxRecDepth 8000
theorem rf_l (t : Term) (hb : t.fields.length ≤ 4096) : ∀ k i, k + i = t.fields.length → ref01_own_l1 t i = some (r08 (risen (prevOf (t.fields.map (·.1)) i) ((t.fields.map (·.1)).drop i)))
  | 0, i, h => by
    rw [ref01_own_l1_eq]
    simp only [ref01_own_l1b, lt_f (by omega : ¬ i < t.fields.length), cond_false]
    rw [List.drop_of_length_le (by simp; omega), risen_nil]; rfl
  | k + 1, i, h => by
    obtain ⟨x, hx, _⟩ := dropc (by omega : i < t.fields.length)
    have hr := fields_round t.fields i (by omega) hb _ (rf_l t hb k (i + 1) (by omega)) x hx
    rw [ref01_own_l1_eq]
    simp only [ref01_own_l1b, lt_t (by omega : i < t.fields.length), cond_true, hx, Option.bind_some, ref01_Name_eq, ref01_own_j8, cond_false]
    exact hr
theorem rf_eq (t : Term) : (bif decide ((t.fields.length : Int) > 4096) then some 2 else ref01_own_l1 t 0) = some (fieldsE (t.fields.map (·.1))) := by
  simp only [fieldsE, List.length_map]
  by_cases h : 4096 < t.fields.length
  · rw [decide_eq_true (by omega : (t.fields.length : Int) > 4096), if_pos h]; rfl
  · rw [decide_eq_false (by omega : ¬ (t.fields.length : Int) > 4096), if_neg h, cond_false, rf_l t (by omega) t.fields.length 0 (by omega)]; rfl
theorem ref01_own_eq (t : Term) (n d : Int) : p_ref01_own t n d = some (ownE (bu t) n d) := by
  have hfar : ∀ k : Int, t.kind = k → 1 ≤ k → k ≤ 10 → (16384 ≤ n ∨ 64 < d) → p_ref01_own t n d = some 2 := by
    intro k hk h1 h2 h3
    have e1 : (t.kind == 11) = false := by rw [hk]; simp; omega
    have e2 : decide (t.kind < 1) = false := decide_eq_false (by omega)
    have e3 : decide (t.kind > 10) = false := decide_eq_false (by omega)
    simp only [p_ref01_own, e1, e2, e3, cond_false, ref01_own_j1]
    by_cases h4 : n ≥ 16384
    · rw [decide_eq_true h4]; rfl
    · rw [decide_eq_false h4, cond_false, decide_eq_true (by omega : d > 64)]; rfl
  have hnear : ∀ k : Int, t.kind = k → 1 ≤ k → k ≤ 10 → ¬ (16384 ≤ n ∨ 64 < d) → p_ref01_own t n d = ref01_own_j2 t false := by
    intro k hk h1 h2 h3
    have e1 : (t.kind == 11) = false := by rw [hk]; simp; omega
    have e2 : decide (t.kind < 1) = false := decide_eq_false (by omega)
    have e3 : decide (t.kind > 10) = false := decide_eq_false (by omega)
    simp only [p_ref01_own, e1, e2, e3, cond_false, ref01_own_j1]
    rw [decide_eq_false (by omega : ¬ n ≥ 16384), cond_false, decide_eq_false (by omega : ¬ d > 64)]
  have hb := bu_c t
  simp only [ownE]
  generalize bu t = x at hb
  cases hb with
  | nothing hk => have e1 : (t.kind == 11) = true := by rw [hk]; rfl
                  simp only [p_ref01_own, e1, cond_true, farE, nearE, ite_self]
  | alien hk =>
    have e1 : (t.kind == 11) = false := by simp; omega
    simp only [p_ref01_own, e1, cond_false, farE, nearE, ite_self, ref01_own_j1]
    rcases hk with hk | hk
    · rw [decide_eq_true hk]; rfl
    · rw [decide_eq_false (by omega : ¬ t.kind < 1), cond_false, decide_eq_true (by omega : t.kind > 10)]; rfl
  | nil hk | bool hk | int hk | float hk | ref hk =>
    by_cases h : 16384 ≤ n ∨ 64 < d
    · rw [if_pos h, hfar _ hk (by decide) (by decide) h]; rfl
    · rw [if_neg h, hnear _ hk (by decide) (by decide) h]
      simp only [ref01_own_j2, ref01_own_j3, ref01_own_j4, ref01_own_j5, ref01_own_j6, ref01_own_j7, hk]; rfl
  | text hk =>
    by_cases h : 16384 ≤ n ∨ 64 < d
    · rw [if_pos h, hfar _ hk (by decide) (by decide) h]; rfl
    · rw [if_neg h, hnear _ hk (by decide) (by decide) h]
      have e : ref01_own_j2 t false = bif decide ((t.text.length : Int) > 65536) then ref01_own_j5 t true else ref01_own_j5 t false := by
        simp only [ref01_own_j2, ref01_own_j3, ref01_own_j4, hk]; rfl
      rw [e]
      refine big_r t.text.length 65536 (fun b => bif b then ref01_own_j5 t true else ref01_own_j5 t false) rfl ?_
      show ref01_own_j5 t false = some 0
      simp only [ref01_own_j5, ref01_own_j6, ref01_own_j7, hk]; rfl
  | bytes hk =>
    by_cases h : 16384 ≤ n ∨ 64 < d
    · rw [if_pos h, hfar _ hk (by decide) (by decide) h]; rfl
    · rw [if_neg h, hnear _ hk (by decide) (by decide) h]
      have e : ref01_own_j2 t false = ref01_own_j5 t (decide ((t.bytes.length : Int) > 65536)) := by
        simp only [ref01_own_j2, ref01_own_j3, ref01_own_j4, hk]; rfl
      rw [e]
      refine big_r t.bytes.length 65536 (fun b => ref01_own_j5 t b) rfl ?_
      simp only [ref01_own_j5, ref01_own_j6, ref01_own_j7, hk]; rfl
  | list hk =>
    by_cases h : 16384 ≤ n ∨ 64 < d
    · rw [if_pos h, hfar _ hk (by decide) (by decide) h]; rfl
    · rw [if_neg h, hnear _ hk (by decide) (by decide) h]
      have e : ref01_own_j2 t false = ref01_own_j6 t (decide ((t.list.length : Int) > 4096)) := by
        simp only [ref01_own_j2, ref01_own_j3, ref01_own_j4, ref01_own_j5, hk]; rfl
      rw [e]
      simp only [nearE, List.length_map]
      refine big_r t.list.length 4096 (fun b => ref01_own_j6 t b) rfl ?_
      simp only [ref01_own_j6, ref01_own_j7, hk]; rfl
  | dict hk =>
    by_cases h : 16384 ≤ n ∨ 64 < d
    · rw [if_pos h, hfar _ hk (by decide) (by decide) h]; rfl
    · rw [if_neg h, hnear _ hk (by decide) (by decide) h]
      have e : ref01_own_j2 t false = ref01_own_j7 t false := by
        simp only [ref01_own_j2, ref01_own_j3, ref01_own_j4, ref01_own_j5, ref01_own_j6, hk]; rfl
      rw [e, nearE, bu_names, ← rf_eq]; rfl
  | record hk =>
    by_cases h : 16384 ≤ n ∨ 64 < d
    · rw [if_pos h, hfar _ hk (by decide) (by decide) h]; rfl
    · rw [if_neg h, hnear _ hk (by decide) (by decide) h]
      have e7 : ref01_own_j4 t false = some (fieldsE (t.fields.map (·.1))) := by
        rw [← rf_eq]
        simp only [ref01_own_j4, ref01_own_j5, ref01_own_j6, hk]; rfl
      have e1 : (t.kind == 10) = true := by rw [hk]; rfl
      simp only [ref01_own_j2, ref01_own_j3, e1, cond_true, cond_false, ref01_Name_eq, Option.bind_some, nearE, bu_names]
      cases hn : nameOk t.cls with
      | false => rfl
      | true =>
        simp only [Bool.not_true, cond_false]
        by_cases h1 : t.ver < 1
        · rw [decide_eq_true h1, cond_true, if_neg (by simp), if_pos (Or.inl h1)]; rfl
        · rw [decide_eq_false h1, cond_false, if_neg (by simp)]
          by_cases h2 : t.ver > 1000
          · rw [decide_eq_true h2, if_pos (Or.inr h2)]; rfl
          · rw [decide_eq_false h2, if_neg (by omega), e7]
theorem rp_l (t : Term) (hb : t.fields.length ≤ 268435456) : ∀ k i acc, k + i = t.fields.length → acc.length = i → ref01_Parts_l1 t acc i = some (acc ++ (t.fields.map (·.2)).drop i)
  | 0, i, acc, h, ha => by
    rw [ref01_Parts_l1_eq]
    simp only [ref01_Parts_l1b, lt_f (by omega : ¬ i < t.fields.length), cond_false, ref01_Parts_j1]
    rw [List.drop_of_length_le (by simp; omega), List.append_nil]
  | k + 1, i, acc, h, ha => by
    obtain ⟨x, hx, _⟩ := dropc (by omega : i < t.fields.length)
    have hx2 : (t.fields.map (·.2))[i]? = some x.2 := by rw [List.getElem?_map, hx]; rfl
    obtain ⟨x', hx', hdr⟩ := dropc (by rw [List.length_map]; omega : i < (t.fields.map (·.2)).length)
    rw [hx2] at hx'; injection hx' with hx'; subst hx'
    have hap : appO 152 acc [x.2] = some (acc ++ [x.2]) := by
      unfold appO; rw [Nat.ble_eq_true_of_le (by simp; omega)]; rfl
    rw [ref01_Parts_l1_eq]
    simp only [ref01_Parts_l1b, lt_t (by omega : i < t.fields.length), cond_true, hx, Option.bind_some, hap]
    rw [rp_l t hb k (i + 1) (acc ++ [x.2]) (by omega) (by simp [ha]), hdr]; simp
theorem ref01_Parts_eq (t : Term) (hb : t.fields.length ≤ 268435456) : p_ref01_Parts t = some (partsT t) := by
  unfold partsT p_ref01_Parts
  by_cases h8 : t.kind = 8
  · rw [if_pos h8, h8]; rfl
  · have e8 : (t.kind == 8) = false := by simpa using h8
    rw [if_neg h8, e8, cond_false]
    have hl : ref01_Parts_j2 t true = some (t.fields.map (·.2)) := rp_l t hb t.fields.length 0 [] (by omega) rfl
    by_cases h9 : t.kind = 9
    · rw [if_pos (Or.inl h9), h9]; exact hl
    · have e9 : (t.kind == 9) = false := by simpa using h9
      rw [e9, cond_false]
      by_cases h10 : t.kind = 10
      · rw [if_pos (Or.inr h10), h10]; exact hl
      · have e10 : (t.kind == 10) = false := by simpa using h10
        rw [if_neg (by omega), e10]; rfl
def seS (c : Ct) (a : Int) : S_ref01_seen := if c.ok then ⟨c.n, c.dp, a, 0⟩ else ⟨c.n, c.dp, c.n, c.why⟩
def SeenOk (t : Term) : Prop := ∀ n dp a d, -4611686018427387904 ≤ n → n ≤ 16384 → -4611686018427387904 ≤ d → d ≤ 65 → p_ref01_seen_part ⟨n, dp, a, 0⟩ t d = some (seS (partF (bu t) n dp d) a)
theorem sp_l (l : List Term) (a d : Int) (hl : ∀ y, y ∈ l → SeenOk y) (hd : -4611686018427387904 ≤ d) (hd' : d ≤ 64) : ∀ k i n dp, k + i = l.length → -4611686018427387904 ≤ n → n ≤ 16384 → ref01_seen_part_l1 p_ref01_seen_part d l i n dp a 0 = some (seS (partsF ((l.map bu).drop i) n dp (d + 1)) a)
  | 0, i, n, dp, h, hn, hm => by
    rw [ref01_seen_part_l1_eq]
    simp only [ref01_seen_part_l1b, lt_f (by omega : ¬ i < l.length), cond_false]
    rw [List.drop_of_length_le (by simp; omega), partsF_nil]; rfl
  | k + 1, i, n, dp, h, hn, hm => by
    obtain ⟨x, hx, _⟩ := dropc (by omega : i < l.length)
    have hx2 : (l.map bu)[i]? = some (bu x) := by rw [List.getElem?_map, hx]; rfl
    obtain ⟨x', hx', hdr⟩ := dropc (by rw [List.length_map]; omega : i < (l.map bu).length)
    rw [hx2] at hx'; injection hx' with hx'; subst hx'
    have hp := hl x (List.mem_of_getElem? hx) n dp a (d + 1) hn hm (by omega) (by omega)
    have hw : IntKind.i64.wrap (d + 1) = d + 1 := w64_in (by omega) (by omega)
    rw [ref01_seen_part_l1_eq]
    simp only [ref01_seen_part_l1b, lt_t (by omega : i < l.length), cond_true, hx, Option.bind_some, hw, hp]
    rw [hdr, partsF_cons]
    have hf := part_facts (bu x) (d + 1) n dp
    cases hk : (partF (bu x) n dp (d + 1)).ok with
    | false =>
      have h1 := hf.bad hk
      have e : ((seS (partF (bu x) n dp (d + 1)) a).f_why != 0) = true := by simp only [seS, hk]; simpa using h1
      rw [e, cond_true, if_neg (by simp)]
    | true =>
      have h1 := hf.ok hk
      have h2 := hf.lo
      have e : seS (partF (bu x) n dp (d + 1)) a = ⟨(partF (bu x) n dp (d + 1)).n, (partF (bu x) n dp (d + 1)).dp, a, 0⟩ := by simp only [seS, hk]; rfl
      rw [e, if_pos rfl]
      show ref01_seen_part_l1 p_ref01_seen_part d l (i + 1) _ _ a 0 = _
      rw [sp_l l a d hl hd hd' k (i + 1) _ _ (by omega) (by omega) h1.1]
theorem seen_eq (t : Term) : bkT t ≤ 268435456 → SeenOk t := by
  induction t using Term.byParts with
  | _ t ih =>
  intro hb n dp a d hn hm hd hd'
  have hfl : t.fields.length ≤ 268435456 := by
    cases t with
    | mk k b i f s y r l dd c v =>
      have hsum : ∀ l : List (Str × Term), l.length ≤ bkEs l := by
        intro l; induction l with
        | nil => simp
        | cons x r ih => obtain ⟨s, x⟩ := x; rw [bkEs, List.length_cons]; omega
      have := hsum dd
      rw [bkT] at hb; show dd.length ≤ _; omega
  have hbp : ∀ u, u ∈ partsT t → bkT u ≤ 268435456 := by
    intro u hu
    cases t with
    | mk k b i f s y r l dd c v =>
      have h1 : ∀ {l : List Term} {u : Term}, u ∈ l → bkT u ≤ bkTs l := by
        intro l u h; induction l with
        | nil => cases h
        | cons x r ih => rw [bkTs]; rcases List.mem_cons.1 h with rfl | h; (· omega); (· have := ih h; omega)
      have h2 : ∀ {l : List (Str × Term)} {u : Term}, u ∈ l.map (·.2) → bkT u ≤ bkEs l := by
        intro l u h; induction l with
        | nil => cases h
        | cons x r ih => obtain ⟨s, x⟩ := x; rw [bkEs]; rcases List.mem_cons.1 h with rfl | h; (· show bkT u ≤ _; omega); (· have := ih h; omega)
      rw [bkT] at hb
      unfold partsT at hu
      split at hu
      · have := h1 hu; simp only [Term.list] at this; omega
      · split at hu
        · have := h2 hu; simp only [Term.fields] at this; omega
        · cases hu
  rw [e_ref01_seen_part, b_ref01_seen_part, partF_eq]
  simp only [ref01_own_eq, Option.bind_some]
  by_cases h : ownE (bu t) n d = 0
  · have h0 := own_zero h
    have hw : IntKind.i64.wrap (n + 1) = n + 1 := w64_in (by omega) (by omega)
    have e0 : ((0 : Int) != 0) = false := rfl
    rw [if_pos h, h, e0, cond_false]
    have hj : ∀ m, ref01_seen_part_j1 p_ref01_seen_part ⟨n, dp, a, 0⟩ t d m = some (seS (partsF ((partsT t).map bu) (n + 1) m (d + 1)) a) := by
      intro m
      simp only [ref01_seen_part_j1, ref01_Parts_eq t hfl, Option.bind_some, hw]
      exact sp_l (partsT t) a d (fun y hy => ih y hy (hbp y hy)) hd (by omega) (partsT t).length 0 (n + 1) m (by omega) (by omega) (by omega)
    rw [hj, hj, partsT_bu]
    by_cases hdd : d > dp
    · rw [decide_eq_true hdd, cond_true, show max dp d = d by omega]
    · rw [decide_eq_false hdd, cond_false, show max dp d = dp by omega]
  · rw [if_neg h]
    have e0 : (ownE (bu t) n d != 0) = true := by simpa using h
    rw [e0]; rfl
theorem ref01_Check_eq (t : Term) (hb : bkT t ≤ 268435456) : p_ref01_Check t = some (checkF (bu t)) := by
  simp only [p_ref01_Check, seen_eq t hb 0 0 0 1 (by omega) (by omega) (by omega) (by omega), Option.bind_some, checkF, seS]
  cases (partF (bu t) 0 0 1).ok <;> rfl
end Go.Proofs.Ythfdpaboekoncaa

namespace Go.Proofs.Ythfdpaboekoncaa
open Go Aw
set_option linter.unusedVariables false
set_option linter.unusedSimpArgs false
set_option maxRecDepth 8000
theorem app1 {α : Type} {b : Nat} {acc : List α} {x : α} (hb : b ≤ 1024) (h : acc.length ≤ 1073741824) : appO b acc [x] = some (acc ++ [x]) := by
  have h1 : (acc.length + 1) * b ≤ (1073741824 + 1) * 1024 := Nat.mul_le_mul (by omega) hb
  unfold appO
  rw [Nat.ble_eq_true_of_le (by simp only [List.length_cons, List.length_nil, Nat.zero_add]; omega)]; rfl
theorem app0 {α : Type} {b : Nat} {l : List α} (hb : b ≤ 1024) (h : l.length ≤ 1073741824) : appO b [] l = some l := by
  have h1 : l.length * b ≤ 1073741824 * 1024 := Nat.mul_le_mul h hb
  unfold appO
  rw [Nat.ble_eq_true_of_le (by simp only [List.length_nil, Nat.zero_add]; omega)]; rfl
theorem bkTs_mem : ∀ {l : List Term} {u : Term}, u ∈ l → bkT u ≤ bkTs l
  | x :: r, u, h => by
    rw [bkTs]; rcases List.mem_cons.1 h with rfl | h
    · omega
    · have := bkTs_mem h; omega
theorem bkEs_mem : ∀ {l : List (Str × Term)} {u : Str × Term}, u ∈ l → bkT u.2 ≤ bkEs l
  | (s, x) :: r, u, h => by
    rw [bkEs]; rcases List.mem_cons.1 h with rfl | h
    · show bkT x ≤ _; omega
    · have := bkEs_mem h; omega
theorem bkTs_len : ∀ (l : List Term), l.length ≤ bkTs l
  | [] => by simp
  | .mk k b i f s y r l dd c v :: q => by rw [bkTs, List.length_cons, bkT]; have := bkTs_len q; omega
theorem bkEs_len : ∀ (l : List (Str × Term)), l.length ≤ bkEs l
  | [] => by simp
  | (s, x) :: q => by rw [bkEs, List.length_cons]; have := bkEs_len q; omega
theorem bkT_mk (t : Term) : bkT t = t.text.length + t.bytes.length + t.cls.length + bkTs t.list + bkEs t.fields + 12 := by cases t; rw [bkT]; rfl
theorem bk_list {t u : Term} (h : u ∈ t.list) : bkT u < bkT t := by have := bkTs_mem h; have := bkT_mk t; omega
theorem bk_fields {t : Term} {u : Str × Term} (h : u ∈ t.fields) : bkT u.2 < bkT t := by have := bkEs_mem h; have := bkT_mk t; omega
theorem len_list (t : Term) : t.list.length ≤ bkT t := by have := bkTs_len t.list; have := bkT_mk t; omega
theorem len_fields (t : Term) : t.fields.length ≤ bkT t := by have := bkEs_len t.fields; have := bkT_mk t; omega
theorem len_bytes (t : Term) : t.bytes.length ≤ bkT t := by have := bkT_mk t; omega
theorem take_snoc {α β : Type} {l : List α} {f : α → β} {i : Nat} {x : α} (h : l[i]? = some x) : (l.take i).map f ++ [f x] = (l.take (i + 1)).map f := by
  obtain ⟨hi, rfl⟩ := List.getElem?_eq_some_iff.1 h
  rw [List.take_add_one, List.getElem?_eq_getElem hi, List.map_append]; rfl
end Go.Proofs.Ythfdpaboekoncaa

namespace Go.Proofs.Ythfdpaboekoncaa
open Go Aw
set_option linter.unusedVariables false
set_option linter.unusedSimpArgs false
set_option maxRecDepth 8000
theorem bl_l (t : Term) (hl : ∀ u, u ∈ t.list → p_mk_Built u = some (bu u)) (hb : t.list.length ≤ 1073741824) : ∀ k i, k + i = t.list.length → mk_Built_l1 p_mk_Built t ((t.list.take i).map bu) i = some (.list (t.list.map bu))
  | 0, i, h => by
    rw [mk_Built_l1_eq]
    simp only [mk_Built_l1b, lt_f (by omega : ¬ i < t.list.length), cond_false]
    rw [List.take_of_length_le (by omega)]
  | k + 1, i, h => by
    obtain ⟨x, hx, _⟩ := dropc (by omega : i < t.list.length)
    rw [mk_Built_l1_eq]
    simp only [mk_Built_l1b, lt_t (by omega : i < t.list.length), cond_true, hx, Option.bind_some, hl x (List.mem_of_getElem? hx), app1 (b := 16) (by omega) (show ((t.list.take i).map bu).length ≤ 1073741824 by simp; omega), take_snoc hx]
    exact bl_l t hl hb k (i + 1) (by omega)
theorem bd_l (l : List (Str × Term)) (hl : ∀ u, u ∈ l → p_mk_Built u.2 = some (bu u.2)) (hb : l.length ≤ 1073741824) : ∀ k i, k + i = l.length → mk_Dict_l1 p_mk_Built l ((l.take i).map buE) i = some (l.map buE)
  | 0, i, h => by
    rw [mk_Dict_l1_eq]
    simp only [mk_Dict_l1b, lt_f (by omega : ¬ i < l.length), cond_false]
    rw [List.take_of_length_le (by omega)]
  | k + 1, i, h => by
    obtain ⟨x, hx, _⟩ := dropc (by omega : i < l.length)
    rw [mk_Dict_l1_eq]
    simp only [mk_Dict_l1b, lt_t (by omega : i < l.length), cond_true, hx, Option.bind_some, hl x (List.mem_of_getElem? hx), app1 (b := 32) (x := (x.1, bu x.2)) (by omega) (show ((l.take i).map buE).length ≤ 1073741824 by simp; omega)]
    have : ((l.take i).map buE) ++ [(x.1, bu x.2)] = (l.take (i + 1)).map buE := take_snoc (f := buE) hx
    rw [this]
    exact bd_l l hl hb k (i + 1) (by omega)
theorem mk_Built_eqN : ∀ (n : Nat) (t : Term), bkT t ≤ n → n ≤ 268435456 → p_mk_Built t = some (bu t) := by
  intro n
  induction n with
  | zero => intro t h _; have := bkT_mk t; omega
  | succ n ih =>
    intro t h hn
    have hl : ∀ u, u ∈ t.list → p_mk_Built u = some (bu u) := fun u hu => ih u (by have := bk_list hu; omega) (by omega)
    have hf : ∀ u, u ∈ t.fields → p_mk_Built u.2 = some (bu u.2) := fun u hu => ih u.2 (by have := bk_fields hu; omega) (by omega)
    have hd : p_mk_Dict t.fields = some (t.fields.map buE) := by
      rw [e_mk_Dict, b_mk_Dict]
      exact bd_l t.fields hf (by have := len_fields t; omega) t.fields.length 0 (by omega)
    have hll : mk_Built_l1 p_mk_Built t [] 0 = some (.list (t.list.map bu)) := bl_l t hl (by have := len_list t; omega) t.list.length 0 (by omega)
    have hb := bu_c t
    rw [e_mk_Built, b_mk_Built]
    generalize bu t = x at hb
    cases hb with
    | bytes hk => simp only [hk, app0 (by omega : 1 ≤ 1024) (show t.bytes.length ≤ 1073741824 by have := len_bytes t; omega)]; rfl
    | list hk => simp only [hk, hll]; rfl
    | dict hk => simp only [hk, hd]; rfl
    | record hk => simp only [hk, hd]; rfl
    | alien hk =>
      have e : ∀ k : Int, 1 ≤ k → k ≤ 11 → (t.kind == k) = false := fun k h1 h2 => by simp; omega
      simp only [e 1 (by omega) (by omega), e 2 (by omega) (by omega), e 3 (by omega) (by omega), e 4 (by omega) (by omega), e 5 (by omega) (by omega), e 6 (by omega) (by omega), e 7 (by omega) (by omega), e 8 (by omega) (by omega),
        e 9 (by omega) (by omega), e 10 (by omega) (by omega), e 11 (by omega) (by omega), cond_false, alien_eq, Option.bind_some]
    | _ hk => simp only [hk]; rfl
theorem mk_Built_eq (t : Term) (h : bkT t ≤ 268435456) : p_mk_Built t = some (bu t) := mk_Built_eqN _ t h (Nat.le_refl _)
end Go.Proofs.Ythfdpaboekoncaa

namespace Go.Proofs.Ythfdpaboekoncaa
open Go Aw
set_option linter.unusedVariables false
set_option linter.unusedSimpArgs false
set_option maxRecDepth 8000
def Fine (x : V) : Prop := ∃ n dp d, (partF x n dp d).ok = true
theorem partsF_ok {d : Int} : ∀ {l : List V} {n dp : Int}, (partsF l n dp d).ok = true → ∀ y, y ∈ l → ∃ n dp, (partF y n dp d).ok = true
  | x :: r, n, dp, h, y, hy => by
    rw [partsF_cons] at h
    cases hk : (partF x n dp d).ok with
    | false => rw [if_neg (by simp [hk])] at h; rw [hk] at h; cases h
    | true =>
      rw [if_pos hk] at h
      rcases List.mem_cons.1 hy with rfl | hy
      · exact ⟨n, dp, hk⟩
      · exact partsF_ok h y hy
theorem Fine.own {x : V} (h : Fine x) : nearE x = 0 ∧ ∀ y, y ∈ x.parts → Fine y := by
  obtain ⟨n, dp, d, h⟩ := h
  rw [partF_eq] at h
  split at h
  · rename_i ho
    exact ⟨(own_zero ho).2.2, fun y hy => let ⟨n', dp', h'⟩ := partsF_ok h y hy; ⟨n', dp', _, h'⟩⟩
  · cases h
theorem check_fine {x : V} (h : (checkF x).2 = 0) : Fine x ∧ checkF x = (0, 0) := by
  unfold checkF at h ⊢
  cases hk : (partF x 0 0 1).ok with
  | true => exact ⟨⟨0, 0, 1, hk⟩, rfl⟩
  | false =>
    rw [if_neg (by simp [hk])] at h
    exact absurd h ((part_facts x 1 0 0).bad hk)
theorem ne_t {a : Int} (h : a ≠ 0) : (a != 0) = true := by simpa using h
theorem fieldsE_len {l : List Str} (h : fieldsE l = 0) : l.length ≤ 4096 := by
  unfold fieldsE at h
  split at h
  · cases h
  · omega
theorem near_list {l : List V} (h : nearE (.list l) = 0) : l.length ≤ 4096 := by
  simp only [nearE] at h
  split at h
  · cases h
  · omega
theorem near_rec {c : Str} {v : Int} {l : List (Str × V)} (h : nearE (.record c v l) = 0) : (1 ≤ v ∧ v ≤ 1000) ∧ l.length ≤ 4096 := by
  simp only [nearE] at h
  split at h
  · cases h
  · split at h
    · cases h
    · have := fieldsE_len h; rw [List.length_map] at this; omega
theorem near_dict {l : List (Str × V)} (h : nearE (.dict l) = 0) : l.length ≤ 4096 := by
  have := fieldsE_len h; rwa [List.length_map] at this
end Go.Proofs.Ythfdpaboekoncaa

namespace Go.Proofs.Ythfdpaboekoncaa
open Go Aw
set_option linter.unusedVariables false
set_option linter.unusedSimpArgs false
set_option maxRecDepth 8000
mutual
def cnt : V → Int
  | .list l => 1 + cntL l
  | .dict l => 1 + cntD l
  | .record _ _ l => 1 + cntD l
  | _ => 1
def cntL : List V → Int
  | [] => 0
  | x :: r => cnt x + cntL r
def cntD : List (Str × V) → Int
  | [] => 0
  | (_, x) :: r => cnt x + cntD r
end
mutual
def dpt : V → Int
  | .list l => 1 + dptL l
  | .dict l => 1 + dptD l
  | .record _ _ l => 1 + dptD l
  | _ => 1
def dptL : List V → Int
  | [] => 0
  | x :: r => max (dpt x) (dptL r)
def dptD : List (Str × V) → Int
  | [] => 0
  | (_, x) :: r => max (dpt x) (dptD r)
end
theorem cntD_map : ∀ l, cntD l = cntL (l.map (·.2))
  | [] => by simp only [cntD, cntL, List.map_nil]
  | (s, x) :: r => by simp only [cntD, cntL, List.map_cons, cntD_map r]
theorem dptD_map : ∀ l, dptD l = dptL (l.map (·.2))
  | [] => by simp only [dptD, dptL, List.map_nil]
  | (s, x) :: r => by simp only [dptD, dptL, List.map_cons, dptD_map r]
theorem cnt_eq (x : V) : cnt x = 1 + cntL x.parts := by cases x <;> simp only [cnt, V.parts, cntD_map, cntL] <;> rfl
theorem dpt_eq (x : V) : dpt x = 1 + dptL x.parts := by cases x <;> simp only [dpt, V.parts, dptD_map, dptL] <;> rfl
/-- Nothing is wrong with it, but for how many and how deep. -/
inductive Near : V → Prop
  | mk {x : V} : nearE x = 0 → (∀ y, y ∈ x.parts → Near y) → Near x
theorem Near.own {x : V} (h : Near x) : nearE x = 0 := by cases h; assumption
theorem Near.part {x : V} (h : Near x) : ∀ y, y ∈ x.parts → Near y := by cases h; assumption
theorem cnt_pos (x : V) : 1 ≤ cnt x ∧ 1 ≤ dpt x := by
  induction x using V.byParts with
  | _ x ih =>
    rw [cnt_eq, dpt_eq]
    have : ∀ l : List V, (∀ y, y ∈ l → 1 ≤ cnt y ∧ 1 ≤ dpt y) → 0 ≤ cntL l ∧ 0 ≤ dptL l := by
      intro l
      induction l with
      | nil => intro _; simp [cntL, dptL]
      | cons y r ihr =>
        intro h
        have h1 := h y (by simp)
        have h2 := ihr (fun z hz => h z (by simp [hz]))
        simp only [cntL, dptL]; omega
    have := this x.parts ih
    omega
theorem own_iff {x : V} {n d : Int} : ownE x n d = 0 ↔ n < 16384 ∧ d ≤ 64 ∧ nearE x = 0 := by
  constructor
  · exact own_zero
  · rintro ⟨h1, h2, h3⟩
    unfold ownE; rw [if_neg (by omega)]; exact h3
theorem near_far {x : V} (h : nearE x = 0) : farE x = 2 := by cases x <;> first | rfl | (simp [nearE] at h)
/-- How a count goes, whatever was counted ahead. -/
structure Goes (x : V) : Prop where
  yes : ∀ n dp d, Near x → d - 1 ≤ dp → n + cnt x ≤ 16384 → d + dpt x - 1 ≤ 64 → partF x n dp d = ⟨true, n + cnt x, max dp (d + dpt x - 1), 0⟩
  ok : ∀ n dp d, (partF x n dp d).ok = true → Near x ∧ n + cnt x ≤ 16384 ∧ d + dpt x - 1 ≤ 64 ∧ (partF x n dp d).n = n + cnt x
  long : ∀ n dp d, Near x → (partF x n dp d).ok = false → (partF x n dp d).why = 2
theorem goes_l {l : List V} (h : ∀ y, y ∈ l → Goes y) :
    (∀ n dp d, (∀ y, y ∈ l → Near y) → d - 1 ≤ dp → n + cntL l ≤ 16384 → d + dptL l - 1 ≤ 64 → partsF l n dp d = ⟨true, n + cntL l, max dp (d + dptL l - 1), 0⟩) ∧
    (∀ n dp d, n ≤ 16384 → d ≤ 65 → (partsF l n dp d).ok = true → (∀ y, y ∈ l → Near y) ∧ n + cntL l ≤ 16384 ∧ d + dptL l - 1 ≤ 64 ∧ (partsF l n dp d).n = n + cntL l) ∧
    (∀ n dp d, (∀ y, y ∈ l → Near y) → (partsF l n dp d).ok = false → (partsF l n dp d).why = 2) := by
  induction l with
  | nil =>
    refine ⟨fun n dp d _ hd _ _ => ?_, fun n dp d hn hd _ => ?_, fun n dp d _ hk => ?_⟩
    · rw [partsF_nil, cntL, dptL]; congr 1 <;> omega
    · rw [partsF_nil, cntL, dptL]; exact ⟨by simp, by omega, by omega, by simp⟩
    · rw [partsF_nil] at hk; cases hk
  | cons x r ih =>
    have hx := h x (by simp)
    obtain ⟨i1, i2, i3⟩ := ih (fun y hy => h y (by simp [hy]))
    have hp := cnt_pos x
    have hr : 0 ≤ cntL r ∧ 0 ≤ dptL r := by
      clear i1 i2 i3 ih h hx
      induction r with
      | nil => simp [cntL, dptL]
      | cons y q ihq => have := cnt_pos y; simp only [cntL, dptL]; omega
    refine ⟨fun n dp d hnr hd hn hdd => ?_, fun n dp d hn hd hk => ?_, fun n dp d hnr hk => ?_⟩
    · rw [cntL] at hn ⊢
      rw [dptL] at hdd ⊢
      have e := hx.yes n dp d (hnr x (by simp)) hd (by omega) (by omega)
      rw [partsF_cons, e, if_pos rfl]
      rw [i1 _ _ d (fun y hy => hnr y (by simp [hy])) (by simp only; omega) (by simp only; omega) (by omega)]
      congr 1
      · simp only; omega
      · simp only; omega
    · rw [partsF_cons] at hk ⊢
      cases hk1 : (partF x n dp d).ok with
      | false => rw [if_neg (by simp [hk1])] at hk; rw [hk1] at hk; cases hk
      | true =>
        rw [if_pos hk1] at hk
        rw [if_pos rfl]
        obtain ⟨a1, a2, a3, a4⟩ := hx.ok n dp d hk1
        rw [a4] at hk ⊢
        obtain ⟨b1, b2, b3, b4⟩ := i2 _ _ d (by omega) hd hk
        rw [cntL, dptL]
        refine ⟨fun y hy => ?_, by omega, by omega, by omega⟩
        rcases List.mem_cons.1 hy with rfl | hy
        · exact a1
        · exact b1 y hy
    · rw [partsF_cons] at hk ⊢
      cases hk1 : (partF x n dp d).ok with
      | false => rw [if_neg (by simp [hk1])]; exact hx.long n dp d (hnr x (by simp)) hk1
      | true =>
        rw [if_pos hk1] at hk
        rw [if_pos rfl]
        exact i3 _ _ d (fun y hy => hnr y (by simp [hy])) hk
theorem goes (x : V) : Goes x := by
  induction x using V.byParts with
  | _ x ih =>
    obtain ⟨i1, i2, i3⟩ := goes_l ih
    have hp := cnt_pos x
    refine ⟨fun n dp d hnr hd hn hdd => ?_, fun n dp d hk => ?_, fun n dp d hnr hk => ?_⟩
    · rw [partF_eq, if_pos (own_iff.2 ⟨by omega, by omega, hnr.own⟩)]
      rw [cnt_eq] at hn ⊢
      rw [dpt_eq] at hdd ⊢
      have hd0 := hp.2
      rw [dpt_eq] at hd0
      rw [i1 _ _ (d + 1) hnr.part (by omega) (by omega) (by omega)]
      congr 1 <;> omega
    · rw [partF_eq] at hk ⊢
      by_cases ho : ownE x n d = 0
      · rw [if_pos ho] at hk ⊢
        have h0 := own_zero ho
        obtain ⟨b1, b2, b3, b4⟩ := i2 _ _ (d + 1) (by omega) (by omega) hk
        rw [cnt_eq, dpt_eq]
        exact ⟨.mk h0.2.2 b1, by omega, by omega, by omega⟩
      · rw [if_neg ho] at hk; cases hk
    · rw [partF_eq] at hk ⊢
      by_cases ho : ownE x n d = 0
      · rw [if_pos ho] at hk ⊢; exact i3 _ _ _ hnr.part hk
      · rw [if_neg ho]
        have : ownE x n d = farE x := by
          unfold ownE at ho ⊢
          split
          · rfl
          · rename_i hc; rw [if_neg hc] at ho; exact absurd hnr.own ho
        show ownE x n d = 2
        rw [this]; exact near_far hnr.own
/-- Near, and neither too many nor too deep. -/
def Can (x : V) : Prop := Near x ∧ cnt x ≤ 16384 ∧ dpt x ≤ 64
theorem can_ok {x : V} : (partF x 0 0 1).ok = true ↔ Can x := by
  constructor
  · intro h
    obtain ⟨a, b, c, _⟩ := (goes x).ok 0 0 1 h
    exact ⟨a, by omega, by omega⟩
  · rintro ⟨a, b, c⟩
    rw [(goes x).yes 0 0 1 a (by omega) (by omega) (by omega)]
theorem size_can {x : V} (h : Can x) : sizeF x = (cnt x, dpt x, 0) := by
  have hp := cnt_pos x
  unfold sizeF
  rw [if_pos (can_ok.2 h), (goes x).yes 0 0 1 h.1 (by omega) (by have := h.2.1; omega) (by have := h.2.2; omega)]
  simp only [Prod.mk.injEq, and_true]
  omega
theorem check_can {x : V} (h : Can x) : checkF x = (0, 0) := by unfold checkF; rw [if_pos (can_ok.2 h)]
theorem check_cannot {x : V} (h : ¬ Can x) : (checkF x).2 ≠ 0 := by
  unfold checkF
  have hk : (partF x 0 0 1).ok = false := by
    cases hk : (partF x 0 0 1).ok with
    | false => rfl
    | true => exact absurd (can_ok.1 hk) h
  rw [if_neg (by simp [hk])]
  exact (part_facts x 1 0 0).bad hk
theorem size_cannot {x : V} (h : ¬ Can x) : sizeF x = (0, 0, (checkF x).2) ∧ (checkF x).2 ≠ 0 := by
  refine ⟨?_, check_cannot h⟩
  have hk : (partF x 0 0 1).ok = false := by
    cases hk : (partF x 0 0 1).ok with
    | false => rfl
    | true => exact absurd (can_ok.1 hk) h
  unfold sizeF checkF
  rw [if_neg (by simp [hk]), if_neg (by simp [hk])]
theorem size_long {x : V} (hn : Near x) (h : ¬ Can x) : (checkF x).2 = 2 := by
  have hk : (partF x 0 0 1).ok = false := by
    cases hk : (partF x 0 0 1).ok with
    | false => rfl
    | true => exact absurd (can_ok.1 hk) h
  unfold checkF
  rw [if_neg (by simp [hk])]
  exact (goes x).long 0 0 1 hn hk
theorem can_fine {x : V} (h : Can x) : Fine x := ⟨0, 0, 1, can_ok.2 h⟩
theorem eq_t {a : Int} (h : a ≠ 0) : (a == 0) = false := by simpa using h
end Go.Proofs.Ythfdpaboekoncaa

namespace Go.Proofs.Ythfdpaboekoncaa
open Go Aw
set_option linter.unusedVariables false
set_option linter.unusedSimpArgs false
set_option maxRecDepth 8000
mutual
def cl : V → Term
  | .nil => .mk 1 false 0 0 [] [] 0 [] [] [] 0
  | .bool b => .mk 2 b 0 0 [] [] 0 [] [] [] 0
  | .int i => .mk 3 false i 0 [] [] 0 [] [] [] 0
  | .float f => .mk 4 false 0 f [] [] 0 [] [] [] 0
  | .text s => .mk 5 false 0 0 s [] 0 [] [] [] 0
  | .bytes s => .mk 6 false 0 0 [] s 0 [] [] [] 0
  | .ref r => .mk 7 false 0 0 [] [] r [] [] [] 0
  | .list l => .mk 8 false 0 0 [] [] 0 (clL l) [] [] 0
  | .dict l => .mk 9 false 0 0 [] [] 0 [] (clD l) [] 0
  | .record c v l => .mk 10 false 0 0 [] [] 0 [] (clD l) c v
  | .nothing => .mk 11 false 0 0 [] [] 0 [] [] [] 0
  | .alien _ => .mk 0 false 0 0 [] [] 0 [] [] [] 0
def clL : List V → List Term
  | [] => []
  | x :: r => cl x :: clL r
def clD : List (Str × V) → List (Str × Term)
  | [] => []
  | (s, x) :: r => (s, cl x) :: clD r
end
def clE (p : Str × V) : Str × Term := (p.1, cl p.2)
theorem clL_map : ∀ l, clL l = l.map cl
  | [] => by rw [clL]; rfl
  | x :: r => by rw [clL, clL_map r]; rfl
theorem clD_map : ∀ l, clD l = l.map clE
  | [] => by rw [clD]; rfl
  | (s, x) :: r => by rw [clD, clD_map r]; rfl
theorem near_bytes {b : Str} (h : nearE (.bytes b) = 0) : b.length ≤ 65536 := by
  simp only [nearE] at h; split at h <;> omega
/-! ### the document's term of a value -/
theorem mp_l (l : List V) (d : Int) (hl : ∀ u, u ∈ l → p_mk_plain u (IntKind.i64.wrap (d + 1)) = some (cl u)) (hb : l.length ≤ 1073741824) : ∀ k i, k + i = l.length → mk_plain_l1 p_mk_plain (.list l) d i ((l.take i).map cl) = some (.mk 8 false 0 0 [] [] 0 (l.map cl) [] [] 0)
  | 0, i, h => by
    rw [mk_plain_l1_eq]
    simp only [mk_plain_l1b, V.asList, lt_f (by omega : ¬ i < l.length), cond_false]
    rw [List.take_of_length_le (by omega)]
  | k + 1, i, h => by
    obtain ⟨x, hx, _⟩ := dropc (by omega : i < l.length)
    rw [mk_plain_l1_eq]
    simp only [mk_plain_l1b, V.asList, lt_t (by omega : i < l.length), cond_true, hx, Option.bind_some, hl x (List.mem_of_getElem? hx), app1 (b := 152) (by omega) (show ((l.take i).map cl).length ≤ 1073741824 by simp; omega), take_snoc hx]
    exact mp_l l d hl hb k (i + 1) (by omega)
theorem me_l (l : List (Str × V)) (d : Int) (hl : ∀ u, u ∈ l → p_mk_plain u.2 (IntKind.i64.wrap (d + 1)) = some (cl u.2)) (hb : l.length ≤ 1073741824) : ∀ k i, k + i = l.length → mk_entries_l1 p_mk_plain l d ((l.take i).map clE) i = some (l.map clE)
  | 0, i, h => by
    rw [mk_entries_l1_eq]
    simp only [mk_entries_l1b, lt_f (by omega : ¬ i < l.length), cond_false]
    rw [List.take_of_length_le (by omega)]
  | k + 1, i, h => by
    obtain ⟨x, hx, _⟩ := dropc (by omega : i < l.length)
    rw [mk_entries_l1_eq]
    simp only [mk_entries_l1b, lt_t (by omega : i < l.length), cond_true, hx, Option.bind_some, hl x (List.mem_of_getElem? hx), app1 (b := 168) (x := (x.1, cl x.2)) (by omega) (show ((l.take i).map clE).length ≤ 1073741824 by simp; omega)]
    have : ((l.take i).map clE) ++ [(x.1, cl x.2)] = (l.take (i + 1)).map clE := take_snoc (f := clE) hx
    rw [this]
    exact me_l l d hl hb k (i + 1) (by omega)
theorem mk_plain_eq (x : V) : ∀ n dp d, (partF x n dp d).ok = true → 1 ≤ d → p_mk_plain x (d - 1) = some (cl x) := by
  induction x using V.byParts with
  | _ x ih =>
  intro n dp d hk h1
  have hx : Fine x := ⟨n, dp, d, hk⟩
  have hn := hx.own.1
  rw [partF_eq] at hk
  by_cases ho : ownE x n d = 0
  · rw [if_pos ho] at hk
    have h64 := (own_zero ho).2.1
    have hw : IntKind.i64.wrap (d - 1 + 1) = (d + 1) - 1 := by rw [w64_in (by omega) (by omega)]; omega
    have hp : ∀ u, u ∈ x.parts → p_mk_plain u (IntKind.i64.wrap (d - 1 + 1)) = some (cl u) := fun u hu => by
      obtain ⟨n', dp', h'⟩ := partsF_ok hk u hu
      rw [hw]; exact ih u hu n' dp' (d + 1) h' (by omega)
    rw [e_mk_plain, b_mk_plain, decide_eq_false (by omega : ¬ d - 1 > 400), cond_false]
    cases x with
    | nothing => simp [nearE] at hn
    | alien t => simp [nearE] at hn
    | bytes b => rw [cl]; simp only [V.isNil, V.isBool, V.isInt, V.isFloat, V.isText, V.isBytes, V.asBytes, cond_true, cond_false, Option.bind_some, app0 (by omega : 1 ≤ 1024) (show b.length ≤ 1073741824 by have := near_bytes hn; omega)]
    | list l =>
      have hb := near_list hn
      rw [cl, clL_map]
      exact mp_l l (d - 1) hp (by omega) l.length 0 (by omega)
    | dict l =>
      have hb := near_dict hn
      have : p_mk_entries l (d - 1) = some (l.map clE) := by
        rw [e_mk_entries, b_mk_entries]
        exact me_l l (d - 1) (fun u hu => hp _ (List.mem_map_of_mem hu)) (by omega) l.length 0 (by omega)
      rw [cl, clD_map]
      simp only [V.isNil, V.isBool, V.isInt, V.isFloat, V.isText, V.isBytes, V.isRef, V.isList, V.isDict, V.asDict, cond_true, cond_false, Option.bind_some, this]
    | record c v l =>
      have hb := (near_rec hn).2
      have : p_mk_entries l (d - 1) = some (l.map clE) := by
        rw [e_mk_entries, b_mk_entries]
        exact me_l l (d - 1) (fun u hu => hp _ (List.mem_map_of_mem hu)) (by omega) l.length 0 (by omega)
      rw [cl, clD_map]
      simp only [V.isNil, V.isBool, V.isInt, V.isFloat, V.isText, V.isBytes, V.isRef, V.isList, V.isDict, V.isRec, V.asRec, Option.isNone, cond_true, cond_false, Option.bind_some, this]
    | _ => rw [cl]; rfl
  · rw [if_neg ho] at hk; cases hk
/-! ### there and back -/
end Go.Proofs.Ythfdpaboekoncaa

namespace Go.Proofs.Ythfdpaboekoncaa
open Go Aw
set_option linter.unusedVariables false
set_option linter.unusedSimpArgs false
set_option maxRecDepth 8000
theorem bu_cl (x : V) : Fine x → bu (cl x) = x := by
  induction x using V.byParts with
  | _ x ih =>
  intro hx
  have hp := hx.own.2
  have hn := hx.own.1
  have hm : ∀ l : List V, (∀ u, u ∈ l → bu (cl u) = u) → (l.map cl).map bu = l := fun l h => by
    rw [List.map_map]
    conv => rhs; rw [← List.map_id l]
    exact List.map_congr_left fun u hu => h u hu
  have hd : ∀ l : List (Str × V), (∀ u, u ∈ l → bu (cl u.2) = u.2) → (l.map clE).map buE = l := fun l h => by
    rw [List.map_map]
    conv => rhs; rw [← List.map_id l]
    exact List.map_congr_left fun u hu => by obtain ⟨s, x⟩ := u; exact congrArg (Prod.mk s) (h _ hu)
  cases x with
  | nothing => simp [nearE] at hn
  | alien t => simp [nearE] at hn
  | list l => rw [cl, clL_map, bu, buTs_map, hm l (fun u hu => ih u hu (hp u hu))]; rfl
  | dict l => rw [cl, clD_map, bu, buEs_map, hd l (fun u hu => ih u.2 (List.mem_map_of_mem hu) (hp _ (List.mem_map_of_mem hu)))]; rfl
  | record c v l => rw [cl, clD_map, bu, buEs_map, hd l (fun u hu => ih u.2 (List.mem_map_of_mem hu) (hp _ (List.mem_map_of_mem hu)))]; rfl
  | _ => rw [cl, bu]; rfl
theorem bu_kindW {t : Term} (h : nearE (bu t) = 0) : kindOf (bu t) = t.kind ∧ 1 ≤ t.kind ∧ t.kind ≤ 10 := by
  have hb := bu_c t
  generalize bu t = x at hb h
  cases hb with
  | nothing hk => simp [nearE] at h
  | alien hk => simp [nearE] at h
  | _ hk => rw [hk]; exact ⟨rfl, by decide, by decide⟩
def SameOk (s t : Term) : Prop := ∃ r, p_mk_Same s t = some r ∧ (r = true ↔ bu s = bu t)
theorem drop_cons {α β : Type} {l : List α} {f : α → β} {i : Nat} {x : α} (h : l[i]? = some x) : (l.map f).drop i = f x :: (l.map f).drop (i + 1) := by
  obtain ⟨hi, rfl⟩ := List.getElem?_eq_some_iff.1 h
  rw [List.drop_eq_getElem_cons (by rw [List.length_map]; exact hi), List.getElem_map]
theorem sl_l {a b : List Term} (h : ∀ x, x ∈ a → ∀ y, y ∈ b → SameOk x y) (hl : a.length = b.length) : ∀ k i, k + i = a.length → ∃ r, mk_Lists_l1 p_mk_Same a b i = some r ∧ (r = true ↔ (a.map bu).drop i = (b.map bu).drop i)
  | 0, i, hk => by
    rw [mk_Lists_l1_eq]
    simp only [mk_Lists_l1b, lt_f (by omega : ¬ i < a.length), cond_false]
    exact ⟨true, rfl, by rw [List.drop_of_length_le (by simp; omega), List.drop_of_length_le (by simp; omega)]; simp⟩
  | k + 1, i, hk => by
    obtain ⟨x, hx, _⟩ := dropc (by omega : i < a.length)
    obtain ⟨y, hy, _⟩ := dropc (by omega : i < b.length)
    obtain ⟨r, h1, h2⟩ := h x (List.mem_of_getElem? hx) y (List.mem_of_getElem? hy)
    rw [mk_Lists_l1_eq]
    simp only [mk_Lists_l1b, lt_t (by omega : i < a.length), cond_true, hx, hy, Option.bind_some, h1]
    rw [drop_cons hx, drop_cons hy]
    cases r with
    | false =>
      refine ⟨false, rfl, ?_⟩
      have : ¬ bu x = bu y := fun h => by simp [h] at h2
      simp [this]
    | true =>
      obtain ⟨r, h3, h4⟩ := sl_l h hl k (i + 1) (by omega)
      refine ⟨r, h3, ?_⟩
      rw [h4, List.cons.injEq]
      simp [h2.1 rfl]
theorem se_l {a b : List (Str × Term)} (h : ∀ x, x ∈ a → ∀ y, y ∈ b → SameOk x.2 y.2) (hl : a.length = b.length) : ∀ k i, k + i = a.length → ∃ r, mk_Entries_l1 p_mk_Same a b i = some r ∧ (r = true ↔ (a.map buE).drop i = (b.map buE).drop i)
  | 0, i, hk => by
    rw [mk_Entries_l1_eq]
    simp only [mk_Entries_l1b, lt_f (by omega : ¬ i < a.length), cond_false]
    exact ⟨true, rfl, by rw [List.drop_of_length_le (by simp; omega), List.drop_of_length_le (by simp; omega)]; simp⟩
  | k + 1, i, hk => by
    obtain ⟨x, hx, _⟩ := dropc (by omega : i < a.length)
    obtain ⟨y, hy, _⟩ := dropc (by omega : i < b.length)
    obtain ⟨r, h1, h2⟩ := h x (List.mem_of_getElem? hx) y (List.mem_of_getElem? hy)
    rw [mk_Entries_l1_eq]
    simp only [mk_Entries_l1b, lt_t (by omega : i < a.length), cond_true, hx, hy, Option.bind_some, h1]
    rw [drop_cons hx, drop_cons hy]
    obtain ⟨s, x⟩ := x
    obtain ⟨q, y⟩ := y
    dsimp only at h1 h2
    have hE : buE (s, x) = buE (q, y) ↔ s = q ∧ bu x = bu y := by simp [buE]
    by_cases hs : s = q
    · subst hs
      simp only [beq_self_eq_true, Bool.not_true, cond_false]
      cases r with
      | false =>
        refine ⟨false, rfl, ?_⟩
        have : ¬ bu x = bu y := fun h => by simp [h] at h2
        simp [hE, this]
      | true =>
        obtain ⟨r, h3, h4⟩ := se_l h hl k (i + 1) (by omega)
        refine ⟨r, h3, ?_⟩
        rw [h4, List.cons.injEq, hE]
        simp [h2.1 rfl]
    · rw [show (!(s == q)) = true by simp [hs], cond_true]
      refine ⟨false, rfl, ?_⟩
      simp [hE, hs]
theorem same_iff (s : Term) : ∀ t, Fine (bu s) → SameOk s t := by
  induction s using Term.byParts with
  | _ s ih =>
  intro t hx
  have hp := hx.own.2
  have hn := hx.own.1
  rw [← partsT_bu] at hp
  have hk := bu_kindW hn
  unfold SameOk
  by_cases he : s.kind = t.kind
  · have hs : ∀ u, u ∈ partsT s → ∀ t, SameOk u t := fun u hu t => ih u hu t (hp _ (List.mem_map_of_mem hu))
    rw [e_mk_Same, b_mk_Same, show (s.kind != t.kind) = false by simp [he], cond_false]
    have hL : s.kind = 8 → ∃ r, p_mk_Lists s.list t.list = some r ∧ (r = true ↔ s.list.map bu = t.list.map bu) := fun h8 => by
      rw [e_mk_Lists, b_mk_Lists]
      by_cases hl : s.list.length = t.list.length
      · rw [show (((s.list.length : Nat) : Int) != ((t.list.length : Nat) : Int)) = false by simp [hl], cond_false]
        exact sl_l (fun x hx y _ => hs x (by unfold partsT; rw [if_pos h8]; exact hx) y) hl s.list.length 0 (by omega)
      · rw [show (((s.list.length : Nat) : Int) != ((t.list.length : Nat) : Int)) = true by simp; omega, cond_true]
        refine ⟨false, rfl, ?_⟩
        have : ¬ s.list.map bu = t.list.map bu := fun h => hl (by have := congrArg List.length h; simpa using this)
        simp [this]
    have hE : s.kind = 9 ∨ s.kind = 10 → ∃ r, p_mk_Entries s.fields t.fields = some r ∧ (r = true ↔ s.fields.map buE = t.fields.map buE) := fun h9 => by
      rw [e_mk_Entries, b_mk_Entries]
      by_cases hl : s.fields.length = t.fields.length
      · rw [show (((s.fields.length : Nat) : Int) != ((t.fields.length : Nat) : Int)) = false by simp [hl], cond_false]
        exact se_l (fun x hx y _ => hs _ (by unfold partsT; rw [if_neg (by omega), if_pos h9]; exact List.mem_map_of_mem hx) _) hl s.fields.length 0 (by omega)
      · rw [show (((s.fields.length : Nat) : Int) != ((t.fields.length : Nat) : Int)) = true by simp; omega, cond_true]
        refine ⟨false, rfl, ?_⟩
        have : ¬ s.fields.map buE = t.fields.map buE := fun h => hl (by have := congrArg List.length h; simpa using this)
        simp [this]
    have hb := bu_c s
    have hc := bu_c t
    generalize bu s = x at hb hn
    generalize bu t = y at hc
    cases hb with
    | nothing h => simp [nearE] at hn
    | alien h => simp [nearE] at hn
    | nil h => cases hc <;> first | (exfalso; omega) | skip
               simp only [mk_Same_j1, h]; exact ⟨_, rfl, by simp⟩
    | bool h => cases hc <;> first | (exfalso; omega) | skip
                simp only [mk_Same_j1, h]; exact ⟨_, rfl, by simp⟩
    | int h => cases hc <;> first | (exfalso; omega) | skip
               simp only [mk_Same_j1, h]; exact ⟨_, rfl, by simp⟩
    | float h => cases hc <;> first | (exfalso; omega) | skip
                 simp only [mk_Same_j1, h]; exact ⟨_, rfl, by simp; omega⟩
    | text h => cases hc <;> first | (exfalso; omega) | skip
                simp only [mk_Same_j1, h]; exact ⟨_, rfl, by simp⟩
    | bytes h => cases hc <;> first | (exfalso; omega) | skip
                 simp only [mk_Same_j1, h]; exact ⟨_, rfl, by simp⟩
    | ref h => cases hc <;> first | (exfalso; omega) | skip
               simp only [mk_Same_j1, h]; exact ⟨_, rfl, by simp⟩
    | list h =>
      cases hc <;> first | (exfalso; omega) | skip
      obtain ⟨r, h1, h2⟩ := hL h
      simp only [mk_Same_j1, h, h1, Option.bind_some]; exact ⟨r, rfl, by rw [h2, V.list.injEq]⟩
    | dict h =>
      cases hc <;> first | (exfalso; omega) | skip
      obtain ⟨r, h1, h2⟩ := hE (.inl h)
      simp only [mk_Same_j1, h, h1, Option.bind_some]; exact ⟨r, rfl, by rw [h2, V.dict.injEq]⟩
    | record h =>
      cases hc <;> first | (exfalso; omega) | skip
      obtain ⟨r, h1, h2⟩ := hE (.inr h)
      simp only [mk_Same_j1, h, h1, Option.bind_some]
      by_cases h3 : s.cls = t.cls
      · by_cases h4 : s.ver = t.ver
        · exact ⟨r, by rw [show (s.cls == t.cls) = true by simp [h3], show (s.ver == t.ver) = true by simp [h4]]; rfl, by rw [h2, V.record.injEq]; simp [h3, h4]⟩
        · exact ⟨false, by rw [show (s.cls == t.cls) = true by simp [h3], show (s.ver == t.ver) = false by simp [h4]]; rfl, by rw [V.record.injEq]; simp [h4]⟩
      · exact ⟨false, by rw [show (s.cls == t.cls) = false by simp [h3]]; rfl, by rw [V.record.injEq]; simp [h3]⟩
  · refine ⟨false, by rw [e_mk_Same, b_mk_Same, show (s.kind != t.kind) = true by simp [he]]; rfl, ?_⟩
    have : ¬ bu s = bu t := fun h => by
      have h2 := bu_kindW (t := t) (by rw [← h]; exact hn)
      rw [← h] at h2; omega
    simp [this]
theorem is_built {t : Term} {x : V} (h : bu t = x) (hc : Can x) : p_mk_Is x t = some true := by
  have hf := can_fine hc
  have h0 := mk_plain_eq x 0 0 1 (can_ok.2 hc) (by omega)
  have e : (1 : Int) - 1 = 0 := rfl
  rw [e] at h0
  have hb := bu_cl x hf
  obtain ⟨r, h1, h2⟩ := same_iff (cl x) t (by rw [hb]; exact hf)
  simp only [p_mk_Is, p_mk_Plain, h0, Option.bind_some, h1, h2.2 (by rw [hb, h])]
theorem Fine.near {x : V} : Fine x → Near x := by
  induction x using V.byParts with
  | _ x ih => exact fun h => .mk h.own.1 fun y hy => ih y hy (h.own.2 y hy)
theorem can_check {x : V} (h : (checkF x).2 = 0) : Can x := by
  rcases Classical.em (Can x) with hc | hc
  · exact hc
  · exact absurd h (check_cannot hc)
end Go.Proofs.Ythfdpaboekoncaa

namespace Go.Proofs.Ythfdpaboekoncaa
open Go Aw
set_option linter.unusedVariables false
set_option linter.unusedSimpArgs false
set_option maxRecDepth 8000
theorem rm_ok {n b : Nat} (hb : b ≤ 1024) (hn : n ≤ 1073741824) : roomO n b = some () := by
  have h1 : n * b ≤ 1073741824 * 1024 := Nat.mul_le_mul hn hb
  unfold roomO
  rw [Nat.ble_eq_true_of_le (by omega), Nat.ble_eq_true_of_le (by omega)]; rfl
theorem tk_snoc {α : Type} {l : List α} {i : Nat} {x : α} (h : l[i]? = some x) : l.take i ++ [x] = l.take (i + 1) := by
  rw [List.take_add_one, h]; rfl
theorem cq_l (l : List V) (hl : ∀ u, u ∈ l → p_value_copied u = some u) (hb : l.length ≤ 1073741824) : ∀ k i, k + i = l.length → value_copied_l1 p_value_copied (.list l) (l.take i) i = some (.list l)
  | 0, i, h => by
    rw [value_copied_l1_eq]
    simp only [value_copied_l1b, V.asList, lt_f (by omega : ¬ i < l.length), cond_false]
    rw [List.take_of_length_le (by omega)]
  | k + 1, i, h => by
    obtain ⟨x, hx, _⟩ := dropc (by omega : i < l.length)
    rw [value_copied_l1_eq]
    simp only [value_copied_l1b, V.asList, lt_t (by omega : i < l.length), cond_true, hx, Option.bind_some, hl x (List.mem_of_getElem? hx), app1 (b := 16) (by omega) (show (l.take i).length ≤ 1073741824 by simp; omega), tk_snoc hx]
    exact cq_l l hl hb k (i + 1) (by omega)
theorem cq_d (l : List (Str × V)) (hl : ∀ u, u ∈ l → p_value_copied u.2 = some u.2) (hb : l.length ≤ 1073741824) : ∀ k i, k + i = l.length → value_copiedDict_l1 p_value_copied l (l.take i) i = some l
  | 0, i, h => by
    rw [value_copiedDict_l1_eq]
    simp only [value_copiedDict_l1b, lt_f (by omega : ¬ i < l.length), cond_false]
    rw [List.take_of_length_le (by omega)]
  | k + 1, i, h => by
    obtain ⟨x, hx, _⟩ := dropc (by omega : i < l.length)
    rw [value_copiedDict_l1_eq]
    simp only [value_copiedDict_l1b, lt_t (by omega : i < l.length), cond_true, hx, Option.bind_some, hl x (List.mem_of_getElem? hx), app1 (b := 32) (x := (x.1, x.2)) (by omega) (show (l.take i).length ≤ 1073741824 by simp; omega)]
    rw [show l.take i ++ [(x.1, x.2)] = l.take (i + 1) from tk_snoc hx]
    exact cq_d l hl hb k (i + 1) (by omega)
theorem copied_eq (x : V) : Fine x → p_value_copied x = some x := by
  induction x using V.byParts with
  | _ x ih =>
  intro hx
  have hn := hx.own.1
  have hp : ∀ u, u ∈ x.parts → p_value_copied u = some u := fun u hu => ih u hu (hx.own.2 u hu)
  have hD : ∀ l : List (Str × V), l.length ≤ 4096 → (∀ u, u ∈ l → u.2 ∈ x.parts) → p_value_copiedDict l = some l := fun l hl h => by
    rw [e_value_copiedDict, b_value_copiedDict, rm_ok (by omega) (by omega), Option.bind_some]
    exact cq_d l (fun u hu => hp _ (h u hu)) (by omega) l.length 0 (by omega)
  rw [e_value_copied, b_value_copied]
  cases x with
  | bytes b =>
    have hb := near_bytes hn
    simp only [V.isBytes, V.asBytes, cond_true, app0 (by omega : 1 ≤ 1024) (show b.length ≤ 1073741824 by omega), Option.bind_some]
  | list l =>
    have hb := near_list hn
    simp only [V.isBytes, V.isList, V.asList, cond_true, cond_false, rm_ok (by omega : 16 ≤ 1024) (show l.length ≤ 1073741824 by omega), Option.bind_some]
    exact cq_l l hp (by omega) l.length 0 (by omega)
  | dict l =>
    have hb := near_dict hn
    simp only [V.isBytes, V.isList, V.isDict, V.asDict, cond_true, cond_false, hD l hb (fun u hu => List.mem_map_of_mem hu), Option.bind_some]
  | record c v l =>
    have hb := (near_rec hn).2
    simp only [V.isBytes, V.isList, V.isDict, V.isRec, V.asRec, cond_true, cond_false, Option.bind_some, hD l hb (fun u hu => List.mem_map_of_mem hu)]
  | nothing => simp [nearE] at hn
  | _ => rfl
theorem copy_can {x : V} (h : Can x) : p_value_Copy x = some (x, 0) := by
  simp only [p_value_Copy, value_check_eq, check_can h, Option.bind_some]
  rw [show ((0 : Int) != 0) = false from rfl, cond_false, copied_eq x (can_fine h)]; rfl
theorem copy_not {x : V} (h : ¬ Can x) : p_value_Copy x = some (.nil, (checkF x).2) := by
  simp only [p_value_Copy, value_check_eq, Option.bind_some]
  rw [ne_t (check_cannot h), cond_true]
theorem spSzL_cnt : ∀ (l : List V), (∀ x, x ∈ l → (spSz x : Int) + 1 ≤ 65538 * cnt x) → (spSzL l : Int) ≤ 65538 * cntL l
  | [], _ => by simp [spSzL, cntL]
  | x :: r, h => by
    have h1 := h x (by simp)
    have h2 := spSzL_cnt r (fun y hy => h y (by simp [hy]))
    simp only [spSzL, cntL]; omega
theorem spSzD_cnt : ∀ (l : List (Str × V)), (∀ x, x ∈ l → (spSz x.2 : Int) + 1 ≤ 65538 * cnt x.2) → (spSzD l : Int) ≤ 65538 * cntD l
  | [], _ => by simp [spSzD, cntD]
  | (s, x) :: r, h => by
    have h1 := h (s, x) (by simp)
    have h2 := spSzD_cnt r (fun y hy => h y (by simp [hy]))
    simp only [spSzD, cntD]; dsimp only at h1; omega
theorem spSz_cnt (x : V) : Near x → (spSz x : Int) + 1 ≤ 65538 * cnt x := by
  induction x using V.byParts with
  | _ x ih =>
  intro hx
  have hp : ∀ y, y ∈ x.parts → (spSz y : Int) + 1 ≤ 65538 * cnt y := fun y hy => ih y hy (hx.part y hy)
  cases x with
  | bytes b => have := near_bytes hx.own; simp only [spSz, cnt]; omega
  | list l => have := spSzL_cnt l hp; simp only [spSz, cnt]; omega
  | dict l => have := spSzD_cnt l (fun y hy => hp _ (List.mem_map_of_mem hy)); simp only [spSz, cnt]; omega
  | record c v l => have := spSzD_cnt l (fun y hy => hp _ (List.mem_map_of_mem hy)); simp only [spSz, cnt]; omega
  | _ => simp only [spSz, cnt]; omega
theorem spoil_can {x : V} (h : Can x) : spoilO x = some () := by
  have h1 := spSz_cnt x h.1
  have h2 := h.2.1
  unfold spoilO
  rw [Nat.ble_eq_true_of_le (by omega)]; rfl
theorem plain_ValueCopies (a0 : Term) (h : bkT a0 ≤ 1048576) (ok0 : okT a0) : p_law01_ValueCopies a0 = some true := by
  have ha : Can (.text [97]) := ⟨.mk rfl (fun y hy => by cases hy), by decide, by decide⟩
  simp only [p_law01_ValueCopies, mk_Built_eq a0 (by omega), Option.bind_some, ref01_Check_eq a0 (by omega)]
  by_cases hc : Can (bu a0)
  · simp only [copy_can hc, check_can hc, Option.bind_some]
    rw [show ((0 : Int) != 0) = false from rfl, cond_false, cond_false]
    simp only [is_built rfl hc, Option.bind_some, Bool.not_true, cond_false, law01_ValueCopies_j1, law01_ValueCopies_j2, spoil_can hc]
  · simp only [copy_not hc, copy_can ha, Option.bind_some]
    rw [show ((checkF (bu a0)).2 != (checkF (bu a0)).2) = false by simp, cond_false, ne_t (check_cannot hc), cond_true]
    rfl
end Go.Proofs.Ythfdpaboekoncaa

