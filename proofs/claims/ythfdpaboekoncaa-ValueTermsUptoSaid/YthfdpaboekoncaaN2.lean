/- A value's parts: what the program's count and the document's say of them is one and the same. -/
import Derived.Test.YthfdpaboekoncaaN1
namespace Go.Proofs.Ythfdpaboekoncaa
open Go Aw
set_option linter.unusedVariables false
set_option linter.unusedSimpArgs false
set_option maxRecDepth 8000
theorem max_if (a b : Int) : (if b > a then b else a) = max a b := by omega
/-! ### fields: names that rise -/
def leB (a b : Str) : Bool := Op.bytesLess a b || a == b
def risen : Option Str → List Str → Bool
  | _, [] => true
  | p, s :: r => nameOk s && (match p with | none => true | some q => !(leB s q)) && risen (some s) r
def prevOf (l : List Str) (i : Nat) : Option Str := if i = 0 then none else l[i - 1]?
def fieldsE (l : List Str) : Int := if 4096 < l.length then 2 else if risen none l then 0 else 8
theorem risen_step {l : List Str} {i : Nat} {s : Str} (h : l[i]? = some s) (p : Option Str) : risen p (l.drop i) = (nameOk s && (match p with | none => true | some q => !(leB s q)) && risen (prevOf l (i + 1)) (l.drop (i + 1))) := by
  have hi := (List.getElem?_eq_some_iff.1 h).1
  have hd : l.drop i = s :: l.drop (i + 1) := by rw [List.drop_eq_getElem_cons hi, (List.getElem?_eq_some_iff.1 h).2]
  have : prevOf l (i + 1) = some s := by simp [prevOf, h]
  rw [hd, this]
  cases p <;> simp only [risen]
theorem risen_nil (p : Option Str) : risen p [] = true := by cases p <;> rfl
def r08 (b : Bool) : Int := if b then 0 else 8
/-- One round over names, whatever stands beside them. -/
theorem fields_round {α : Type} (l : List (Str × α)) (i : Nat) (hi : i < l.length) (hb : l.length ≤ 4096) (g : Option Int) (hg : g = some (r08 (risen (prevOf (l.map (·.1)) (i + 1)) ((l.map (·.1)).drop (i + 1))))) (x : Str × α) (hx : l[i]? = some x) :
    (bif !(nameOk x.1) then some 8 else (bif decide (((i : Nat) : Int) > 0) then Option.bind (idxI l (IntKind.i64.wrap (((i : Nat) : Int) - 1))) fun y => (bif (Op.bytesLess x.1 y.1 || x.1 == y.1) then some 8 else g) else g)) = some (r08 (risen (prevOf (l.map (·.1)) i) ((l.map (·.1)).drop i))) := by
  have hs : (l.map (·.1))[i]? = some x.1 := by rw [List.getElem?_map, hx]; rfl
  rw [risen_step hs]
  cases hn : nameOk x.1 with
  | false => rfl
  | true =>
    simp only [Bool.not_true, cond_false, Bool.true_and]
    by_cases h0 : i = 0
    · subst h0
      have e : decide (((0 : Nat) : Int) > 0) = false := rfl
      rw [e, hg]
      simp only [cond_false, prevOf, if_pos, Bool.true_and]
    · have e : decide ((i : Int) > 0) = true := decide_eq_true (by omega)
      have hw : IntKind.i64.wrap ((i : Int) - 1) = ((i - 1 : Nat) : Int) := by rw [w64_in (by omega) (by omega)]; omega
      obtain ⟨y, hy, _⟩ := dropc (by omega : i - 1 < l.length)
      rw [e, hw, idxI_nat, hy]
      have hp : prevOf (l.map (·.1)) i = some y.1 := by simp only [prevOf, if_neg h0, List.getElem?_map, hy, Option.map_some]
      simp only [cond_true, Option.bind_some, hp, hg]
      show (bif leB x.1 y.1 then _ else _) = _
      cases leB x.1 y.1 <;> rfl
theorem vf_l (l : List (Str × V)) (hb : l.length ≤ 4096) : ∀ k i, k + i = l.length → value_fields_l1 l i = some (r08 (risen (prevOf (l.map (·.1)) i) ((l.map (·.1)).drop i)))
  | 0, i, h => by
    rw [value_fields_l1_eq]
    simp only [value_fields_l1b, lt_f (by omega : ¬ i < l.length), cond_false]
    rw [List.drop_of_length_le (by simp; omega), risen_nil]; rfl
  | k + 1, i, h => by
    obtain ⟨x, hx, _⟩ := dropc (by omega : i < l.length)
    have hr := fields_round l i (by omega) hb _ (vf_l l hb k (i + 1) (by omega)) x hx
    rw [value_fields_l1_eq]
    simp only [value_fields_l1b, lt_t (by omega : i < l.length), cond_true, hx, Option.bind_some, value_name_eq, value_fields_j1, cond_false]
    exact hr
theorem value_fields_eq (l : List (Str × V)) : p_value_fields l = some (fieldsE (l.map (·.1))) := by
  simp only [p_value_fields, fieldsE, List.length_map]
  by_cases h : 4096 < l.length
  · rw [decide_eq_true (by omega : (l.length : Int) > 4096), if_pos h]; rfl
  · rw [decide_eq_false (by omega : ¬ (l.length : Int) > 4096), if_neg h, cond_false, vf_l l (by omega) l.length 0 (by omega)]; rfl
/-! ### what is wrong with a part itself -/
def kindOf : V → Int
  | .nil => 1
  | .bool _ => 2
  | .int _ => 3
  | .float _ => 4
  | .text _ => 5
  | .bytes _ => 6
  | .ref _ => 7
  | .list _ => 8
  | .dict _ => 9
  | .record _ _ _ => 10
  | .nothing => 11
  | .alien _ => 0
theorem value_kind_eq (x : V) : p_value_kind x = some (kindOf x) := by cases x <;> rfl
theorem value_Kind_eq (x : V) : p_value_Kind x = some (kindOf x) := by simp only [p_value_Kind, value_kind_eq, Option.bind_some]
def farE : V → Int
  | .nothing => 7
  | .alien _ => 6
  | _ => 2
def nearE : V → Int
  | .text s => if 65536 < s.length then 2 else 0
  | .bytes b => if 65536 < b.length then 2 else 0
  | .list l => if 4096 < l.length then 2 else 0
  | .dict l => fieldsE (l.map (·.1))
  | .record c v l => if nameOk c = false then 8 else if v < 1 ∨ 1000 < v then 1 else fieldsE (l.map (·.1))
  | .nothing => 7
  | .alien _ => 6
  | _ => 0
def ownE (x : V) (n deep : Int) : Int := if 16384 ≤ n ∨ 64 < deep then farE x else nearE x
theorem far_j (x : V) : value_own_j1 x true = some (farE x) := by
  simp only [value_own_j1, cond_true, value_kind_eq, Option.bind_some]
  cases x <;> rfl
theorem big_if (n m : Nat) : (bif decide ((n : Int) > (m : Int)) then some (2 : Int) else value_own_j2) = some (if m < n then 2 else 0) := by
  by_cases h : m < n
  · rw [decide_eq_true (by omega : (n : Int) > m), if_pos h]; rfl
  · rw [decide_eq_false (by omega : ¬ (n : Int) > m), if_neg h]; rfl
theorem near_j (x : V) : value_own_j1 x false = some (nearE x) := by
  cases x with
  | text s => exact big_if s.length 65536
  | bytes s => exact big_if s.length 65536
  | list s => exact big_if s.length 4096
  | dict l =>
    have : value_own_j1 (.dict l) false = Option.bind (p_value_fields l) fun x => some x := rfl
    rw [this, value_fields_eq]; rfl
  | record c v l =>
    have : value_own_j1 (.record c v l) false = Option.bind (p_value_name c) fun x17 => bif !x17 then some 8 else bif decide (v < 1) then value_own_j3 ⟨c, v, l⟩ true else value_own_j3 ⟨c, v, l⟩ (decide (v > 1000)) := rfl
    rw [this, value_name_eq]
    simp only [Option.bind_some, nearE, value_own_j3, value_fields_eq]
    cases hn : nameOk c with
    | false => rfl
    | true =>
      simp only [Bool.not_true, cond_false, cond_true]
      by_cases h1 : v < 1
      · rw [decide_eq_true h1, cond_true, if_neg (by simp), if_pos (Or.inl h1)]
      · rw [decide_eq_false h1, cond_false, if_neg (by simp)]
        by_cases h2 : v > 1000
        · rw [decide_eq_true h2, cond_true, if_pos (Or.inr h2)]
        · rw [decide_eq_false h2, cond_false, if_neg (by omega)]
  | _ => rfl
theorem value_own_eq (x : V) (n d : Int) : p_value_own x n d = some (ownE x n d) := by
  simp only [p_value_own, ownE]
  by_cases h1 : n ≥ 16384
  · rw [decide_eq_true h1, cond_true, if_pos (Or.inl h1), far_j]
  · rw [decide_eq_false h1, cond_false]
    by_cases h2 : d > 64
    · rw [decide_eq_true h2, if_pos (Or.inr h2), far_j]
    · rw [decide_eq_false h2, if_neg (by omega), near_j]
/-! ### the value of a term -/
theorem al_cond {c : Bool} {x y : Option V} (h1 : ∃ a, x = some (.alien a)) (h2 : ∃ a, y = some (.alien a)) : ∃ a, (bif c then x else y) = some (.alien a) := by cases c <;> assumption
theorem alien_ex (n : Int) : ∃ a, p_mk_Alien n = some (.alien a) := by
  unfold p_mk_Alien
  repeat (first | exact ⟨_, rfl⟩ | refine al_cond ⟨_, rfl⟩ ?_)
noncomputable def alT (n : Int) : {t : Nat // alienT t = true} := (alien_ex n).choose
theorem alien_eq (n : Int) : p_mk_Alien n = some (.alien (alT n)) := (alien_ex n).choose_spec
mutual
noncomputable def bu : Term → V
  | .mk k b i f t y r l d c v => if k = 1 then .nil else if k = 2 then .bool b else if k = 3 then .int i else if k = 4 then .float f else if k = 5 then .text t else if k = 6 then .bytes y else if k = 7 then .ref r
    else if k = 8 then .list (buTs l) else if k = 9 then .dict (buEs d) else if k = 10 then .record c v (buEs d) else if k = 11 then .nothing else .alien (alT i)
noncomputable def buTs : List Term → List V
  | [] => []
  | x :: r => bu x :: buTs r
noncomputable def buEs : List (Str × Term) → List (Str × V)
  | [] => []
  | (s, x) :: r => (s, bu x) :: buEs r
end
noncomputable def buE (p : Str × Term) : Str × V := (p.1, bu p.2)
theorem buTs_map : ∀ l, buTs l = l.map bu
  | [] => by rw [buTs]; rfl
  | x :: r => by rw [buTs, buTs_map r]; rfl
theorem buEs_map : ∀ l, buEs l = l.map buE
  | [] => by rw [buEs]; rfl
  | (s, x) :: r => by rw [buEs, buEs_map r]; rfl
theorem bu_names (l : List (Str × Term)) : (l.map buE).map (·.1) = l.map (·.1) := by rw [List.map_map]; rfl
theorem bu_snds (l : List (Str × Term)) : (l.map buE).map (·.2) = (l.map (·.2)).map bu := by rw [List.map_map, List.map_map]; rfl
inductive BuC (t : Term) : V → Prop
  | nil : t.kind = 1 → BuC t .nil
  | bool : t.kind = 2 → BuC t (.bool t.bool)
  | int : t.kind = 3 → BuC t (.int t.int)
  | float : t.kind = 4 → BuC t (.float t.float)
  | text : t.kind = 5 → BuC t (.text t.text)
  | bytes : t.kind = 6 → BuC t (.bytes t.bytes)
  | ref : t.kind = 7 → BuC t (.ref t.ref)
  | list : t.kind = 8 → BuC t (.list (t.list.map bu))
  | dict : t.kind = 9 → BuC t (.dict (t.fields.map buE))
  | record : t.kind = 10 → BuC t (.record t.cls t.ver (t.fields.map buE))
  | nothing : t.kind = 11 → BuC t .nothing
  | alien : t.kind < 1 ∨ 11 < t.kind → BuC t (.alien (alT t.int))
theorem bu_c (t : Term) : BuC t (bu t) := by
  cases t with
  | mk k b i f t y r l d c v =>
    rw [bu, buTs_map, buEs_map]
    by_cases h1 : k = 1; · rw [if_pos h1]; exact .nil h1
    by_cases h2 : k = 2; · rw [if_neg h1, if_pos h2]; exact .bool h2
    by_cases h3 : k = 3; · rw [if_neg h1, if_neg h2, if_pos h3]; exact .int h3
    by_cases h4 : k = 4; · rw [if_neg h1, if_neg h2, if_neg h3, if_pos h4]; exact .float h4
    by_cases h5 : k = 5; · rw [if_neg h1, if_neg h2, if_neg h3, if_neg h4, if_pos h5]; exact .text h5
    by_cases h6 : k = 6; · rw [if_neg h1, if_neg h2, if_neg h3, if_neg h4, if_neg h5, if_pos h6]; exact .bytes h6
    by_cases h7 : k = 7; · rw [if_neg h1, if_neg h2, if_neg h3, if_neg h4, if_neg h5, if_neg h6, if_pos h7]; exact .ref h7
    by_cases h8 : k = 8; · rw [if_neg h1, if_neg h2, if_neg h3, if_neg h4, if_neg h5, if_neg h6, if_neg h7, if_pos h8]; exact .list h8
    by_cases h9 : k = 9; · rw [if_neg h1, if_neg h2, if_neg h3, if_neg h4, if_neg h5, if_neg h6, if_neg h7, if_neg h8, if_pos h9]; exact .dict h9
    by_cases h10 : k = 10; · rw [if_neg h1, if_neg h2, if_neg h3, if_neg h4, if_neg h5, if_neg h6, if_neg h7, if_neg h8, if_neg h9, if_pos h10]; exact .record h10
    by_cases h11 : k = 11; · rw [if_neg h1, if_neg h2, if_neg h3, if_neg h4, if_neg h5, if_neg h6, if_neg h7, if_neg h8, if_neg h9, if_neg h10, if_pos h11]; exact .nothing h11
    rw [if_neg h1, if_neg h2, if_neg h3, if_neg h4, if_neg h5, if_neg h6, if_neg h7, if_neg h8, if_neg h9, if_neg h10, if_neg h11]
    exact .alien (by show k < 1 ∨ 11 < k; omega)
theorem big_r (n m : Nat) (g : Bool → Option Int) (h1 : g true = some 2) (h2 : g false = some 0) : g (decide ((n : Int) > (m : Int))) = some (if m < n then 2 else 0) := by
  by_cases h : m < n
  · rw [decide_eq_true (by omega : (n : Int) > m), if_pos h]; exact h1
  · rw [decide_eq_false (by omega : ¬ (n : Int) > m), if_neg h]; exact h2
end Go.Proofs.Ythfdpaboekoncaa
