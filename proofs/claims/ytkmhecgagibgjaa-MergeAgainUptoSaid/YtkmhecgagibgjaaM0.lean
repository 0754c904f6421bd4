/- Plain laws, one behind the other. -/
import Derived.Test.YtkmhecgagibgjaaRd
import Derived.Test.YtkmhecgagibgjaaG6
import Derived.Test.YtkmhecgagibgjaaAwI3
namespace Go.Proofs.Ytkmhecgagibgjaa
open Go Aw
set_option linter.unusedVariables false
set_option linter.unusedSimpArgs false
theorem lt_t {i n : Nat} (h : i < n) : decide ((i : Int) < (n : Int)) = true := decide_eq_true (by omega)
theorem lt_f {i n : Nat} (h : ¬ i < n) : decide ((i : Int) < (n : Int)) = false := decide_eq_false (by omega)
theorem dropc {α : Type} {l : List α} {i : Nat} (h : i < l.length) : ∃ x, l[i]? = some x ∧ l.drop i = x :: l.drop (i + 1) :=
  ⟨l[i], List.getElem?_eq_getElem h, List.drop_eq_getElem_cons h⟩
theorem w64_in {x : Int} (h1 : -9223372036854775808 ≤ x) (h2 : x ≤ 9223372036854775807) : IntKind.i64.wrap x = x := wrap_in h1 h2
theorem idxI_nat {α : Type} (l : List α) (i : Nat) : idxI l (i : Int) = l[i]? := by
  unfold idxI; rw [decide_eq_true (by omega : (0 : Int) ≤ (i : Nat))]; rfl
def chOk (c : UInt8) : Bool := (Nat.ble 97 c.toNat && Nat.ble c.toNat 122) || (Nat.ble 48 c.toNat && Nat.ble c.toNat 57) || Nat.beq c.toNat 95
def loOk (c : UInt8) : Bool := Nat.ble 97 c.toNat && Nat.ble c.toNat 122
def nameOk (s : Str) : Bool := Nat.ble 1 s.length && Nat.ble s.length 32 && loOk (s.headD 0) && s.all chOk
theorem chOk_iff {c : UInt8} : chOk c = true ↔ (97 ≤ c.toNat ∧ c.toNat ≤ 122) ∨ (48 ≤ c.toNat ∧ c.toNat ≤ 57) ∨ c.toNat = 95 := by
  simp only [chOk, Bool.or_eq_true, Bool.and_eq_true, Nat.ble_eq, Nat.beq_eq]; omega
theorem loOk_iff {c : UInt8} : loOk c = true ↔ 97 ≤ c.toNat ∧ c.toNat ≤ 122 := by
  simp only [loOk, Bool.and_eq_true, Nat.ble_eq]
theorem vn_body (c : UInt8) (g : Nat → Option Bool) (i : Nat) (s : Str) (hi : i < s.length) (hc : s[i]? = some c) : value_name_l1b s g i = bif chOk c then g (i + 1) else some false := by
  have h97 : (97 : UInt8).toNat = 97 := rfl
  have h122 : (122 : UInt8).toNat = 122 := rfl
  have h48 : (48 : UInt8).toNat = 48 := rfl
  have h57 : (57 : UInt8).toNat = 57 := rfl
  have h95 : (95 : UInt8).toNat = 95 := rfl
  simp only [value_name_l1b, lt_t hi, hc, cond_true, Option.bind_some, value_name_j2, h97, h122, h48, h57, h95]
  simp only [Bool.cond_eq_ite, decide_eq_true_eq, bne_iff_ne, ne_eq, Bool.false_eq_true, if_false, chOk_iff]
  repeat (split <;> (try (first | rfl | (exfalso; omega))))
theorem vn_l (s : Str) : ∀ k i, k + i = s.length → value_name_l1 s i = some ((s.drop i).all chOk)
  | 0, i, h => by
    rw [value_name_l1_eq]
    simp only [value_name_l1b, lt_f (by omega : ¬ i < s.length), cond_false]
    rw [List.drop_of_length_le (by omega)]; rfl
  | k + 1, i, h => by
    obtain ⟨c, hc, hd⟩ := dropc (by omega : i < s.length)
    rw [value_name_l1_eq, vn_body c _ i s (by omega) hc, vn_l s k (i + 1) (by omega), hd, List.all_cons]
    cases chOk c <;> rfl
theorem value_name_eq (s : Str) : p_value_name s = some (nameOk s) := by
  have h97 : (97 : UInt8).toNat = 97 := rfl
  have h122 : (122 : UInt8).toNat = 122 := rfl
  cases s with
  | nil => rfl
  | cons c r =>
    have hl := vn_l (c :: r) (c :: r).length 0 (by simp)
    rw [List.drop_zero] at hl
    simp only [p_value_name, value_name_j1, h97, h122]
    have he : ((c :: r) == ([] : Str)) = false := rfl
    have h0 : (c :: r)[0]? = some c := rfl
    simp only [he, h0, cond_true, cond_false, Option.bind_some]
    by_cases h32 : (c :: r).length ≤ 32
    · have hs : smallO (c :: r).length = some () := by unfold smallO; rw [Nat.ble_eq_true_of_le (by omega)]; rfl
      simp only [hs, hl, Option.bind_some]
      have e1 : decide (((c :: r).length : Int) > 32) = false := decide_eq_false (by omega)
      rw [e1]
      simp only [cond_false, nameOk, List.headD_cons, Nat.ble_eq_true_of_le h32, Nat.ble_eq_true_of_le (by simp : 1 ≤ (c :: r).length), Bool.true_and]
      cases hlo : loOk c with
      | true =>
        have := loOk_iff.1 hlo
        have e2 : decide ((c.toNat : Int) < (97 : Nat)) = false := decide_eq_false (by omega)
        have e3 : decide ((c.toNat : Int) > (122 : Nat)) = false := decide_eq_false (by omega)
        rw [e2, e3]; rfl
      | false =>
        have h2 : ¬ (97 ≤ c.toNat ∧ c.toNat ≤ 122) := fun h => by rw [loOk_iff.2 h] at hlo; cases hlo
        by_cases h3 : c.toNat < 97
        · have e2 : decide ((c.toNat : Int) < (97 : Nat)) = true := decide_eq_true (by omega)
          rw [e2]; rfl
        · have e2 : decide ((c.toNat : Int) < (97 : Nat)) = false := decide_eq_false (by omega)
          have e3 : decide ((c.toNat : Int) > (122 : Nat)) = true := decide_eq_true (by omega)
          rw [e2, e3]; rfl
    · have e1 : decide (((c :: r).length : Int) > 32) = true := decide_eq_true (by omega)
      have e2 : Nat.ble (c :: r).length 32 = false := by
        cases hb : Nat.ble (c :: r).length 32 with
        | false => rfl
        | true => exact absurd (Nat.le_of_ble_eq_true hb) h32
      rw [e1]
      simp only [cond_true, nameOk, e2, Bool.and_false, Bool.false_and]
end Go.Proofs.Ytkmhecgagibgjaa

namespace Go.Proofs.Ytkmhecgagibgjaa
open Go Aw
set_option linter.unusedVariables false
set_option linter.unusedSimpArgs false
set_option maxRecDepth 8000
def leB (a b : Str) : Bool := Op.bytesLess a b || a == b
def risen : Option Str → List Str → Bool
  | _, [] => true
  | p, s :: r => nameOk s && (match p with | none => true | some q => !(leB s q)) && risen (some s) r
def prevOf (l : List Str) (i : Nat) : Option Str := if i = 0 then none else l[i - 1]?
def fieldsE (l : List Str) : Int := if 4096 < l.length then 2 else if risen none l then 0 else 8
theorem risen_step {l : List Str} {i : Nat} {s : Str} (h : l[i]? = some s) (p : Option Str) : risen p (l.drop i) = (nameOk s && (match p with | none => true | some q => !(leB s q)) && risen (prevOf l (i + 1)) (l.drop (i + 1))) := by
  have hi := (List.getElem?_eq_some_iff.1 h).1
  have hd : l.drop i = s :: l.drop (i + 1) := by rw [List.drop_eq_getElem_cons hi, (List.getElem?_eq_some_iff.1 h).2]
  have : prevOf l (i + 1) = some s := by simp [prevOf, h]
  rw [hd, this]
  cases p <;> simp only [risen]
theorem risen_nil (p : Option Str) : risen p [] = true := by cases p <;> rfl
def r08 (b : Bool) : Int := if b then 0 else 8
theorem fields_round {α : Type} (l : List (Str × α)) (i : Nat) (hi : i < l.length) (hb : l.length ≤ 4096) (g : Option Int) (hg : g = some (r08 (risen (prevOf (l.map (·.1)) (i + 1)) ((l.map (·.1)).drop (i + 1))))) (x : Str × α) (hx : l[i]? = some x) :
    (bif !(nameOk x.1) then some 8 else (bif decide (((i : Nat) : Int) > 0) then Option.bind (idxI l (IntKind.i64.wrap (((i : Nat) : Int) - 1))) fun y => (bif (Op.bytesLess x.1 y.1 || x.1 == y.1) then some 8 else g) else g)) = some (r08 (risen (prevOf (l.map (·.1)) i) ((l.map (·.1)).drop i))) := by
  have hs : (l.map (·.1))[i]? = some x.1 := by rw [List.getElem?_map, hx]; rfl
  rw [risen_step hs]
  cases hn : nameOk x.1 with
  | false => rfl
  | true =>
    simp only [Bool.not_true, cond_false, Bool.true_and]
    by_cases h0 : i = 0
    · subst h0
      have e : decide (((0 : Nat) : Int) > 0) = false := rfl
      rw [e, hg]
      simp only [cond_false, prevOf, if_pos, Bool.true_and]
    · have e : decide ((i : Int) > 0) = true := decide_eq_true (by omega)
      have hw : IntKind.i64.wrap ((i : Int) - 1) = ((i - 1 : Nat) : Int) := by rw [w64_in (by omega) (by omega)]; omega
      obtain ⟨y, hy, _⟩ := dropc (by omega : i - 1 < l.length)
      rw [e, hw, idxI_nat, hy]
      have hp : prevOf (l.map (·.1)) i = some y.1 := by simp only [prevOf, if_neg h0, List.getElem?_map, hy, Option.map_some]
      simp only [cond_true, Option.bind_some, hp, hg]
      show (bif leB x.1 y.1 then _ else _) = _
      cases leB x.1 y.1 <;> rfl
theorem vf_l (l : List (Str × V)) (hb : l.length ≤ 4096) : ∀ k i, k + i = l.length → value_fields_l1 l i = some (r08 (risen (prevOf (l.map (·.1)) i) ((l.map (·.1)).drop i)))
  | 0, i, h => by
    rw [value_fields_l1_eq]
    simp only [value_fields_l1b, lt_f (by omega : ¬ i < l.length), cond_false]
    rw [List.drop_of_length_le (by simp; omega), risen_nil]; rfl
  | k + 1, i, h => by
    obtain ⟨x, hx, _⟩ := dropc (by omega : i < l.length)
    have hr := fields_round l i (by omega) hb _ (vf_l l hb k (i + 1) (by omega)) x hx
    rw [value_fields_l1_eq]
    simp only [value_fields_l1b, lt_t (by omega : i < l.length), cond_true, hx, Option.bind_some, value_name_eq, value_fields_j1, cond_false]
    exact hr
theorem value_fields_eq (l : List (Str × V)) : p_value_fields l = some (fieldsE (l.map (·.1))) := by
  simp only [p_value_fields, fieldsE, List.length_map]
  by_cases h : 4096 < l.length
  · rw [decide_eq_true (by omega : (l.length : Int) > 4096), if_pos h]; rfl
  · rw [decide_eq_false (by omega : ¬ (l.length : Int) > 4096), if_neg h, cond_false, vf_l l (by omega) l.length 0 (by omega)]; rfl
def kindOf : V → Int
  | .nil => 1
  | .bool _ => 2
  | .int _ => 3
  | .float _ => 4
  | .text _ => 5
  | .bytes _ => 6
  | .ref _ => 7
  | .list _ => 8
  | .dict _ => 9
  | .record _ _ _ => 10
  | .nothing => 11
  | .alien _ => 0
theorem value_kind_eq (x : V) : p_value_kind x = some (kindOf x) := by cases x <;> rfl
def farE : V → Int
  | .nothing => 7
  | .alien _ => 6
  | _ => 2
def nearE : V → Int
  | .text s => if 65536 < s.length then 2 else 0
  | .bytes b => if 65536 < b.length then 2 else 0
  | .list l => if 4096 < l.length then 2 else 0
  | .dict l => fieldsE (l.map (·.1))
  | .record c v l => if nameOk c = false then 8 else if v < 1 ∨ 1000 < v then 1 else fieldsE (l.map (·.1))
  | .nothing => 7
  | .alien _ => 6
  | _ => 0
def ownE (x : V) (n deep : Int) : Int := if 16384 ≤ n ∨ 64 < deep then farE x else nearE x
theorem far_j (x : V) : value_own_j1 x true = some (farE x) := by
  simp only [value_own_j1, cond_true, value_kind_eq, Option.bind_some]
  cases x <;> rfl
theorem big_if (n m : Nat) : (bif decide ((n : Int) > (m : Int)) then some (2 : Int) else value_own_j2) = some (if m < n then 2 else 0) := by
  by_cases h : m < n
  · rw [decide_eq_true (by omega : (n : Int) > m), if_pos h]; rfl
  · rw [decide_eq_false (by omega : ¬ (n : Int) > m), if_neg h]; rfl
theorem near_j (x : V) : value_own_j1 x false = some (nearE x) := by
  cases x with
  | text s => exact big_if s.length 65536
  | bytes s => exact big_if s.length 65536
  | list s => exact big_if s.length 4096
  | dict l =>
    have : value_own_j1 (.dict l) false = Option.bind (p_value_fields l) fun x => some x := rfl
    rw [this, value_fields_eq]; rfl
  | record c v l =>
    have : value_own_j1 (.record c v l) false = Option.bind (p_value_name c) fun x17 => bif !x17 then some 8 else bif decide (v < 1) then value_own_j3 ⟨c, v, l⟩ true else value_own_j3 ⟨c, v, l⟩ (decide (v > 1000)) := rfl
    rw [this, value_name_eq]
    simp only [Option.bind_some, nearE, value_own_j3, value_fields_eq]
    cases hn : nameOk c with
    | false => rfl
    | true =>
      simp only [Bool.not_true, cond_false, cond_true]
      by_cases h1 : v < 1
      · rw [decide_eq_true h1, cond_true, if_neg (by simp), if_pos (Or.inl h1)]
      · rw [decide_eq_false h1, cond_false, if_neg (by simp)]
        by_cases h2 : v > 1000
        · rw [decide_eq_true h2, cond_true, if_pos (Or.inr h2)]
        · rw [decide_eq_false h2, cond_false, if_neg (by omega)]
  | _ => rfl
theorem value_own_eq (x : V) (n d : Int) : p_value_own x n d = some (ownE x n d) := by
  simp only [p_value_own, ownE]
  by_cases h1 : n ≥ 16384
  · rw [decide_eq_true h1, cond_true, if_pos (Or.inl h1), far_j]
  · rw [decide_eq_false h1, cond_false]
    by_cases h2 : d > 64
    · rw [decide_eq_true h2, if_pos (Or.inr h2), far_j]
    · rw [decide_eq_false h2, if_neg (by omega), near_j]
theorem al_cond {c : Bool} {x y : Option V} (h1 : ∃ a, x = some (.alien a)) (h2 : ∃ a, y = some (.alien a)) : ∃ a, (bif c then x else y) = some (.alien a) := by cases c <;> assumption
theorem alien_ex (n : Int) : ∃ a, p_mk_Alien n = some (.alien a) := by
  unfold p_mk_Alien
  repeat (first | exact ⟨_, rfl⟩ | refine al_cond ⟨_, rfl⟩ ?_)
noncomputable def alT (n : Int) : {t : Nat // alienT t = true} := (alien_ex n).choose
theorem alien_eq (n : Int) : p_mk_Alien n = some (.alien (alT n)) := (alien_ex n).choose_spec
mutual
noncomputable def bu : Term → V
  | .mk k b i f t y r l d c v => if k = 1 then .nil else if k = 2 then .bool b else if k = 3 then .int i else if k = 4 then .float f else if k = 5 then .text t else if k = 6 then .bytes y else if k = 7 then .ref r
    else if k = 8 then .list (buTs l) else if k = 9 then .dict (buEs d) else if k = 10 then .record c v (buEs d) else if k = 11 then .nothing else .alien (alT i)
noncomputable def buTs : List Term → List V
  | [] => []
  | x :: r => bu x :: buTs r
noncomputable def buEs : List (Str × Term) → List (Str × V)
  | [] => []
  | (s, x) :: r => (s, bu x) :: buEs r
end
noncomputable def buE (p : Str × Term) : Str × V := (p.1, bu p.2)
theorem buTs_map : ∀ l, buTs l = l.map bu
  | [] => by rw [buTs]; rfl
  | x :: r => by rw [buTs, buTs_map r]; rfl
theorem buEs_map : ∀ l, buEs l = l.map buE
  | [] => by rw [buEs]; rfl
  | (s, x) :: r => by rw [buEs, buEs_map r]; rfl
inductive BuC (t : Term) : V → Prop
  | nil : t.kind = 1 → BuC t .nil
  | bool : t.kind = 2 → BuC t (.bool t.bool)
  | int : t.kind = 3 → BuC t (.int t.int)
  | float : t.kind = 4 → BuC t (.float t.float)
  | text : t.kind = 5 → BuC t (.text t.text)
  | bytes : t.kind = 6 → BuC t (.bytes t.bytes)
  | ref : t.kind = 7 → BuC t (.ref t.ref)
  | list : t.kind = 8 → BuC t (.list (t.list.map bu))
  | dict : t.kind = 9 → BuC t (.dict (t.fields.map buE))
  | record : t.kind = 10 → BuC t (.record t.cls t.ver (t.fields.map buE))
  | nothing : t.kind = 11 → BuC t .nothing
  | alien : t.kind < 1 ∨ 11 < t.kind → BuC t (.alien (alT t.int))
theorem bu_c (t : Term) : BuC t (bu t) := by
  cases t with
  | mk k b i f t y r l d c v =>
    rw [bu, buTs_map, buEs_map]
    by_cases h1 : k = 1; · rw [if_pos h1]; exact .nil h1
    by_cases h2 : k = 2; · rw [if_neg h1, if_pos h2]; exact .bool h2
    by_cases h3 : k = 3; · rw [if_neg h1, if_neg h2, if_pos h3]; exact .int h3
    by_cases h4 : k = 4; · rw [if_neg h1, if_neg h2, if_neg h3, if_pos h4]; exact .float h4
    by_cases h5 : k = 5; · rw [if_neg h1, if_neg h2, if_neg h3, if_neg h4, if_pos h5]; exact .text h5
    by_cases h6 : k = 6; · rw [if_neg h1, if_neg h2, if_neg h3, if_neg h4, if_neg h5, if_pos h6]; exact .bytes h6
    by_cases h7 : k = 7; · rw [if_neg h1, if_neg h2, if_neg h3, if_neg h4, if_neg h5, if_neg h6, if_pos h7]; exact .ref h7
    by_cases h8 : k = 8; · rw [if_neg h1, if_neg h2, if_neg h3, if_neg h4, if_neg h5, if_neg h6, if_neg h7, if_pos h8]; exact .list h8
    by_cases h9 : k = 9; · rw [if_neg h1, if_neg h2, if_neg h3, if_neg h4, if_neg h5, if_neg h6, if_neg h7, if_neg h8, if_pos h9]; exact .dict h9
    by_cases h10 : k = 10; · rw [if_neg h1, if_neg h2, if_neg h3, if_neg h4, if_neg h5, if_neg h6, if_neg h7, if_neg h8, if_neg h9, if_pos h10]; exact .record h10
    by_cases h11 : k = 11; · rw [if_neg h1, if_neg h2, if_neg h3, if_neg h4, if_neg h5, if_neg h6, if_neg h7, if_neg h8, if_neg h9, if_neg h10, if_pos h11]; exact .nothing h11
    rw [if_neg h1, if_neg h2, if_neg h3, if_neg h4, if_neg h5, if_neg h6, if_neg h7, if_neg h8, if_neg h9, if_neg h10, if_neg h11]
    exact .alien (by show k < 1 ∨ 11 < k; omega)
end Go.Proofs.Ytkmhecgagibgjaa

namespace Go.Proofs.Ytkmhecgagibgjaa
open Go Aw
set_option linter.unusedVariables false
set_option linter.unusedSimpArgs false
set_option maxRecDepth 8000
structure Ct where
  ok : Bool
  n : Int
  dp : Int
  why : Int
mutual
def partF : V → Int → Int → Int → Ct
  | .list l, n, dp, d => if ownE (.list l) n d = 0 then partsF l (n + 1) (max dp d) (d + 1) else ⟨false, n, dp, ownE (.list l) n d⟩
  | .dict l, n, dp, d => if ownE (.dict l) n d = 0 then fieldsF l (n + 1) (max dp d) (d + 1) else ⟨false, n, dp, ownE (.dict l) n d⟩
  | .record c v l, n, dp, d => if ownE (.record c v l) n d = 0 then fieldsF l (n + 1) (max dp d) (d + 1) else ⟨false, n, dp, ownE (.record c v l) n d⟩
  | x, n, dp, d => if ownE x n d = 0 then ⟨true, n + 1, max dp d, 0⟩ else ⟨false, n, dp, ownE x n d⟩
def partsF : List V → Int → Int → Int → Ct
  | [], n, dp, d => ⟨true, n, dp, 0⟩
  | x :: r, n, dp, d => if (partF x n dp d).ok then partsF r (partF x n dp d).n (partF x n dp d).dp d else partF x n dp d
def fieldsF : List (Str × V) → Int → Int → Int → Ct
  | [], n, dp, d => ⟨true, n, dp, 0⟩
  | (s, x) :: r, n, dp, d => if (partF x n dp d).ok then fieldsF r (partF x n dp d).n (partF x n dp d).dp d else partF x n dp d
end
def V.parts : V → List V
  | .list l => l
  | .dict l => l.map (·.2)
  | .record _ _ l => l.map (·.2)
  | _ => []
theorem fieldsF_map : ∀ (l : List (Str × V)) (n dp d : Int), fieldsF l n dp d = partsF (l.map (·.2)) n dp d
  | [], n, dp, d => by simp only [fieldsF, partsF, List.map_nil]
  | (s, x) :: r, n, dp, d => by simp only [fieldsF, partsF, List.map_cons, fieldsF_map r]
theorem partF_eq (x : V) (n dp d : Int) : partF x n dp d = if ownE x n d = 0 then partsF x.parts (n + 1) (max dp d) (d + 1) else ⟨false, n, dp, ownE x n d⟩ := by
  cases x <;> simp only [partF, V.parts, fieldsF_map, partsF]
theorem partsF_cons (x : V) (r : List V) (n dp d : Int) : partsF (x :: r) n dp d = if (partF x n dp d).ok then partsF r (partF x n dp d).n (partF x n dp d).dp d else partF x n dp d := by simp only [partsF]
theorem partsF_nil (n dp d : Int) : partsF [] n dp d = ⟨true, n, dp, 0⟩ := by simp only [partsF]
theorem far_ne (x : V) : farE x ≠ 0 := by cases x <;> simp [farE]
theorem own_zero {x : V} {n d : Int} (h : ownE x n d = 0) : n < 16384 ∧ d ≤ 64 ∧ nearE x = 0 := by
  unfold ownE at h
  split at h
  · exact absurd h (far_ne x)
  · rename_i hc; exact ⟨by omega, by omega, h⟩
theorem parts_lt {x y : V} (h : y ∈ x.parts) : SizeOf.sizeOf y < SizeOf.sizeOf x := by
  cases x <;> simp only [V.parts, List.not_mem_nil] at h
  · have := List.sizeOf_lt_of_mem h; simp; omega
  · obtain ⟨⟨s, z⟩, hz, rfl⟩ := List.mem_map.1 h
    have := List.sizeOf_lt_of_mem hz; simp at this ⊢; omega
  · obtain ⟨⟨s, z⟩, hz, rfl⟩ := List.mem_map.1 h
    have := List.sizeOf_lt_of_mem hz; simp at this ⊢; omega
theorem V.byParts {P : V → Prop} (h : ∀ x, (∀ y, y ∈ x.parts → P y) → P x) (x : V) : P x :=
  h x (fun y hy => V.byParts h y)
termination_by SizeOf.sizeOf x
decreasing_by exact parts_lt hy
structure CtOk (c : Ct) (n : Int) : Prop where
  lo : n ≤ c.n
  ok : c.ok = true → c.n ≤ 16384 ∧ c.why = 0
  bad : c.ok = false → c.why ≠ 0
theorem parts_facts {d : Int} : ∀ (l : List V), (∀ y, y ∈ l → ∀ n dp, CtOk (partF y n dp d) n) → ∀ n dp, n ≤ 16384 → CtOk (partsF l n dp d) n
  | [], _, n, dp, hm => by rw [partsF_nil]; exact ⟨Int.le_refl _, fun _ => ⟨hm, rfl⟩, by simp⟩
  | x :: r, h, n, dp, hm => by
    have h1 := h x (by simp) n dp
    rw [partsF_cons]
    split
    · rename_i hk
      have h2 := parts_facts r (fun y hy => h y (by simp [hy])) _ (partF x n dp d).dp (h1.ok hk).1
      exact ⟨Int.le_trans h1.lo h2.lo, h2.ok, h2.bad⟩
    · exact h1
theorem part_facts (x : V) : ∀ d n dp, CtOk (partF x n dp d) n := by
  induction x using V.byParts with
  | _ x ih =>
  intro d n dp
  rw [partF_eq]
  split
  · rename_i h
    have := own_zero h
    have h2 := parts_facts x.parts (fun y hy n dp => ih y hy (d + 1) n dp) (n + 1) (max dp d) (by omega)
    exact ⟨by have := h2.lo; omega, h2.ok, h2.bad⟩
  · rename_i h; exact ⟨Int.le_refl _, by simp, fun _ => h⟩
def ctS (c : Ct) : Bool × S_value_count := (c.ok, ⟨c.n, c.dp, c.why⟩)
def PartOk (x : V) : Prop := ∀ n dp w d, -4611686018427387904 ≤ n → n ≤ 16384 → -4611686018427387904 ≤ d → d ≤ 65 → p_value_count_part ⟨n, dp, w⟩ x d = some (ctS (partF x n dp d))
theorem cp_l (l : List V) (d : Int) (hl : ∀ y, y ∈ l → PartOk y) (hd : -4611686018427387904 ≤ d) (hd' : d ≤ 64) : ∀ k i n dp, k + i = l.length → -4611686018427387904 ≤ n → n ≤ 16384 → value_count_part_l1 p_value_count_part (.list l) d i n dp 0 = some (ctS (partsF (l.drop i) n dp (d + 1)))
  | 0, i, n, dp, h, hn, hm => by
    rw [value_count_part_l1_eq]
    simp only [value_count_part_l1b, V.asList, lt_f (by omega : ¬ i < l.length), cond_false, value_count_part_j1]
    rw [List.drop_of_length_le (by omega), partsF_nil]; rfl
  | k + 1, i, n, dp, h, hn, hm => by
    obtain ⟨x, hx, hdr⟩ := dropc (by omega : i < l.length)
    have hp := hl x (List.mem_of_getElem? hx) n dp 0 (d + 1) hn hm (by omega) (by omega)
    have hw : IntKind.i64.wrap (d + 1) = d + 1 := w64_in (by omega) (by omega)
    rw [value_count_part_l1_eq]
    simp only [value_count_part_l1b, V.asList, lt_t (by omega : i < l.length), cond_true, hx, Option.bind_some, hw, hp, ctS]
    rw [hdr, partsF_cons]
    have hf := part_facts x (d + 1) n dp
    cases hk : (partF x n dp (d + 1)).ok with
    | false => simp only [Bool.not_false, cond_true, Bool.false_eq_true, if_false, hk]
    | true =>
      have h1 := hf.ok hk
      have h2 := hf.lo
      simp only [Bool.not_true, cond_false, if_true]
      rw [h1.2, cp_l l d hl hd hd' k (i + 1) _ _ (by omega) (by omega) h1.1]; rfl
theorem ca_l (l : List (Str × V)) (d : Int) (hl : ∀ y, y ∈ l.map (·.2) → PartOk y) (hd : -4611686018427387904 ≤ d) (hd' : d ≤ 64) : ∀ k i n dp, k + i = l.length → -4611686018427387904 ≤ n → n ≤ 16384 → value_count_all_l1 p_value_count_part l d i n dp 0 = some (ctS (partsF ((l.map (·.2)).drop i) n dp (d + 1)))
  | 0, i, n, dp, h, hn, hm => by
    rw [value_count_all_l1_eq]
    simp only [value_count_all_l1b, lt_f (by omega : ¬ i < l.length), cond_false]
    rw [List.drop_of_length_le (by simp; omega), partsF_nil]; rfl
  | k + 1, i, n, dp, h, hn, hm => by
    obtain ⟨x, hx, _⟩ := dropc (by omega : i < l.length)
    have hx2 : (l.map (·.2))[i]? = some x.2 := by rw [List.getElem?_map, hx]; rfl
    obtain ⟨x', hx', hdr⟩ := dropc (by rw [List.length_map]; omega : i < (l.map (·.2)).length)
    rw [hx2] at hx'; injection hx' with hx'; subst hx'
    have hp := hl x.2 (List.mem_of_getElem? hx2) n dp 0 (d + 1) hn hm (by omega) (by omega)
    have hw : IntKind.i64.wrap (d + 1) = d + 1 := w64_in (by omega) (by omega)
    rw [value_count_all_l1_eq]
    simp only [value_count_all_l1b, lt_t (by omega : i < l.length), cond_true, hx, Option.bind_some, hw, hp, ctS]
    rw [hdr, partsF_cons]
    have hf := part_facts x.2 (d + 1) n dp
    cases hk : (partF x.2 n dp (d + 1)).ok with
    | false => simp only [Bool.not_false, cond_true, Bool.false_eq_true, if_false, hk]
    | true =>
      have h1 := hf.ok hk
      have h2 := hf.lo
      simp only [Bool.not_true, cond_false, if_true]
      rw [h1.2, ca_l l d hl hd hd' k (i + 1) _ _ (by omega) (by omega) h1.1]; rfl
theorem value_count_all_eq (l : List (Str × V)) (d n dp : Int) (hl : ∀ y, y ∈ l.map (·.2) → PartOk y) (hd : -4611686018427387904 ≤ d) (hd' : d ≤ 64) (hn : -4611686018427387904 ≤ n) (hm : n ≤ 16384) : p_value_count_all ⟨n, dp, 0⟩ l d = some (ctS (partsF (l.map (·.2)) n dp (d + 1))) := by
  rw [e_value_count_all, b_value_count_all]
  exact ca_l l d hl hd hd' l.length 0 n dp (by omega) hn hm
theorem value_count_part_eq (x : V) : PartOk x := by
  induction x using V.byParts with
  | _ x ih =>
  intro n dp w d hn hm hd hd'
  rw [e_value_count_part, b_value_count_part, partF_eq]
  simp only [value_own_eq, Option.bind_some]
  by_cases h : ownE x n d = 0
  · have h0 := own_zero h
    have hw : IntKind.i64.wrap (n + 1) = n + 1 := w64_in (by omega) (by omega)
    have hmx : (if d > dp then d else dp) = max dp d := by omega
    rw [if_pos h, h, hw, hmx]
    have e0 : ((0 : Int) != 0) = false := rfl
    rw [e0, cond_false]
    cases x with
    | list l => exact cp_l l d ih hd (by omega) l.length 0 (n + 1) (max dp d) (by omega) (by omega) (by omega)
    | dict l =>
      show Option.bind (p_value_count_all ⟨n + 1, max dp d, 0⟩ l d) (fun x => some (x.1, x.2)) = _
      rw [value_count_all_eq l d _ _ ih hd (by omega) (by omega) (by omega)]; rfl
    | record c v l =>
      show Option.bind (p_value_count_all ⟨n + 1, max dp d, 0⟩ l d) (fun x => some (x.1, x.2)) = _
      rw [value_count_all_eq l d _ _ ih hd (by omega) (by omega) (by omega)]; rfl
    | nothing => have := h0.2.2; simp [nearE] at this
    | _ => simp only [V.parts, partsF_nil]; rfl
  · rw [if_neg h]
    have e0 : (ownE x n d != 0) = true := by simpa using h
    rw [e0]; rfl
def checkF (x : V) : Int × Int := if (partF x 0 0 1).ok then (0, 0) else ((partF x 0 0 1).n, (partF x 0 0 1).why)
theorem value_check_eq (x : V) : p_value_check x = some (checkF x) := by
  simp only [p_value_check, value_count_part_eq x 0 0 0 1 (by omega) (by omega) (by omega) (by omega), Option.bind_some, ctS, checkF]
  cases (partF x 0 0 1).ok <;> rfl
theorem value_Check_eq (x : V) : p_value_Check x = some (checkF x) := by simp only [p_value_Check, value_check_eq, Option.bind_some]
def partsT (t : Term) : List Term := if t.kind = 8 then t.list else if t.kind = 9 ∨ t.kind = 10 then t.fields.map (·.2) else []
theorem partsT_lt {t u : Term} (h : u ∈ partsT t) : SizeOf.sizeOf u < SizeOf.sizeOf t := by
  cases t with
  | mk k b i f s y r l d c v =>
  unfold partsT at h
  split at h
  · have := List.sizeOf_lt_of_mem h; simp [Term.list] at this ⊢; omega
  · split at h
    · obtain ⟨⟨s, z⟩, hz, rfl⟩ := List.mem_map.1 h
      have := List.sizeOf_lt_of_mem hz; simp [Term.fields] at this ⊢; omega
    · cases h
theorem Term.byParts {P : Term → Prop} (h : ∀ t, (∀ u, u ∈ partsT t → P u) → P t) (t : Term) : P t :=
  h t (fun u hu => Term.byParts h u)
termination_by SizeOf.sizeOf t
decreasing_by exact partsT_lt hu
end Go.Proofs.Ytkmhecgagibgjaa

namespace Go.Proofs.Ytkmhecgagibgjaa
open Go Aw
set_option linter.unusedVariables false
set_option linter.unusedSimpArgs false
set_option maxRecDepth 8000
theorem app1 {α : Type} {b : Nat} {acc : List α} {x : α} (hb : b ≤ 1024) (h : acc.length ≤ 1073741824) : appO b acc [x] = some (acc ++ [x]) := by
  have h1 : (acc.length + 1) * b ≤ (1073741824 + 1) * 1024 := Nat.mul_le_mul (by omega) hb
  unfold appO
  rw [Nat.ble_eq_true_of_le (by simp only [List.length_cons, List.length_nil, Nat.zero_add]; omega)]; rfl
theorem app0 {α : Type} {b : Nat} {l : List α} (hb : b ≤ 1024) (h : l.length ≤ 1073741824) : appO b [] l = some l := by
  have h1 : l.length * b ≤ 1073741824 * 1024 := Nat.mul_le_mul h hb
  unfold appO
  rw [Nat.ble_eq_true_of_le (by simp only [List.length_nil, Nat.zero_add]; omega)]; rfl
theorem bkTs_mem : ∀ {l : List Term} {u : Term}, u ∈ l → bkT u ≤ bkTs l
  | x :: r, u, h => by
    rw [bkTs]; rcases List.mem_cons.1 h with rfl | h
    · omega
    · have := bkTs_mem h; omega
theorem bkEs_mem : ∀ {l : List (Str × Term)} {u : Str × Term}, u ∈ l → bkT u.2 ≤ bkEs l
  | (s, x) :: r, u, h => by
    rw [bkEs]; rcases List.mem_cons.1 h with rfl | h
    · show bkT x ≤ _; omega
    · have := bkEs_mem h; omega
theorem bkTs_len : ∀ (l : List Term), l.length ≤ bkTs l
  | [] => by simp
  | .mk k b i f s y r l dd c v :: q => by rw [bkTs, List.length_cons, bkT]; have := bkTs_len q; omega
theorem bkEs_len : ∀ (l : List (Str × Term)), l.length ≤ bkEs l
  | [] => by simp
  | (s, x) :: q => by rw [bkEs, List.length_cons]; have := bkEs_len q; omega
theorem bkT_mk (t : Term) : bkT t = t.text.length + t.bytes.length + t.cls.length + bkTs t.list + bkEs t.fields + 12 := by cases t; rw [bkT]; rfl
theorem bk_list {t u : Term} (h : u ∈ t.list) : bkT u < bkT t := by have := bkTs_mem h; have := bkT_mk t; omega
theorem bk_fields {t : Term} {u : Str × Term} (h : u ∈ t.fields) : bkT u.2 < bkT t := by have := bkEs_mem h; have := bkT_mk t; omega
theorem len_list (t : Term) : t.list.length ≤ bkT t := by have := bkTs_len t.list; have := bkT_mk t; omega
theorem len_fields (t : Term) : t.fields.length ≤ bkT t := by have := bkEs_len t.fields; have := bkT_mk t; omega
theorem len_bytes (t : Term) : t.bytes.length ≤ bkT t := by have := bkT_mk t; omega
theorem take_snoc {α β : Type} {l : List α} {f : α → β} {i : Nat} {x : α} (h : l[i]? = some x) : (l.take i).map f ++ [f x] = (l.take (i + 1)).map f := by
  obtain ⟨hi, rfl⟩ := List.getElem?_eq_some_iff.1 h
  rw [List.take_add_one, List.getElem?_eq_getElem hi, List.map_append]; rfl
end Go.Proofs.Ytkmhecgagibgjaa

namespace Go.Proofs.Ytkmhecgagibgjaa
open Go Aw
set_option linter.unusedVariables false
set_option linter.unusedSimpArgs false
set_option maxRecDepth 8000
theorem bl_l (t : Term) (hl : ∀ u, u ∈ t.list → p_mk_Built u = some (bu u)) (hb : t.list.length ≤ 1073741824) : ∀ k i, k + i = t.list.length → mk_Built_l1 p_mk_Built t ((t.list.take i).map bu) i = some (.list (t.list.map bu))
  | 0, i, h => by
    rw [mk_Built_l1_eq]
    simp only [mk_Built_l1b, lt_f (by omega : ¬ i < t.list.length), cond_false]
    rw [List.take_of_length_le (by omega)]
  | k + 1, i, h => by
    obtain ⟨x, hx, _⟩ := dropc (by omega : i < t.list.length)
    rw [mk_Built_l1_eq]
    simp only [mk_Built_l1b, lt_t (by omega : i < t.list.length), cond_true, hx, Option.bind_some, hl x (List.mem_of_getElem? hx), app1 (b := 16) (by omega) (show ((t.list.take i).map bu).length ≤ 1073741824 by simp; omega), take_snoc hx]
    exact bl_l t hl hb k (i + 1) (by omega)
theorem bd_l (l : List (Str × Term)) (hl : ∀ u, u ∈ l → p_mk_Built u.2 = some (bu u.2)) (hb : l.length ≤ 1073741824) : ∀ k i, k + i = l.length → mk_Dict_l1 p_mk_Built l ((l.take i).map buE) i = some (l.map buE)
  | 0, i, h => by
    rw [mk_Dict_l1_eq]
    simp only [mk_Dict_l1b, lt_f (by omega : ¬ i < l.length), cond_false]
    rw [List.take_of_length_le (by omega)]
  | k + 1, i, h => by
    obtain ⟨x, hx, _⟩ := dropc (by omega : i < l.length)
    rw [mk_Dict_l1_eq]
    simp only [mk_Dict_l1b, lt_t (by omega : i < l.length), cond_true, hx, Option.bind_some, hl x (List.mem_of_getElem? hx), app1 (b := 32) (x := (x.1, bu x.2)) (by omega) (show ((l.take i).map buE).length ≤ 1073741824 by simp; omega)]
    have : ((l.take i).map buE) ++ [(x.1, bu x.2)] = (l.take (i + 1)).map buE := take_snoc (f := buE) hx
    rw [this]
    exact bd_l l hl hb k (i + 1) (by omega)
theorem mk_Built_eqN : ∀ (n : Nat) (t : Term), bkT t ≤ n → n ≤ 268435456 → p_mk_Built t = some (bu t) := by
  intro n
  induction n with
  | zero => intro t h _; have := bkT_mk t; omega
  | succ n ih =>
    intro t h hn
    have hl : ∀ u, u ∈ t.list → p_mk_Built u = some (bu u) := fun u hu => ih u (by have := bk_list hu; omega) (by omega)
    have hf : ∀ u, u ∈ t.fields → p_mk_Built u.2 = some (bu u.2) := fun u hu => ih u.2 (by have := bk_fields hu; omega) (by omega)
    have hd : p_mk_Dict t.fields = some (t.fields.map buE) := by
      rw [e_mk_Dict, b_mk_Dict]
      exact bd_l t.fields hf (by have := len_fields t; omega) t.fields.length 0 (by omega)
    have hll : mk_Built_l1 p_mk_Built t [] 0 = some (.list (t.list.map bu)) := bl_l t hl (by have := len_list t; omega) t.list.length 0 (by omega)
    have hb := bu_c t
    rw [e_mk_Built, b_mk_Built]
    generalize bu t = x at hb
    cases hb with
    | bytes hk => simp only [hk, app0 (by omega : 1 ≤ 1024) (show t.bytes.length ≤ 1073741824 by have := len_bytes t; omega)]; rfl
    | list hk => simp only [hk, hll]; rfl
    | dict hk => simp only [hk, hd]; rfl
    | record hk => simp only [hk, hd]; rfl
    | alien hk =>
      have e : ∀ k : Int, 1 ≤ k → k ≤ 11 → (t.kind == k) = false := fun k h1 h2 => by simp; omega
      simp only [e 1 (by omega) (by omega), e 2 (by omega) (by omega), e 3 (by omega) (by omega), e 4 (by omega) (by omega), e 5 (by omega) (by omega), e 6 (by omega) (by omega), e 7 (by omega) (by omega), e 8 (by omega) (by omega),
        e 9 (by omega) (by omega), e 10 (by omega) (by omega), e 11 (by omega) (by omega), cond_false, alien_eq, Option.bind_some]
    | _ hk => simp only [hk]; rfl
theorem mk_Built_eq (t : Term) (h : bkT t ≤ 268435456) : p_mk_Built t = some (bu t) := mk_Built_eqN _ t h (Nat.le_refl _)
end Go.Proofs.Ytkmhecgagibgjaa

namespace Go.Proofs.Ytkmhecgagibgjaa
open Go Aw
set_option linter.unusedVariables false
set_option linter.unusedSimpArgs false
set_option maxRecDepth 8000
def c3 (a b : Int) : Int := if a < b then -1 else if a > b then 1 else 0
def th (c d : Int) : Int := if c = 0 then d else c
def lexc : List Int → List Int → Int
  | [], [] => 0
  | [], _ :: _ => -1
  | _ :: _, [] => 1
  | a :: x, b :: y => th (c3 a b) (lexc x y)
theorem c3_rng (a b : Int) : c3 a b = -1 ∨ c3 a b = 0 ∨ c3 a b = 1 := by unfold c3; split; (· exact .inl rfl); split; (· exact .inr (.inr rfl)); exact .inr (.inl rfl)
theorem c3_neg (a b : Int) : c3 b a = - c3 a b := by unfold c3; split <;> split <;> (try split) <;> (try split) <;> omega
theorem c3_zero {a b : Int} : c3 a b = 0 ↔ a = b := by unfold c3; split <;> (try split) <;> omega
theorem c3_self (a : Int) : c3 a a = 0 := c3_zero.2 rfl
theorem c3_lt {a b : Int} : c3 a b = -1 ↔ a < b := by unfold c3; split <;> (try split) <;> omega
theorem c3_shift (a b k : Int) : c3 (a + k) (b + k) = c3 a b := by unfold c3; split <;> split <;> (try split) <;> (try split) <;> omega
theorem th_assoc (a b c : Int) : th (th a b) c = th a (th b c) := by unfold th; by_cases h : a = 0 <;> by_cases h2 : b = 0 <;> simp_all
theorem lexc_rng : ∀ x y, lexc x y = -1 ∨ lexc x y = 0 ∨ lexc x y = 1
  | [], [] => .inr (.inl rfl)
  | [], _ :: _ => .inl rfl
  | _ :: _, [] => .inr (.inr rfl)
  | a :: x, b :: y => by
    rw [lexc]; unfold th; split
    · exact lexc_rng x y
    · exact c3_rng a b
theorem lexc_neg : ∀ x y, lexc y x = - lexc x y
  | [], [] => rfl
  | [], _ :: _ => rfl
  | _ :: _, [] => rfl
  | a :: x, b :: y => by
    have := lexc_neg x y
    have := c3_neg a b
    rw [lexc, lexc]; unfold th; split <;> split <;> omega
theorem lexc_trans : ∀ x y z, lexc x y ≤ 0 → lexc y z ≤ 0 → lexc x z ≤ 0 ∧ (lexc x y < 0 ∨ lexc y z < 0 → lexc x z < 0)
  | [], [], [], _, _ => by simp [lexc]
  | [], [], _ :: _, _, _ => by simp [lexc]
  | [], _ :: _, [], _, h => by simp [lexc] at h
  | [], _ :: _, _ :: _, _, _ => by simp [lexc]
  | _ :: _, [], _, h, _ => by simp [lexc] at h
  | _ :: _, _ :: _, [], _, h => by simp [lexc] at h
  | a :: x, b :: y, c :: z, h1, h2 => by
    have ih := lexc_trans x y z
    have ra := c3_rng a b; have rb := c3_rng b c; have rc := c3_rng a c
    have za := @c3_zero a b; have zb := @c3_zero b c; have zc := @c3_zero a c
    have la := @c3_lt a b; have lb := @c3_lt b c; have lc := @c3_lt a c
    rw [lexc] at h1 h2
    rw [lexc, lexc, lexc]
    unfold th at h1 h2 ⊢
    by_cases e1 : c3 a b = 0
    · rw [if_pos e1] at h1 ⊢
      by_cases e2 : c3 b c = 0
      · rw [if_pos e2] at h2 ⊢
        rw [if_pos (by omega : c3 a c = 0)]
        exact ih h1 h2
      · rw [if_neg e2] at h2 ⊢
        have : c3 a c = -1 := by omega
        rw [if_neg (by omega), this]; omega
    · rw [if_neg e1] at h1 ⊢
      by_cases e2 : c3 b c = 0
      · rw [if_pos e2] at h2 ⊢
        have : c3 a c = -1 := by omega
        rw [if_neg (by omega), this]; omega
      · rw [if_neg e2] at h2 ⊢
        have : c3 a c = -1 := by omega
        rw [if_neg (by omega), this]; omega
theorem c3_cmp (a b : Int) : (bif decide (a < b) then some (-1 : Int) else bif decide (a > b) then some 1 else some 0) = some (c3 a b) := by
  unfold c3
  by_cases h : a < b
  · rw [decide_eq_true h, if_pos h]; rfl
  · rw [decide_eq_false h, if_neg h, cond_false]
    by_cases h2 : a > b
    · rw [decide_eq_true h2, if_pos h2]; rfl
    · rw [decide_eq_false h2, if_neg h2]; rfl
def cmpS (a b : Str) : Int := if Op.bytesLess a b then -1 else if a == b then 0 else 1
def keyS : Str → List Int
  | [] => [0]
  | c :: r => ((c.toNat : Int) + 1) :: keyS r
theorem bl_cons (a b : UInt8) (x y : Str) : Op.bytesLess (a :: x) (b :: y) = (a < b || (a == b && Op.bytesLess x y)) := rfl
theorem cmpS_cons (a b : UInt8) (x y : Str) : cmpS (a :: x) (b :: y) = th (c3 ((a.toNat : Int) + 1) ((b.toNat : Int) + 1)) (cmpS x y) := by
  unfold cmpS
  rw [bl_cons]
  rcases Nat.lt_trichotomy a.toNat b.toNat with h | h | h
  · have h1 : a < b := UInt8.lt_iff_toNat_lt.2 h
    have : c3 ((a.toNat : Int) + 1) ((b.toNat : Int) + 1) = -1 := c3_lt.2 (by omega)
    rw [this]; simp [h1, th]
  · have h1 : a = b := UInt8.toNat_inj.1 h
    subst h1
    have : c3 ((a.toNat : Int) + 1) ((a.toNat : Int) + 1) = 0 := c3_self _
    rw [this]
    have h2 : ¬ a < a := by rw [UInt8.lt_iff_toNat_lt]; omega
    simp [h2, th]
  · have h1 : ¬ a < b := by rw [UInt8.lt_iff_toNat_lt]; omega
    have h2 : (a == b) = false := by rw [beq_eq_false_iff_ne]; intro e; subst e; omega
    have : c3 ((a.toNat : Int) + 1) ((b.toNat : Int) + 1) = 1 := by unfold c3; rw [if_neg (by omega), if_pos (by omega)]
    have h3 : a ≠ b := by simpa using h2
    rw [this]; simp [h1, h2, th, h3]
theorem keyS_c : ∀ (a b : Str) (r s : List Int), lexc (keyS a ++ r) (keyS b ++ s) = th (cmpS a b) (lexc r s)
  | [], [], r, s => by show th (c3 0 0) _ = _; rfl
  | [], b :: y, r, s => by
    have : c3 0 ((b.toNat : Int) + 1) = -1 := c3_lt.2 (by omega)
    show th (c3 0 ((b.toNat : Int) + 1)) _ = _
    rw [this]; rfl
  | a :: x, [], r, s => by
    have : c3 ((a.toNat : Int) + 1) 0 = 1 := by unfold c3; rw [if_neg (by omega), if_pos (by omega)]
    show th (c3 ((a.toNat : Int) + 1) 0) _ = _
    rw [this]; rfl
  | a :: x, b :: y, r, s => by
    show th (c3 ((a.toNat : Int) + 1) ((b.toNat : Int) + 1)) (lexc (keyS x ++ r) (keyS y ++ s)) = _
    rw [keyS_c x y r s, cmpS_cons, th_assoc]
theorem value_cmp_string_eq (a b : Str) : p_value_cmp_string a b = some (cmpS a b) := by
  simp only [p_value_cmp_string, cmpS]
  cases h : Op.bytesLess a b with
  | true => rfl
  | false => simp only [cond_false, Bool.false_or, Bool.false_eq_true, if_false]; cases a == b <;> rfl
def trI (b : Bool) : Int := if b then 1 else 0
noncomputable def plV (f : Nat) : Int := if shrK .u64 (f : Int) 63 = 1 then notK .u64 f else orK .u64 f 9223372036854775808
mutual
noncomputable def ordF : V → V → Int
  | .bool a, y => match y with | .bool b => c3 (trI a) (trI b) | y => c3 2 (kindOf y)
  | .int a, y => match y with | .int b => c3 a b | y => c3 3 (kindOf y)
  | .float a, y => match y with | .float b => c3 (plV a) (plV b) | y => c3 4 (kindOf y)
  | .text a, y => match y with | .text b => cmpS a b | y => c3 5 (kindOf y)
  | .bytes a, y => match y with | .bytes b => cmpS a b | y => c3 6 (kindOf y)
  | .ref a, y => match y with | .ref b => c3 a b | y => c3 7 (kindOf y)
  | .list a, y => match y with | .list b => ordL a b | y => c3 8 (kindOf y)
  | .dict a, y => match y with | .dict b => ordD a b | y => c3 9 (kindOf y)
  | .record c v a, y => match y with | .record c' v' b => th (cmpS c c') (th (c3 v v') (ordD a b)) | y => c3 10 (kindOf y)
  | .nil, y => c3 1 (kindOf y)
  | .nothing, y => c3 11 (kindOf y)
  | .alien _, y => c3 0 (kindOf y)
noncomputable def ordL : List V → List V → Int
  | [], y => match y with | [] => 0 | _ :: _ => -1
  | a :: x, y => match y with | [] => 1 | b :: y => th (ordF a b) (ordL x y)
noncomputable def ordD : List (Str × V) → List (Str × V) → Int
  | [], y => match y with | [] => 0 | _ :: _ => -1
  | (s, a) :: x, y => match y with | [] => 1 | (t, b) :: y => th (th (cmpS s t) (ordF a b)) (ordD x y)
end
mutual
noncomputable def key : V → List Int
  | .nil => [1]
  | .bool b => [2, trI b]
  | .int i => [3, i]
  | .float f => [4, plV f]
  | .text s => 5 :: keyS s
  | .bytes s => 6 :: keyS s
  | .ref i => [7, i]
  | .list l => 8 :: keyL l
  | .dict l => 9 :: keyD l
  | .record c v l => 10 :: (keyS c ++ (v :: keyD l))
  | .nothing => [11]
  | .alien _ => [0]
noncomputable def keyL : List V → List Int
  | [] => [0]
  | x :: r => 1 :: (key x ++ keyL r)
noncomputable def keyD : List (Str × V) → List Int
  | [] => [0]
  | (s, x) :: r => 1 :: (keyS s ++ (key x ++ keyD r))
end
theorem th_self (a b : Int) : th (c3 a a) b = b := by rw [c3_self]; rfl
theorem th_zero (b : Int) : th b 0 = b := by unfold th; split <;> simp_all
theorem key_head (x : V) : ∃ r, key x = kindOf x :: r := by cases x <;> exact ⟨_, by rw [key]; rfl⟩
theorem key_ne {x y : V} (h : kindOf x ≠ kindOf y) (r s : List Int) : lexc (key x ++ r) (key y ++ s) = th (c3 (kindOf x) (kindOf y)) (lexc r s) := by
  obtain ⟨a, ha⟩ := key_head x
  obtain ⟨b, hb⟩ := key_head y
  rw [ha, hb]
  show th (c3 _ _) _ = _
  have : c3 (kindOf x) (kindOf y) ≠ 0 := fun e => h (c3_zero.1 e)
  unfold th; rw [if_neg this, if_neg this]
mutual
theorem key_c : ∀ (x y : V) (r s : List Int), lexc (key x ++ r) (key y ++ s) = th (ordF x y) (lexc r s)
  | .nil, y, r, s => by
    cases y <;> first | (refine key_ne (x := .nil) ?_ r s; simp [kindOf]; done) | (rw [key]; show th (c3 1 1) _ = _; rw [ordF]; rfl)
  | .nothing, y, r, s => by
    cases y <;> first | (refine key_ne (x := .nothing) ?_ r s; simp [kindOf]; done) | (rw [key]; show th (c3 11 11) _ = _; rw [ordF]; rfl)
  | .alien t, y, r, s => by
    cases y <;> first | (refine key_ne (x := .alien t) ?_ r s; simp [kindOf]; done) | (rw [key, key]; show th (c3 0 0) _ = _; rw [ordF]; rfl)
  | .bool a, y, r, s => by
    cases y <;> first | (refine key_ne (x := .bool a) ?_ r s; simp [kindOf]; done) | (rw [key, key, ordF]; show th (c3 2 2) (th _ _) = _; rw [th_self]; rfl)
  | .int a, y, r, s => by
    cases y <;> first | (refine key_ne (x := .int a) ?_ r s; simp [kindOf]; done) | (rw [key, key, ordF]; show th (c3 3 3) (th _ _) = _; rw [th_self]; rfl)
  | .float a, y, r, s => by
    cases y <;> first | (refine key_ne (x := .float a) ?_ r s; simp [kindOf]; done) | (rw [key, key, ordF]; show th (c3 4 4) (th _ _) = _; rw [th_self]; rfl)
  | .ref a, y, r, s => by
    cases y <;> first | (refine key_ne (x := .ref a) ?_ r s; simp [kindOf]; done) | (rw [key, key, ordF]; show th (c3 7 7) (th _ _) = _; rw [th_self]; rfl)
  | .text a, y, r, s => by
    cases y <;> first | (refine key_ne (x := .text a) ?_ r s; simp [kindOf]; done) | (rw [key, key, ordF]; show th (c3 5 5) (lexc (keyS _ ++ r) (keyS _ ++ s)) = _; rw [th_self, keyS_c])
  | .bytes a, y, r, s => by
    cases y <;> first | (refine key_ne (x := .bytes a) ?_ r s; simp [kindOf]; done) | (rw [key, key, ordF]; show th (c3 6 6) (lexc (keyS _ ++ r) (keyS _ ++ s)) = _; rw [th_self, keyS_c])
  | .list a, y, r, s => by
    cases y <;> first | (refine key_ne (x := .list a) ?_ r s; simp [kindOf]; done) | (rw [key, key, ordF]; show th (c3 8 8) (lexc (keyL _ ++ r) (keyL _ ++ s)) = _; rw [th_self, keyL_c])
  | .dict a, y, r, s => by
    cases y <;> first | (refine key_ne (x := .dict a) ?_ r s; simp [kindOf]; done) | (rw [key, key, ordF]; show th (c3 9 9) (lexc (keyD _ ++ r) (keyD _ ++ s)) = _; rw [th_self, keyD_c])
  | .record c v a, y, r, s => by
    cases y <;> first
      | (refine key_ne (x := .record c v a) ?_ r s; simp [kindOf]; done)
      | (rw [key, key, ordF]
         show th (c3 10 10) (lexc ((keyS _ ++ (_ :: keyD _)) ++ r) ((keyS _ ++ (_ :: keyD _)) ++ s)) = _
         rw [th_self, List.append_assoc, List.append_assoc, keyS_c]
         show th _ (th (c3 _ _) (lexc (keyD _ ++ r) (keyD _ ++ s))) = _
         rw [keyD_c, th_assoc, th_assoc])
theorem keyL_c : ∀ (x y : List V) (r s : List Int), lexc (keyL x ++ r) (keyL y ++ s) = th (ordL x y) (lexc r s)
  | [], [], r, s => by rw [keyL, ordL]; rfl
  | [], b :: y, r, s => by rw [keyL, keyL, ordL]; rfl
  | a :: x, [], r, s => by rw [keyL, keyL, ordL]; rfl
  | a :: x, b :: y, r, s => by
    rw [keyL, keyL, ordL]
    show th (c3 1 1) (lexc ((key a ++ keyL x) ++ r) ((key b ++ keyL y) ++ s)) = _
    rw [th_self, List.append_assoc, List.append_assoc, key_c a b, keyL_c x y r s, th_assoc]
theorem keyD_c : ∀ (x y : List (Str × V)) (r s : List Int), lexc (keyD x ++ r) (keyD y ++ s) = th (ordD x y) (lexc r s)
  | [], [], r, s => by rw [keyD, ordD]; rfl
  | [], (t, b) :: y, r, s => by rw [keyD, keyD, ordD]; rfl
  | (u, a) :: x, [], r, s => by rw [keyD, keyD, ordD]; rfl
  | (u, a) :: x, (t, b) :: y, r, s => by
    rw [keyD, keyD, ordD]
    show th (c3 1 1) (lexc ((keyS u ++ (key a ++ keyD x)) ++ r) ((keyS t ++ (key b ++ keyD y)) ++ s)) = _
    simp only [List.append_assoc]
    rw [th_self, keyS_c, key_c a b, keyD_c x y r s, th_assoc, th_assoc]
end
theorem ord_key (x y : V) : ordF x y = lexc (key x) (key y) := by
  have := key_c x y [] []
  rw [List.append_nil, List.append_nil] at this
  rw [this]; exact (th_zero _).symm
end Go.Proofs.Ytkmhecgagibgjaa

namespace Go.Proofs.Ytkmhecgagibgjaa
open Go Aw
set_option linter.unusedVariables false
set_option linter.unusedSimpArgs false
set_option maxRecDepth 8000
def Fine (x : V) : Prop := ∃ n dp d, (partF x n dp d).ok = true
theorem partsF_ok {d : Int} : ∀ {l : List V} {n dp : Int}, (partsF l n dp d).ok = true → ∀ y, y ∈ l → ∃ n dp, (partF y n dp d).ok = true
  | x :: r, n, dp, h, y, hy => by
    rw [partsF_cons] at h
    cases hk : (partF x n dp d).ok with
    | false => rw [if_neg (by simp [hk])] at h; rw [hk] at h; cases h
    | true =>
      rw [if_pos hk] at h
      rcases List.mem_cons.1 hy with rfl | hy
      · exact ⟨n, dp, hk⟩
      · exact partsF_ok h y hy
theorem Fine.own {x : V} (h : Fine x) : nearE x = 0 ∧ ∀ y, y ∈ x.parts → Fine y := by
  obtain ⟨n, dp, d, h⟩ := h
  rw [partF_eq] at h
  split at h
  · rename_i ho
    exact ⟨(own_zero ho).2.2, fun y hy => let ⟨n', dp', h'⟩ := partsF_ok h y hy; ⟨n', dp', _, h'⟩⟩
  · cases h
theorem check_fine {x : V} (h : (checkF x).2 = 0) : Fine x ∧ checkF x = (0, 0) := by
  unfold checkF at h ⊢
  cases hk : (partF x 0 0 1).ok with
  | true => exact ⟨⟨0, 0, 1, hk⟩, rfl⟩
  | false =>
    rw [if_neg (by simp [hk])] at h
    exact absurd h ((part_facts x 1 0 0).bad hk)
theorem ne_t {a : Int} (h : a ≠ 0) : (a != 0) = true := by simpa using h
theorem fieldsE_len {l : List Str} (h : fieldsE l = 0) : l.length ≤ 4096 := by
  unfold fieldsE at h
  split at h
  · cases h
  · omega
theorem near_list {l : List V} (h : nearE (.list l) = 0) : l.length ≤ 4096 := by
  simp only [nearE] at h
  split at h
  · cases h
  · omega
theorem near_rec {c : Str} {v : Int} {l : List (Str × V)} (h : nearE (.record c v l) = 0) : (1 ≤ v ∧ v ≤ 1000) ∧ l.length ≤ 4096 := by
  simp only [nearE] at h
  split at h
  · cases h
  · split at h
    · cases h
    · have := fieldsE_len h; rw [List.length_map] at this; omega
theorem near_dict {l : List (Str × V)} (h : nearE (.dict l) = 0) : l.length ≤ 4096 := by
  have := fieldsE_len h; rwa [List.length_map] at this
end Go.Proofs.Ytkmhecgagibgjaa

namespace Go.Proofs.Ytkmhecgagibgjaa
open Go Aw
set_option linter.unusedVariables false
set_option linter.unusedSimpArgs false
set_option maxRecDepth 8000
theorem value_cmp_int_eq (a b : Int) : p_value_cmp_int a b = some (c3 a b) := c3_cmp a b
theorem value_cmp_int64_eq (a b : Int) : p_value_cmp_int64 a b = some (c3 a b) := c3_cmp a b
theorem value_cmp_uint64_eq (a b : Int) : p_value_cmp_uint64 a b = some (c3 a b) := c3_cmp a b
theorem value_cmp_ref_eq (a b : Int) : p_value_cmp_api_Ref a b = some (c3 a b) := c3_cmp a b
theorem value_truth_eq (b : Bool) : p_value_truth b = some (trI b) := by cases b <;> rfl
theorem value_place_eq (f : Nat) : p_value_place f = some (plV f) := by
  unfold p_value_place plV
  by_cases h : shrK .u64 (f : Int) 63 = 1
  · rw [if_pos h, h]; rfl
  · rw [if_neg h]
    have : (shrK .u64 (f : Int) 63 == 1) = false := by simpa using h
    rw [this]; rfl
theorem ge_t {i n : Nat} (h : n ≤ i) : decide ((i : Int) ≥ (n : Int)) = true := decide_eq_true (by omega)
theorem ge_f {i n : Nat} (h : ¬ n ≤ i) : decide ((i : Int) ≥ (n : Int)) = false := decide_eq_false (by omega)
theorem th_some (c d : Int) : (bif c != 0 then some c else some d) = some (th c d) := by
  unfold th
  by_cases h : c = 0
  · subst h; rfl
  · have : (c != 0) = true := by simpa using h
    rw [this, if_neg h]; rfl
theorem byte_cmp_eq (a b : UInt8) : p_cmp_Compare_byte a b = some (c3 ((a.toNat : Int) + 1) ((b.toNat : Int) + 1)) := by
  have h1 : ∀ x : UInt8, p_cmp_isNaN_byte x = some false := fun x => by unfold p_cmp_isNaN_byte; simp
  simp only [p_cmp_Compare_byte, h1, Option.bind_some, cond_false, c3_shift]
  exact c3_cmp _ _
theorem bytes_l (a b : Str) : ∀ k i, k + i = a.length → i ≤ b.length → slices_Compare_byte_byte_l1 a b i = some (cmpS (a.drop i) (b.drop i))
  | 0, i, h, hb => by
    rw [slices_Compare_byte_byte_l1_eq]
    simp only [slices_Compare_byte_byte_l1b, lt_f (by omega : ¬ i < a.length), cond_false]
    rw [List.drop_of_length_le (by omega : a.length ≤ i)]
    by_cases hl : a.length < b.length
    · obtain ⟨y, hy, hd⟩ := dropc (by omega : i < b.length)
      rw [lt_t hl, hd]; rfl
    · rw [lt_f hl, List.drop_of_length_le (by omega : b.length ≤ i)]; rfl
  | k + 1, i, h, hb => by
    obtain ⟨x, hx, hdx⟩ := dropc (by omega : i < a.length)
    rw [slices_Compare_byte_byte_l1_eq]
    simp only [slices_Compare_byte_byte_l1b, lt_t (by omega : i < a.length), cond_true, hx, Option.bind_some]
    by_cases hl : i < b.length
    · obtain ⟨y, hy, hdy⟩ := dropc hl
      rw [ge_f (by omega : ¬ b.length ≤ i), hdx, hdy, cmpS_cons]
      simp only [cond_false, hy, Option.bind_some, byte_cmp_eq, bytes_l a b k (i + 1) (by omega) (by omega), th_some]
    · rw [ge_t (by omega : b.length ≤ i), hdx, List.drop_of_length_le (by omega : b.length ≤ i)]; rfl
theorem bytes_cmp_eq (a b : Str) : p_slices_Compare_byte_byte a b = some (cmpS a b) := bytes_l a b a.length 0 (by omega) (by omega)
theorem vl_l (a b : List V) (hab : ∀ x, x ∈ a → ∀ y, y ∈ b → p_value_order x y = some (ordF x y)) : ∀ k i, k + i = a.length → i ≤ b.length → slices_CompareFunc_api_List_api_List_any_any_value_order_l1 p_value_order a b i = some (ordL (a.drop i) (b.drop i))
  | 0, i, h, hb => by
    rw [slices_CompareFunc_api_List_api_List_any_any_value_order_l1_eq]
    simp only [slices_CompareFunc_api_List_api_List_any_any_value_order_l1b, lt_f (by omega : ¬ i < a.length), cond_false]
    rw [List.drop_of_length_le (by omega : a.length ≤ i)]
    by_cases hl : a.length < b.length
    · obtain ⟨y, hy, hd⟩ := dropc (by omega : i < b.length)
      rw [lt_t hl, hd, ordL]; rfl
    · rw [lt_f hl, List.drop_of_length_le (by omega : b.length ≤ i), ordL]; rfl
  | k + 1, i, h, hb => by
    obtain ⟨x, hx, hdx⟩ := dropc (by omega : i < a.length)
    rw [slices_CompareFunc_api_List_api_List_any_any_value_order_l1_eq]
    simp only [slices_CompareFunc_api_List_api_List_any_any_value_order_l1b, lt_t (by omega : i < a.length), cond_true, hx, Option.bind_some]
    by_cases hl : i < b.length
    · obtain ⟨y, hy, hdy⟩ := dropc hl
      rw [ge_f (by omega : ¬ b.length ≤ i), hdx, hdy, ordL]
      simp only [cond_false, hy, Option.bind_some, hab x (List.mem_of_getElem? hx) y (List.mem_of_getElem? hy), vl_l a b hab k (i + 1) (by omega) (by omega), th_some]
    · rw [ge_t (by omega : b.length ≤ i), hdx, List.drop_of_length_le (by omega : b.length ≤ i), ordL]; rfl
theorem field_eq (p q : Str × V) (h : p_value_order p.2 q.2 = some (ordF p.2 q.2)) : p_value_field p q = some (th (cmpS p.1 q.1) (ordF p.2 q.2)) := by
  rw [e_value_field, b_value_field]
  simp only [value_cmp_string_eq, Option.bind_some, h, th_some]
theorem vd_l (a b : List (Str × V)) (hab : ∀ x, x ∈ a → ∀ y, y ∈ b → p_value_order x.2 y.2 = some (ordF x.2 y.2)) : ∀ k i, k + i = a.length → i ≤ b.length → slices_CompareFunc_api_Dict_api_Dict_api_Field_api_Field_value_field_l1 p_value_field a b i = some (ordD (a.drop i) (b.drop i))
  | 0, i, h, hb => by
    rw [slices_CompareFunc_api_Dict_api_Dict_api_Field_api_Field_value_field_l1_eq]
    simp only [slices_CompareFunc_api_Dict_api_Dict_api_Field_api_Field_value_field_l1b, lt_f (by omega : ¬ i < a.length), cond_false]
    rw [List.drop_of_length_le (by omega : a.length ≤ i)]
    by_cases hl : a.length < b.length
    · obtain ⟨y, hy, hd⟩ := dropc (by omega : i < b.length)
      rw [lt_t hl, hd, ordD]; rfl
    · rw [lt_f hl, List.drop_of_length_le (by omega : b.length ≤ i), ordD]; rfl
  | k + 1, i, h, hb => by
    obtain ⟨x, hx, hdx⟩ := dropc (by omega : i < a.length)
    rw [slices_CompareFunc_api_Dict_api_Dict_api_Field_api_Field_value_field_l1_eq]
    simp only [slices_CompareFunc_api_Dict_api_Dict_api_Field_api_Field_value_field_l1b, lt_t (by omega : i < a.length), cond_true, hx, Option.bind_some]
    obtain ⟨sx, vx⟩ := x
    by_cases hl : i < b.length
    · obtain ⟨y, hy, hdy⟩ := dropc hl
      obtain ⟨sy, vy⟩ := y
      rw [ge_f (by omega : ¬ b.length ≤ i), hdx, hdy, ordD]
      simp only [cond_false, hy, Option.bind_some, field_eq _ _ (hab _ (List.mem_of_getElem? hx) _ (List.mem_of_getElem? hy)), vd_l a b hab k (i + 1) (by omega) (by omega), th_some]
    · rw [ge_t (by omega : b.length ≤ i), hdx, List.drop_of_length_le (by omega : b.length ≤ i), ordD]; rfl
theorem dict_eq (a b : List (Str × V)) (hab : ∀ x, x ∈ a → ∀ y, y ∈ b → p_value_order x.2 y.2 = some (ordF x.2 y.2)) : p_slices_CompareFunc_api_Dict_api_Dict_api_Field_api_Field_value_field a b = some (ordD a b) := by
  rw [e_slices_CompareFunc_api_Dict_api_Dict_api_Field_api_Field_value_field, b_slices_CompareFunc_api_Dict_api_Dict_api_Field_api_Field_value_field]
  exact vd_l a b hab a.length 0 (by omega) (by omega)
theorem list_eq (a b : List V) (hab : ∀ x, x ∈ a → ∀ y, y ∈ b → p_value_order x y = some (ordF x y)) : p_slices_CompareFunc_api_List_api_List_any_any_value_order a b = some (ordL a b) := by
  rw [e_slices_CompareFunc_api_List_api_List_any_any_value_order, b_slices_CompareFunc_api_List_api_List_any_any_value_order]
  exact vl_l a b hab a.length 0 (by omega) (by omega)
theorem ordF_ne {x y : V} (h : kindOf x ≠ kindOf y) : ordF x y = c3 (kindOf x) (kindOf y) := by
  rw [ord_key]
  have := key_ne h [] []
  rw [List.append_nil, List.append_nil] at this
  rw [this]; exact th_zero _
theorem value_order_eq (x : V) : ∀ y, Fine x → Fine y → p_value_order x y = some (ordF x y) := by
  induction x using V.byParts with
  | _ x ih =>
  intro y hx hy
  have hpx := hx.own.2
  have hpy := hy.own.2
  have e0 : ((0 : Int) != 0) = false := rfl
  rw [e_value_order, b_value_order]
  simp only [value_kind_eq, value_cmp_int_eq, Option.bind_some]
  by_cases hk : kindOf x = kindOf y
  · rw [hk, c3_self, e0, cond_false]
    cases x with
    | nil => cases y <;> first | (simp [kindOf] at hk; done) | (rw [ordF]; rfl)
    | nothing => have := hx.own.1; simp [nearE] at this
    | alien t => have := hx.own.1; simp [nearE] at this
    | bool a => cases y <;> first | (simp [kindOf] at hk; done) | (rw [ordF]; simp only [V.isBool, V.asBool, V.theBool, cond_true, value_truth_eq, Option.bind_some, value_cmp_int_eq])
    | int a => cases y <;> first | (simp [kindOf] at hk; done) | (rw [ordF]; simp only [V.isBool, V.isInt, V.asInt, V.theInt, cond_true, cond_false, Option.bind_some, value_cmp_int64_eq])
    | float a => cases y <;> first | (simp [kindOf] at hk; done) | (rw [ordF]; simp only [V.isBool, V.isInt, V.isFloat, V.asFloat, V.theFloat, cond_true, cond_false, Option.bind_some, value_place_eq, value_cmp_uint64_eq])
    | text a => cases y <;> first | (simp [kindOf] at hk; done) | (rw [ordF]; simp only [V.isBool, V.isInt, V.isFloat, V.isText, V.asText, V.theText, cond_true, cond_false, Option.bind_some, value_cmp_string_eq])
    | bytes a => cases y <;> first | (simp [kindOf] at hk; done) | (rw [ordF]; simp only [V.isBool, V.isInt, V.isFloat, V.isText, V.isBytes, V.asBytes, V.theBytes, cond_true, cond_false, Option.bind_some, bytes_cmp_eq])
    | ref a => cases y <;> first | (simp [kindOf] at hk; done) | (rw [ordF]; simp only [V.isBool, V.isInt, V.isFloat, V.isText, V.isBytes, V.isRef, V.asRef, V.theRef, cond_true, cond_false, Option.bind_some, value_cmp_ref_eq])
    | list a =>
      cases y <;> first
        | (simp [kindOf] at hk; done)
        | (rename_i b
           rw [ordF]
           simp only [V.isBool, V.isInt, V.isFloat, V.isText, V.isBytes, V.isRef, V.isList, V.asList, V.theList, cond_true, cond_false, Option.bind_some]
           rw [list_eq a b (fun u hu v hv => ih u hu v (hpx u hu) (hpy v hv))]; rfl)
    | dict a =>
      cases y <;> first
        | (simp [kindOf] at hk; done)
        | (rename_i b
           rw [ordF]
           simp only [V.isBool, V.isInt, V.isFloat, V.isText, V.isBytes, V.isRef, V.isList, V.isDict, V.asDict, V.theDict, cond_true, cond_false, Option.bind_some]
           rw [dict_eq a b (fun u hu v hv => ih u.2 (List.mem_map_of_mem hu) v.2 (hpx _ (List.mem_map_of_mem hu)) (hpy _ (List.mem_map_of_mem hv)))]; rfl)
    | record c v a =>
      cases y <;> first
        | (simp [kindOf] at hk; done)
        | (rename_i b
           rw [ordF]
           simp only [V.isBool, V.isInt, V.isFloat, V.isText, V.isBytes, V.isRef, V.isList, V.isDict, V.isRec, V.asRec, V.theRec, cond_true, cond_false, Option.bind_some, value_cmp_string_eq, value_cmp_int_eq]
           rw [dict_eq a b (fun u hu v hv => ih u.2 (List.mem_map_of_mem hu) v.2 (hpx _ (List.mem_map_of_mem hu)) (hpy _ (List.mem_map_of_mem hv)))]
           simp only [Option.bind_some, th_some])
  · have h2 : c3 (kindOf x) (kindOf y) ≠ 0 := fun e => hk (c3_zero.1 e)
    have e1 : (c3 (kindOf x) (kindOf y) != 0) = true := by simpa using h2
    rw [e1, cond_true, ordF_ne hk]
noncomputable def sameF (x y : V) : Bool := (checkF x).2 == 0 && ((checkF y).2 == 0 && ordF x y == 0)
theorem value_Same_eq (x y : V) : p_value_Same x y = some (sameF x y) := by
  simp only [p_value_Same, value_check_eq, Option.bind_some, sameF]
  by_cases hx : (checkF x).2 = 0
  · have ex : ((checkF x).2 == 0) = true := by simpa using hx
    rw [ex, cond_true, Bool.true_and]
    by_cases hy : (checkF y).2 = 0
    · have ey : ((checkF y).2 == 0) = true := by simpa using hy
      rw [ey, cond_true, Bool.true_and, value_order_eq x y (check_fine hx).1 (check_fine hy).1]; rfl
    · have ey : ((checkF y).2 == 0) = false := by simpa using hy
      rw [ey]; rfl
  · have ex : ((checkF x).2 == 0) = false := by simpa using hx
    rw [ex]; rfl
end Go.Proofs.Ytkmhecgagibgjaa

namespace Go.Proofs.Ytkmhecgagibgjaa
open Go Aw
set_option linter.unusedVariables false
set_option linter.unusedSimpArgs false
set_option maxRecDepth 8000
mutual
def cnt : V → Int
  | .list l => 1 + cntL l
  | .dict l => 1 + cntD l
  | .record _ _ l => 1 + cntD l
  | _ => 1
def cntL : List V → Int
  | [] => 0
  | x :: r => cnt x + cntL r
def cntD : List (Str × V) → Int
  | [] => 0
  | (_, x) :: r => cnt x + cntD r
end
mutual
def dpt : V → Int
  | .list l => 1 + dptL l
  | .dict l => 1 + dptD l
  | .record _ _ l => 1 + dptD l
  | _ => 1
def dptL : List V → Int
  | [] => 0
  | x :: r => max (dpt x) (dptL r)
def dptD : List (Str × V) → Int
  | [] => 0
  | (_, x) :: r => max (dpt x) (dptD r)
end
theorem cntD_map : ∀ l, cntD l = cntL (l.map (·.2))
  | [] => by simp only [cntD, cntL, List.map_nil]
  | (s, x) :: r => by simp only [cntD, cntL, List.map_cons, cntD_map r]
theorem dptD_map : ∀ l, dptD l = dptL (l.map (·.2))
  | [] => by simp only [dptD, dptL, List.map_nil]
  | (s, x) :: r => by simp only [dptD, dptL, List.map_cons, dptD_map r]
theorem cnt_eq (x : V) : cnt x = 1 + cntL x.parts := by cases x <;> simp only [cnt, V.parts, cntD_map, cntL] <;> rfl
theorem dpt_eq (x : V) : dpt x = 1 + dptL x.parts := by cases x <;> simp only [dpt, V.parts, dptD_map, dptL] <;> rfl
inductive Near : V → Prop
  | mk {x : V} : nearE x = 0 → (∀ y, y ∈ x.parts → Near y) → Near x
theorem Near.own {x : V} (h : Near x) : nearE x = 0 := by cases h; assumption
theorem Near.part {x : V} (h : Near x) : ∀ y, y ∈ x.parts → Near y := by cases h; assumption
theorem cnt_pos (x : V) : 1 ≤ cnt x ∧ 1 ≤ dpt x := by
  induction x using V.byParts with
  | _ x ih =>
    rw [cnt_eq, dpt_eq]
    have : ∀ l : List V, (∀ y, y ∈ l → 1 ≤ cnt y ∧ 1 ≤ dpt y) → 0 ≤ cntL l ∧ 0 ≤ dptL l := by
      intro l
      induction l with
      | nil => intro _; simp [cntL, dptL]
      | cons y r ihr =>
        intro h
        have h1 := h y (by simp)
        have h2 := ihr (fun z hz => h z (by simp [hz]))
        simp only [cntL, dptL]; omega
    have := this x.parts ih
    omega
theorem own_iff {x : V} {n d : Int} : ownE x n d = 0 ↔ n < 16384 ∧ d ≤ 64 ∧ nearE x = 0 := by
  constructor
  · exact own_zero
  · rintro ⟨h1, h2, h3⟩
    unfold ownE; rw [if_neg (by omega)]; exact h3
theorem near_far {x : V} (h : nearE x = 0) : farE x = 2 := by cases x <;> first | rfl | (simp [nearE] at h)
structure Goes (x : V) : Prop where
  yes : ∀ n dp d, Near x → d - 1 ≤ dp → n + cnt x ≤ 16384 → d + dpt x - 1 ≤ 64 → partF x n dp d = ⟨true, n + cnt x, max dp (d + dpt x - 1), 0⟩
  ok : ∀ n dp d, (partF x n dp d).ok = true → Near x ∧ n + cnt x ≤ 16384 ∧ d + dpt x - 1 ≤ 64 ∧ (partF x n dp d).n = n + cnt x
  long : ∀ n dp d, Near x → (partF x n dp d).ok = false → (partF x n dp d).why = 2
theorem goes_l {l : List V} (h : ∀ y, y ∈ l → Goes y) :
    (∀ n dp d, (∀ y, y ∈ l → Near y) → d - 1 ≤ dp → n + cntL l ≤ 16384 → d + dptL l - 1 ≤ 64 → partsF l n dp d = ⟨true, n + cntL l, max dp (d + dptL l - 1), 0⟩) ∧
    (∀ n dp d, n ≤ 16384 → d ≤ 65 → (partsF l n dp d).ok = true → (∀ y, y ∈ l → Near y) ∧ n + cntL l ≤ 16384 ∧ d + dptL l - 1 ≤ 64 ∧ (partsF l n dp d).n = n + cntL l) ∧
    (∀ n dp d, (∀ y, y ∈ l → Near y) → (partsF l n dp d).ok = false → (partsF l n dp d).why = 2) := by
  induction l with
  | nil =>
    refine ⟨fun n dp d _ hd _ _ => ?_, fun n dp d hn hd _ => ?_, fun n dp d _ hk => ?_⟩
    · rw [partsF_nil, cntL, dptL]; congr 1 <;> omega
    · rw [partsF_nil, cntL, dptL]; exact ⟨by simp, by omega, by omega, by simp⟩
    · rw [partsF_nil] at hk; cases hk
  | cons x r ih =>
    have hx := h x (by simp)
    obtain ⟨i1, i2, i3⟩ := ih (fun y hy => h y (by simp [hy]))
    have hp := cnt_pos x
    have hr : 0 ≤ cntL r ∧ 0 ≤ dptL r := by
      clear i1 i2 i3 ih h hx
      induction r with
      | nil => simp [cntL, dptL]
      | cons y q ihq => have := cnt_pos y; simp only [cntL, dptL]; omega
    refine ⟨fun n dp d hnr hd hn hdd => ?_, fun n dp d hn hd hk => ?_, fun n dp d hnr hk => ?_⟩
    · rw [cntL] at hn ⊢
      rw [dptL] at hdd ⊢
      have e := hx.yes n dp d (hnr x (by simp)) hd (by omega) (by omega)
      rw [partsF_cons, e, if_pos rfl]
      rw [i1 _ _ d (fun y hy => hnr y (by simp [hy])) (by simp only; omega) (by simp only; omega) (by omega)]
      congr 1
      · simp only; omega
      · simp only; omega
    · rw [partsF_cons] at hk ⊢
      cases hk1 : (partF x n dp d).ok with
      | false => rw [if_neg (by simp [hk1])] at hk; rw [hk1] at hk; cases hk
      | true =>
        rw [if_pos hk1] at hk
        rw [if_pos rfl]
        obtain ⟨a1, a2, a3, a4⟩ := hx.ok n dp d hk1
        rw [a4] at hk ⊢
        obtain ⟨b1, b2, b3, b4⟩ := i2 _ _ d (by omega) hd hk
        rw [cntL, dptL]
        refine ⟨fun y hy => ?_, by omega, by omega, by omega⟩
        rcases List.mem_cons.1 hy with rfl | hy
        · exact a1
        · exact b1 y hy
    · rw [partsF_cons] at hk ⊢
      cases hk1 : (partF x n dp d).ok with
      | false => rw [if_neg (by simp [hk1])]; exact hx.long n dp d (hnr x (by simp)) hk1
      | true =>
        rw [if_pos hk1] at hk
        rw [if_pos rfl]
        exact i3 _ _ d (fun y hy => hnr y (by simp [hy])) hk
theorem goes (x : V) : Goes x := by
  induction x using V.byParts with
  | _ x ih =>
    obtain ⟨i1, i2, i3⟩ := goes_l ih
    have hp := cnt_pos x
    refine ⟨fun n dp d hnr hd hn hdd => ?_, fun n dp d hk => ?_, fun n dp d hnr hk => ?_⟩
    · rw [partF_eq, if_pos (own_iff.2 ⟨by omega, by omega, hnr.own⟩)]
      rw [cnt_eq] at hn ⊢
      rw [dpt_eq] at hdd ⊢
      have hd0 := hp.2
      rw [dpt_eq] at hd0
      rw [i1 _ _ (d + 1) hnr.part (by omega) (by omega) (by omega)]
      congr 1 <;> omega
    · rw [partF_eq] at hk ⊢
      by_cases ho : ownE x n d = 0
      · rw [if_pos ho] at hk ⊢
        have h0 := own_zero ho
        obtain ⟨b1, b2, b3, b4⟩ := i2 _ _ (d + 1) (by omega) (by omega) hk
        rw [cnt_eq, dpt_eq]
        exact ⟨.mk h0.2.2 b1, by omega, by omega, by omega⟩
      · rw [if_neg ho] at hk; cases hk
    · rw [partF_eq] at hk ⊢
      by_cases ho : ownE x n d = 0
      · rw [if_pos ho] at hk ⊢; exact i3 _ _ _ hnr.part hk
      · rw [if_neg ho]
        have : ownE x n d = farE x := by
          unfold ownE at ho ⊢
          split
          · rfl
          · rename_i hc; rw [if_neg hc] at ho; exact absurd hnr.own ho
        show ownE x n d = 2
        rw [this]; exact near_far hnr.own
def Can (x : V) : Prop := Near x ∧ cnt x ≤ 16384 ∧ dpt x ≤ 64
theorem can_ok {x : V} : (partF x 0 0 1).ok = true ↔ Can x := by
  constructor
  · intro h
    obtain ⟨a, b, c, _⟩ := (goes x).ok 0 0 1 h
    exact ⟨a, by omega, by omega⟩
  · rintro ⟨a, b, c⟩
    rw [(goes x).yes 0 0 1 a (by omega) (by omega) (by omega)]
theorem check_can {x : V} (h : Can x) : checkF x = (0, 0) := by unfold checkF; rw [if_pos (can_ok.2 h)]
theorem check_cannot {x : V} (h : ¬ Can x) : (checkF x).2 ≠ 0 := by
  unfold checkF
  have hk : (partF x 0 0 1).ok = false := by
    cases hk : (partF x 0 0 1).ok with
    | false => rfl
    | true => exact absurd (can_ok.1 hk) h
  rw [if_neg (by simp [hk])]
  exact (part_facts x 1 0 0).bad hk
theorem can_fine {x : V} (h : Can x) : Fine x := ⟨0, 0, 1, can_ok.2 h⟩
end Go.Proofs.Ytkmhecgagibgjaa

namespace Go.Proofs.Ytkmhecgagibgjaa
open Go Aw
set_option linter.unusedVariables false
set_option linter.unusedSimpArgs false
set_option maxRecDepth 8000
theorem near_bytes {b : Str} (h : nearE (.bytes b) = 0) : b.length ≤ 65536 := by
  simp only [nearE] at h; split at h <;> omega
end Go.Proofs.Ytkmhecgagibgjaa

namespace Go.Proofs.Ytkmhecgagibgjaa
open Go Aw
set_option linter.unusedVariables false
set_option linter.unusedSimpArgs false
set_option maxRecDepth 8000
theorem rm_ok {n b : Nat} (hb : b ≤ 1024) (hn : n ≤ 1073741824) : roomO n b = some () := by
  have h1 : n * b ≤ 1073741824 * 1024 := Nat.mul_le_mul hn hb
  unfold roomO
  rw [Nat.ble_eq_true_of_le (by omega), Nat.ble_eq_true_of_le (by omega)]; rfl
theorem tk_snoc {α : Type} {l : List α} {i : Nat} {x : α} (h : l[i]? = some x) : l.take i ++ [x] = l.take (i + 1) := by
  rw [List.take_add_one, h]; rfl
theorem cq_l (l : List V) (hl : ∀ u, u ∈ l → p_value_copied u = some u) (hb : l.length ≤ 1073741824) : ∀ k i, k + i = l.length → value_copied_l1 p_value_copied (.list l) (l.take i) i = some (.list l)
  | 0, i, h => by
    rw [value_copied_l1_eq]
    simp only [value_copied_l1b, V.asList, lt_f (by omega : ¬ i < l.length), cond_false]
    rw [List.take_of_length_le (by omega)]
  | k + 1, i, h => by
    obtain ⟨x, hx, _⟩ := dropc (by omega : i < l.length)
    rw [value_copied_l1_eq]
    simp only [value_copied_l1b, V.asList, lt_t (by omega : i < l.length), cond_true, hx, Option.bind_some, hl x (List.mem_of_getElem? hx), app1 (b := 16) (by omega) (show (l.take i).length ≤ 1073741824 by simp; omega), tk_snoc hx]
    exact cq_l l hl hb k (i + 1) (by omega)
theorem cq_d (l : List (Str × V)) (hl : ∀ u, u ∈ l → p_value_copied u.2 = some u.2) (hb : l.length ≤ 1073741824) : ∀ k i, k + i = l.length → value_copiedDict_l1 p_value_copied l (l.take i) i = some l
  | 0, i, h => by
    rw [value_copiedDict_l1_eq]
    simp only [value_copiedDict_l1b, lt_f (by omega : ¬ i < l.length), cond_false]
    rw [List.take_of_length_le (by omega)]
  | k + 1, i, h => by
    obtain ⟨x, hx, _⟩ := dropc (by omega : i < l.length)
    rw [value_copiedDict_l1_eq]
    simp only [value_copiedDict_l1b, lt_t (by omega : i < l.length), cond_true, hx, Option.bind_some, hl x (List.mem_of_getElem? hx), app1 (b := 32) (x := (x.1, x.2)) (by omega) (show (l.take i).length ≤ 1073741824 by simp; omega)]
    rw [show l.take i ++ [(x.1, x.2)] = l.take (i + 1) from tk_snoc hx]
    exact cq_d l hl hb k (i + 1) (by omega)
theorem copied_eq (x : V) : Fine x → p_value_copied x = some x := by
  induction x using V.byParts with
  | _ x ih =>
  intro hx
  have hn := hx.own.1
  have hp : ∀ u, u ∈ x.parts → p_value_copied u = some u := fun u hu => ih u hu (hx.own.2 u hu)
  have hD : ∀ l : List (Str × V), l.length ≤ 4096 → (∀ u, u ∈ l → u.2 ∈ x.parts) → p_value_copiedDict l = some l := fun l hl h => by
    rw [e_value_copiedDict, b_value_copiedDict, rm_ok (by omega) (by omega), Option.bind_some]
    exact cq_d l (fun u hu => hp _ (h u hu)) (by omega) l.length 0 (by omega)
  rw [e_value_copied, b_value_copied]
  cases x with
  | bytes b =>
    have hb := near_bytes hn
    simp only [V.isBytes, V.asBytes, cond_true, app0 (by omega : 1 ≤ 1024) (show b.length ≤ 1073741824 by omega), Option.bind_some]
  | list l =>
    have hb := near_list hn
    simp only [V.isBytes, V.isList, V.asList, cond_true, cond_false, rm_ok (by omega : 16 ≤ 1024) (show l.length ≤ 1073741824 by omega), Option.bind_some]
    exact cq_l l hp (by omega) l.length 0 (by omega)
  | dict l =>
    have hb := near_dict hn
    simp only [V.isBytes, V.isList, V.isDict, V.asDict, cond_true, cond_false, hD l hb (fun u hu => List.mem_map_of_mem hu), Option.bind_some]
  | record c v l =>
    have hb := (near_rec hn).2
    simp only [V.isBytes, V.isList, V.isDict, V.isRec, V.asRec, cond_true, cond_false, Option.bind_some, hD l hb (fun u hu => List.mem_map_of_mem hu)]
  | nothing => simp [nearE] at hn
  | _ => rfl
theorem copy_can {x : V} (h : Can x) : p_value_Copy x = some (x, 0) := by
  simp only [p_value_Copy, value_check_eq, check_can h, Option.bind_some]
  rw [show ((0 : Int) != 0) = false from rfl, cond_false, copied_eq x (can_fine h)]; rfl
theorem copy_not {x : V} (h : ¬ Can x) : p_value_Copy x = some (.nil, (checkF x).2) := by
  simp only [p_value_Copy, value_check_eq, Option.bind_some]
  rw [ne_t (check_cannot h), cond_true]
end Go.Proofs.Ytkmhecgagibgjaa

namespace Go.Proofs.Ytkmhecgagibgjaa
open Go Aw
set_option linter.unusedVariables false
set_option linter.unusedSimpArgs false
set_option maxRecDepth 8000
theorem s_trans (a b c : Str) (h1 : a ≤ b) (h2 : b ≤ c) : a ≤ c := List.le_trans h1 h2
theorem s_total (a b : Str) : a ≤ b ∨ b ≤ a := List.le_total a b
theorem s_anti {a b : Str} (h1 : a ≤ b) (h2 : b ≤ a) : a = b := List.le_antisymm h1 h2
theorem s_lt {a b : Str} (h1 : a ≤ b) (h2 : a ≠ b) : a < b := by
  rcases Classical.em (a < b) with h | h
  · exact h
  · exact absurd (s_anti h1 (List.not_lt.1 h)) h2
theorem s_le {a b : Str} (h : a < b) : a ≤ b := by
  rcases s_total a b with h1 | h1
  · exact h1
  · exact absurd h (List.not_lt.2 h1)
theorem s_irr (a : Str) : ¬ a < a := List.lt_irrefl a
theorem s_le_lt {a b c : Str} (h1 : a ≤ b) (h2 : b < c) : a < c := by
  refine s_lt (s_trans _ _ _ h1 (s_le h2)) (fun e => ?_)
  subst e
  exact absurd h2 (List.not_lt.2 h1)
theorem s_asym {a b : Str} (h1 : a < b) (h2 : b < a) : False := s_irr a (s_le_lt (s_le h1) h2)
theorem sort_le (l : List Str) : (sortS l).Pairwise (· ≤ ·) := by
  have := List.pairwise_mergeSort (le := fun x y : Str => decide (x ≤ y)) (fun a b c h1 h2 => by simp only [decide_eq_true_eq] at *; exact s_trans a b c h1 h2) (fun a b => by
    rcases s_total a b with h | h <;> simp [h]) l
  exact this.imp (fun h => by simpa using h)
theorem sort_mem {l : List Str} {x : Str} : x ∈ sortS l ↔ x ∈ l := List.mem_mergeSort
theorem arr_at {l : List Str} {i : Nat} (h : i < l.length) : l.toArray[i]! = l[i] := by
  rw [getElem!_pos l.toArray i (by simpa using h)]; simp
theorem comp_lt {l : List Str} (h : l.Pairwise (· ≤ ·)) : (compS l).Pairwise (· < ·) := by
  unfold compS Lib.compact Lib.compactUpTo
  rw [List.pairwise_map]
  have hr : ((List.range l.length).filter (Lib.keeps l.toArray)).Pairwise (fun i j => i < j ∧ j < l.length ∧ Lib.keeps l.toArray j = true) := by
    rw [List.pairwise_filter]
    refine (List.pairwise_lt_range (n := l.length)).imp_of_mem (fun {i j} hi hj hij _ hk => ⟨hij, by simpa using hj, hk⟩)
  refine hr.imp (fun {i j} ⟨h1, h2, h3⟩ => ?_)
  unfold Lib.keeps at h3
  simp only [decide_eq_true_eq] at h3
  rw [arr_at (by omega), arr_at h2]
  rw [arr_at h2, arr_at (by omega)] at h3
  rw [List.pairwise_iff_getElem] at h
  have hn : l[j] ≠ l[j - 1] := h3.resolve_left (by omega)
  have hle : l[j - 1] ≤ l[j] := h (j - 1) j (by omega) h2 (by omega)
  have hlt := s_lt hle (fun e => hn e.symm)
  rcases Nat.lt_or_ge i (j - 1) with hi | hi
  · exact s_le_lt (h i (j - 1) (by omega) (by omega) hi) hlt
  · have : i = j - 1 := by omega
    subst this; exact hlt
theorem comp_mem {l : List Str} {x : Str} : x ∈ compS l ↔ x ∈ l := by
  unfold compS Lib.compact Lib.compactUpTo
  simp only [List.mem_map, List.mem_filter, List.mem_range]
  constructor
  · rintro ⟨i, ⟨h1, _⟩, rfl⟩
    rw [arr_at h1]; exact List.getElem_mem h1
  · intro hx
    obtain ⟨i, hi, rfl⟩ := List.getElem_of_mem hx
    have key : ∀ i, ∀ hi : i < l.length, ∃ k, (k < l.length ∧ Lib.keeps l.toArray k = true) ∧ l.toArray[k]! = l[i] := by
      intro i
      induction i with
      | zero => intro hi; exact ⟨0, ⟨hi, by simp [Lib.keeps]⟩, arr_at hi⟩
      | succ i ih =>
        intro hi
        by_cases he : l[i + 1] = l[i]
        · obtain ⟨k, h1, h2⟩ := ih (by omega)
          exact ⟨k, h1, by rw [h2, he]⟩
        · refine ⟨i + 1, ⟨hi, ?_⟩, arr_at hi⟩
          unfold Lib.keeps
          simp only [decide_eq_true_eq]
          right
          rw [arr_at hi, Nat.add_sub_cancel, arr_at (by omega)]
          exact he
    exact key i hi
theorem rise_unique : ∀ {a b : List Str}, a.Pairwise (· < ·) → b.Pairwise (· < ·) → (∀ x, x ∈ a ↔ x ∈ b) → a = b
  | [], [], _, _, _ => rfl
  | [], y :: s, _, _, h => by have := (h y).2 (by simp); simp at this
  | x :: r, [], _, _, h => by have := (h x).1 (by simp); simp at this
  | x :: r, y :: s, ha, hb, h => by
    rw [List.pairwise_cons] at ha hb
    have hxy : x = y := by
      have h1 := (h x).1 (by simp)
      have h2 := (h y).2 (by simp)
      rw [List.mem_cons] at h1 h2
      rcases h1 with h1 | h1
      · exact h1
      · rcases h2 with h2 | h2
        · exact h2.symm
        · exact (s_asym (ha.1 y h2) (hb.1 x h1)).elim
    subst hxy
    rw [rise_unique ha.2 hb.2 (fun z => ?_)]
    constructor
    · intro hz
      have := (h z).1 (by simp [hz])
      rw [List.mem_cons] at this
      rcases this with e | h1
      · subst e; exact (s_irr _ (ha.1 _ hz)).elim
      · exact h1
    · intro hz
      have := (h z).2 (by simp [hz])
      rw [List.mem_cons] at this
      rcases this with e | h1
      · subst e; exact (s_irr _ (hb.1 _ hz)).elim
      · exact h1
def namesL (l : List Str) : List Str := compS (sortS l)
theorem names_lt (l : List Str) : (namesL l).Pairwise (· < ·) := comp_lt (sort_le l)
theorem names_mem {l : List Str} {x : Str} : x ∈ namesL l ↔ x ∈ l := comp_mem.trans sort_mem
theorem names_eq {l m : List Str} (h : ∀ x, x ∈ l ↔ x ∈ m) : namesL l = namesL m := rise_unique (names_lt l) (names_lt m) (fun x => by rw [names_mem, names_mem]; exact h x)
theorem names_is {l m : List Str} (hm : m.Pairwise (· < ·)) (h : ∀ x, x ∈ l ↔ x ∈ m) : namesL l = m := rise_unique (names_lt l) hm (fun x => by rw [names_mem]; exact h x)
end Go.Proofs.Ytkmhecgagibgjaa

namespace Go.Proofs.Ytkmhecgagibgjaa
open Go Aw
set_option linter.unusedVariables false
set_option linter.unusedSimpArgs false
set_option maxRecDepth 8000
abbrev Side := S_merge_side
abbrev Conf := S_api_Conflict
abbrev Stp := S_api_Step
abbrev mS (v : V) (h : Bool) : Side := S_merge_side.mk v h
abbrev mM (cs : List Conf) : S_merge_merger := S_merge_merger.mk () cs
theorem can_of {x : V} (h : (checkF x).2 = 0) : Can x := Classical.byContradiction fun hc => check_cannot hc h
theorem ord_swap (x y : V) : ordF y x = - ordF x y := by rw [ord_key, ord_key, lexc_neg]
theorem ord_self (x : V) : ordF x x = 0 := by have := ord_swap x x; omega
theorem same_swap (x y : V) : sameF x y = sameF y x := by
  unfold sameF
  rw [ord_swap x y]
  have e : (-ordF x y == 0) = (ordF x y == 0) := by rw [Bool.eq_iff_iff]; simp only [beq_iff_eq]; omega
  rw [e]
  cases (checkF x).2 == 0 <;> cases (checkF y).2 == 0 <;> rfl
theorem same_refl {x : V} (h : Can x) : sameF x x = true := by
  unfold sameF; rw [check_can h, ord_self]; rfl
theorem same_can {x y : V} (h : sameF x y = true) : Can x ∧ Can y ∧ ordF x y = 0 := by
  unfold sameF at h
  simp only [Bool.and_eq_true, beq_iff_eq] at h
  exact ⟨can_of h.1, can_of h.2.1, h.2.2⟩
theorem same_of {x y : V} (hx : Can x) (hy : Can y) (h : ordF x y = 0) : sameF x y = true := by
  unfold sameF; rw [check_can hx, check_can hy, h]; rfl
theorem ord_trans0 {x y z : V} (h1 : ordF x y = 0) (h2 : ordF y z = 0) : ordF x z = 0 := by
  have a := lexc_trans (key x) (key y) (key z)
  have b := lexc_trans (key z) (key y) (key x)
  rw [ord_key] at h1 h2 ⊢
  have c := lexc_neg (key x) (key z)
  have d := lexc_neg (key x) (key y)
  have e := lexc_neg (key y) (key z)
  have a1 := (a (by omega) (by omega)).1
  have b1 := (b (by omega) (by omega)).1
  omega
noncomputable def oneF (a b : Side) : Bool := (a.f_has == b.f_has) && (!a.f_has || sameF a.f_v b.f_v)
theorem one_eq (a b : Side) : p_merge_one a b = some (oneF a b) := by
  unfold p_merge_one oneF
  cases a.f_has == b.f_has with
  | false => rfl
  | true =>
    cases a.f_has with
    | false => rfl
    | true => simp only [Bool.not_true, cond_true, cond_false, value_Same_eq, Option.bind_some, Bool.true_and, Bool.false_or]
theorem one_swap (a b : Side) : oneF a b = oneF b a := by
  unfold oneF
  have h : (a.f_has == b.f_has) = (b.f_has == a.f_has) := by cases a.f_has <;> cases b.f_has <;> rfl
  rw [h, same_swap a.f_v]
  cases ha : a.f_has <;> cases hb : b.f_has <;> simp
theorem one_trans {a b c : Side} (h1 : oneF a b = true) (h2 : oneF b c = true) : oneF a c = true := by
  unfold oneF at *
  simp only [Bool.and_eq_true, Bool.or_eq_true, beq_iff_eq, Bool.not_eq_true'] at *
  refine ⟨h1.1.trans h2.1, ?_⟩
  rcases h1.2 with h | h
  · exact .inl h
  · rcases h2.2 with h3 | h3
    · exact .inl (by rw [h1.1]; exact h3)
    · obtain ⟨c1, c2, c3⟩ := same_can h
      obtain ⟨d1, d2, d3⟩ := same_can h3
      exact .inr (same_of c1 d2 (ord_trans0 c3 d3))
def SOk (s : Side) : Prop := s.f_has = true → Can s.f_v
theorem one_refl {s : Side} (h : SOk s) : oneF s s = true := by
  unfold oneF
  rw [beq_self_eq_true, Bool.true_and]
  cases hs : s.f_has with
  | false => rfl
  | true => rw [same_refl (h hs)]; rfl
theorem put_ours {m : S_merge_merger} {w : List Stp} {b o t : Side} (h : oneF o t = true ∨ oneF t b = true) : p_merge_merger_put m w b o t = some (o, m) := by
  rw [e_merge_merger_put, b_merge_merger_put, one_eq, Option.bind_some]
  cases h1 : oneF o t with
  | true => rfl
  | false =>
    have h2 : oneF t b = true := h.resolve_left (by rw [h1]; simp)
    rw [cond_false, one_eq, h2]; rfl
theorem put_theirs {m : S_merge_merger} {w : List Stp} {b o t : Side} (h1 : oneF o t = false) (h2 : oneF t b = false) (h3 : oneF o b = true) : p_merge_merger_put m w b o t = some (t, m) := by
  rw [e_merge_merger_put, b_merge_merger_put, one_eq, Option.bind_some, h1, cond_false, one_eq, h2, Option.bind_some]
  unfold merge_merger_put_j1
  rw [cond_false, one_eq, h3]; rfl
noncomputable def ferr : List V → Int
  | [] => 0
  | x :: r => if (checkF x).2 ≠ 0 then (checkF x).2 else ferr r
theorem chk_l (l : List V) : ∀ k i, k + i = l.length → merge_check_l1 l i = some (ferr (l.drop i))
  | 0, i, h => by
    rw [merge_check_l1_eq]
    simp only [merge_check_l1b, lt_f (by omega : ¬ i < l.length), cond_false]
    rw [List.drop_of_length_le (by omega), ferr]
  | k + 1, i, h => by
    obtain ⟨x, hx, hd⟩ := dropc (by omega : i < l.length)
    rw [merge_check_l1_eq]
    simp only [merge_check_l1b, lt_t (by omega : i < l.length), cond_true, hx, Option.bind_some, value_Check_eq, chk_l l k (i + 1) (by omega)]
    rw [hd, ferr]
    by_cases he : (checkF x).2 = 0
    · rw [if_neg (by simp [he]), he]; rfl
    · rw [if_pos he, ne_t he, cond_true]
theorem chk_eq (l : List V) : p_merge_check l = some (ferr l) := by
  have := chk_l l l.length 0 (by omega)
  rw [List.drop_zero] at this
  exact this
theorem ferr_can {l : List V} (h : ∀ x, x ∈ l → Can x) : ferr l = 0 := by
  induction l with
  | nil => rfl
  | cons x r ih => rw [ferr, if_neg (by rw [check_can (h x (by simp))]; simp), ih (fun y hy => h y (by simp [hy]))]
theorem ferr_zero {l : List V} (h : ferr l = 0) : ∀ x, x ∈ l → Can x := by
  induction l with
  | nil => intro x hx; cases hx
  | cons y r ih =>
    rw [ferr] at h
    by_cases he : (checkF y).2 = 0
    · rw [if_neg (by simp [he])] at h
      intro x hx
      rcases List.mem_cons.1 hx with rfl | hx
      · exact can_of he
      · exact ih h x hx
    · rw [if_pos he] at h; exact absurd h he
open Classical in
noncomputable def cpF (v : V) : V := if Can v then v else .nil
theorem copied_F (v : V) : p_merge_copied v = some (cpF v) := by
  unfold p_merge_copied cpF
  by_cases h : Can v
  · rw [copy_can h, if_pos h]; rfl
  · rw [copy_not h, if_neg h]; rfl
theorem three_bad {a b c : V} (h : ferr [a, b, c] ≠ 0) : p_merge_Threenil a b c = some (.nil, [], ferr [a, b, c]) := by
  unfold p_merge_Threenil p_merge_threenil
  rw [chk_eq, Option.bind_some, ne_t h, cond_true]; rfl
theorem three_ok {a b c : V} (ha : Can a) (hb : Can b) (hc : Can c) {s : Side} {E : List Conf} (hp : p_merge_merger_put (mM []) [] (mS a true) (mS b true) (mS c true) = some (s, mM E)) (hs : Can s.f_v) : p_merge_Threenil a b c = some (s.f_v, E, 0) := by
  unfold p_merge_Threenil p_merge_threenil
  rw [chk_eq, Option.bind_some, ferr_can (l := [a, b, c]) (by intro x hx; simp at hx; rcases hx with rfl | rfl | rfl <;> assumption)]
  rw [show ((0 : Int) != 0) = false from rfl, cond_false, hp, Option.bind_some]
  simp only [chk_eq, Option.bind_some]
  rw [ferr_can (l := [s.f_v]) (by intro x hx; simp at hx; subst hx; exact hs)]
  rw [show ((0 : Int) != 0) = false from rfl, cond_false, copied_F, cpF, if_pos hs]; rfl
theorem three_nok {a b c : V} (ha : Can a) (hb : Can b) (hc : Can c) {s : Side} {E : List Conf} (hp : p_merge_merger_put (mM []) [] (mS a true) (mS b true) (mS c true) = some (s, mM E)) (hs : ¬ Can s.f_v) : ∃ e, e ≠ 0 ∧ p_merge_Threenil a b c = some (.nil, E, e) := by
  have he := check_cannot hs
  refine ⟨(checkF s.f_v).2, he, ?_⟩
  unfold p_merge_Threenil p_merge_threenil
  rw [chk_eq, Option.bind_some, ferr_can (l := [a, b, c]) (by intro x hx; simp at hx; rcases hx with rfl | rfl | rfl <;> assumption)]
  rw [show ((0 : Int) != 0) = false from rfl, cond_false, hp, Option.bind_some]
  simp only [chk_eq, Option.bind_some]
  rw [ferr, if_pos he, ne_t he, cond_true]; rfl
end Go.Proofs.Ytkmhecgagibgjaa

namespace Go.Proofs.Ytkmhecgagibgjaa
open Go Aw
set_option linter.unusedVariables false
set_option linter.unusedSimpArgs false
set_option maxRecDepth 8000
theorem sok {v : V} (h : Can v) (b : Bool) : SOk (mS v b) := fun _ => h
end Go.Proofs.Ytkmhecgagibgjaa

namespace Go.Proofs.Ytkmhecgagibgjaa
open Go Aw
set_option linter.unusedVariables false
set_option linter.unusedSimpArgs false
set_option maxRecDepth 8000
def undF : List (Str × V) → Str → Side
  | [], _ => mS .nil false
  | f :: r, n => if f.1 = n then mS f.2 true else undF r n
theorem und_l (d : List (Str × V)) (n : Str) : ∀ k i, k + i = d.length → ∃ r : Int, slices_IndexFunc_api_Dict_api_Field_merge_under_1_l1 d n i = some r ∧ ((r = -1 ∧ undF (d.drop i) n = mS .nil false) ∨ ∃ (j : Nat) (x : Str × V), r = (j : Int) ∧ d[j]? = some x ∧ undF (d.drop i) n = mS x.2 true)
  | 0, i, h => by
    refine ⟨-1, ?_, .inl ⟨rfl, ?_⟩⟩
    · rw [slices_IndexFunc_api_Dict_api_Field_merge_under_1_l1_eq]
      simp only [slices_IndexFunc_api_Dict_api_Field_merge_under_1_l1b, lt_f (by omega : ¬ i < d.length), cond_false]
    · rw [List.drop_of_length_le (by omega)]; rfl
  | k + 1, i, h => by
    obtain ⟨x, hx, hd⟩ := dropc (by omega : i < d.length)
    rw [slices_IndexFunc_api_Dict_api_Field_merge_under_1_l1_eq]
    simp only [slices_IndexFunc_api_Dict_api_Field_merge_under_1_l1b, lt_t (by omega : i < d.length), cond_true, hx, Option.bind_some, p_merge_under_1]
    rw [hd, undF]
    by_cases he : x.1 = n
    · refine ⟨(i : Int), ?_, .inr ⟨i, x, rfl, hx, by rw [if_pos he]⟩⟩
      rw [show (x.1 == n) = true from by simpa using he]; rfl
    · obtain ⟨r, h1, h2⟩ := und_l d n k (i + 1) (by omega)
      refine ⟨r, ?_, by rw [if_neg he]; exact h2⟩
      rw [show (x.1 == n) = false from by simpa using he, cond_false]; exact h1
theorem und_eq (d : List (Str × V)) (n : Str) : p_merge_under d n = some (undF d n) := by
  obtain ⟨r, h1, h2⟩ := und_l d n d.length 0 (by omega)
  rw [List.drop_zero] at h2
  unfold p_merge_under p_slices_IndexFunc_api_Dict_api_Field_merge_under_1
  rw [h1, Option.bind_some]
  rcases h2 with ⟨rfl, h2⟩ | ⟨j, x, rfl, hx, h2⟩
  · rw [show decide ((-1 : Int) < 0) = true from rfl, cond_true, h2]
  · rw [decide_eq_false (by omega : ¬ ((j : Int) < 0)), cond_false, idxI_nat, hx, Option.bind_some, h2]
theorem und_some {d : List (Str × V)} {n : Str} (h : (undF d n).f_has = true) : ∃ v, (n, v) ∈ d ∧ undF d n = mS v true := by
  induction d with
  | nil => cases h
  | cons f r ih =>
    rw [undF] at h ⊢
    by_cases he : f.1 = n
    · rw [if_pos he]; exact ⟨f.2, by rw [← he]; simp, rfl⟩
    · rw [if_neg he] at h ⊢
      obtain ⟨v, h1, h2⟩ := ih h
      exact ⟨v, by simp [h1], h2⟩
theorem und_none {d : List (Str × V)} {n : Str} (h : (undF d n).f_has = false) : undF d n = mS .nil false ∧ n ∉ d.map (·.1) := by
  induction d with
  | nil => exact ⟨rfl, by simp⟩
  | cons f r ih =>
    rw [undF] at h ⊢
    by_cases he : f.1 = n
    · rw [if_pos he] at h; cases h
    · rw [if_neg he] at h ⊢
      obtain ⟨h1, h2⟩ := ih h
      refine ⟨h1, ?_⟩
      simp only [List.map_cons, List.mem_cons, not_or]
      exact ⟨fun e => he e.symm, h2⟩
theorem und_has {d : List (Str × V)} {n : Str} : (undF d n).f_has = true ↔ n ∈ d.map (·.1) := by
  cases h : (undF d n).f_has with
  | false => simp only [Bool.false_eq_true, false_iff]; exact (und_none h).2
  | true =>
    simp only [true_iff]
    obtain ⟨v, h1, _⟩ := und_some h
    exact List.mem_map.2 ⟨_, h1, rfl⟩
def fldF : V → Option (List (Str × V) × Str × Int)
  | .dict d => some (d, [], 0)
  | .record c k d => some (d, c, k)
  | _ => none
theorem fieldsOf_eq {v : V} (h : v ≠ .nothing) : p_merge_fieldsOf v = some (match fldF v with | some (d, c, k) => (d, c, k, true) | none => ([], [], 0, false)) := by
  cases v with
  | nothing => exact absurd rfl h
  | _ => rfl
theorem can_not_nothing {v : V} (h : Can v) : v ≠ .nothing := by
  rintro rfl
  have := check_can h
  simp [checkF, partF, ownE, nearE] at this
def mkF (c : Str) (k : Int) (d : List (Str × V)) : V := if c = [] then .dict d else .record c k d
def stN (n : Str) : Stp := S_api_Step.mk n false 0
def stA (i : Nat) : Stp := S_api_Step.mk [] true ((i : Nat) : Int)
theorem no_fields {m : S_merge_merger} {w : List Stp} {b o t : V} (hb : b ≠ .nothing) (ho : o ≠ .nothing) (ht : t ≠ .nothing) (h : ¬ ∃ x y z c k, fldF b = some (x, c, k) ∧ fldF o = some (y, c, k) ∧ fldF t = some (z, c, k)) : p_merge_merger_fields m w b o t = some (mS .nil false, false, m) := by
  rw [e_merge_merger_fields, b_merge_merger_fields, fieldsOf_eq hb, fieldsOf_eq ho, fieldsOf_eq ht]
  simp only [Option.bind_some]
  cases h1 : fldF b with
  | none => rfl
  | some p =>
    cases h2 : fldF o with
    | none => rfl
    | some q =>
      cases h3 : fldF t with
      | none => rfl
      | some r =>
        obtain ⟨x, c, k⟩ := p
        obtain ⟨y, c2, k2⟩ := q
        obtain ⟨z, c3, k3⟩ := r
        simp only [Bool.not_true, cond_false]
        by_cases e1 : c = c2
        · subst e1
          by_cases e2 : c = c3
          · subst e2
            by_cases e3 : k = k2
            · subst e3
              by_cases e4 : k = k3
              · subst e4; exact absurd ⟨x, y, z, c, k, h1, h2, h3⟩ h
              · have e : (k != k3) = true := by simpa using e4
                simp only [beq_self_eq_true, Bool.not_true, cond_false, bne_self_eq_false, e]; rfl
            · have e : (k != k2) = true := by simpa using e3
              simp only [beq_self_eq_true, Bool.not_true, cond_false, e, cond_true]; rfl
          · have e : (c == c3) = false := by simpa using e2
            simp only [beq_self_eq_true, Bool.not_true, cond_false, e, Bool.not_false, cond_true]; rfl
        · have e : (c == c2) = false := by simpa using e1
          simp only [e, Bool.not_false, cond_true]; rfl
theorem f2_l (g : List Str → Int → Option (Side × Bool × S_merge_merger)) (s7 : Int) (x : List (Str × V)) : ∀ k i (acc : List Str), k + i = x.length → acc.length + k ≤ 1073741824 → merge_merger_fields_l2 g s7 x acc i = g (acc ++ (x.drop i).map (·.1)) (IntKind.i64.wrap (s7 + 1))
  | 0, i, acc, h, hb => by
    rw [merge_merger_fields_l2_eq]
    simp only [merge_merger_fields_l2b, lt_f (by omega : ¬ i < x.length), cond_false]
    rw [List.drop_of_length_le (by omega)]; simp
  | k + 1, i, acc, h, hb => by
    obtain ⟨f, hf, hd⟩ := dropc (by omega : i < x.length)
    rw [merge_merger_fields_l2_eq]
    simp only [merge_merger_fields_l2b, lt_t (by omega : i < x.length), cond_true, hf, Option.bind_some, app1 (b := 16) (acc := acc) (x := f.1) (by omega) (by omega)]
    rw [f2_l g s7 x k (i + 1) (acc ++ [f.1]) (by omega) (by simp; omega), hd]
    simp
def PutsN (w : List Stp) (x y z : List (Str × V)) (s : Str → Side) (E : Str → List Conf) (L : List Str) : Prop :=
  ∀ n, n ∈ L → ∀ cs : List Conf, cs.length + (E n).length ≤ 1073741824 → p_merge_merger_put (mM cs) (w ++ [stN n]) (undF x n) (undF y n) (undF z n) = some (s n, mM (cs ++ E n))
def gotN (s : Str → Side) (L : List Str) : List (Str × V) := L.filterMap fun n => if (s n).f_has = true then some (n, (s n).f_v) else none
theorem f3_l {w : List Stp} {x y z : List (Str × V)} {c : Str} {k0 : Int} {names : List Str} {s : Str → Side} {E : Str → List Conf} (hw : w.length ≤ 1073741824) (hP : PutsN w x y z s E (compS names)) (hn : (compS names).length ≤ 268435456) :
    ∀ k i (acc : List (Str × V)) (cs : List Conf), k + i = (compS names).length → acc.length + k ≤ 1073741824 → cs.length + (((compS names).drop i).flatMap E).length ≤ 1073741824 →
      merge_merger_fields_l3 p_merge_merger_put w (x, c, k0, true) (y, c, k0, true) (z, c, k0, true) names acc (i : Nat) () cs = some (mS (mkF c k0 (acc ++ gotN s ((compS names).drop i))) true, true, mM (cs ++ ((compS names).drop i).flatMap E))
  | 0, i, acc, cs, h, _, _ => by
    rw [merge_merger_fields_l3_eq]
    simp only [merge_merger_fields_l3b, lt_f (by omega : ¬ i < (compS names).length), cond_false]
    rw [List.drop_of_length_le (by omega)]
    unfold mkF gotN
    by_cases hc : c = []
    · subst hc; simp
    · rw [show (c == ([] : Str)) = false from by simpa using hc, cond_false, if_neg hc]; simp
  | k + 1, i, acc, cs, h, hb, hE => by
    obtain ⟨n, hx, hd⟩ := dropc (by omega : i < (compS names).length)
    have hmem := List.mem_of_getElem? hx
    rw [hd, List.flatMap_cons, List.length_append] at hE
    have hp := hP n hmem cs (by omega)
    have hw2 : IntKind.i64.wrap ((i : Int) + 1) = ((i + 1 : Nat) : Int) := by rw [w64_in (by omega) (by omega)]; omega
    rw [merge_merger_fields_l3_eq]
    simp only [merge_merger_fields_l3b, lt_t (by omega : i < (compS names).length), cond_true, idxI_nat, hx, Option.bind_some, p_slices_Clip_api_Step_api_Step, app1 (b := 32) (acc := w) (x := S_api_Step.mk n false 0) (by omega) hw, und_eq]
    rw [show (S_api_Step.mk n false 0 : Stp) = stN n from rfl, hp]
    simp only [Option.bind_some]
    have ih : ∀ acc' : List (Str × V), acc'.length + k ≤ 1073741824 → _ := fun acc' ha => f3_l (c := c) (k0 := k0) hw hP hn k (i + 1) acc' (cs ++ E n) (by omega) ha (by rw [List.length_append]; omega)
    cases hs : (s n).f_has with
    | true =>
      rw [cond_true, app1 (b := 32) (by omega) (by omega), Option.bind_some]
      simp only [merge_merger_fields_j2, hw2]
      rw [ih (acc ++ [(n, (s n).f_v)]) (by simp; omega), hd]
      simp only [gotN, List.filterMap_cons, hs, if_true, List.flatMap_cons, List.append_assoc, List.singleton_append]
    | false =>
      rw [cond_false]
      simp only [merge_merger_fields_j2, hw2]
      rw [ih acc (by omega), hd]
      simp only [gotN, List.filterMap_cons, hs, Bool.false_eq_true, if_false, List.flatMap_cons, List.append_assoc]
theorem yes_fields {w : List Stp} {b o t : V} {x y z : List (Str × V)} {c : Str} {k0 : Int} (hb : fldF b = some (x, c, k0)) (ho : fldF o = some (y, c, k0)) (ht : fldF t = some (z, c, k0)) (lx : x.length ≤ 4096) (ly : y.length ≤ 4096) (lz : z.length ≤ 4096) {s : Str → Side} {E : Str → List Conf}
    (hw : w.length ≤ 1073741824) (hP : PutsN w x y z s E (namesL (x.map (·.1) ++ y.map (·.1) ++ z.map (·.1)))) {cs : List Conf} (hE : cs.length + ((namesL (x.map (·.1) ++ y.map (·.1) ++ z.map (·.1))).flatMap E).length ≤ 1073741824) :
    p_merge_merger_fields (mM cs) w b o t = some (mS (mkF c k0 (gotN s (namesL (x.map (·.1) ++ y.map (·.1) ++ z.map (·.1))))) true, true, mM (cs ++ (namesL (x.map (·.1) ++ y.map (·.1) ++ z.map (·.1))).flatMap E)) := by
  have nn : ∀ {v : V} {q : List (Str × V) × Str × Int}, fldF v = some q → v ≠ .nothing := by rintro v q h rfl; cases h
  rw [e_merge_merger_fields, b_merge_merger_fields, fieldsOf_eq (nn hb), fieldsOf_eq (nn ho), fieldsOf_eq (nn ht), hb, ho, ht]
  simp only [Option.bind_some, Bool.not_true, cond_false, beq_self_eq_true, bne_self_eq_false, merge_merger_fields_j1]
  have w1 : IntKind.i64.wrap ((0 : Int) + 1) = 1 := rfl
  have w2 : IntKind.i64.wrap ((1 : Int) + 1) = 2 := rfl
  have w3 : IntKind.i64.wrap ((2 : Int) + 1) = 3 := rfl
  rw [merge_merger_fields_l1_eq]
  simp only [merge_merger_fields_l1b]
  rw [show decide ((0 : Int) < (((([x, y, z] : List (List (Str × V)))).length : Nat) : Int)) = true from rfl, cond_true, show idxI ([x, y, z] : List (List (Str × V))) 0 = some x from rfl, Option.bind_some, f2_l _ _ x x.length 0 [] (by omega) (by simp; omega), w1, merge_merger_fields_l1_eq]
  simp only [merge_merger_fields_l1b]
  rw [show decide ((1 : Int) < (((([x, y, z] : List (List (Str × V)))).length : Nat) : Int)) = true from rfl, cond_true, show idxI ([x, y, z] : List (List (Str × V))) 1 = some y from rfl, Option.bind_some, f2_l _ _ y y.length 0 _ (by omega) (by simp; omega), w2, merge_merger_fields_l1_eq]
  simp only [merge_merger_fields_l1b]
  rw [show decide ((2 : Int) < (((([x, y, z] : List (List (Str × V)))).length : Nat) : Int)) = true from rfl, cond_true, show idxI ([x, y, z] : List (List (Str × V))) 2 = some z from rfl, Option.bind_some, f2_l _ _ z z.length 0 _ (by omega) (by simp; omega), w3, merge_merger_fields_l1_eq]
  simp only [merge_merger_fields_l1b]
  rw [show decide ((3 : Int) < (((([x, y, z] : List (List (Str × V)))).length : Nat) : Int)) = false from rfl, cond_false]
  simp only [List.drop_zero, List.nil_append]
  have hlen : (x.map (·.1) ++ y.map (·.1) ++ z.map (·.1)).length ≤ 12288 := by simp; omega
  have hs : sortO (x.map (·.1) ++ y.map (·.1) ++ z.map (·.1)) = some (sortS (x.map (·.1) ++ y.map (·.1) ++ z.map (·.1))) := by
    unfold sortO; rw [show Nat.blt _ _ = true from Nat.ble_eq_true_of_le (by omega)]; rfl
  rw [hs, Option.bind_some]
  have hc := compS_len (sortS (x.map (·.1) ++ y.map (·.1) ++ z.map (·.1)))
  rw [sortS_len] at hc
  have := f3_l (c := c) (k0 := k0) (names := sortS (x.map (·.1) ++ y.map (·.1) ++ z.map (·.1))) hw hP (by omega) _ 0 [] cs rfl (by rw [List.length_nil]; omega) (by rw [List.drop_zero]; exact hE)
  rw [List.drop_zero, List.nil_append] at this
  exact this
def lstF : V → Option (List V)
  | .list l => some l
  | _ => none
theorem no_list {m : S_merge_merger} {w : List Stp} {b o t : V} (h : ¬ ∃ x y z, lstF b = some x ∧ lstF o = some y ∧ lstF t = some z ∧ x.length = y.length ∧ x.length = z.length) : p_merge_merger_list m w b o t = some (mS .nil false, false, m) := by
  rw [e_merge_merger_list, b_merge_merger_list]
  have j : merge_merger_list_j1 p_merge_merger_put m w b o t true = some (mS .nil false, false, m) := rfl
  cases h1 : lstF b with
  | none => rw [show b.isList = false from by cases b <;> first | rfl | cases h1]; exact j
  | some x =>
    have e1 : b = .list x := by cases b <;> first | (cases h1; rfl) | cases h1
    subst e1
    cases h2 : lstF o with
    | none => rw [show o.isList = false from by cases o <;> first | rfl | cases h2]; exact j
    | some y =>
      have e2 : o = .list y := by cases o <;> first | (cases h2; rfl) | cases h2
      subst e2
      cases h3 : lstF t with
      | none => rw [show t.isList = false from by cases t <;> first | rfl | cases h3]; exact j
      | some z =>
        have e3 : t = .list z := by cases t <;> first | (cases h3; rfl) | cases h3
        subst e3
        simp only [V.isList, V.asList, Bool.not_true, cond_false]
        by_cases e4 : x.length = y.length
        · have e5 : ¬ x.length = z.length := fun e => h ⟨x, y, z, rfl, rfl, rfl, e4, e⟩
          rw [show (((x.length : Nat) : Int) != ((y.length : Nat) : Int)) = false from by simp [e4], cond_false, show (((x.length : Nat) : Int) != ((z.length : Nat) : Int)) = true from by simp; omega]; exact j
        · rw [show (((x.length : Nat) : Int) != ((y.length : Nat) : Int)) = true from by simp; omega, cond_true]; exact j
def PutsA (w : List Stp) (x y z : List V) (s : Nat → Side) (E : Nat → List Conf) (N : Nat) : Prop :=
  ∀ i p q r, i < N → x[i]? = some p → y[i]? = some q → z[i]? = some r → ∀ cs : List Conf, cs.length + (E i).length ≤ 1073741824 → p_merge_merger_put (mM cs) (w ++ [stA i]) (mS p true) (mS q true) (mS r true) = some (s i, mM (cs ++ E i))
def rng (i k : Nat) : List Nat := List.range' i k
theorem l1_l {w : List Stp} {x y z : List V} {s : Nat → Side} {E : Nat → List Conf} (hw : w.length ≤ 1073741824) (hy : x.length = y.length) (hz : x.length = z.length) (hP : PutsA w x y z s E x.length) (hn : x.length ≤ 268435456) :
    ∀ k i (acc : List V) (cs : List Conf), k + i = x.length → acc.length + k ≤ 1073741824 → cs.length + ((rng i k).flatMap E).length ≤ 1073741824 →
      merge_merger_list_l1 p_merge_merger_put w (.list x) (.list y) (.list z) acc i () cs = some (mS (.list (acc ++ (rng i k).map fun j => (s j).f_v)) true, true, mM (cs ++ (rng i k).flatMap E))
  | 0, i, acc, cs, h, _, _ => by
    rw [merge_merger_list_l1_eq]
    simp only [merge_merger_list_l1b, V.asList, lt_f (by omega : ¬ i < x.length), cond_false]
    simp [rng]
  | k + 1, i, acc, cs, h, hb, hE => by
    obtain ⟨p, hp, _⟩ := dropc (by omega : i < x.length)
    obtain ⟨q, hq, _⟩ := dropc (by omega : i < y.length)
    obtain ⟨r, hr, _⟩ := dropc (by omega : i < z.length)
    have hrg : rng i (k + 1) = i :: rng (i + 1) k := by simp [rng, List.range'_succ]
    rw [hrg, List.flatMap_cons, List.length_append] at hE
    have hput := hP i p q r (by omega) hp hq hr cs (by omega)
    rw [merge_merger_list_l1_eq]
    simp only [merge_merger_list_l1b, V.asList, lt_t (by omega : i < x.length), cond_true, p_slices_Clip_api_Step_api_Step, Option.bind_some, app1 (b := 32) (acc := w) (x := S_api_Step.mk [] true ((i : Nat) : Int)) (by omega) hw, hp, hq, hr]
    rw [show (S_api_Step.mk [] true ((i : Nat) : Int) : Stp) = stA i from rfl, hput]
    simp only [Option.bind_some]
    rw [app1 (b := 16) (by omega) (by omega), Option.bind_some]
    have ih := l1_l hw hy hz hP hn k (i + 1) (acc ++ [(s i).f_v]) (cs ++ E i) (by omega) (by simp; omega) (by rw [List.length_append]; omega)
    rw [ih, hrg]
    simp only [List.map_cons, List.flatMap_cons, List.append_assoc, List.singleton_append]
theorem yes_list {w : List Stp} {x y z : List V} {s : Nat → Side} {E : Nat → List Conf} (hw : w.length ≤ 1073741824) (hy : x.length = y.length) (hz : x.length = z.length) (hP : PutsA w x y z s E x.length) (hn : x.length ≤ 268435456) {cs : List Conf} (hE : cs.length + ((rng 0 x.length).flatMap E).length ≤ 1073741824) :
    p_merge_merger_list (mM cs) w (.list x) (.list y) (.list z) = some (mS (.list ((rng 0 x.length).map fun j => (s j).f_v)) true, true, mM (cs ++ (rng 0 x.length).flatMap E)) := by
  rw [e_merge_merger_list, b_merge_merger_list]
  simp only [V.isList, V.asList, Bool.not_true, cond_false]
  rw [show (((x.length : Nat) : Int) != ((y.length : Nat) : Int)) = false from by simp [hy], cond_false, show (((x.length : Nat) : Int) != ((z.length : Nat) : Int)) = false from by simp [hz]]
  unfold merge_merger_list_j1
  rw [cond_false]
  have := l1_l hw hy hz hP hn x.length 0 [] cs (by omega) (by simp; omega) hE
  rw [List.nil_append] at this
  exact this
noncomputable def conf (w : List Stp) (b o t : Side) : Conf := S_api_Conflict.mk w (cpF b.f_v) (cpF o.f_v) (cpF t.f_v) b.f_has o.f_has t.f_has
theorem j2_eq {w : List Stp} {b o t : Side} {cs : List Conf} (hw : w.length ≤ 1073741824) (hc : cs.length ≤ 1073741824) : merge_merger_put_j2 w b o t () cs = some (o, mM (cs ++ [conf w b o t])) := by
  unfold merge_merger_put_j2 p_merge_merger_conflict p_merge_merger_conflict_1 p_slices_Clone_api_Step_api_Step
  rw [app0 (b := 32) (by omega) hw]
  simp only [Option.bind_some, copied_F]
  rw [app1 (b := 80) (by omega) hc]; rfl
theorem put_conf {w : List Stp} {b o t : Side} {cs : List Conf} (hw : w.length ≤ 1073741824) (hc : cs.length ≤ 1073741824) (h1 : oneF o t = false) (h2 : oneF t b = false) (h3 : oneF o b = false) (hn : ¬ (b.f_has = true ∧ o.f_has = true ∧ t.f_has = true)) : p_merge_merger_put (mM cs) w b o t = some (o, mM (cs ++ [conf w b o t])) := by
  rw [e_merge_merger_put, b_merge_merger_put, one_eq, Option.bind_some, h1, cond_false, one_eq, h2, Option.bind_some]
  unfold merge_merger_put_j1
  rw [cond_false, one_eq, h3, Option.bind_some, cond_false]
  have j : merge_merger_put_j3 p_merge_merger_list p_merge_merger_fields (mM cs) w b o t false = some (o, mM (cs ++ [conf w b o t])) := j2_eq hw hc
  cases hb : b.f_has with
  | false => exact j
  | true =>
    cases ho : o.f_has with
    | false => exact j
    | true =>
      cases ht : t.f_has with
      | false => exact j
      | true => exact absurd ⟨hb, ho, ht⟩ hn
theorem put_deep {w : List Stp} {b o t : V} {cs : List Conf} (h1 : oneF (mS o true) (mS t true) = false) (h2 : oneF (mS t true) (mS b true) = false) (h3 : oneF (mS o true) (mS b true) = false) : p_merge_merger_put (mM cs) w (mS b true) (mS o true) (mS t true) = merge_merger_put_j3 p_merge_merger_list p_merge_merger_fields (mM cs) w (mS b true) (mS o true) (mS t true) true := by
  rw [e_merge_merger_put, b_merge_merger_put, one_eq, Option.bind_some, h1, cond_false, one_eq, h2, Option.bind_some]
  unfold merge_merger_put_j1
  rw [cond_false, one_eq, h3, Option.bind_some, cond_false]; rfl
theorem deep_f {w : List Stp} {b o t : V} {cs cs' : List Conf} {s : Side} (hf : p_merge_merger_fields (mM cs) w b o t = some (s, true, mM cs')) : merge_merger_put_j3 p_merge_merger_list p_merge_merger_fields (mM cs) w (mS b true) (mS o true) (mS t true) true = some (s, mM cs') := by
  unfold merge_merger_put_j3
  rw [cond_true, hf]; rfl
theorem deep_l {w : List Stp} {b o t : V} {cs cs' : List Conf} {s s0 : Side} (hf : p_merge_merger_fields (mM cs) w b o t = some (s0, false, mM cs)) (hl : p_merge_merger_list (mM cs) w b o t = some (s, true, mM cs')) : merge_merger_put_j3 p_merge_merger_list p_merge_merger_fields (mM cs) w (mS b true) (mS o true) (mS t true) true = some (s, mM cs') := by
  unfold merge_merger_put_j3
  rw [cond_true, hf]
  simp only [Option.bind_some, cond_false]
  rw [hl]; rfl
theorem deep_c {w : List Stp} {b o t : V} {cs : List Conf} {s0 s1 : Side} (hw : w.length ≤ 1073741824) (hc : cs.length ≤ 1073741824) (hf : p_merge_merger_fields (mM cs) w b o t = some (s0, false, mM cs)) (hl : p_merge_merger_list (mM cs) w b o t = some (s1, false, mM cs)) : merge_merger_put_j3 p_merge_merger_list p_merge_merger_fields (mM cs) w (mS b true) (mS o true) (mS t true) true = some (mS o true, mM (cs ++ [conf w (mS b true) (mS o true) (mS t true)])) := by
  unfold merge_merger_put_j3
  rw [cond_true, hf]
  simp only [Option.bind_some, cond_false]
  rw [hl]
  simp only [Option.bind_some, cond_false]
  exact j2_eq hw hc
end Go.Proofs.Ytkmhecgagibgjaa

namespace Go.Proofs.Ytkmhecgagibgjaa
open Go Aw
set_option linter.unusedVariables false
set_option linter.unusedSimpArgs false
set_option maxRecDepth 8000
abbrev na : Str := [97]
abbrev nb : Str := [98]
abbrev nc : Str := [99]
abbrev lB : List (Str × V) := [(na, .int 1), (nb, .int 1)]
abbrev lO : List (Str × V) := [(na, .int 2), (nb, .int 1)]
abbrev lT : List (Str × V) := [(na, .int 1), (nc, .int 3)]
abbrev lU : List (Str × V) := [(na, .int 3), (nb, .int 1)]
abbrev lR : List (Str × V) := [(na, .int 2), (nc, .int 3)]
theorem can_int (i : Int) : Can (.int i) := ⟨.mk rfl (fun y hy => by cases hy), by simp [cnt], by simp [dpt]⟩
theorem can_d2 {n m : Str} {i j : Int} (h : nearE (.dict [(n, .int i), (m, .int j)]) = 0) : Can (.dict [(n, .int i), (m, .int j)]) :=
  ⟨.mk h (fun y hy => by
    simp only [V.parts, List.map_cons, List.map_nil, List.mem_cons, List.not_mem_nil, or_false] at hy
    rcases hy with rfl | rfl <;> exact (can_int _).1), by simp [cnt, cntD], by simp only [dpt, dptD]; omega⟩
theorem one_int (i j : Int) : oneF (mS (.int i) true) (mS (.int j) true) = decide (i = j) := by
  unfold oneF sameF
  rw [check_can (can_int i), check_can (can_int j), ordF]
  unfold c3
  by_cases h : i = j
  · subst h; simp
  · by_cases h1 : i < j
    · simp [h, h1]
    · have : i > j := by omega
      simp [h, h1, this]
theorem ord_d2 (n m n' m' : Str) (i j i' j' : Int) : ordF (.dict [(n, .int i), (m, .int j)]) (.dict [(n', .int i'), (m', .int j')]) = th (th (cmpS n n') (c3 i i')) (th (th (cmpS m m') (c3 j j')) 0) := by
  simp only [ordF, ordD]
theorem one_d2 {n m n' m' : Str} {i j i' j' : Int} (h1 : nearE (.dict [(n, .int i), (m, .int j)]) = 0) (h2 : nearE (.dict [(n', .int i'), (m', .int j')]) = 0) :
    oneF (mS (.dict [(n, .int i), (m, .int j)]) true) (mS (.dict [(n', .int i'), (m', .int j')]) true) = (th (th (cmpS n n') (c3 i i')) (th (th (cmpS m m') (c3 j j')) 0) == 0) := by
  unfold oneF sameF
  rw [check_can (can_d2 h1), check_can (can_d2 h2), ord_d2]
  rfl
theorem nB : nearE (.dict lB) = 0 := by decide
theorem nO : nearE (.dict lO) = 0 := by decide
theorem nT : nearE (.dict lT) = 0 := by decide
theorem nU : nearE (.dict lU) = 0 := by decide
theorem nR : nearE (.dict lR) = 0 := by decide
theorem one_miss (v : V) : oneF (mS v true) (mS .nil false) = false := rfl
theorem one_miss2 (v : V) : oneF (mS .nil false) (mS v true) = false := rfl
theorem one_none : oneF (mS .nil false) (mS .nil false) = true := rfl
theorem first_eq : p_merge_Threenil (.dict lB) (.dict lO) (.dict lT) = some (.dict lR, [], 0) := by
  have hL : namesL (lB.map (·.1) ++ lO.map (·.1) ++ lT.map (·.1)) = [na, nb, nc] := names_is (by decide) (by
    intro x; simp only [List.map_cons, List.map_nil, List.cons_append, List.nil_append, List.mem_cons, List.not_mem_nil, or_false]
    constructor
    · rintro (h | h | h | h | h | h) <;> simp [h]
    · rintro (h | h | h) <;> simp [h])
  have hP : PutsN [] lB lO lT (fun n => if n = na then mS (.int 2) true else if n = nb then mS .nil false else mS (.int 3) true) (fun _ => []) (namesL (lB.map (·.1) ++ lO.map (·.1) ++ lT.map (·.1))) := by
    intro n hn cs hcs
    rw [hL] at hn
    simp only [List.mem_cons, List.not_mem_nil, or_false] at hn
    rw [List.append_nil]
    rcases hn with rfl | rfl | rfl
    · exact put_ours (.inr (by show oneF (mS (.int 1) true) (mS (.int 1) true) = true; rw [one_int]; rfl))
    · exact put_theirs (one_miss (.int 1)) (one_miss2 (.int 1)) (by show oneF (mS (.int 1) true) (mS (.int 1) true) = true; rw [one_int]; rfl)
    · exact put_theirs (one_miss2 (.int 3)) (one_miss (.int 3)) one_none
  have hf := yes_fields (b := .dict lB) (o := .dict lO) (t := .dict lT) rfl rfl rfl (by decide) (by decide) (by decide) (by decide) hP (cs := []) (by rw [hL]; decide)
  have hp : p_merge_merger_put (mM []) [] (mS (.dict lB) true) (mS (.dict lO) true) (mS (.dict lT) true) = some (mS (.dict lR) true, mM []) := by
    rw [put_deep (by rw [one_d2 nO nT]; decide) (by rw [one_d2 nT nB]; decide) (by rw [one_d2 nO nB]; decide)]
    rw [deep_f hf, hL]; rfl
  exact three_ok (can_d2 nB) (can_d2 nO) (can_d2 nT) hp (can_d2 nR)
theorem second_eq : ∃ c : Conf, c.f_Way = [stN na] ∧ p_merge_Threenil (.dict lB) (.dict lO) (.dict lU) = some (.dict lO, [c], 0) := by
  have hL : namesL (lB.map (·.1) ++ lO.map (·.1) ++ lU.map (·.1)) = [na, nb] := names_is (by decide) (by
    intro x; simp only [List.map_cons, List.map_nil, List.cons_append, List.nil_append, List.mem_cons, List.not_mem_nil, or_false]
    constructor
    · rintro (h | h | h | h | h | h) <;> simp [h]
    · rintro (h | h) <;> simp [h])
  refine ⟨conf [stN na] (mS (.int 1) true) (mS (.int 2) true) (mS (.int 3) true), rfl, ?_⟩
  have hP : PutsN [] lB lO lU (fun n => if n = na then mS (.int 2) true else mS (.int 1) true) (fun n => if n = na then [conf [stN na] (mS (.int 1) true) (mS (.int 2) true) (mS (.int 3) true)] else []) (namesL (lB.map (·.1) ++ lO.map (·.1) ++ lU.map (·.1))) := by
    intro n hn cs hcs
    rw [hL] at hn
    simp only [List.mem_cons, List.not_mem_nil, or_false] at hn
    rcases hn with rfl | rfl
    · have hcs' : cs.length ≤ 1073741824 := by omega
      show p_merge_merger_put (mM cs) [stN na] (mS (.int 1) true) (mS (.int 2) true) (mS (.int 3) true) = _
      rw [put_deep (by rw [one_int]; rfl) (by rw [one_int]; rfl) (by rw [one_int]; rfl)]
      exact deep_c (by decide) hcs' (no_fields (by simp) (by simp) (by simp) (by rintro ⟨x, y, z, c, k, h, _⟩; cases h)) (no_list (by rintro ⟨x, y, z, h, _⟩; cases h))
    · show p_merge_merger_put (mM cs) [stN nb] (mS (.int 1) true) (mS (.int 1) true) (mS (.int 1) true) = some (mS (.int 1) true, mM (cs ++ []))
      rw [List.append_nil]
      exact put_ours (.inl (by rw [one_int]; rfl))
  have hf := yes_fields (b := .dict lB) (o := .dict lO) (t := .dict lU) rfl rfl rfl (by decide) (by decide) (by decide) (by decide) hP (cs := []) (by rw [hL]; decide)
  have hp : p_merge_merger_put (mM []) [] (mS (.dict lB) true) (mS (.dict lO) true) (mS (.dict lU) true) = some (mS (.dict lO) true, mM [conf [stN na] (mS (.int 1) true) (mS (.int 2) true) (mS (.int 3) true)]) := by
    rw [put_deep (by rw [one_d2 nO nU]; decide) (by rw [one_d2 nU nB]; decide) (by rw [one_d2 nO nB]; decide)]
    rw [deep_f hf, hL]; rfl
  exact three_ok (can_d2 nB) (can_d2 nO) (can_d2 nU) hp (can_d2 nO)
theorem lives : p_law24_lives = some true := by
  obtain ⟨c, hw, h2⟩ := second_eq
  unfold p_law24_lives
  rw [first_eq, Option.bind_some, h2, Option.bind_some]
  simp only [value_Same_eq, same_refl (can_d2 nR), Option.bind_some, List.getElem?_cons_zero, hw]
  rfl
end Go.Proofs.Ytkmhecgagibgjaa

namespace Go.Proofs.Ytkmhecgagibgjaa
open Go Aw
set_option linter.unusedVariables false
set_option linter.unusedSimpArgs false
set_option maxRecDepth 8000
theorem zcnt_mem : ∀ {l : List V} {y : V}, y ∈ l → cnt y ≤ cntL l ∧ dpt y ≤ dptL l
  | x :: r, y, h => by
    have hp : 0 ≤ cntL r ∧ 0 ≤ dptL r := by
      clear h
      induction r with
      | nil => simp [cntL, dptL]
      | cons z q ih => have := cnt_pos z; simp only [cntL, dptL]; omega
    have hx := cnt_pos x
    simp only [cntL, dptL]
    rcases List.mem_cons.1 h with rfl | h
    · omega
    · have := zcnt_mem h; omega
theorem zcan_part {x y : V} (h : Can x) (hy : y ∈ x.parts) : Can y := by
  have h1 := zcnt_mem hy
  have h2 := cnt_eq x
  have h3 := dpt_eq x
  obtain ⟨a, b, c⟩ := h
  exact ⟨a.part y hy, by omega, by omega⟩
def W (s : Side) : Int := if s.f_has = true then cnt s.f_v else 0
theorem W_pos (s : Side) : 0 ≤ W s := by
  unfold W; split
  · have := cnt_pos s.f_v; omega
  · omega
theorem W_t (v : V) : W (mS v true) = cnt v := if_pos rfl
theorem fld_parts {v : V} {x : List (Str × V)} {c : Str} {k : Int} (h : fldF v = some (x, c, k)) : v.parts = x.map (·.2) := by
  cases v <;> first | (cases h; rfl) | cases h
theorem fld_cnt {v : V} {x : List (Str × V)} {c : Str} {k : Int} (h : fldF v = some (x, c, k)) : cnt v = 1 + cntD x := by
  rw [cnt_eq, fld_parts h, cntD_map]
theorem fld_len {v : V} {x : List (Str × V)} {c : Str} {k : Int} (hc : Can v) (h : fldF v = some (x, c, k)) : x.length ≤ 4096 := by
  have hn := hc.1.own
  cases v with
  | dict d => cases h; exact near_dict hn
  | record c' v' d => cases h; exact (near_rec hn).2
  | _ => cases h
theorem und_ok {v : V} {x : List (Str × V)} {c : Str} {k : Int} (hc : Can v) (h : fldF v = some (x, c, k)) (n : Str) : SOk (undF x n) ∧ ((undF x n).f_has = true → cnt (undF x n).f_v < cnt v) := by
  have key : (undF x n).f_has = true → Can (undF x n).f_v ∧ cnt (undF x n).f_v < cnt v := fun hh => by
    obtain ⟨u, h1, h2⟩ := und_some hh
    rw [h2]
    have hm : u ∈ v.parts := by rw [fld_parts h]; exact List.mem_map.2 ⟨_, h1, rfl⟩
    have := zcnt_mem hm
    have e := cnt_eq v
    exact ⟨zcan_part hc hm, by show cnt u < _; omega⟩
  exact ⟨fun hh => (key hh).1, fun hh => (key hh).2⟩
theorem sum_zero : ∀ (L : List Str), (L.map fun n => W (undF [] n)).sum = 0
  | [] => rfl
  | n :: r => by rw [List.map_cons, List.sum_cons, sum_zero r]; rfl
theorem sum_same {x : List (Str × V)} {f : Str × V} : ∀ (L : List Str), f.1 ∉ L → (L.map fun n => W (undF (f :: x) n)).sum = (L.map fun n => W (undF x n)).sum
  | [], _ => rfl
  | n :: r, h => by
    simp only [List.mem_cons, not_or] at h
    rw [List.map_cons, List.map_cons, List.sum_cons, List.sum_cons, sum_same r h.2, undF, if_neg h.1]
theorem sum_step {x : List (Str × V)} {f : Str × V} : ∀ (L : List Str), L.Nodup → (L.map fun n => W (undF (f :: x) n)).sum ≤ cnt f.2 + (L.map fun n => W (undF x n)).sum
  | [], _ => by have := cnt_pos f.2; simp; omega
  | n :: r, h => by
    rw [List.nodup_cons] at h
    rw [List.map_cons, List.map_cons, List.sum_cons, List.sum_cons]
    by_cases he : f.1 = n
    · have := sum_same (x := x) (f := f) r (by rw [he]; exact h.1)
      have hw := W_pos (undF x n)
      rw [undF, if_pos he, W_t, this]; omega
    · have := sum_step (x := x) (f := f) r h.2
      rw [undF, if_neg he]; omega
theorem sum_und : ∀ (x : List (Str × V)) (L : List Str), L.Nodup → (L.map fun n => W (undF x n)).sum ≤ cntD x
  | [], L, _ => by rw [sum_zero]; simp [cntD]
  | f :: r, L, h => by
    have h1 := sum_step (x := r) (f := f) L h
    have h2 := sum_und r L h
    obtain ⟨s, v⟩ := f
    have h3 : cnt (s, v).2 = cnt v := rfl
    simp only [cntD]
    omega
theorem lt_nodup {L : List Str} (h : L.Pairwise (· < ·)) : L.Nodup := h.imp (fun h e => by subst e; exact s_irr _ h)
def swp (c : Conf) : Conf := S_api_Conflict.mk c.f_Way c.f_Base c.f_Theirs c.f_Ours c.f_Had c.f_TheyHave c.f_WeHave
structure COk (c : Conf) : Prop where
  b : Can c.f_Base
  o : Can c.f_Ours
  t : Can c.f_Theirs
theorem can_nil : Can .nil := ⟨.mk rfl (fun y hy => by cases hy), by decide, by decide⟩
theorem can_cp (v : V) : Can (cpF v) := by
  unfold cpF; split
  · assumption
  · exact can_nil
def rEq (s s' : Side) : Prop := s.f_has = s'.f_has ∧ (s.f_has = true → ordF s.f_v s'.f_v = 0)
theorem rEq_refl (s : Side) : rEq s s := ⟨rfl, fun _ => ord_self _⟩
theorem rEq_one {a b : Side} (h : oneF a b = true) : rEq a b := by
  unfold oneF at h
  simp only [Bool.and_eq_true, Bool.or_eq_true, beq_iff_eq, Bool.not_eq_true'] at h
  refine ⟨h.1, fun hh => ?_⟩
  rcases h.2 with h2 | h2
  · rw [hh] at h2; cases h2
  · exact (same_can h2).2.2
theorem cmp_self (s : Str) : cmpS s s = 0 := by
  have := ord_self (.text s)
  rwa [ordF] at this
theorem ordD_got {s s' : Str → Side} : ∀ (L : List Str), (∀ n, n ∈ L → rEq (s n) (s' n)) → ordD (gotN s L) (gotN s' L) = 0
  | [], _ => by simp [gotN, ordD]
  | n :: r, h => by
    have ih := ordD_got r (fun m hm => h m (by simp [hm]))
    obtain ⟨h1, h2⟩ := h n (by simp)
    unfold gotN at ih ⊢
    rw [List.filterMap_cons, List.filterMap_cons, ← h1]
    cases hs : (s n).f_has with
    | false => simpa using ih
    | true =>
      simp only [if_true]
      rw [ordD, cmp_self, h2 hs, ih]; rfl
theorem ord_mkF {c : Str} {k : Int} {d d' : List (Str × V)} (h : ordD d d' = 0) : ordF (mkF c k d) (mkF c k d') = 0 := by
  unfold mkF
  by_cases hc : c = []
  · rw [if_pos hc, if_pos hc, ordF]; exact h
  · rw [if_neg hc, if_neg hc, ordF]
    simp only [cmp_self, h, c3]
    simp [th]
theorem ordL_got {s s' : Nat → Side} : ∀ (L : List Nat), (∀ i, i ∈ L → ordF (s i).f_v (s' i).f_v = 0) → ordL (L.map fun i => (s i).f_v) (L.map fun i => (s' i).f_v) = 0
  | [], _ => by simp [ordL]
  | i :: r, h => by
    rw [List.map_cons, List.map_cons, ordL, h i (by simp), ordL_got r (fun m hm => h m (by simp [hm]))]; rfl
structure TP (w : List Stp) (b o t s s' : Side) (E : List Conf) : Prop where
  r : ∀ cs : List Conf, cs.length + E.length ≤ 1073741824 → p_merge_merger_put (mM cs) w b o t = some (s, mM (cs ++ E))
  r' : ∀ cs : List Conf, cs.length + E.length ≤ 1073741824 → p_merge_merger_put (mM cs) w b t o = some (s', mM (cs ++ E.map swp))
  n : (E.length : Int) ≤ W b + W o + W t
  c : ∀ c, c ∈ E → COk c
  e : E = [] → rEq s s'
  h : o.f_has = true → t.f_has = true → s.f_has = true ∧ s'.f_has = true
theorem sum_flat {α : Type} (E : α → List Conf) (f : α → Int) : ∀ (L : List α), (∀ n, n ∈ L → ((E n).length : Int) ≤ f n) → ((L.flatMap E).length : Int) ≤ (L.map f).sum
  | [], _ => by simp
  | n :: r, h => by
    have h1 := h n (by simp)
    have h2 := sum_flat E f r (fun m hm => h m (by simp [hm]))
    rw [List.flatMap_cons, List.length_append, List.map_cons, List.sum_cons]
    omega
theorem sum_add3 {α : Type} (f g h : α → Int) : ∀ (L : List α), (L.map fun n => f n + g n + h n).sum = (L.map f).sum + (L.map g).sum + (L.map h).sum
  | [] => rfl
  | n :: r => by simp only [List.map_cons, List.sum_cons, sum_add3 f g h r]; omega
theorem sum_at : ∀ (x : List V) (i : Nat) (pre : List V), pre.length = i → ((List.range' i x.length).map fun j => cnt ((pre ++ x).getD j .nil)).sum = cntL x
  | [], i, pre, _ => by simp [cntL]
  | a :: r, i, pre, h => by
    rw [List.length_cons, List.range'_succ, List.map_cons, List.sum_cons]
    have h1 : (pre ++ a :: r).getD i .nil = a := by simp [List.getD_eq_getElem?_getD, ← h]
    have h2 := sum_at r (i + 1) (pre ++ [a]) (by simp [h])
    rw [List.append_assoc, List.singleton_append] at h2
    rw [h1, h2]; simp only [cntL]
theorem sum_rng (x : List V) : ((rng 0 x.length).map fun j => cnt (x.getD j .nil)).sum = cntL x := by
  have := sum_at x 0 [] rfl
  rw [List.nil_append] at this
  exact this
theorem list_parts {l : List V} {u : V} {i : Nat} (h : l[i]? = some u) : u ∈ (V.list l).parts := List.mem_of_getElem? h
theorem has_eta {s : Side} (h : s.f_has = true) : s = mS s.f_v true := by
  obtain ⟨v, b⟩ := s
  simp only at h
  subst h; rfl
theorem conf_has {b o t : Side} (h : oneF o t = false) : o.f_has = true ∨ t.f_has = true := by
  unfold oneF at h
  cases ho : o.f_has with
  | true => exact .inl rfl
  | false =>
    cases ht : t.f_has with
    | true => exact .inr rfl
    | false => rw [ho, ht] at h; simp at h
theorem conf_W {b o t : Side} (h : oneF o t = false) : (1 : Int) ≤ W b + W o + W t := by
  have h1 := W_pos b
  have h2 := W_pos o
  have h3 := W_pos t
  rcases conf_has (b := b) h with h4 | h4
  · have : W o = cnt o.f_v := if_pos h4
    have := cnt_pos o.f_v
    omega
  · have : W t = cnt t.f_v := if_pos h4
    have := cnt_pos t.f_v
    omega
theorem conf_ok (w : List Stp) (b o t : Side) : COk (conf w b o t) := ⟨can_cp _, can_cp _, can_cp _⟩
theorem turned : ∀ (N : Nat) (w : List Stp) (b o t : Side), SOk b → SOk o → SOk t → (b.f_has = true → cnt b.f_v ≤ N) → w.length + N ≤ 1000000 → ∃ s s' E, TP w b o t s s' E := by
  intro N
  induction N with
  | zero =>
    intro w b o t hb ho ht hN hw
    cases h : b.f_has with
    | true => have := cnt_pos b.f_v; have := hN h; omega
    | false =>
      cases h1 : oneF o t with
      | true => exact ⟨o, t, [], fun cs _ => by rw [List.append_nil]; exact put_ours (.inl h1), fun cs _ => by rw [List.map_nil, List.append_nil]; exact put_ours (.inl (by rw [one_swap]; exact h1)), by have := W_pos b; have := W_pos o; have := W_pos t; simp; omega, (fun c hc => by cases hc), fun _ => rEq_one h1, fun a1 a2 => ⟨a1, a2⟩⟩
      | false =>
        cases h2 : oneF t b with
        | true =>
          have h3 : oneF o b = false := by
            cases h3 : oneF o b with
            | false => rfl
            | true => rw [one_trans h3 (by rw [one_swap]; exact h2)] at h1; cases h1
          exact ⟨o, o, [], fun cs _ => by rw [List.append_nil]; exact put_ours (.inr h2), fun cs _ => by rw [List.map_nil, List.append_nil]; exact put_theirs (by rw [one_swap]; exact h1) h3 h2, by have := W_pos b; have := W_pos o; have := W_pos t; simp; omega, (fun c hc => by cases hc), fun _ => rEq_refl _, fun a1 a2 => ⟨a1, a1⟩⟩
        | false =>
          cases h3 : oneF o b with
          | true => exact ⟨t, t, [], fun cs _ => by rw [List.append_nil]; exact put_theirs h1 h2 h3, fun cs _ => by rw [List.map_nil, List.append_nil]; exact put_ours (.inr h3), by have := W_pos b; have := W_pos o; have := W_pos t; simp; omega, (fun c hc => by cases hc), fun _ => rEq_refl _, fun a1 a2 => ⟨a2, a2⟩⟩
          | false =>
            refine ⟨o, t, [conf w b o t], fun cs hc => ?_, fun cs hc => ?_, by have := conf_W (b := b) h1; simpa using this, fun c hc => ?_, (fun e => by cases e), fun a1 a2 => ⟨a1, a2⟩⟩
            · exact put_conf (by omega) (by simp at hc; omega) h1 h2 h3 (by rw [h]; simp)
            · exact put_conf (by omega) (by simp at hc; omega) (by rw [one_swap]; exact h1) h3 h2 (by rw [h]; simp)
            · simp at hc; subst hc; exact conf_ok w b o t
  | succ N ih =>
    intro w b o t hb ho ht hN hw
    have hWs : (0 : Int) ≤ W b + W o + W t := by have := W_pos b; have := W_pos o; have := W_pos t; omega
    cases h1 : oneF o t with
    | true => exact ⟨o, t, [], fun cs _ => by rw [List.append_nil]; exact put_ours (.inl h1), fun cs _ => by rw [List.map_nil, List.append_nil]; exact put_ours (.inl (by rw [one_swap]; exact h1)), by simpa using hWs, (fun c hc => by cases hc), fun _ => rEq_one h1, fun a1 a2 => ⟨a1, a2⟩⟩
    | false =>
      have h1' : oneF t o = false := by rw [one_swap]; exact h1
      cases h2 : oneF t b with
      | true =>
        have h3 : oneF o b = false := by
          cases h3 : oneF o b with
          | false => rfl
          | true => rw [one_trans h3 (by rw [one_swap]; exact h2)] at h1; cases h1
        exact ⟨o, o, [], fun cs _ => by rw [List.append_nil]; exact put_ours (.inr h2), fun cs _ => by rw [List.map_nil, List.append_nil]; exact put_theirs h1' h3 h2, by simpa using hWs, (fun c hc => by cases hc), fun _ => rEq_refl _, fun a1 a2 => ⟨a1, a1⟩⟩
      | false =>
        cases h3 : oneF o b with
        | true => exact ⟨t, t, [], fun cs _ => by rw [List.append_nil]; exact put_theirs h1 h2 h3, fun cs _ => by rw [List.map_nil, List.append_nil]; exact put_ours (.inr h3), by simpa using hWs, (fun c hc => by cases hc), fun _ => rEq_refl _, fun a1 a2 => ⟨a2, a2⟩⟩
        | false =>
          have hwl : w.length ≤ 1073741824 := by omega
          by_cases hall : b.f_has = true ∧ o.f_has = true ∧ t.f_has = true
          · obtain ⟨eb, eo, et⟩ := hall
            have kb := hb eb
            have ko := ho eo
            have kt := ht et
            have kN := hN eb
            rw [has_eta eb, has_eta eo, has_eta et]
            rw [has_eta eo, has_eta et] at h1
            rw [has_eta et, has_eta eo] at h1'
            rw [has_eta et, has_eta eb] at h2
            rw [has_eta eo, has_eta eb] at h3
            generalize b.f_v = bv at *
            generalize o.f_v = ov at *
            generalize t.f_v = tv at *
            clear hb ho ht hN hWs eb eo et
            by_cases hF : ∃ x y z c k, fldF bv = some (x, c, k) ∧ fldF ov = some (y, c, k) ∧ fldF tv = some (z, c, k)
            · obtain ⟨x, y, z, c, k, fx, fy, fz⟩ := hF
              have hall : ∀ n, ∃ q : Side × Side × List Conf, TP (w ++ [stN n]) (undF x n) (undF y n) (undF z n) q.1 q.2.1 q.2.2 := fun n => by
                have ux := und_ok kb fx n
                obtain ⟨s, s', E, h⟩ := ih (w ++ [stN n]) (undF x n) (undF y n) (undF z n) ux.1 (und_ok ko fy n).1 (und_ok kt fz n).1 (fun hh => by have := ux.2 hh; omega) (by simp; omega)
                exact ⟨(s, s', E), h⟩
              obtain ⟨q, hq⟩ := Classical.skolem.1 hall
              have hL : namesL (x.map (·.1) ++ z.map (·.1) ++ y.map (·.1)) = namesL (x.map (·.1) ++ y.map (·.1) ++ z.map (·.1)) := names_eq (fun m => by simp only [List.mem_append]; constructor <;> (rintro ((h | h) | h) <;> simp [h]))
              have lx := fld_len kb fx
              have ly := fld_len ko fy
              have lz := fld_len kt fz
              have hnd := lt_nodup (names_lt (x.map (·.1) ++ y.map (·.1) ++ z.map (·.1)))
              generalize hLL : namesL (x.map (·.1) ++ y.map (·.1) ++ z.map (·.1)) = L at *
              have hsum : ((L.flatMap fun n => (q n).2.2).length : Int) ≤ W (mS bv true) + W (mS ov true) + W (mS tv true) := by
                have a := sum_flat (fun n => (q n).2.2) (fun n => W (undF x n) + W (undF y n) + W (undF z n)) L (fun n _ => (hq n).n)
                rw [sum_add3] at a
                have a1 := sum_und x L hnd
                have a2 := sum_und y L hnd
                have a3 := sum_und z L hnd
                rw [W_t, W_t, W_t, fld_cnt fx, fld_cnt fy, fld_cnt fz]
                omega
              have hmap : (L.flatMap fun n => (q n).2.2).map swp = L.flatMap fun n => (q n).2.2.map swp := List.map_flatMap
              refine ⟨mS (mkF c k (gotN (fun n => (q n).1) L)) true, mS (mkF c k (gotN (fun n => (q n).2.1) L)) true, L.flatMap fun n => (q n).2.2, fun cs hcs => ?_, fun cs hcs => ?_, hsum, fun e he => ?_, fun e => ?_, fun _ _ => ⟨rfl, rfl⟩⟩
              · have hf := yes_fields (b := bv) (o := ov) (t := tv) fx fy fz lx ly lz (s := fun n => (q n).1) (E := fun n => (q n).2.2) hwl (fun n _ cs h => (hq n).r cs h) (cs := cs) (by rw [hLL]; exact hcs)
                rw [hLL] at hf
                rw [put_deep h1 h2 h3]; exact deep_f hf
              · have hf := yes_fields (b := bv) (o := tv) (t := ov) fx fz fy lx lz ly (s := fun n => (q n).2.1) (E := fun n => (q n).2.2.map swp) hwl (fun n _ cs h => (hq n).r' cs (by rw [List.length_map] at h; exact h)) (cs := cs) (by rw [hL, ← hmap, List.length_map]; exact hcs)
                rw [hL] at hf
                rw [put_deep h1' h3 h2, hmap]; exact deep_f hf
              · obtain ⟨n, _, hn⟩ := List.mem_flatMap.1 he
                exact (hq n).c e hn
              · rw [List.flatMap_eq_nil_iff] at e
                exact ⟨rfl, fun _ => ord_mkF (ordD_got L (fun n hn => (hq n).e (e n hn)))⟩
            · have hF' : ¬ ∃ x y z c k, fldF bv = some (x, c, k) ∧ fldF tv = some (y, c, k) ∧ fldF ov = some (z, c, k) := fun ⟨x, y, z, c, k, a1, a2, a3⟩ => hF ⟨x, z, y, c, k, a1, a3, a2⟩
              have nf : ∀ cs, p_merge_merger_fields (mM cs) w bv ov tv = some (mS .nil false, false, mM cs) := fun cs => no_fields (can_not_nothing kb) (can_not_nothing ko) (can_not_nothing kt) hF
              have nf' : ∀ cs, p_merge_merger_fields (mM cs) w bv tv ov = some (mS .nil false, false, mM cs) := fun cs => no_fields (can_not_nothing kb) (can_not_nothing kt) (can_not_nothing ko) hF'
              by_cases hA : ∃ x y z, lstF bv = some x ∧ lstF ov = some y ∧ lstF tv = some z ∧ x.length = y.length ∧ x.length = z.length
              · obtain ⟨x, y, z, fx, fy, fz, ly, lz⟩ := hA
                have eb : bv = .list x := by cases bv <;> first | (cases fx; rfl) | cases fx
                have eo : ov = .list y := by cases ov <;> first | (cases fy; rfl) | cases fy
                have et : tv = .list z := by cases tv <;> first | (cases fz; rfl) | cases fz
                subst eb; subst eo; subst et
                have lx := near_list kb.1.own
                have hall : ∀ i, ∃ q : Side × Side × List Conf, i < x.length → TP (w ++ [stA i]) (mS (x.getD i .nil) true) (mS (y.getD i .nil) true) (mS (z.getD i .nil) true) q.1 q.2.1 q.2.2 := fun i => by
                  by_cases hi : i < x.length
                  · have gx : x[i]? = some (x.getD i .nil) := by rw [List.getD_eq_getElem?_getD, List.getElem?_eq_getElem hi]; rfl
                    have gy : y[i]? = some (y.getD i .nil) := by rw [List.getD_eq_getElem?_getD, List.getElem?_eq_getElem (by omega)]; rfl
                    have gz : z[i]? = some (z.getD i .nil) := by rw [List.getD_eq_getElem?_getD, List.getElem?_eq_getElem (by omega)]; rfl
                    have m1 := zcnt_mem (list_parts gx)
                    have c1 := cnt_eq (.list x)
                    obtain ⟨s, s', E, h⟩ := ih (w ++ [stA i]) (mS (x.getD i .nil) true) (mS (y.getD i .nil) true) (mS (z.getD i .nil) true) (sok (zcan_part kb (list_parts gx)) _) (sok (zcan_part ko (list_parts gy)) _) (sok (zcan_part kt (list_parts gz)) _) (fun _ => by show cnt (x.getD i .nil) ≤ _; omega) (by simp; omega)
                    exact ⟨(s, s', E), fun _ => h⟩
                  · exact ⟨(mS .nil false, mS .nil false, []), fun h => absurd h hi⟩
                obtain ⟨q, hq⟩ := Classical.skolem.1 hall
                have hmem : ∀ i, i ∈ rng 0 x.length → i < x.length := fun i hi => by
                  have := List.mem_range'_1.1 hi; omega
                have hget : ∀ {l : List V} {i : Nat} {p : V}, l[i]? = some p → l.getD i .nil = p := fun h => by rw [List.getD_eq_getElem?_getD, h]; rfl
                have hsum : (((rng 0 x.length).flatMap fun i => (q i).2.2).length : Int) ≤ W (mS (.list x) true) + W (mS (.list y) true) + W (mS (.list z) true) := by
                  have a := sum_flat (fun i => (q i).2.2) (fun i => cnt (x.getD i .nil) + cnt (y.getD i .nil) + cnt (z.getD i .nil)) (rng 0 x.length) (fun i hi => by
                    have := (hq i (hmem i hi)).n
                    rw [W_t, W_t, W_t] at this; exact this)
                  rw [sum_add3, sum_rng x] at a
                  have a2 := sum_rng y
                  have a3 := sum_rng z
                  rw [← ly] at a2; rw [← lz] at a3
                  rw [a2, a3] at a
                  rw [W_t, W_t, W_t]
                  simp only [cnt]
                  omega
                have hmap : ((rng 0 x.length).flatMap fun i => (q i).2.2).map swp = (rng 0 x.length).flatMap fun i => (q i).2.2.map swp := List.map_flatMap
                refine ⟨mS (.list ((rng 0 x.length).map fun i => (q i).1.f_v)) true, mS (.list ((rng 0 x.length).map fun i => (q i).2.1.f_v)) true, (rng 0 x.length).flatMap fun i => (q i).2.2, fun cs hcs => ?_, fun cs hcs => ?_, hsum, fun e he => ?_, fun e => ?_, fun _ _ => ⟨rfl, rfl⟩⟩
                · rw [put_deep h1 h2 h3]
                  exact deep_l (nf cs) (yes_list (s := fun i => (q i).1) (E := fun i => (q i).2.2) hwl ly lz (fun i p q' r hi e1 e2 e3 cs h => by
                    have := (hq i hi).r cs h
                    rw [hget e1, hget e2, hget e3] at this; exact this) (by omega) hcs)
                · rw [put_deep h1' h3 h2, hmap]
                  exact deep_l (nf' cs) (yes_list (s := fun i => (q i).2.1) (E := fun i => (q i).2.2.map swp) hwl lz ly (fun i p q' r hi e1 e2 e3 cs h => by
                    have := (hq i hi).r' cs (by rw [List.length_map] at h; exact h)
                    rw [hget e1, hget e2, hget e3] at this; exact this) (by omega) (by rw [← hmap, List.length_map]; exact hcs))
                · obtain ⟨i, hi, hn⟩ := List.mem_flatMap.1 he
                  exact (hq i (hmem i hi)).c e hn
                · rw [List.flatMap_eq_nil_iff] at e
                  refine ⟨rfl, fun _ => ?_⟩
                  rw [ordF]
                  refine ordL_got _ (fun i hi => ?_)
                  have hi' := hmem i hi
                  exact ((hq i hi').e (e i hi)).2 ((hq i hi').h rfl rfl).1
              · have hA' : ¬ ∃ x y z, lstF bv = some x ∧ lstF tv = some y ∧ lstF ov = some z ∧ x.length = y.length ∧ x.length = z.length := fun ⟨x, y, z, a1, a2, a3, a4, a5⟩ => hA ⟨x, z, y, a1, a3, a2, a5, a4⟩
                refine ⟨mS ov true, mS tv true, [conf w (mS bv true) (mS ov true) (mS tv true)], fun cs hc => ?_, fun cs hc => ?_, by have := conf_W (b := mS bv true) h1; simpa using this, fun c hc => ?_, (fun e => by cases e), fun _ _ => ⟨rfl, rfl⟩⟩
                · rw [put_deep h1 h2 h3]; exact deep_c hwl (by simp at hc; omega) (nf cs) (no_list hA)
                · rw [put_deep h1' h3 h2]; exact deep_c hwl (by simp at hc; omega) (nf' cs) (no_list hA')
                · simp at hc; subst hc; exact conf_ok w _ _ _
          · have hall' : ¬ (b.f_has = true ∧ t.f_has = true ∧ o.f_has = true) := fun ⟨a1, a2, a3⟩ => hall ⟨a1, a3, a2⟩
            refine ⟨o, t, [conf w b o t], fun cs hc => ?_, fun cs hc => ?_, by have := conf_W (b := b) h1; simpa using this, fun c hc => ?_, (fun e => by cases e), fun a1 a2 => ⟨a1, a2⟩⟩
            · exact put_conf hwl (by simp at hc; omega) h1 h2 h3 hall
            · exact put_conf hwl (by simp at hc; omega) h1' h3 h2 hall'
            · simp at hc; subst hc; exact conf_ok w b o t
end Go.Proofs.Ytkmhecgagibgjaa

namespace Go.Proofs.Ytkmhecgagibgjaa
open Go Aw
set_option linter.unusedVariables false
set_option linter.unusedSimpArgs false
set_option maxRecDepth 8000
theorem th0 {c d : Int} (h : th c d = 0) : c = 0 ∧ d = 0 := by
  unfold th at h
  by_cases hc : c = 0
  · rw [if_pos hc] at h; exact ⟨hc, h⟩
  · rw [if_neg hc] at h; exact absurd h hc
theorem c30 {a b : Int} (h : c3 a b = 0) : a = b := by
  unfold c3 at h
  by_cases h1 : a < b
  · rw [if_pos h1] at h; cases h
  · rw [if_neg h1] at h
    by_cases h2 : a > b
    · rw [if_pos h2] at h; cases h
    · omega
theorem cmp0 {s t : Str} (h : cmpS s t = 0) : s = t := by
  unfold cmpS at h
  split at h
  · cases h
  · split at h
    · rename_i h2; simpa using h2
    · cases h
theorem ordL0 : ∀ {a b : List V}, ordL a b = 0 → a.length = b.length ∧ ∀ (i : Nat) x y, a[i]? = some x → b[i]? = some y → ordF x y = 0
  | [], [], _ => ⟨rfl, fun i x y h => by simp at h⟩
  | [], _ :: _, h => by simp [ordL] at h
  | _ :: _, [], h => by simp [ordL] at h
  | x :: r, y :: s, h => by
    rw [ordL] at h
    obtain ⟨h1, h2⟩ := th0 h
    obtain ⟨h3, h4⟩ := ordL0 h2
    refine ⟨by simp [h3], fun i p q hp hq => ?_⟩
    cases i with
    | zero => simp at hp hq; subst hp; subst hq; exact h1
    | succ i => exact h4 i p q (by simpa using hp) (by simpa using hq)
theorem ordL_of : ∀ {a b : List V}, a.length = b.length → (∀ (i : Nat) x y, a[i]? = some x → b[i]? = some y → ordF x y = 0) → ordL a b = 0
  | [], [], _, _ => by simp [ordL]
  | [], _ :: _, h, _ => by simp at h
  | _ :: _, [], h, _ => by simp at h
  | x :: r, y :: s, h, k => by
    rw [ordL, k 0 x y rfl rfl, ordL_of (by simpa using h) (fun i p q hp hq => k (i + 1) p q (by simpa using hp) (by simpa using hq))]; rfl
theorem ordD0 : ∀ {a b : List (Str × V)}, ordD a b = 0 → a.map (·.1) = b.map (·.1) ∧ ordL (a.map (·.2)) (b.map (·.2)) = 0 ∧ ∀ n, rEq (undF a n) (undF b n)
  | [], [], _ => ⟨rfl, by simp [ordL], fun n => rEq_refl _⟩
  | [], _ :: _, h => by simp [ordD] at h
  | _ :: _, [], h => by simp [ordD] at h
  | (s, x) :: r, (t, y) :: q, h => by
    rw [ordD] at h
    obtain ⟨h1, h2⟩ := th0 h
    obtain ⟨h3, h4⟩ := th0 h1
    obtain ⟨h5, h6, h7⟩ := ordD0 h2
    have e := cmp0 h3
    subst e
    refine ⟨by simp only [List.map_cons, h5], by simp only [List.map_cons]; rw [ordL, h4, h6]; rfl, fun n => ?_⟩
    simp only [undF]
    by_cases hn : s = n
    · rw [if_pos hn, if_pos hn]; exact ⟨rfl, fun _ => h4⟩
    · rw [if_neg hn, if_neg hn]; exact h7 n
theorem ordD_of : ∀ {a b : List (Str × V)}, a.map (·.1) = b.map (·.1) → (a.map (·.1)).Nodup → (∀ n, n ∈ a.map (·.1) → rEq (undF a n) (undF b n)) → ordD a b = 0
  | [], [], _, _, _ => by simp [ordD]
  | [], _ :: _, h, _, _ => by simp at h
  | _ :: _, [], h, _, _ => by simp at h
  | (s, x) :: r, (t, y) :: q, h, hd, k => by
    simp only [List.map_cons, List.cons.injEq] at h
    obtain ⟨e, h⟩ := h
    subst e
    simp only [List.map_cons, List.nodup_cons] at hd
    have k0 := k s (by simp)
    simp only [undF, if_true] at k0
    rw [ordD, cmp_self, k0.2 rfl, ordD_of h hd.2 (fun n hn => by
      have := k n (by simp only [List.map_cons, List.mem_cons]; exact .inr hn)
      have hne : ¬ s = n := fun e => by subst e; exact hd.1 hn
      simpa only [undF, if_neg hne] using this)]
    rfl
theorem kind0 {x y : V} (h : ordF x y = 0) : kindOf x = kindOf y := Classical.byContradiction fun hn => by
  rw [ordF_ne hn] at h; exact hn (c30 h)
theorem simL : ∀ (a b : List V), (∀ u, u ∈ a → ∀ v, ordF u v = 0 → Near v → Near u ∧ cnt u = cnt v ∧ dpt u = dpt v) → ordL a b = 0 → (∀ v, v ∈ b → Near v) → (∀ u, u ∈ a → Near u) ∧ cntL a = cntL b ∧ dptL a = dptL b
  | [], [], _, _, _ => ⟨fun u hu => (by cases hu), rfl, rfl⟩
  | [], _ :: _, _, h, _ => by simp [ordL] at h
  | _ :: _, [], _, h, _ => by simp [ordL] at h
  | x :: r, y :: s, ih, h, hb => by
    rw [ordL] at h
    obtain ⟨h1, h2⟩ := th0 h
    obtain ⟨n1, c1, d1⟩ := ih x (by simp) y h1 (hb y (by simp))
    obtain ⟨n2, c2, d2⟩ := simL r s (fun u hu => ih u (by simp [hu])) h2 (fun v hv => hb v (by simp [hv]))
    refine ⟨fun u hu => ?_, by simp only [cntL, c1, c2], by simp only [dptL, d1, d2]⟩
    rcases List.mem_cons.1 hu with rfl | hu
    · exact n1
    · exact n2 u hu
theorem sim (x : V) : ∀ y, ordF x y = 0 → Near y → Near x ∧ cnt x = cnt y ∧ dpt x = dpt y := by
  induction x using V.byParts with
  | _ x ih =>
  intro y h hy
  have hk := kind0 h
  have hn := hy.own
  have core : nearE x = nearE y ∧ ordL x.parts y.parts = 0 := by
    cases x with
    | bool a => cases y <;> first | exact ⟨rfl, by simp [V.parts, ordL]⟩ | (simp [kindOf] at hk)
    | int a => cases y <;> first | exact ⟨rfl, by simp [V.parts, ordL]⟩ | (simp [kindOf] at hk)
    | float a => cases y <;> first | exact ⟨rfl, by simp [V.parts, ordL]⟩ | (simp [kindOf] at hk)
    | ref a => cases y <;> first | exact ⟨rfl, by simp [V.parts, ordL]⟩ | (simp [kindOf] at hk)
    | nil => cases y <;> first | exact ⟨rfl, by simp [V.parts, ordL]⟩ | (simp [kindOf] at hk)
    | nothing => cases y <;> first | exact ⟨rfl, by simp [V.parts, ordL]⟩ | (simp [kindOf] at hk)
    | alien a => cases y <;> first | exact ⟨rfl, by simp [V.parts, ordL]⟩ | (simp [kindOf] at hk)
    | text a =>
      cases y with
      | text b => rw [ordF] at h; rw [cmp0 h]; exact ⟨rfl, by simp [V.parts, ordL]⟩
      | _ => simp [kindOf] at hk
    | bytes a =>
      cases y with
      | bytes b => rw [ordF] at h; rw [cmp0 h]; exact ⟨rfl, by simp [V.parts, ordL]⟩
      | _ => simp [kindOf] at hk
    | list a =>
      cases y with
      | list b => rw [ordF] at h; exact ⟨by simp only [nearE, (ordL0 h).1], h⟩
      | _ => simp [kindOf] at hk
    | dict a =>
      cases y with
      | dict b => rw [ordF] at h; obtain ⟨h1, h2, _⟩ := ordD0 h; exact ⟨by simp only [nearE, h1], h2⟩
      | _ => simp [kindOf] at hk
    | record c v a =>
      cases y with
      | record c' v' b =>
        rw [ordF] at h
        obtain ⟨h1, h2⟩ := th0 h
        obtain ⟨h3, h4⟩ := th0 h2
        obtain ⟨h5, h6, _⟩ := ordD0 h4
        exact ⟨by simp only [nearE, h5, cmp0 h1, c30 h3], h6⟩
      | _ => simp [kindOf] at hk
  obtain ⟨n1, c1, d1⟩ := simL x.parts y.parts ih core.2 (fun v hv => hy.part v hv)
  exact ⟨.mk (by rw [core.1]; exact hn) n1, by rw [cnt_eq, cnt_eq, c1], by rw [dpt_eq, dpt_eq, d1]⟩
theorem can_sim {x y : V} (h : ordF x y = 0) (hy : Can y) : Can x := by
  obtain ⟨a, b, c⟩ := sim x y h hy.1
  exact ⟨a, by rw [b]; exact hy.2.1, by rw [c]; exact hy.2.2⟩
theorem one_rEq {a b : Side} (ha : SOk a) (hb : SOk b) (h : rEq a b) : oneF a b = true := by
  unfold oneF
  rw [h.1, beq_self_eq_true, Bool.true_and]
  cases hh : b.f_has with
  | false => rfl
  | true =>
    rw [Bool.not_true, Bool.false_or]
    have ha' : a.f_has = true := by rw [h.1]; exact hh
    exact same_of (ha ha') (hb hh) (h.2 ha')
theorem zth {c : Int} : th c 0 = c := by
  unfold th; by_cases h : c = 0
  · rw [if_pos h, h]
  · rw [if_neg h]
theorem zcmp_key (a b : Str) : cmpS a b = lexc (keyS a) (keyS b) := by
  have h := keyS_c a b [] []
  rw [List.append_nil, List.append_nil] at h
  rw [h, show lexc [] [] = 0 from rfl, zth]
def zlt (a b : Str) : Prop := cmpS a b = -1
theorem zlt_trans {a b c : Str} (h : zlt a b) (k : zlt b c) : zlt a c := by
  unfold zlt at *
  rw [zcmp_key] at *
  have := lexc_trans (keyS a) (keyS b) (keyS c) (by omega) (by omega)
  have h2 := this.2 (.inl (by omega))
  have := lexc_rng (keyS a) (keyS c)
  omega
theorem zlt_irr (a : Str) : ¬ zlt a a := by unfold zlt; rw [cmp_self]; omega
theorem zleB {a b : Str} (h : leB b a = false) : zlt a b := by
  simp only [leB, Bool.or_eq_false_iff] at h
  have h1 : cmpS b a = 1 := by unfold cmpS; rw [if_neg (by simp [h.1]), if_neg (by simp [h.2])]
  unfold zlt
  rw [zcmp_key] at h1 ⊢
  have := lexc_neg (keyS b) (keyS a)
  omega
theorem zsrt : ∀ {l : List Str} {p : Option Str}, risen p l = true → l.Pairwise zlt ∧ ∀ q, p = some q → ∀ s, s ∈ l → zlt q s
  | [], _, _ => ⟨.nil, fun _ _ s hs => by cases hs⟩
  | s :: r, p, h => by
    simp only [risen, Bool.and_eq_true] at h
    have ih := zsrt h.2
    refine ⟨.cons (fun x hx => ih.2 s rfl x hx) ih.1, fun q hq x hx => ?_⟩
    subst hq
    have h1 : zlt q s := zleB (by simpa using h.1.2)
    rcases List.mem_cons.1 hx with rfl | hx
    · exact h1
    · exact zlt_trans h1 (ih.2 s rfl x hx)
theorem fields_srt {l : List Str} (h : fieldsE l = 0) : l.Pairwise zlt := by
  unfold fieldsE at h
  split at h
  · cases h
  · split at h
    · rename_i h2; exact (zsrt h2).1
    · cases h
theorem fld_srt {v : V} {x : List (Str × V)} {c : Str} {k : Int} (hc : Can v) (h : fldF v = some (x, c, k)) : (x.map (·.1)).Pairwise zlt := by
  have hn := hc.1.own
  cases v with
  | dict d => cases h; exact fields_srt hn
  | record c' v' d =>
    cases h
    simp only [nearE] at hn
    split at hn
    · cases hn
    · split at hn
      · cases hn
      · exact fields_srt hn
  | _ => cases h
theorem fld_k {v : V} {x : List (Str × V)} {k : Int} (hc : Can v) (h : fldF v = some (x, [], k)) : k = 0 := by
  have hn := hc.1.own
  cases v with
  | dict d => cases h; rfl
  | record c' v' d =>
    cases h
    simp only [nearE] at hn
    split at hn
    · cases hn
    · rename_i h2; exact absurd rfl h2
  | _ => cases h
theorem fld_mkF {c : Str} {k : Int} (d : List (Str × V)) (h : c = [] → k = 0) : fldF (mkF c k d) = some (d, c, k) := by
  unfold mkF
  by_cases hc : c = []
  · rw [if_pos hc, hc, h hc]; rfl
  · rw [if_neg hc]; rfl
theorem zuniq : ∀ {a b : List Str}, a.Pairwise zlt → b.Pairwise zlt → (∀ x, x ∈ a ↔ x ∈ b) → a = b
  | [], [], _, _, _ => rfl
  | [], y :: s, _, _, h => by have := (h y).2 (by simp); simp at this
  | x :: r, [], _, _, h => by have := (h x).1 (by simp); simp at this
  | x :: r, y :: s, ha, hb, h => by
    rw [List.pairwise_cons] at ha hb
    have hxy : x = y := by
      have h1 := (h x).1 (by simp)
      have h2 := (h y).2 (by simp)
      rw [List.mem_cons] at h1 h2
      rcases h1 with h1 | h1
      · exact h1
      · rcases h2 with h2 | h2
        · exact h2.symm
        · exact (zlt_irr _ (zlt_trans (ha.1 y h2) (hb.1 x h1))).elim
    subst hxy
    rw [zuniq ha.2 hb.2 (fun z => ?_)]
    constructor
    · intro hz
      have := (h z).1 (by simp [hz])
      rw [List.mem_cons] at this
      rcases this with e | h1
      · subst e; exact (zlt_irr _ (ha.1 _ hz)).elim
      · exact h1
    · intro hz
      have := (h z).2 (by simp [hz])
      rw [List.mem_cons] at this
      rcases this with e | h1
      · subst e; exact (zlt_irr _ (hb.1 _ hz)).elim
      · exact h1
theorem zsrt_nodup {L : List Str} (h : L.Pairwise zlt) : L.Nodup := h.imp (fun h e => by subst e; exact zlt_irr _ h)
theorem same_fields {u v : V} {x y : List (Str × V)} {c : Str} {k : Int} (hu : Can u) (hv : Can v) (fu : fldF u = some (x, c, k)) (fv : fldF v = some (y, c, k)) (h : ∀ n, rEq (undF x n) (undF y n)) : ordF u v = 0 := by
  have hm : ∀ n, n ∈ x.map (·.1) ↔ n ∈ y.map (·.1) := fun n => by rw [← und_has, ← und_has, (h n).1]
  have hd := ordD_of (zuniq (fld_srt hu fu) (fld_srt hv fv) hm) (zsrt_nodup (fld_srt hu fu)) (fun n _ => h n)
  cases u with
  | dict a =>
    cases fu
    cases v with
    | dict b => cases fv; rw [ordF]; exact hd
    | record c' v' b =>
      cases fv
      have := hv.1.own
      simp only [nearE] at this
      split at this
      · cases this
      · rename_i h2; exact absurd rfl h2
    | _ => cases fv
  | record c' v' a =>
    cases fu
    cases v with
    | record c2 v2 b => cases fv; rw [ordF, cmp_self, hd]; simp [c3, th]
    | dict b =>
      cases fv
      have := hu.1.own
      simp only [nearE] at this
      split at this
      · cases this
      · rename_i h2; exact absurd rfl h2
    | _ => cases fv
  | _ => cases fu
theorem fields_same {u v : V} {x y : List (Str × V)} {c : Str} {k : Int} (fu : fldF u = some (x, c, k)) (fv : fldF v = some (y, c, k)) (h : ordF u v = 0) : ∀ n, rEq (undF x n) (undF y n) := by
  have hk := kind0 h
  cases u with
  | dict a =>
    cases fu
    cases v with
    | dict b => cases fv; rw [ordF] at h; exact (ordD0 h).2.2
    | record c' v' b => simp [kindOf] at hk
    | _ => cases fv
  | record c' v' a =>
    cases fu
    cases v with
    | record c2 v2 b =>
      cases fv; rw [ordF] at h
      exact (ordD0 (th0 (th0 h).2).2).2.2
    | dict b => simp [kindOf] at hk
    | _ => cases fv
  | _ => cases fu
theorem und_got {s : Str → Side} : ∀ {L : List Str}, L.Nodup → (∀ n, n ∈ L → (s n).f_has = false → s n = mS .nil false) → ∀ n, n ∈ L → undF (gotN s L) n = s n
  | [], _, _, n, hn => by cases hn
  | m :: r, hd, hs, n, hn => by
    rw [List.nodup_cons] at hd
    have ih := und_got (s := s) (L := r) hd.2 (fun q hq => hs q (by simp [hq]))
    have miss : m ∉ (gotN s r).map (·.1) := fun hm => by
      obtain ⟨f, hf, e⟩ := List.mem_map.1 hm
      unfold gotN at hf
      obtain ⟨q, hq, h2⟩ := List.mem_filterMap.1 hf
      split at h2
      · injection h2 with h2; subst h2; simp only at e; subst e; exact hd.1 hq
      · cases h2
    have hg : gotN s (m :: r) = (if (s m).f_has = true then [(m, (s m).f_v)] else []) ++ gotN s r := by
      unfold gotN
      rw [List.filterMap_cons]
      cases (s m).f_has <;> simp
    rw [hg]
    rcases List.mem_cons.1 hn with rfl | hn
    · cases h : (s n).f_has with
      | true => simp only [if_true, List.singleton_append, undF]; exact (has_eta h).symm
      | false =>
        simp only [Bool.false_eq_true, if_false, List.nil_append]
        rw [hs n (by simp) h]
        cases h2 : (undF (gotN s r) n).f_has with
        | true => exact absurd (und_has.1 h2) miss
        | false => exact (und_none h2).1
    · have hne : ¬ m = n := fun e => by subst e; exact hd.1 hn
      cases h : (s m).f_has with
      | true => simp only [if_true, List.singleton_append, undF, if_neg hne]; exact ih n hn
      | false => simp only [Bool.false_eq_true, if_false, List.nil_append]; exact ih n hn
theorem got_mem {s : Str → Side} {L : List Str} {n : Str} : n ∈ (gotN s L).map (·.1) ↔ n ∈ L ∧ (s n).f_has = true := by
  unfold gotN
  simp only [List.mem_map, List.mem_filterMap]
  constructor
  · rintro ⟨f, ⟨q, hq, h2⟩, rfl⟩
    split at h2
    · rename_i h3; injection h2 with h2; subst h2; exact ⟨hq, h3⟩
    · cases h2
  · rintro ⟨h1, h2⟩
    exact ⟨(n, (s n).f_v), ⟨n, h1, by rw [if_pos h2]⟩, rfl⟩
end Go.Proofs.Ytkmhecgagibgjaa

namespace Go.Proofs.Ytkmhecgagibgjaa
open Go Aw
set_option linter.unusedVariables false
set_option linter.unusedSimpArgs false
set_option maxRecDepth 8000
def SN (s : Side) : Prop := s.f_has = false → s = mS .nil false
theorem sn_und (d : List (Str × V)) (n : Str) : SN (undF d n) := fun h => (und_none h).1
theorem sn_t (v : V) : SN (mS v true) := fun h => by cases h
structure AG (w : List Stp) (b o t s : Side) : Prop where
  p1 : ∀ cs : List Conf, cs.length ≤ 1073741824 → p_merge_merger_put (mM cs) w b s t = some (s, mM cs)
  p2 : ∃ s2, rEq s2 s ∧ ∀ cs : List Conf, cs.length ≤ 1073741824 → p_merge_merger_put (mM cs) w b o s = some (s2, mM cs)
  k : oneF s b = true → oneF t b = true
structure AP (w : List Stp) (b o t s : Side) (E : List Conf) : Prop where
  r : ∀ cs : List Conf, cs.length + E.length ≤ 1073741824 → p_merge_merger_put (mM cs) w b o t = some (s, mM (cs ++ E))
  n : (E.length : Int) ≤ W b + W o + W t
  h : o.f_has = true → t.f_has = true → s.f_has = true
  z : SN s
  a : E = [] → SOk s → AG w b o t s
theorem W3 (b o t : Side) : (([] : List Conf).length : Int) ≤ W b + W o + W t := by
  have := W_pos b; have := W_pos o; have := W_pos t; simp; omega
theorem ap_ours {w : List Stp} {b o t : Side} (ho : SOk o) (hz : SN o) (h : oneF o t = true ∨ oneF t b = true) : AP w b o t o [] :=
  ⟨fun cs _ => by rw [List.append_nil]; exact put_ours h, W3 b o t, fun a _ => a, hz, fun _ _ => ⟨fun cs _ => put_ours h, ⟨o, rEq_refl _, fun cs _ => put_ours (.inl (one_refl ho))⟩, fun hk => h.elim (fun h => one_trans (by rw [one_swap]; exact h) hk) (fun h => h)⟩⟩
theorem ap_theirs {w : List Stp} {b o t : Side} (ht : SOk t) (hz : SN t) (h1 : oneF o t = false) (h2 : oneF t b = false) (h3 : oneF o b = true) : AP w b o t t [] :=
  ⟨fun cs _ => by rw [List.append_nil]; exact put_theirs h1 h2 h3, W3 b o t, fun _ a => a, hz, fun _ _ => ⟨fun cs _ => put_ours (.inl (one_refl ht)), ⟨t, rEq_refl _, fun cs _ => put_theirs h1 h2 h3⟩, fun hk => hk⟩⟩
theorem ap_conf {w : List Stp} {b o t : Side} (hz : SN o) (h1 : oneF o t = false) (hr : ∀ cs : List Conf, cs.length ≤ 1073741823 → p_merge_merger_put (mM cs) w b o t = some (o, mM (cs ++ [conf w b o t]))) : AP w b o t o [conf w b o t] :=
  ⟨fun cs hc => hr cs (by simp at hc; omega), by have := conf_W (b := b) h1; simpa using this, fun a _ => a, hz, fun e => by cases e⟩
theorem put_fun {m m' m2 : S_merge_merger} {w : List Stp} {b o t s s' : Side} (h1 : p_merge_merger_put m w b o t = some (s, m')) (h2 : p_merge_merger_put m w b o t = some (s', m2)) : s = s' := by
  rw [h1] at h2; injection h2 with h2; injection h2
theorem flat_nil {α : Type} (L : List α) : (L.flatMap fun _ => ([] : List Conf)) = [] := by
  induction L with
  | nil => rfl
  | cons x r ih => rw [List.flatMap_cons, ih]; rfl
theorem again : ∀ (N : Nat) (w : List Stp) (b o t : Side), SOk b → SOk o → SOk t → SN b → SN o → SN t → (b.f_has = true → cnt b.f_v ≤ N) → w.length + N ≤ 1000000 → ∃ s E, AP w b o t s E := by
  intro N
  induction N with
  | zero =>
    intro w b o t hb ho ht nb no nt hN hw
    cases h1 : oneF o t with
    | true => exact ⟨o, [], ap_ours ho no (.inl h1)⟩
    | false =>
      cases h2 : oneF t b with
      | true => exact ⟨o, [], ap_ours ho no (.inr h2)⟩
      | false =>
        cases h3 : oneF o b with
        | true => exact ⟨t, [], ap_theirs ht nt h1 h2 h3⟩
        | false =>
          cases h : b.f_has with
          | true => have := cnt_pos b.f_v; have := hN h; omega
          | false => exact ⟨o, _, ap_conf no h1 (fun cs hc => put_conf (by omega) (by omega) h1 h2 h3 (by rw [h]; simp))⟩
  | succ N ih =>
    intro w b o t hb ho ht nb no nt hN hw
    have hwl : w.length ≤ 1073741824 := by omega
    cases h1 : oneF o t with
    | true => exact ⟨o, [], ap_ours ho no (.inl h1)⟩
    | false =>
      cases h2 : oneF t b with
      | true => exact ⟨o, [], ap_ours ho no (.inr h2)⟩
      | false =>
        cases h3 : oneF o b with
        | true => exact ⟨t, [], ap_theirs ht nt h1 h2 h3⟩
        | false =>
          by_cases hall : b.f_has = true ∧ o.f_has = true ∧ t.f_has = true
          · obtain ⟨eb, eo, et⟩ := hall
            have kb := hb eb
            have ko := ho eo
            have kt := ht et
            have kN := hN eb
            rw [has_eta eb, has_eta eo, has_eta et]
            rw [has_eta eo, has_eta et] at h1
            rw [has_eta et, has_eta eb] at h2
            rw [has_eta eo, has_eta eb] at h3
            generalize b.f_v = bv at *
            generalize o.f_v = ov at *
            generalize t.f_v = tv at *
            clear hb ho ht hN nb no nt eb eo et
            by_cases hF : ∃ x y z c k, fldF bv = some (x, c, k) ∧ fldF ov = some (y, c, k) ∧ fldF tv = some (z, c, k)
            · obtain ⟨x, y, z, c, k, fx, fy, fz⟩ := hF
              have hall : ∀ n, ∃ q : Side × List Conf, AP (w ++ [stN n]) (undF x n) (undF y n) (undF z n) q.1 q.2 := fun n => by
                have ux := und_ok kb fx n
                obtain ⟨s, E, h⟩ := ih (w ++ [stN n]) (undF x n) (undF y n) (undF z n) ux.1 (und_ok ko fy n).1 (und_ok kt fz n).1 (sn_und x n) (sn_und y n) (sn_und z n) (fun hh => by have := ux.2 hh; omega) (by simp; omega)
                exact ⟨(s, E), h⟩
              obtain ⟨q, hq⟩ := Classical.skolem.1 hall
              have lx := fld_len kb fx
              have ly := fld_len ko fy
              have lz := fld_len kt fz
              have hnd := lt_nodup (names_lt (x.map (·.1) ++ y.map (·.1) ++ z.map (·.1)))
              have hmL : ∀ n, n ∈ namesL (x.map (·.1) ++ y.map (·.1) ++ z.map (·.1)) ↔ (n ∈ x.map (·.1) ∨ n ∈ y.map (·.1)) ∨ n ∈ z.map (·.1) := fun n => by rw [names_mem, List.mem_append, List.mem_append]
              generalize hLL : namesL (x.map (·.1) ++ y.map (·.1) ++ z.map (·.1)) = L at *
              have hsum : ((L.flatMap fun n => (q n).2).length : Int) ≤ W (mS bv true) + W (mS ov true) + W (mS tv true) := by
                have a := sum_flat (fun n => (q n).2) (fun n => W (undF x n) + W (undF y n) + W (undF z n)) L (fun n _ => (hq n).n)
                rw [sum_add3] at a
                have a1 := sum_und x L hnd
                have a2 := sum_und y L hnd
                have a3 := sum_und z L hnd
                rw [W_t, W_t, W_t, fld_cnt fx, fld_cnt fy, fld_cnt fz]
                omega
              have fS : fldF (mkF c k (gotN (fun n => (q n).1) L)) = some (gotN (fun n => (q n).1) L, c, k) := fld_mkF _ (fun hc => by subst hc; exact fld_k kb fx)
              have hD : ∀ n, n ∈ L → undF (gotN (fun n => (q n).1) L) n = (q n).1 := und_got (s := fun n => (q n).1) hnd (fun n _ h => (hq n).z h)
              refine ⟨mS (mkF c k (gotN (fun n => (q n).1) L)) true, L.flatMap fun n => (q n).2, fun cs hcs => ?_, hsum, fun _ _ => rfl, sn_t _, fun e hS => ?_⟩
              · have hf := yes_fields (b := bv) (o := ov) (t := tv) fx fy fz lx ly lz (s := fun n => (q n).1) (E := fun n => (q n).2) hwl (fun n _ cs h => (hq n).r cs h) (cs := cs) (by rw [hLL]; exact hcs)
                rw [hLL] at hf
                rw [put_deep h1 h2 h3]; exact deep_f hf
              · rw [List.flatMap_eq_nil_iff] at e
                have kS : Can (mkF c k (gotN (fun n => (q n).1) L)) := hS rfl
                have hs : ∀ n, n ∈ L → SOk (q n).1 := fun n hn => by rw [← hD n hn]; exact (und_ok kS fS n).1
                have hA : ∀ n, n ∈ L → AG (w ++ [stN n]) (undF x n) (undF y n) (undF z n) (q n).1 := fun n hn => (hq n).a (e n hn) (hs n hn)
                have lD := fld_len kS fS
                have miss : ∀ {d : List (Str × V)} {n : Str}, n ∉ d.map (·.1) → undF d n = mS .nil false := fun h => by
                  cases h2 : (undF _ _).f_has with
                  | true => exact absurd (und_has.1 h2) h
                  | false => exact (und_none h2).1
                have key : oneF (mS (mkF c k (gotN (fun n => (q n).1) L)) true) (mS bv true) = true → oneF (mS tv true) (mS bv true) = true := fun hk => by
                  have ho := (rEq_one hk).2 rfl
                  have hr := fields_same fS fx ho
                  have hz : ∀ n, rEq (undF z n) (undF x n) := fun n => by
                    by_cases hn : n ∈ L
                    · have h4 := hr n
                      rw [hD n hn] at h4
                      exact rEq_one ((hA n hn).k (one_rEq (hs n hn) (und_ok kb fx n).1 h4))
                    · rw [hmL, not_or, not_or] at hn
                      rw [miss hn.1.1, miss hn.2]; exact rEq_refl _
                  exact one_rEq (sok kt _) (sok kb _) ⟨rfl, fun _ => same_fields kt kb fz fx hz⟩
                have hsb : oneF (mS (mkF c k (gotN (fun n => (q n).1) L)) true) (mS bv true) = false := by
                  cases h4 : oneF (mS (mkF c k (gotN (fun n => (q n).1) L)) true) (mS bv true) with
                  | false => rfl
                  | true => rw [key h4] at h2; cases h2
                have gm : ∀ n, n ∈ (gotN (fun n => (q n).1) L).map (·.1) ↔ n ∈ L ∧ (q n).1.f_has = true := fun n => got_mem
                refine ⟨fun cs hcs => ?_, ?_, key⟩
                · cases h4 : oneF (mS (mkF c k (gotN (fun n => (q n).1) L)) true) (mS tv true) with
                  | true => exact put_ours (.inl h4)
                  | false =>
                    have hN1 : namesL (x.map (·.1) ++ (gotN (fun n => (q n).1) L).map (·.1) ++ z.map (·.1)) = L := by
                      rw [← hLL]
                      refine names_eq (fun n => ?_)
                      rw [← names_mem (l := x.map (·.1) ++ y.map (·.1) ++ z.map (·.1)), hLL, List.mem_append, List.mem_append, gm]
                      constructor
                      · rintro ((h | h) | h)
                        · exact (hmL n).2 (.inl (.inl h))
                        · exact h.1
                        · exact (hmL n).2 (.inr h)
                      · intro h
                        by_cases hx : n ∈ x.map (·.1)
                        · exact .inl (.inl hx)
                        · by_cases hz : n ∈ z.map (·.1)
                          · exact .inr hz
                          · have hy : n ∈ y.map (·.1) := by
                              rcases (hmL n).1 h with (h | h) | h
                              · exact absurd h hx
                              · exact h
                              · exact absurd h hz
                            have e1 := (hq n).r [] (by rw [e n h]; simp)
                            have e2 : p_merge_merger_put (mM []) (w ++ [stN n]) (undF x n) (undF y n) (undF z n) = some (undF y n, mM []) := put_ours (.inr (by rw [miss hx, miss hz]; rfl))
                            have e3 := put_fun e1 e2
                            exact .inl (.inr ⟨h, by rw [e3]; exact und_has.2 hy⟩)
                    have hf := yes_fields (b := bv) (o := mkF c k (gotN (fun n => (q n).1) L)) (t := tv) fx fS fz lx lD lz (s := fun n => (q n).1) (E := fun _ => []) hwl (fun n hn cs h => by
                      rw [hN1] at hn
                      rw [hD n hn, List.append_nil]
                      exact (hA n hn).p1 cs (by simpa using h)) (cs := cs) (by rw [flat_nil]; simpa using hcs)
                    rw [hN1, flat_nil, List.append_nil] at hf
                    rw [put_deep h4 h2 hsb]; exact deep_f hf
                · cases h4 : oneF (mS ov true) (mS (mkF c k (gotN (fun n => (q n).1) L)) true) with
                  | true => exact ⟨mS ov true, rEq_one h4, fun cs _ => put_ours (.inl h4)⟩
                  | false =>
                    have hN2 : namesL (x.map (·.1) ++ y.map (·.1) ++ (gotN (fun n => (q n).1) L).map (·.1)) = L := by
                      rw [← hLL]
                      refine names_eq (fun n => ?_)
                      rw [← names_mem (l := x.map (·.1) ++ y.map (·.1) ++ z.map (·.1)), hLL, List.mem_append, List.mem_append, gm]
                      constructor
                      · rintro ((h | h) | h)
                        · exact (hmL n).2 (.inl (.inl h))
                        · exact (hmL n).2 (.inl (.inr h))
                        · exact h.1
                      · intro h
                        by_cases hx : n ∈ x.map (·.1)
                        · exact .inl (.inl hx)
                        · by_cases hy : n ∈ y.map (·.1)
                          · exact .inl (.inr hy)
                          · have hz : n ∈ z.map (·.1) := by
                              rcases (hmL n).1 h with (h | h) | h
                              · exact absurd h hx
                              · exact absurd h hy
                              · exact h
                            have e1 := (hq n).r [] (by rw [e n h]; simp)
                            have hzh := und_has.2 hz
                            have e2 : p_merge_merger_put (mM []) (w ++ [stN n]) (undF x n) (undF y n) (undF z n) = some (undF z n, mM []) := by
                              rw [miss hx, miss hy, has_eta hzh]
                              exact put_theirs rfl rfl rfl
                            have e3 := put_fun e1 e2
                            exact .inr ⟨h, by rw [e3]; exact hzh⟩
                    have hall2 : ∀ n, ∃ s2 : Side, n ∈ L → rEq s2 (q n).1 ∧ ∀ cs : List Conf, cs.length ≤ 1073741824 → p_merge_merger_put (mM cs) (w ++ [stN n]) (undF x n) (undF y n) (q n).1 = some (s2, mM cs) := fun n => by
                      by_cases hn : n ∈ L
                      · obtain ⟨s2, h5, h6⟩ := (hA n hn).p2
                        exact ⟨s2, fun _ => ⟨h5, h6⟩⟩
                      · exact ⟨mS .nil false, fun h => absurd h hn⟩
                    obtain ⟨q2, hq2⟩ := Classical.skolem.1 hall2
                    refine ⟨mS (mkF c k (gotN q2 L)) true, ⟨rfl, fun _ => ord_mkF (ordD_got L (fun n hn => (hq2 n hn).1))⟩, fun cs hcs => ?_⟩
                    have hf := yes_fields (b := bv) (o := ov) (t := mkF c k (gotN (fun n => (q n).1) L)) fx fy fS lx ly lD (s := q2) (E := fun _ => []) hwl (fun n hn cs h => by
                      rw [hN2] at hn
                      rw [hD n hn, List.append_nil]
                      exact (hq2 n hn).2 cs (by simpa using h)) (cs := cs) (by rw [flat_nil]; simpa using hcs)
                    rw [hN2, flat_nil, List.append_nil] at hf
                    rw [put_deep h4 hsb h3]; exact deep_f hf
            · have nf : ∀ {o' t' : V} (cs : List Conf), Can o' → Can t' → (¬ ∃ x y z c k, fldF bv = some (x, c, k) ∧ fldF o' = some (y, c, k) ∧ fldF t' = some (z, c, k)) → p_merge_merger_fields (mM cs) w bv o' t' = some (mS .nil false, false, mM cs) := fun cs h1 h2 h => no_fields (can_not_nothing kb) (can_not_nothing h1) (can_not_nothing h2) h
              by_cases hA : ∃ x y z, lstF bv = some x ∧ lstF ov = some y ∧ lstF tv = some z ∧ x.length = y.length ∧ x.length = z.length
              · obtain ⟨x, y, z, fx, fy, fz, ly, lz⟩ := hA
                have eb : bv = .list x := by cases bv <;> first | (cases fx; rfl) | cases fx
                have eo : ov = .list y := by cases ov <;> first | (cases fy; rfl) | cases fy
                have et : tv = .list z := by cases tv <;> first | (cases fz; rfl) | cases fz
                subst eb; subst eo; subst et
                have lx := near_list kb.1.own
                have hget : ∀ {l : List V} {i : Nat} {p : V}, l[i]? = some p → l.getD i .nil = p := fun h => by rw [List.getD_eq_getElem?_getD, h]; rfl
                have gat : ∀ {l : List V} {i : Nat}, i < l.length → l[i]? = some (l.getD i .nil) := fun h => by rw [List.getD_eq_getElem?_getD, List.getElem?_eq_getElem h]; rfl
                have hall : ∀ i, ∃ q : Side × List Conf, i < x.length → AP (w ++ [stA i]) (mS (x.getD i .nil) true) (mS (y.getD i .nil) true) (mS (z.getD i .nil) true) q.1 q.2 := fun i => by
                  by_cases hi : i < x.length
                  · have m1 := zcnt_mem (list_parts (gat hi))
                    have c1 := cnt_eq (.list x)
                    obtain ⟨s, E, h⟩ := ih (w ++ [stA i]) (mS (x.getD i .nil) true) (mS (y.getD i .nil) true) (mS (z.getD i .nil) true) (sok (zcan_part kb (list_parts (gat hi))) _) (sok (zcan_part ko (list_parts (gat (by omega)))) _) (sok (zcan_part kt (list_parts (gat (by omega)))) _) (sn_t _) (sn_t _) (sn_t _) (fun _ => by show cnt (x.getD i .nil) ≤ _; omega) (by simp; omega)
                    exact ⟨(s, E), fun _ => h⟩
                  · exact ⟨(mS .nil false, []), fun h => absurd h hi⟩
                obtain ⟨q, hq⟩ := Classical.skolem.1 hall
                have hmem : ∀ i, i ∈ rng 0 x.length → i < x.length := fun i hi => by
                  have := List.mem_range'_1.1 hi; omega
                have hin : ∀ i, i < x.length → i ∈ rng 0 x.length := fun i hi => List.mem_range'_1.2 ⟨by omega, by omega⟩
                have hsum : (((rng 0 x.length).flatMap fun i => (q i).2).length : Int) ≤ W (mS (.list x) true) + W (mS (.list y) true) + W (mS (.list z) true) := by
                  have a := sum_flat (fun i => (q i).2) (fun i => cnt (x.getD i .nil) + cnt (y.getD i .nil) + cnt (z.getD i .nil)) (rng 0 x.length) (fun i hi => by
                    have := (hq i (hmem i hi)).n
                    rw [W_t, W_t, W_t] at this; exact this)
                  rw [sum_add3, sum_rng x] at a
                  have a2 := sum_rng y
                  have a3 := sum_rng z
                  rw [← ly] at a2; rw [← lz] at a3
                  rw [a2, a3] at a
                  rw [W_t, W_t, W_t]
                  simp only [cnt]
                  omega
                have hS_at : ∀ (f : Nat → V) (i : Nat), i < x.length → ((rng 0 x.length).map f)[i]? = some (f i) := fun f i hi => by
                  unfold rng
                  rw [List.getElem?_map, List.getElem?_range' hi]; simp
                have hS_len : ∀ f : Nat → V, ((rng 0 x.length).map f).length = x.length := fun f => by simp [rng]
                refine ⟨mS (.list ((rng 0 x.length).map fun i => (q i).1.f_v)) true, (rng 0 x.length).flatMap fun i => (q i).2, fun cs hcs => ?_, hsum, fun _ _ => rfl, sn_t _, fun e hS => ?_⟩
                · rw [put_deep h1 h2 h3]
                  exact deep_l (nf cs ko kt hF) (yes_list (s := fun i => (q i).1) (E := fun i => (q i).2) hwl ly lz (fun i p q' r hi e1 e2 e3 cs h => by
                    have := (hq i hi).r cs h
                    rw [hget e1, hget e2, hget e3] at this; exact this) (by omega) hcs)
                · rw [List.flatMap_eq_nil_iff] at e
                  have kS := hS rfl
                  have hh : ∀ i, i < x.length → (q i).1.f_has = true := fun i hi => (hq i hi).h rfl rfl
                  have hs : ∀ i, i < x.length → SOk (q i).1 := fun i hi _ => zcan_part kS (list_parts (hS_at _ i hi))
                  have hA : ∀ i, i < x.length → AG (w ++ [stA i]) (mS (x.getD i .nil) true) (mS (y.getD i .nil) true) (mS (z.getD i .nil) true) (q i).1 := fun i hi => (hq i hi).a (e i (hin i hi)) (hs i hi)
                  have key : oneF (mS (.list ((rng 0 x.length).map fun i => (q i).1.f_v)) true) (mS (.list x) true) = true → oneF (mS (.list z) true) (mS (.list x) true) = true := fun hk => by
                    have ho := (rEq_one hk).2 rfl
                    rw [ordF] at ho
                    obtain ⟨_, hp⟩ := ordL0 ho
                    refine one_rEq (sok kt _) (sok kb _) ⟨rfl, fun _ => ?_⟩
                    rw [ordF]
                    refine ordL_of (by omega) (fun i p r hp' hr' => ?_)
                    have hi : i < x.length := lt_of_getL hr'
                    have h5 := hp i _ r (hS_at _ i hi) hr'
                    have h6 : rEq (q i).1 (mS (x.getD i .nil) true) := ⟨hh i hi, fun _ => by rw [hget hr']; exact h5⟩
                    have h7 := (hA i hi).k (one_rEq (hs i hi) (sok (zcan_part kb (list_parts (gat hi))) _) h6)
                    have h8 := (rEq_one h7).2 rfl
                    rw [hget hp', hget hr'] at h8
                    exact h8
                  have hsb : oneF (mS (.list ((rng 0 x.length).map fun i => (q i).1.f_v)) true) (mS (.list x) true) = false := by
                    cases h4 : oneF (mS (.list ((rng 0 x.length).map fun i => (q i).1.f_v)) true) (mS (.list x) true) with
                    | false => rfl
                    | true => rw [key h4] at h2; cases h2
                  have noF : ∀ {l : List V} {t' : V}, ¬ ∃ x' y' z' c k, fldF (.list x) = some (x', c, k) ∧ fldF (.list l) = some (y', c, k) ∧ fldF t' = some (z', c, k) := by
                    rintro l t' ⟨_, _, _, _, _, h, _⟩; cases h
                  refine ⟨fun cs hcs => ?_, ?_, key⟩
                  · cases h4 : oneF (mS (.list ((rng 0 x.length).map fun i => (q i).1.f_v)) true) (mS (.list z) true) with
                    | true => exact put_ours (.inl h4)
                    | false =>
                      rw [put_deep h4 h2 hsb]
                      have hl := yes_list (w := w) (x := x) (y := (rng 0 x.length).map fun i => (q i).1.f_v) (z := z) (s := fun i => (q i).1) (E := fun _ => []) hwl (hS_len _).symm lz (fun i p q' r hi e1 e2 e3 cs h => by
                        rw [hS_at _ i hi] at e2; injection e2 with e2
                        rw [List.append_nil, ← e2, ← has_eta (hh i hi)]
                        have := (hA i hi).p1 cs (by simpa using h)
                        rw [hget e1, hget e3] at this; exact this) (by omega) (cs := cs) (by rw [flat_nil]; simpa using hcs)
                      rw [flat_nil, List.append_nil] at hl
                      exact deep_l (nf cs kS kt noF) hl
                  · cases h4 : oneF (mS (.list y) true) (mS (.list ((rng 0 x.length).map fun i => (q i).1.f_v)) true) with
                    | true => exact ⟨mS (.list y) true, rEq_one h4, fun cs _ => put_ours (.inl h4)⟩
                    | false =>
                      have hall2 : ∀ i, ∃ s2 : Side, i < x.length → rEq s2 (q i).1 ∧ ∀ cs : List Conf, cs.length ≤ 1073741824 → p_merge_merger_put (mM cs) (w ++ [stA i]) (mS (x.getD i .nil) true) (mS (y.getD i .nil) true) (q i).1 = some (s2, mM cs) := fun i => by
                        by_cases hi : i < x.length
                        · obtain ⟨s2, h5, h6⟩ := (hA i hi).p2
                          exact ⟨s2, fun _ => ⟨h5, h6⟩⟩
                        · exact ⟨mS .nil false, fun h => absurd h hi⟩
                      obtain ⟨q2, hq2⟩ := Classical.skolem.1 hall2
                      refine ⟨mS (.list ((rng 0 x.length).map fun i => (q2 i).f_v)) true, ⟨rfl, fun _ => ?_⟩, fun cs hcs => ?_⟩
                      · rw [ordF]
                        refine ordL_got (s := q2) (s' := fun i => (q i).1) _ (fun i hi => ?_)
                        obtain ⟨h5, _⟩ := hq2 i (hmem i hi)
                        exact h5.2 (by rw [h5.1]; exact hh i (hmem i hi))
                      · rw [put_deep h4 hsb h3]
                        have hl := yes_list (w := w) (x := x) (y := y) (z := (rng 0 x.length).map fun i => (q i).1.f_v) (s := q2) (E := fun _ => []) hwl ly (hS_len _).symm (fun i p q' r hi e1 e2 e3 cs h => by
                          rw [hS_at _ i hi] at e3; injection e3 with e3
                          rw [List.append_nil, ← e3, ← has_eta (hh i hi)]
                          have := (hq2 i hi).2 cs (by simpa using h)
                          rw [hget e1, hget e2] at this; exact this) (by omega) (cs := cs) (by rw [flat_nil]; simpa using hcs)
                        rw [flat_nil, List.append_nil] at hl
                        exact deep_l (nf cs ko kS noF) hl
              · exact ⟨mS ov true, _, ap_conf (sn_t _) h1 (fun cs hc => by rw [put_deep h1 h2 h3]; exact deep_c hwl (by omega) (nf cs ko kt hF) (no_list hA))⟩
          · exact ⟨o, _, ap_conf no h1 (fun cs hc => put_conf hwl (by omega) h1 h2 h3 hall)⟩
theorem again_law (a0 a1 a2 : Term) (h0 : bkT a0 ≤ 268435456) (h1 : bkT a1 ≤ 268435456) (h2 : bkT a2 ≤ 268435456) : p_law24_MergeAgain a0 a1 a2 = some true := by
  unfold p_law24_MergeAgain
  rw [lives, Option.bind_some, Bool.not_true, cond_false, mk_Built_eq a0 h0, Option.bind_some, mk_Built_eq a1 h1, Option.bind_some, mk_Built_eq a2 h2, Option.bind_some]
  generalize bu a0 = x
  generalize bu a1 = y
  generalize bu a2 = z
  by_cases hc : Can x ∧ Can y ∧ Can z
  · obtain ⟨hx, hy, hz⟩ := hc
    obtain ⟨s, E, T⟩ := again 16384 [] (mS x true) (mS y true) (mS z true) (sok hx _) (sok hy _) (sok hz _) (sn_t _) (sn_t _) (sn_t _) (fun _ => hx.2.1) (by simp)
    have hn := T.n
    have wx : W (mS x true) ≤ 16384 := by rw [W_t]; exact hx.2.1
    have wy : W (mS y true) ≤ 16384 := by rw [W_t]; exact hy.2.1
    have wz : W (mS z true) ≤ 16384 := by rw [W_t]; exact hz.2.1
    have r1 := T.r [] (by simp; omega)
    rw [List.nil_append] at r1
    have hh := T.h rfl rfl
    by_cases hs : Can s.f_v
    · rw [three_ok hx hy hz r1 hs, Option.bind_some]
      simp only
      rw [show ((0 : Int) != 0) = false from rfl, cond_false]
      by_cases hE : E = []
      · subst hE
        have hA := T.a rfl (fun _ => hs)
        have es := has_eta hh
        have p1 := hA.p1 [] (by simp)
        rw [es] at p1
        obtain ⟨s2, q1, q2⟩ := hA.p2
        have q3 := q2 [] (by simp)
        rw [es] at q3
        have hs2 : Can s2.f_v := can_sim (q1.2 (by rw [q1.1]; exact hh)) hs
        have t1 := three_ok hx hs hz p1 (by exact hs)
        have t2 := three_ok hx hy hs q3 hs2
        rw [List.length_nil, show decide (((0 : Nat) : Int) > 0) = false from rfl]
        unfold law24_MergeAgain_j1
        simp only [cond_false]
        rw [t1, Option.bind_some, t2, Option.bind_some]
        simp only [value_Same_eq, same_refl hs, same_of hs2 hs (q1.2 (by rw [q1.1]; exact hh)), Option.bind_some]
        rfl
      · have hpos : 0 < E.length := List.length_pos_iff.2 hE
        rw [decide_eq_true (by omega : ((E.length : Nat) : Int) > 0)]
        unfold law24_MergeAgain_j1
        rfl
    · obtain ⟨e, g1, g2⟩ := three_nok hx hy hz r1 hs
      rw [g2, Option.bind_some]
      simp only
      rw [show (e != 0) = true from by simpa using g1, cond_true]
      unfold law24_MergeAgain_j1
      rw [cond_true]
      simp only
      rw [show (e == 0) = false from by simpa using g1]; rfl
  · have n1 : ferr [x, y, z] ≠ 0 := fun h => hc ⟨ferr_zero h x (by simp), ferr_zero h y (by simp), ferr_zero h z (by simp)⟩
    rw [three_bad n1, Option.bind_some]
    simp only
    rw [ne_t n1, cond_true]
    unfold law24_MergeAgain_j1
    rw [cond_true]
    simp only
    rw [show (ferr [x, y, z] == 0) = false from by simpa using n1]; rfl
theorem plain_MergeAgain {p q r : Prop} (a0 a1 a2 : Term) (h : bkT a0 + (bkT a1 + bkT a2) ≤ 1048576) (ok0 : p) (ok1 : q) (ok2 : r) : p_law24_MergeAgain a0 a1 a2 = some true := again_law a0 a1 a2 (by omega) (by omega) (by omega)
end Go.Proofs.Ytkmhecgagibgjaa

