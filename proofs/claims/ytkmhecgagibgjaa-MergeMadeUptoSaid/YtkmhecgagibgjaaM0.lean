/- Plain laws, one behind the other. -/
import Derived.Test.YtkmhecgagibgjaaRd
import Derived.Test.YtkmhecgagibgjaaG7
import Derived.Test.YtkmhecgagibgjaaAwI3
namespace Go.Proofs.Ytkmhecgagibgjaa
open Go Aw
set_option linter.unusedVariables false
set_option linter.unusedSimpArgs false
theorem lt_t {i n : Nat} (h : i < n) : decide ((i : Int) < (n : Int)) = true := decide_eq_true (by omega)
theorem lt_f {i n : Nat} (h : ¬ i < n) : decide ((i : Int) < (n : Int)) = false := decide_eq_false (by omega)
theorem dropc {α : Type} {l : List α} {i : Nat} (h : i < l.length) : ∃ x, l[i]? = some x ∧ l.drop i = x :: l.drop (i + 1) :=
  ⟨l[i], List.getElem?_eq_getElem h, List.drop_eq_getElem_cons h⟩
theorem w64_in {x : Int} (h1 : -9223372036854775808 ≤ x) (h2 : x ≤ 9223372036854775807) : IntKind.i64.wrap x = x := wrap_in h1 h2
theorem idxI_nat {α : Type} (l : List α) (i : Nat) : idxI l (i : Int) = l[i]? := by
  unfold idxI; rw [decide_eq_true (by omega : (0 : Int) ≤ (i : Nat))]; rfl
def chOk (c : UInt8) : Bool := (Nat.ble 97 c.toNat && Nat.ble c.toNat 122) || (Nat.ble 48 c.toNat && Nat.ble c.toNat 57) || Nat.beq c.toNat 95
def loOk (c : UInt8) : Bool := Nat.ble 97 c.toNat && Nat.ble c.toNat 122
def nameOk (s : Str) : Bool := Nat.ble 1 s.length && Nat.ble s.length 32 && loOk (s.headD 0) && s.all chOk
theorem chOk_iff {c : UInt8} : chOk c = true ↔ (97 ≤ c.toNat ∧ c.toNat ≤ 122) ∨ (48 ≤ c.toNat ∧ c.toNat ≤ 57) ∨ c.toNat = 95 := by
  simp only [chOk, Bool.or_eq_true, Bool.and_eq_true, Nat.ble_eq, Nat.beq_eq]; omega
theorem loOk_iff {c : UInt8} : loOk c = true ↔ 97 ≤ c.toNat ∧ c.toNat ≤ 122 := by
  simp only [loOk, Bool.and_eq_true, Nat.ble_eq]
theorem vn_body (c : UInt8) (g : Nat → Option Bool) (i : Nat) (s : Str) (hi : i < s.length) (hc : s[i]? = some c) : value_name_l1b s g i = bif chOk c then g (i + 1) else some false := by
  have h97 : (97 : UInt8).toNat = 97 := rfl
  have h122 : (122 : UInt8).toNat = 122 := rfl
  have h48 : (48 : UInt8).toNat = 48 := rfl
  have h57 : (57 : UInt8).toNat = 57 := rfl
  have h95 : (95 : UInt8).toNat = 95 := rfl
  simp only [value_name_l1b, lt_t hi, hc, cond_true, Option.bind_some, value_name_j2, h97, h122, h48, h57, h95]
  simp only [Bool.cond_eq_ite, decide_eq_true_eq, bne_iff_ne, ne_eq, Bool.false_eq_true, if_false, chOk_iff]
  repeat (split <;> (try (first | rfl | (exfalso; omega))))
theorem vn_l (s : Str) : ∀ k i, k + i = s.length → value_name_l1 s i = some ((s.drop i).all chOk)
  | 0, i, h => by
    rw [value_name_l1_eq]
    simp only [value_name_l1b, lt_f (by omega : ¬ i < s.length), cond_false]
    rw [List.drop_of_length_le (by omega)]; rfl
  | k + 1, i, h => by
    obtain ⟨c, hc, hd⟩ := dropc (by omega : i < s.length)
    rw [value_name_l1_eq, vn_body c _ i s (by omega) hc, vn_l s k (i + 1) (by omega), hd, List.all_cons]
    cases chOk c <;> rfl
theorem value_name_eq (s : Str) : p_value_name s = some (nameOk s) := by
  have h97 : (97 : UInt8).toNat = 97 := rfl
  have h122 : (122 : UInt8).toNat = 122 := rfl
  cases s with
  | nil => rfl
  | cons c r =>
    have hl := vn_l (c :: r) (c :: r).length 0 (by simp)
    rw [List.drop_zero] at hl
    simp only [p_value_name, value_name_j1, h97, h122]
    have he : ((c :: r) == ([] : Str)) = false := rfl
    have h0 : (c :: r)[0]? = some c := rfl
    simp only [he, h0, cond_true, cond_false, Option.bind_some]
    by_cases h32 : (c :: r).length ≤ 32
    · have hs : smallO (c :: r).length = some () := by unfold smallO; rw [Nat.ble_eq_true_of_le (by omega)]; rfl
      simp only [hs, hl, Option.bind_some]
      have e1 : decide (((c :: r).length : Int) > 32) = false := decide_eq_false (by omega)
      rw [e1]
      simp only [cond_false, nameOk, List.headD_cons, Nat.ble_eq_true_of_le h32, Nat.ble_eq_true_of_le (by simp : 1 ≤ (c :: r).length), Bool.true_and]
      cases hlo : loOk c with
      | true =>
        have := loOk_iff.1 hlo
        have e2 : decide ((c.toNat : Int) < (97 : Nat)) = false := decide_eq_false (by omega)
        have e3 : decide ((c.toNat : Int) > (122 : Nat)) = false := decide_eq_false (by omega)
        rw [e2, e3]; rfl
      | false =>
        have h2 : ¬ (97 ≤ c.toNat ∧ c.toNat ≤ 122) := fun h => by rw [loOk_iff.2 h] at hlo; cases hlo
        by_cases h3 : c.toNat < 97
        · have e2 : decide ((c.toNat : Int) < (97 : Nat)) = true := decide_eq_true (by omega)
          rw [e2]; rfl
        · have e2 : decide ((c.toNat : Int) < (97 : Nat)) = false := decide_eq_false (by omega)
          have e3 : decide ((c.toNat : Int) > (122 : Nat)) = true := decide_eq_true (by omega)
          rw [e2, e3]; rfl
    · have e1 : decide (((c :: r).length : Int) > 32) = true := decide_eq_true (by omega)
      have e2 : Nat.ble (c :: r).length 32 = false := by
        cases hb : Nat.ble (c :: r).length 32 with
        | false => rfl
        | true => exact absurd (Nat.le_of_ble_eq_true hb) h32
      rw [e1]
      simp only [cond_true, nameOk, e2, Bool.and_false, Bool.false_and]
end Go.Proofs.Ytkmhecgagibgjaa

namespace Go.Proofs.Ytkmhecgagibgjaa
open Go Aw
set_option linter.unusedVariables false
set_option linter.unusedSimpArgs false
set_option maxRecDepth 8000
def leB (a b : Str) : Bool := Op.bytesLess a b || a == b
def risen : Option Str → List Str → Bool
  | _, [] => true
  | p, s :: r => nameOk s && (match p with | none => true | some q => !(leB s q)) && risen (some s) r
def prevOf (l : List Str) (i : Nat) : Option Str := if i = 0 then none else l[i - 1]?
def fieldsE (l : List Str) : Int := if 4096 < l.length then 2 else if risen none l then 0 else 8
theorem risen_step {l : List Str} {i : Nat} {s : Str} (h : l[i]? = some s) (p : Option Str) : risen p (l.drop i) = (nameOk s && (match p with | none => true | some q => !(leB s q)) && risen (prevOf l (i + 1)) (l.drop (i + 1))) := by
  have hi := (List.getElem?_eq_some_iff.1 h).1
  have hd : l.drop i = s :: l.drop (i + 1) := by rw [List.drop_eq_getElem_cons hi, (List.getElem?_eq_some_iff.1 h).2]
  have : prevOf l (i + 1) = some s := by simp [prevOf, h]
  rw [hd, this]
  cases p <;> simp only [risen]
theorem risen_nil (p : Option Str) : risen p [] = true := by cases p <;> rfl
def r08 (b : Bool) : Int := if b then 0 else 8
theorem fields_round {α : Type} (l : List (Str × α)) (i : Nat) (hi : i < l.length) (hb : l.length ≤ 4096) (g : Option Int) (hg : g = some (r08 (risen (prevOf (l.map (·.1)) (i + 1)) ((l.map (·.1)).drop (i + 1))))) (x : Str × α) (hx : l[i]? = some x) :
    (bif !(nameOk x.1) then some 8 else (bif decide (((i : Nat) : Int) > 0) then Option.bind (idxI l (IntKind.i64.wrap (((i : Nat) : Int) - 1))) fun y => (bif (Op.bytesLess x.1 y.1 || x.1 == y.1) then some 8 else g) else g)) = some (r08 (risen (prevOf (l.map (·.1)) i) ((l.map (·.1)).drop i))) := by
  have hs : (l.map (·.1))[i]? = some x.1 := by rw [List.getElem?_map, hx]; rfl
  rw [risen_step hs]
  cases hn : nameOk x.1 with
  | false => rfl
  | true =>
    simp only [Bool.not_true, cond_false, Bool.true_and]
    by_cases h0 : i = 0
    · subst h0
      have e : decide (((0 : Nat) : Int) > 0) = false := rfl
      rw [e, hg]
      simp only [cond_false, prevOf, if_pos, Bool.true_and]
    · have e : decide ((i : Int) > 0) = true := decide_eq_true (by omega)
      have hw : IntKind.i64.wrap ((i : Int) - 1) = ((i - 1 : Nat) : Int) := by rw [w64_in (by omega) (by omega)]; omega
      obtain ⟨y, hy, _⟩ := dropc (by omega : i - 1 < l.length)
      rw [e, hw, idxI_nat, hy]
      have hp : prevOf (l.map (·.1)) i = some y.1 := by simp only [prevOf, if_neg h0, List.getElem?_map, hy, Option.map_some]
      simp only [cond_true, Option.bind_some, hp, hg]
      show (bif leB x.1 y.1 then _ else _) = _
      cases leB x.1 y.1 <;> rfl
theorem vf_l (l : List (Str × V)) (hb : l.length ≤ 4096) : ∀ k i, k + i = l.length → value_fields_l1 l i = some (r08 (risen (prevOf (l.map (·.1)) i) ((l.map (·.1)).drop i)))
  | 0, i, h => by
    rw [value_fields_l1_eq]
    simp only [value_fields_l1b, lt_f (by omega : ¬ i < l.length), cond_false]
    rw [List.drop_of_length_le (by simp; omega), risen_nil]; rfl
  | k + 1, i, h => by
    obtain ⟨x, hx, _⟩ := dropc (by omega : i < l.length)
    have hr := fields_round l i (by omega) hb _ (vf_l l hb k (i + 1) (by omega)) x hx
    rw [value_fields_l1_eq]
    simp only [value_fields_l1b, lt_t (by omega : i < l.length), cond_true, hx, Option.bind_some, value_name_eq, value_fields_j1, cond_false]
    exact hr
theorem value_fields_eq (l : List (Str × V)) : p_value_fields l = some (fieldsE (l.map (·.1))) := by
  simp only [p_value_fields, fieldsE, List.length_map]
  by_cases h : 4096 < l.length
  · rw [decide_eq_true (by omega : (l.length : Int) > 4096), if_pos h]; rfl
  · rw [decide_eq_false (by omega : ¬ (l.length : Int) > 4096), if_neg h, cond_false, vf_l l (by omega) l.length 0 (by omega)]; rfl
def kindOf : V → Int
  | .nil => 1
  | .bool _ => 2
  | .int _ => 3
  | .float _ => 4
  | .text _ => 5
  | .bytes _ => 6
  | .ref _ => 7
  | .list _ => 8
  | .dict _ => 9
  | .record _ _ _ => 10
  | .nothing => 11
  | .alien _ => 0
theorem value_kind_eq (x : V) : p_value_kind x = some (kindOf x) := by cases x <;> rfl
def farE : V → Int
  | .nothing => 7
  | .alien _ => 6
  | _ => 2
def nearE : V → Int
  | .text s => if 65536 < s.length then 2 else 0
  | .bytes b => if 65536 < b.length then 2 else 0
  | .list l => if 4096 < l.length then 2 else 0
  | .dict l => fieldsE (l.map (·.1))
  | .record c v l => if nameOk c = false then 8 else if v < 1 ∨ 1000 < v then 1 else fieldsE (l.map (·.1))
  | .nothing => 7
  | .alien _ => 6
  | _ => 0
def ownE (x : V) (n deep : Int) : Int := if 16384 ≤ n ∨ 64 < deep then farE x else nearE x
theorem far_j (x : V) : value_own_j1 x true = some (farE x) := by
  simp only [value_own_j1, cond_true, value_kind_eq, Option.bind_some]
  cases x <;> rfl
theorem big_if (n m : Nat) : (bif decide ((n : Int) > (m : Int)) then some (2 : Int) else value_own_j2) = some (if m < n then 2 else 0) := by
  by_cases h : m < n
  · rw [decide_eq_true (by omega : (n : Int) > m), if_pos h]; rfl
  · rw [decide_eq_false (by omega : ¬ (n : Int) > m), if_neg h]; rfl
theorem near_j (x : V) : value_own_j1 x false = some (nearE x) := by
  cases x with
  | text s => exact big_if s.length 65536
  | bytes s => exact big_if s.length 65536
  | list s => exact big_if s.length 4096
  | dict l =>
    have : value_own_j1 (.dict l) false = Option.bind (p_value_fields l) fun x => some x := rfl
    rw [this, value_fields_eq]; rfl
  | record c v l =>
    have : value_own_j1 (.record c v l) false = Option.bind (p_value_name c) fun x17 => bif !x17 then some 8 else bif decide (v < 1) then value_own_j3 ⟨c, v, l⟩ true else value_own_j3 ⟨c, v, l⟩ (decide (v > 1000)) := rfl
    rw [this, value_name_eq]
    simp only [Option.bind_some, nearE, value_own_j3, value_fields_eq]
    cases hn : nameOk c with
    | false => rfl
    | true =>
      simp only [Bool.not_true, cond_false, cond_true]
      by_cases h1 : v < 1
      · rw [decide_eq_true h1, cond_true, if_neg (by simp), if_pos (Or.inl h1)]
      · rw [decide_eq_false h1, cond_false, if_neg (by simp)]
        by_cases h2 : v > 1000
        · rw [decide_eq_true h2, cond_true, if_pos (Or.inr h2)]
        · rw [decide_eq_false h2, cond_false, if_neg (by omega)]
  | _ => rfl
theorem value_own_eq (x : V) (n d : Int) : p_value_own x n d = some (ownE x n d) := by
  simp only [p_value_own, ownE]
  by_cases h1 : n ≥ 16384
  · rw [decide_eq_true h1, cond_true, if_pos (Or.inl h1), far_j]
  · rw [decide_eq_false h1, cond_false]
    by_cases h2 : d > 64
    · rw [decide_eq_true h2, if_pos (Or.inr h2), far_j]
    · rw [decide_eq_false h2, if_neg (by omega), near_j]
theorem al_cond {c : Bool} {x y : Option V} (h1 : ∃ a, x = some (.alien a)) (h2 : ∃ a, y = some (.alien a)) : ∃ a, (bif c then x else y) = some (.alien a) := by cases c <;> assumption
theorem alien_ex (n : Int) : ∃ a, p_mk_Alien n = some (.alien a) := by
  unfold p_mk_Alien
  repeat (first | exact ⟨_, rfl⟩ | refine al_cond ⟨_, rfl⟩ ?_)
noncomputable def alT (n : Int) : {t : Nat // alienT t = true} := (alien_ex n).choose
theorem alien_eq (n : Int) : p_mk_Alien n = some (.alien (alT n)) := (alien_ex n).choose_spec
mutual
noncomputable def bu : Term → V
  | .mk k b i f t y r l d c v => if k = 1 then .nil else if k = 2 then .bool b else if k = 3 then .int i else if k = 4 then .float f else if k = 5 then .text t else if k = 6 then .bytes y else if k = 7 then .ref r
    else if k = 8 then .list (buTs l) else if k = 9 then .dict (buEs d) else if k = 10 then .record c v (buEs d) else if k = 11 then .nothing else .alien (alT i)
noncomputable def buTs : List Term → List V
  | [] => []
  | x :: r => bu x :: buTs r
noncomputable def buEs : List (Str × Term) → List (Str × V)
  | [] => []
  | (s, x) :: r => (s, bu x) :: buEs r
end
noncomputable def buE (p : Str × Term) : Str × V := (p.1, bu p.2)
theorem buTs_map : ∀ l, buTs l = l.map bu
  | [] => by rw [buTs]; rfl
  | x :: r => by rw [buTs, buTs_map r]; rfl
theorem buEs_map : ∀ l, buEs l = l.map buE
  | [] => by rw [buEs]; rfl
  | (s, x) :: r => by rw [buEs, buEs_map r]; rfl
inductive BuC (t : Term) : V → Prop
  | nil : t.kind = 1 → BuC t .nil
  | bool : t.kind = 2 → BuC t (.bool t.bool)
  | int : t.kind = 3 → BuC t (.int t.int)
  | float : t.kind = 4 → BuC t (.float t.float)
  | text : t.kind = 5 → BuC t (.text t.text)
  | bytes : t.kind = 6 → BuC t (.bytes t.bytes)
  | ref : t.kind = 7 → BuC t (.ref t.ref)
  | list : t.kind = 8 → BuC t (.list (t.list.map bu))
  | dict : t.kind = 9 → BuC t (.dict (t.fields.map buE))
  | record : t.kind = 10 → BuC t (.record t.cls t.ver (t.fields.map buE))
  | nothing : t.kind = 11 → BuC t .nothing
  | alien : t.kind < 1 ∨ 11 < t.kind → BuC t (.alien (alT t.int))
theorem bu_c (t : Term) : BuC t (bu t) := by
  cases t with
  | mk k b i f t y r l d c v =>
    rw [bu, buTs_map, buEs_map]
    by_cases h1 : k = 1; · rw [if_pos h1]; exact .nil h1
    by_cases h2 : k = 2; · rw [if_neg h1, if_pos h2]; exact .bool h2
    by_cases h3 : k = 3; · rw [if_neg h1, if_neg h2, if_pos h3]; exact .int h3
    by_cases h4 : k = 4; · rw [if_neg h1, if_neg h2, if_neg h3, if_pos h4]; exact .float h4
    by_cases h5 : k = 5; · rw [if_neg h1, if_neg h2, if_neg h3, if_neg h4, if_pos h5]; exact .text h5
    by_cases h6 : k = 6; · rw [if_neg h1, if_neg h2, if_neg h3, if_neg h4, if_neg h5, if_pos h6]; exact .bytes h6
    by_cases h7 : k = 7; · rw [if_neg h1, if_neg h2, if_neg h3, if_neg h4, if_neg h5, if_neg h6, if_pos h7]; exact .ref h7
    by_cases h8 : k = 8; · rw [if_neg h1, if_neg h2, if_neg h3, if_neg h4, if_neg h5, if_neg h6, if_neg h7, if_pos h8]; exact .list h8
    by_cases h9 : k = 9; · rw [if_neg h1, if_neg h2, if_neg h3, if_neg h4, if_neg h5, if_neg h6, if_neg h7, if_neg h8, if_pos h9]; exact .dict h9
    by_cases h10 : k = 10; · rw [if_neg h1, if_neg h2, if_neg h3, if_neg h4, if_neg h5, if_neg h6, if_neg h7, if_neg h8, if_neg h9, if_pos h10]; exact .record h10
    by_cases h11 : k = 11; · rw [if_neg h1, if_neg h2, if_neg h3, if_neg h4, if_neg h5, if_neg h6, if_neg h7, if_neg h8, if_neg h9, if_neg h10, if_pos h11]; exact .nothing h11
    rw [if_neg h1, if_neg h2, if_neg h3, if_neg h4, if_neg h5, if_neg h6, if_neg h7, if_neg h8, if_neg h9, if_neg h10, if_neg h11]
    exact .alien (by show k < 1 ∨ 11 < k; omega)
end Go.Proofs.Ytkmhecgagibgjaa

namespace Go.Proofs.Ytkmhecgagibgjaa
open Go Aw
set_option linter.unusedVariables false
set_option linter.unusedSimpArgs false
set_option maxRecDepth 8000
structure Ct where
  ok : Bool
  n : Int
  dp : Int
  why : Int
mutual
def partF : V → Int → Int → Int → Ct
  | .list l, n, dp, d => if ownE (.list l) n d = 0 then partsF l (n + 1) (max dp d) (d + 1) else ⟨false, n, dp, ownE (.list l) n d⟩
  | .dict l, n, dp, d => if ownE (.dict l) n d = 0 then fieldsF l (n + 1) (max dp d) (d + 1) else ⟨false, n, dp, ownE (.dict l) n d⟩
  | .record c v l, n, dp, d => if ownE (.record c v l) n d = 0 then fieldsF l (n + 1) (max dp d) (d + 1) else ⟨false, n, dp, ownE (.record c v l) n d⟩
  | x, n, dp, d => if ownE x n d = 0 then ⟨true, n + 1, max dp d, 0⟩ else ⟨false, n, dp, ownE x n d⟩
def partsF : List V → Int → Int → Int → Ct
  | [], n, dp, d => ⟨true, n, dp, 0⟩
  | x :: r, n, dp, d => if (partF x n dp d).ok then partsF r (partF x n dp d).n (partF x n dp d).dp d else partF x n dp d
def fieldsF : List (Str × V) → Int → Int → Int → Ct
  | [], n, dp, d => ⟨true, n, dp, 0⟩
  | (s, x) :: r, n, dp, d => if (partF x n dp d).ok then fieldsF r (partF x n dp d).n (partF x n dp d).dp d else partF x n dp d
end
def V.parts : V → List V
  | .list l => l
  | .dict l => l.map (·.2)
  | .record _ _ l => l.map (·.2)
  | _ => []
theorem fieldsF_map : ∀ (l : List (Str × V)) (n dp d : Int), fieldsF l n dp d = partsF (l.map (·.2)) n dp d
  | [], n, dp, d => by simp only [fieldsF, partsF, List.map_nil]
  | (s, x) :: r, n, dp, d => by simp only [fieldsF, partsF, List.map_cons, fieldsF_map r]
theorem partF_eq (x : V) (n dp d : Int) : partF x n dp d = if ownE x n d = 0 then partsF x.parts (n + 1) (max dp d) (d + 1) else ⟨false, n, dp, ownE x n d⟩ := by
  cases x <;> simp only [partF, V.parts, fieldsF_map, partsF]
theorem partsF_cons (x : V) (r : List V) (n dp d : Int) : partsF (x :: r) n dp d = if (partF x n dp d).ok then partsF r (partF x n dp d).n (partF x n dp d).dp d else partF x n dp d := by simp only [partsF]
theorem partsF_nil (n dp d : Int) : partsF [] n dp d = ⟨true, n, dp, 0⟩ := by simp only [partsF]
theorem far_ne (x : V) : farE x ≠ 0 := by cases x <;> simp [farE]
theorem own_zero {x : V} {n d : Int} (h : ownE x n d = 0) : n < 16384 ∧ d ≤ 64 ∧ nearE x = 0 := by
  unfold ownE at h
  split at h
  · exact absurd h (far_ne x)
  · rename_i hc; exact ⟨by omega, by omega, h⟩
theorem parts_lt {x y : V} (h : y ∈ x.parts) : SizeOf.sizeOf y < SizeOf.sizeOf x := by
  cases x <;> simp only [V.parts, List.not_mem_nil] at h
  · have := List.sizeOf_lt_of_mem h; simp; omega
  · obtain ⟨⟨s, z⟩, hz, rfl⟩ := List.mem_map.1 h
    have := List.sizeOf_lt_of_mem hz; simp at this ⊢; omega
  · obtain ⟨⟨s, z⟩, hz, rfl⟩ := List.mem_map.1 h
    have := List.sizeOf_lt_of_mem hz; simp at this ⊢; omega
theorem V.byParts {P : V → Prop} (h : ∀ x, (∀ y, y ∈ x.parts → P y) → P x) (x : V) : P x :=
  h x (fun y hy => V.byParts h y)
termination_by SizeOf.sizeOf x
decreasing_by exact parts_lt hy
structure CtOk (c : Ct) (n : Int) : Prop where
  lo : n ≤ c.n
  ok : c.ok = true → c.n ≤ 16384 ∧ c.why = 0
  bad : c.ok = false → c.why ≠ 0
theorem parts_facts {d : Int} : ∀ (l : List V), (∀ y, y ∈ l → ∀ n dp, CtOk (partF y n dp d) n) → ∀ n dp, n ≤ 16384 → CtOk (partsF l n dp d) n
  | [], _, n, dp, hm => by rw [partsF_nil]; exact ⟨Int.le_refl _, fun _ => ⟨hm, rfl⟩, by simp⟩
  | x :: r, h, n, dp, hm => by
    have h1 := h x (by simp) n dp
    rw [partsF_cons]
    split
    · rename_i hk
      have h2 := parts_facts r (fun y hy => h y (by simp [hy])) _ (partF x n dp d).dp (h1.ok hk).1
      exact ⟨Int.le_trans h1.lo h2.lo, h2.ok, h2.bad⟩
    · exact h1
theorem part_facts (x : V) : ∀ d n dp, CtOk (partF x n dp d) n := by
  induction x using V.byParts with
  | _ x ih =>
  intro d n dp
  rw [partF_eq]
  split
  · rename_i h
    have := own_zero h
    have h2 := parts_facts x.parts (fun y hy n dp => ih y hy (d + 1) n dp) (n + 1) (max dp d) (by omega)
    exact ⟨by have := h2.lo; omega, h2.ok, h2.bad⟩
  · rename_i h; exact ⟨Int.le_refl _, by simp, fun _ => h⟩
def ctS (c : Ct) : Bool × S_value_count := (c.ok, ⟨c.n, c.dp, c.why⟩)
def PartOk (x : V) : Prop := ∀ n dp w d, -4611686018427387904 ≤ n → n ≤ 16384 → -4611686018427387904 ≤ d → d ≤ 65 → p_value_count_part ⟨n, dp, w⟩ x d = some (ctS (partF x n dp d))
theorem cp_l (l : List V) (d : Int) (hl : ∀ y, y ∈ l → PartOk y) (hd : -4611686018427387904 ≤ d) (hd' : d ≤ 64) : ∀ k i n dp, k + i = l.length → -4611686018427387904 ≤ n → n ≤ 16384 → value_count_part_l1 p_value_count_part (.list l) d i n dp 0 = some (ctS (partsF (l.drop i) n dp (d + 1)))
  | 0, i, n, dp, h, hn, hm => by
    rw [value_count_part_l1_eq]
    simp only [value_count_part_l1b, V.asList, lt_f (by omega : ¬ i < l.length), cond_false, value_count_part_j1]
    rw [List.drop_of_length_le (by omega), partsF_nil]; rfl
  | k + 1, i, n, dp, h, hn, hm => by
    obtain ⟨x, hx, hdr⟩ := dropc (by omega : i < l.length)
    have hp := hl x (List.mem_of_getElem? hx) n dp 0 (d + 1) hn hm (by omega) (by omega)
    have hw : IntKind.i64.wrap (d + 1) = d + 1 := w64_in (by omega) (by omega)
    rw [value_count_part_l1_eq]
    simp only [value_count_part_l1b, V.asList, lt_t (by omega : i < l.length), cond_true, hx, Option.bind_some, hw, hp, ctS]
    rw [hdr, partsF_cons]
    have hf := part_facts x (d + 1) n dp
    cases hk : (partF x n dp (d + 1)).ok with
    | false => simp only [Bool.not_false, cond_true, Bool.false_eq_true, if_false, hk]
    | true =>
      have h1 := hf.ok hk
      have h2 := hf.lo
      simp only [Bool.not_true, cond_false, if_true]
      rw [h1.2, cp_l l d hl hd hd' k (i + 1) _ _ (by omega) (by omega) h1.1]; rfl
theorem ca_l (l : List (Str × V)) (d : Int) (hl : ∀ y, y ∈ l.map (·.2) → PartOk y) (hd : -4611686018427387904 ≤ d) (hd' : d ≤ 64) : ∀ k i n dp, k + i = l.length → -4611686018427387904 ≤ n → n ≤ 16384 → value_count_all_l1 p_value_count_part l d i n dp 0 = some (ctS (partsF ((l.map (·.2)).drop i) n dp (d + 1)))
  | 0, i, n, dp, h, hn, hm => by
    rw [value_count_all_l1_eq]
    simp only [value_count_all_l1b, lt_f (by omega : ¬ i < l.length), cond_false]
    rw [List.drop_of_length_le (by simp; omega), partsF_nil]; rfl
  | k + 1, i, n, dp, h, hn, hm => by
    obtain ⟨x, hx, _⟩ := dropc (by omega : i < l.length)
    have hx2 : (l.map (·.2))[i]? = some x.2 := by rw [List.getElem?_map, hx]; rfl
    obtain ⟨x', hx', hdr⟩ := dropc (by rw [List.length_map]; omega : i < (l.map (·.2)).length)
    rw [hx2] at hx'; injection hx' with hx'; subst hx'
    have hp := hl x.2 (List.mem_of_getElem? hx2) n dp 0 (d + 1) hn hm (by omega) (by omega)
    have hw : IntKind.i64.wrap (d + 1) = d + 1 := w64_in (by omega) (by omega)
    rw [value_count_all_l1_eq]
    simp only [value_count_all_l1b, lt_t (by omega : i < l.length), cond_true, hx, Option.bind_some, hw, hp, ctS]
    rw [hdr, partsF_cons]
    have hf := part_facts x.2 (d + 1) n dp
    cases hk : (partF x.2 n dp (d + 1)).ok with
    | false => simp only [Bool.not_false, cond_true, Bool.false_eq_true, if_false, hk]
    | true =>
      have h1 := hf.ok hk
      have h2 := hf.lo
      simp only [Bool.not_true, cond_false, if_true]
      rw [h1.2, ca_l l d hl hd hd' k (i + 1) _ _ (by omega) (by omega) h1.1]; rfl
theorem value_count_all_eq (l : List (Str × V)) (d n dp : Int) (hl : ∀ y, y ∈ l.map (·.2) → PartOk y) (hd : -4611686018427387904 ≤ d) (hd' : d ≤ 64) (hn : -4611686018427387904 ≤ n) (hm : n ≤ 16384) : p_value_count_all ⟨n, dp, 0⟩ l d = some (ctS (partsF (l.map (·.2)) n dp (d + 1))) := by
  rw [e_value_count_all, b_value_count_all]
  exact ca_l l d hl hd hd' l.length 0 n dp (by omega) hn hm
theorem value_count_part_eq (x : V) : PartOk x := by
  induction x using V.byParts with
  | _ x ih =>
  intro n dp w d hn hm hd hd'
  rw [e_value_count_part, b_value_count_part, partF_eq]
  simp only [value_own_eq, Option.bind_some]
  by_cases h : ownE x n d = 0
  · have h0 := own_zero h
    have hw : IntKind.i64.wrap (n + 1) = n + 1 := w64_in (by omega) (by omega)
    have hmx : (if d > dp then d else dp) = max dp d := by omega
    rw [if_pos h, h, hw, hmx]
    have e0 : ((0 : Int) != 0) = false := rfl
    rw [e0, cond_false]
    cases x with
    | list l => exact cp_l l d ih hd (by omega) l.length 0 (n + 1) (max dp d) (by omega) (by omega) (by omega)
    | dict l =>
      show Option.bind (p_value_count_all ⟨n + 1, max dp d, 0⟩ l d) (fun x => some (x.1, x.2)) = _
      rw [value_count_all_eq l d _ _ ih hd (by omega) (by omega) (by omega)]; rfl
    | record c v l =>
      show Option.bind (p_value_count_all ⟨n + 1, max dp d, 0⟩ l d) (fun x => some (x.1, x.2)) = _
      rw [value_count_all_eq l d _ _ ih hd (by omega) (by omega) (by omega)]; rfl
    | nothing => have := h0.2.2; simp [nearE] at this
    | _ => simp only [V.parts, partsF_nil]; rfl
  · rw [if_neg h]
    have e0 : (ownE x n d != 0) = true := by simpa using h
    rw [e0]; rfl
def checkF (x : V) : Int × Int := if (partF x 0 0 1).ok then (0, 0) else ((partF x 0 0 1).n, (partF x 0 0 1).why)
theorem value_check_eq (x : V) : p_value_check x = some (checkF x) := by
  simp only [p_value_check, value_count_part_eq x 0 0 0 1 (by omega) (by omega) (by omega) (by omega), Option.bind_some, ctS, checkF]
  cases (partF x 0 0 1).ok <;> rfl
theorem value_Check_eq (x : V) : p_value_Check x = some (checkF x) := by simp only [p_value_Check, value_check_eq, Option.bind_some]
def partsT (t : Term) : List Term := if t.kind = 8 then t.list else if t.kind = 9 ∨ t.kind = 10 then t.fields.map (·.2) else []
theorem partsT_lt {t u : Term} (h : u ∈ partsT t) : SizeOf.sizeOf u < SizeOf.sizeOf t := by
  cases t with
  | mk k b i f s y r l d c v =>
  unfold partsT at h
  split at h
  · have := List.sizeOf_lt_of_mem h; simp [Term.list] at this ⊢; omega
  · split at h
    · obtain ⟨⟨s, z⟩, hz, rfl⟩ := List.mem_map.1 h
      have := List.sizeOf_lt_of_mem hz; simp [Term.fields] at this ⊢; omega
    · cases h
theorem Term.byParts {P : Term → Prop} (h : ∀ t, (∀ u, u ∈ partsT t → P u) → P t) (t : Term) : P t :=
  h t (fun u hu => Term.byParts h u)
termination_by SizeOf.sizeOf t
decreasing_by exact partsT_lt hu
end Go.Proofs.Ytkmhecgagibgjaa

namespace Go.Proofs.Ytkmhecgagibgjaa
open Go Aw
set_option linter.unusedVariables false
set_option linter.unusedSimpArgs false
set_option maxRecDepth 8000
theorem app1 {α : Type} {b : Nat} {acc : List α} {x : α} (hb : b ≤ 1024) (h : acc.length ≤ 1073741824) : appO b acc [x] = some (acc ++ [x]) := by
  have h1 : (acc.length + 1) * b ≤ (1073741824 + 1) * 1024 := Nat.mul_le_mul (by omega) hb
  unfold appO
  rw [Nat.ble_eq_true_of_le (by simp only [List.length_cons, List.length_nil, Nat.zero_add]; omega)]; rfl
theorem app0 {α : Type} {b : Nat} {l : List α} (hb : b ≤ 1024) (h : l.length ≤ 1073741824) : appO b [] l = some l := by
  have h1 : l.length * b ≤ 1073741824 * 1024 := Nat.mul_le_mul h hb
  unfold appO
  rw [Nat.ble_eq_true_of_le (by simp only [List.length_nil, Nat.zero_add]; omega)]; rfl
theorem bkTs_mem : ∀ {l : List Term} {u : Term}, u ∈ l → bkT u ≤ bkTs l
  | x :: r, u, h => by
    rw [bkTs]; rcases List.mem_cons.1 h with rfl | h
    · omega
    · have := bkTs_mem h; omega
theorem bkEs_mem : ∀ {l : List (Str × Term)} {u : Str × Term}, u ∈ l → bkT u.2 ≤ bkEs l
  | (s, x) :: r, u, h => by
    rw [bkEs]; rcases List.mem_cons.1 h with rfl | h
    · show bkT x ≤ _; omega
    · have := bkEs_mem h; omega
theorem bkTs_len : ∀ (l : List Term), l.length ≤ bkTs l
  | [] => by simp
  | .mk k b i f s y r l dd c v :: q => by rw [bkTs, List.length_cons, bkT]; have := bkTs_len q; omega
theorem bkEs_len : ∀ (l : List (Str × Term)), l.length ≤ bkEs l
  | [] => by simp
  | (s, x) :: q => by rw [bkEs, List.length_cons]; have := bkEs_len q; omega
theorem bkT_mk (t : Term) : bkT t = t.text.length + t.bytes.length + t.cls.length + bkTs t.list + bkEs t.fields + 12 := by cases t; rw [bkT]; rfl
theorem bk_list {t u : Term} (h : u ∈ t.list) : bkT u < bkT t := by have := bkTs_mem h; have := bkT_mk t; omega
theorem bk_fields {t : Term} {u : Str × Term} (h : u ∈ t.fields) : bkT u.2 < bkT t := by have := bkEs_mem h; have := bkT_mk t; omega
theorem len_list (t : Term) : t.list.length ≤ bkT t := by have := bkTs_len t.list; have := bkT_mk t; omega
theorem len_fields (t : Term) : t.fields.length ≤ bkT t := by have := bkEs_len t.fields; have := bkT_mk t; omega
theorem len_bytes (t : Term) : t.bytes.length ≤ bkT t := by have := bkT_mk t; omega
theorem take_snoc {α β : Type} {l : List α} {f : α → β} {i : Nat} {x : α} (h : l[i]? = some x) : (l.take i).map f ++ [f x] = (l.take (i + 1)).map f := by
  obtain ⟨hi, rfl⟩ := List.getElem?_eq_some_iff.1 h
  rw [List.take_add_one, List.getElem?_eq_getElem hi, List.map_append]; rfl
end Go.Proofs.Ytkmhecgagibgjaa

namespace Go.Proofs.Ytkmhecgagibgjaa
open Go Aw
set_option linter.unusedVariables false
set_option linter.unusedSimpArgs false
set_option maxRecDepth 8000
theorem bl_l (t : Term) (hl : ∀ u, u ∈ t.list → p_mk_Built u = some (bu u)) (hb : t.list.length ≤ 1073741824) : ∀ k i, k + i = t.list.length → mk_Built_l1 p_mk_Built t ((t.list.take i).map bu) i = some (.list (t.list.map bu))
  | 0, i, h => by
    rw [mk_Built_l1_eq]
    simp only [mk_Built_l1b, lt_f (by omega : ¬ i < t.list.length), cond_false]
    rw [List.take_of_length_le (by omega)]
  | k + 1, i, h => by
    obtain ⟨x, hx, _⟩ := dropc (by omega : i < t.list.length)
    rw [mk_Built_l1_eq]
    simp only [mk_Built_l1b, lt_t (by omega : i < t.list.length), cond_true, hx, Option.bind_some, hl x (List.mem_of_getElem? hx), app1 (b := 16) (by omega) (show ((t.list.take i).map bu).length ≤ 1073741824 by simp; omega), take_snoc hx]
    exact bl_l t hl hb k (i + 1) (by omega)
theorem bd_l (l : List (Str × Term)) (hl : ∀ u, u ∈ l → p_mk_Built u.2 = some (bu u.2)) (hb : l.length ≤ 1073741824) : ∀ k i, k + i = l.length → mk_Dict_l1 p_mk_Built l ((l.take i).map buE) i = some (l.map buE)
  | 0, i, h => by
    rw [mk_Dict_l1_eq]
    simp only [mk_Dict_l1b, lt_f (by omega : ¬ i < l.length), cond_false]
    rw [List.take_of_length_le (by omega)]
  | k + 1, i, h => by
    obtain ⟨x, hx, _⟩ := dropc (by omega : i < l.length)
    rw [mk_Dict_l1_eq]
    simp only [mk_Dict_l1b, lt_t (by omega : i < l.length), cond_true, hx, Option.bind_some, hl x (List.mem_of_getElem? hx), app1 (b := 32) (x := (x.1, bu x.2)) (by omega) (show ((l.take i).map buE).length ≤ 1073741824 by simp; omega)]
    have : ((l.take i).map buE) ++ [(x.1, bu x.2)] = (l.take (i + 1)).map buE := take_snoc (f := buE) hx
    rw [this]
    exact bd_l l hl hb k (i + 1) (by omega)
theorem mk_Built_eqN : ∀ (n : Nat) (t : Term), bkT t ≤ n → n ≤ 268435456 → p_mk_Built t = some (bu t) := by
  intro n
  induction n with
  | zero => intro t h _; have := bkT_mk t; omega
  | succ n ih =>
    intro t h hn
    have hl : ∀ u, u ∈ t.list → p_mk_Built u = some (bu u) := fun u hu => ih u (by have := bk_list hu; omega) (by omega)
    have hf : ∀ u, u ∈ t.fields → p_mk_Built u.2 = some (bu u.2) := fun u hu => ih u.2 (by have := bk_fields hu; omega) (by omega)
    have hd : p_mk_Dict t.fields = some (t.fields.map buE) := by
      rw [e_mk_Dict, b_mk_Dict]
      exact bd_l t.fields hf (by have := len_fields t; omega) t.fields.length 0 (by omega)
    have hll : mk_Built_l1 p_mk_Built t [] 0 = some (.list (t.list.map bu)) := bl_l t hl (by have := len_list t; omega) t.list.length 0 (by omega)
    have hb := bu_c t
    rw [e_mk_Built, b_mk_Built]
    generalize bu t = x at hb
    cases hb with
    | bytes hk => simp only [hk, app0 (by omega : 1 ≤ 1024) (show t.bytes.length ≤ 1073741824 by have := len_bytes t; omega)]; rfl
    | list hk => simp only [hk, hll]; rfl
    | dict hk => simp only [hk, hd]; rfl
    | record hk => simp only [hk, hd]; rfl
    | alien hk =>
      have e : ∀ k : Int, 1 ≤ k → k ≤ 11 → (t.kind == k) = false := fun k h1 h2 => by simp; omega
      simp only [e 1 (by omega) (by omega), e 2 (by omega) (by omega), e 3 (by omega) (by omega), e 4 (by omega) (by omega), e 5 (by omega) (by omega), e 6 (by omega) (by omega), e 7 (by omega) (by omega), e 8 (by omega) (by omega),
        e 9 (by omega) (by omega), e 10 (by omega) (by omega), e 11 (by omega) (by omega), cond_false, alien_eq, Option.bind_some]
    | _ hk => simp only [hk]; rfl
theorem mk_Built_eq (t : Term) (h : bkT t ≤ 268435456) : p_mk_Built t = some (bu t) := mk_Built_eqN _ t h (Nat.le_refl _)
end Go.Proofs.Ytkmhecgagibgjaa

namespace Go.Proofs.Ytkmhecgagibgjaa
open Go Aw
set_option linter.unusedVariables false
set_option linter.unusedSimpArgs false
set_option maxRecDepth 8000
def c3 (a b : Int) : Int := if a < b then -1 else if a > b then 1 else 0
def th (c d : Int) : Int := if c = 0 then d else c
def lexc : List Int → List Int → Int
  | [], [] => 0
  | [], _ :: _ => -1
  | _ :: _, [] => 1
  | a :: x, b :: y => th (c3 a b) (lexc x y)
theorem c3_rng (a b : Int) : c3 a b = -1 ∨ c3 a b = 0 ∨ c3 a b = 1 := by unfold c3; split; (· exact .inl rfl); split; (· exact .inr (.inr rfl)); exact .inr (.inl rfl)
theorem c3_neg (a b : Int) : c3 b a = - c3 a b := by unfold c3; split <;> split <;> (try split) <;> (try split) <;> omega
theorem c3_zero {a b : Int} : c3 a b = 0 ↔ a = b := by unfold c3; split <;> (try split) <;> omega
theorem c3_self (a : Int) : c3 a a = 0 := c3_zero.2 rfl
theorem c3_lt {a b : Int} : c3 a b = -1 ↔ a < b := by unfold c3; split <;> (try split) <;> omega
theorem c3_shift (a b k : Int) : c3 (a + k) (b + k) = c3 a b := by unfold c3; split <;> split <;> (try split) <;> (try split) <;> omega
theorem th_assoc (a b c : Int) : th (th a b) c = th a (th b c) := by unfold th; by_cases h : a = 0 <;> by_cases h2 : b = 0 <;> simp_all
theorem lexc_rng : ∀ x y, lexc x y = -1 ∨ lexc x y = 0 ∨ lexc x y = 1
  | [], [] => .inr (.inl rfl)
  | [], _ :: _ => .inl rfl
  | _ :: _, [] => .inr (.inr rfl)
  | a :: x, b :: y => by
    rw [lexc]; unfold th; split
    · exact lexc_rng x y
    · exact c3_rng a b
theorem lexc_neg : ∀ x y, lexc y x = - lexc x y
  | [], [] => rfl
  | [], _ :: _ => rfl
  | _ :: _, [] => rfl
  | a :: x, b :: y => by
    have := lexc_neg x y
    have := c3_neg a b
    rw [lexc, lexc]; unfold th; split <;> split <;> omega
theorem lexc_trans : ∀ x y z, lexc x y ≤ 0 → lexc y z ≤ 0 → lexc x z ≤ 0 ∧ (lexc x y < 0 ∨ lexc y z < 0 → lexc x z < 0)
  | [], [], [], _, _ => by simp [lexc]
  | [], [], _ :: _, _, _ => by simp [lexc]
  | [], _ :: _, [], _, h => by simp [lexc] at h
  | [], _ :: _, _ :: _, _, _ => by simp [lexc]
  | _ :: _, [], _, h, _ => by simp [lexc] at h
  | _ :: _, _ :: _, [], _, h => by simp [lexc] at h
  | a :: x, b :: y, c :: z, h1, h2 => by
    have ih := lexc_trans x y z
    have ra := c3_rng a b; have rb := c3_rng b c; have rc := c3_rng a c
    have za := @c3_zero a b; have zb := @c3_zero b c; have zc := @c3_zero a c
    have la := @c3_lt a b; have lb := @c3_lt b c; have lc := @c3_lt a c
    rw [lexc] at h1 h2
    rw [lexc, lexc, lexc]
    unfold th at h1 h2 ⊢
    by_cases e1 : c3 a b = 0
    · rw [if_pos e1] at h1 ⊢
      by_cases e2 : c3 b c = 0
      · rw [if_pos e2] at h2 ⊢
        rw [if_pos (by omega : c3 a c = 0)]
        exact ih h1 h2
      · rw [if_neg e2] at h2 ⊢
        have : c3 a c = -1 := by omega
        rw [if_neg (by omega), this]; omega
    · rw [if_neg e1] at h1 ⊢
      by_cases e2 : c3 b c = 0
      · rw [if_pos e2] at h2 ⊢
        have : c3 a c = -1 := by omega
        rw [if_neg (by omega), this]; omega
      · rw [if_neg e2] at h2 ⊢
        have : c3 a c = -1 := by omega
        rw [if_neg (by omega), this]; omega
theorem c3_cmp (a b : Int) : (bif decide (a < b) then some (-1 : Int) else bif decide (a > b) then some 1 else some 0) = some (c3 a b) := by
  unfold c3
  by_cases h : a < b
  · rw [decide_eq_true h, if_pos h]; rfl
  · rw [decide_eq_false h, if_neg h, cond_false]
    by_cases h2 : a > b
    · rw [decide_eq_true h2, if_pos h2]; rfl
    · rw [decide_eq_false h2, if_neg h2]; rfl
def cmpS (a b : Str) : Int := if Op.bytesLess a b then -1 else if a == b then 0 else 1
def keyS : Str → List Int
  | [] => [0]
  | c :: r => ((c.toNat : Int) + 1) :: keyS r
theorem bl_cons (a b : UInt8) (x y : Str) : Op.bytesLess (a :: x) (b :: y) = (a < b || (a == b && Op.bytesLess x y)) := rfl
theorem cmpS_cons (a b : UInt8) (x y : Str) : cmpS (a :: x) (b :: y) = th (c3 ((a.toNat : Int) + 1) ((b.toNat : Int) + 1)) (cmpS x y) := by
  unfold cmpS
  rw [bl_cons]
  rcases Nat.lt_trichotomy a.toNat b.toNat with h | h | h
  · have h1 : a < b := UInt8.lt_iff_toNat_lt.2 h
    have : c3 ((a.toNat : Int) + 1) ((b.toNat : Int) + 1) = -1 := c3_lt.2 (by omega)
    rw [this]; simp [h1, th]
  · have h1 : a = b := UInt8.toNat_inj.1 h
    subst h1
    have : c3 ((a.toNat : Int) + 1) ((a.toNat : Int) + 1) = 0 := c3_self _
    rw [this]
    have h2 : ¬ a < a := by rw [UInt8.lt_iff_toNat_lt]; omega
    simp [h2, th]
  · have h1 : ¬ a < b := by rw [UInt8.lt_iff_toNat_lt]; omega
    have h2 : (a == b) = false := by rw [beq_eq_false_iff_ne]; intro e; subst e; omega
    have : c3 ((a.toNat : Int) + 1) ((b.toNat : Int) + 1) = 1 := by unfold c3; rw [if_neg (by omega), if_pos (by omega)]
    have h3 : a ≠ b := by simpa using h2
    rw [this]; simp [h1, h2, th, h3]
theorem keyS_c : ∀ (a b : Str) (r s : List Int), lexc (keyS a ++ r) (keyS b ++ s) = th (cmpS a b) (lexc r s)
  | [], [], r, s => by show th (c3 0 0) _ = _; rfl
  | [], b :: y, r, s => by
    have : c3 0 ((b.toNat : Int) + 1) = -1 := c3_lt.2 (by omega)
    show th (c3 0 ((b.toNat : Int) + 1)) _ = _
    rw [this]; rfl
  | a :: x, [], r, s => by
    have : c3 ((a.toNat : Int) + 1) 0 = 1 := by unfold c3; rw [if_neg (by omega), if_pos (by omega)]
    show th (c3 ((a.toNat : Int) + 1) 0) _ = _
    rw [this]; rfl
  | a :: x, b :: y, r, s => by
    show th (c3 ((a.toNat : Int) + 1) ((b.toNat : Int) + 1)) (lexc (keyS x ++ r) (keyS y ++ s)) = _
    rw [keyS_c x y r s, cmpS_cons, th_assoc]
theorem value_cmp_string_eq (a b : Str) : p_value_cmp_string a b = some (cmpS a b) := by
  simp only [p_value_cmp_string, cmpS]
  cases h : Op.bytesLess a b with
  | true => rfl
  | false => simp only [cond_false, Bool.false_or, Bool.false_eq_true, if_false]; cases a == b <;> rfl
def trI (b : Bool) : Int := if b then 1 else 0
noncomputable def plV (f : Nat) : Int := if shrK .u64 (f : Int) 63 = 1 then notK .u64 f else orK .u64 f 9223372036854775808
mutual
noncomputable def ordF : V → V → Int
  | .bool a, y => match y with | .bool b => c3 (trI a) (trI b) | y => c3 2 (kindOf y)
  | .int a, y => match y with | .int b => c3 a b | y => c3 3 (kindOf y)
  | .float a, y => match y with | .float b => c3 (plV a) (plV b) | y => c3 4 (kindOf y)
  | .text a, y => match y with | .text b => cmpS a b | y => c3 5 (kindOf y)
  | .bytes a, y => match y with | .bytes b => cmpS a b | y => c3 6 (kindOf y)
  | .ref a, y => match y with | .ref b => c3 a b | y => c3 7 (kindOf y)
  | .list a, y => match y with | .list b => ordL a b | y => c3 8 (kindOf y)
  | .dict a, y => match y with | .dict b => ordD a b | y => c3 9 (kindOf y)
  | .record c v a, y => match y with | .record c' v' b => th (cmpS c c') (th (c3 v v') (ordD a b)) | y => c3 10 (kindOf y)
  | .nil, y => c3 1 (kindOf y)
  | .nothing, y => c3 11 (kindOf y)
  | .alien _, y => c3 0 (kindOf y)
noncomputable def ordL : List V → List V → Int
  | [], y => match y with | [] => 0 | _ :: _ => -1
  | a :: x, y => match y with | [] => 1 | b :: y => th (ordF a b) (ordL x y)
noncomputable def ordD : List (Str × V) → List (Str × V) → Int
  | [], y => match y with | [] => 0 | _ :: _ => -1
  | (s, a) :: x, y => match y with | [] => 1 | (t, b) :: y => th (th (cmpS s t) (ordF a b)) (ordD x y)
end
mutual
noncomputable def key : V → List Int
  | .nil => [1]
  | .bool b => [2, trI b]
  | .int i => [3, i]
  | .float f => [4, plV f]
  | .text s => 5 :: keyS s
  | .bytes s => 6 :: keyS s
  | .ref i => [7, i]
  | .list l => 8 :: keyL l
  | .dict l => 9 :: keyD l
  | .record c v l => 10 :: (keyS c ++ (v :: keyD l))
  | .nothing => [11]
  | .alien _ => [0]
noncomputable def keyL : List V → List Int
  | [] => [0]
  | x :: r => 1 :: (key x ++ keyL r)
noncomputable def keyD : List (Str × V) → List Int
  | [] => [0]
  | (s, x) :: r => 1 :: (keyS s ++ (key x ++ keyD r))
end
theorem th_self (a b : Int) : th (c3 a a) b = b := by rw [c3_self]; rfl
theorem th_zero (b : Int) : th b 0 = b := by unfold th; split <;> simp_all
theorem key_head (x : V) : ∃ r, key x = kindOf x :: r := by cases x <;> exact ⟨_, by rw [key]; rfl⟩
theorem key_ne {x y : V} (h : kindOf x ≠ kindOf y) (r s : List Int) : lexc (key x ++ r) (key y ++ s) = th (c3 (kindOf x) (kindOf y)) (lexc r s) := by
  obtain ⟨a, ha⟩ := key_head x
  obtain ⟨b, hb⟩ := key_head y
  rw [ha, hb]
  show th (c3 _ _) _ = _
  have : c3 (kindOf x) (kindOf y) ≠ 0 := fun e => h (c3_zero.1 e)
  unfold th; rw [if_neg this, if_neg this]
mutual
theorem key_c : ∀ (x y : V) (r s : List Int), lexc (key x ++ r) (key y ++ s) = th (ordF x y) (lexc r s)
  | .nil, y, r, s => by
    cases y <;> first | (refine key_ne (x := .nil) ?_ r s; simp [kindOf]; done) | (rw [key]; show th (c3 1 1) _ = _; rw [ordF]; rfl)
  | .nothing, y, r, s => by
    cases y <;> first | (refine key_ne (x := .nothing) ?_ r s; simp [kindOf]; done) | (rw [key]; show th (c3 11 11) _ = _; rw [ordF]; rfl)
  | .alien t, y, r, s => by
    cases y <;> first | (refine key_ne (x := .alien t) ?_ r s; simp [kindOf]; done) | (rw [key, key]; show th (c3 0 0) _ = _; rw [ordF]; rfl)
  | .bool a, y, r, s => by
    cases y <;> first | (refine key_ne (x := .bool a) ?_ r s; simp [kindOf]; done) | (rw [key, key, ordF]; show th (c3 2 2) (th _ _) = _; rw [th_self]; rfl)
  | .int a, y, r, s => by
    cases y <;> first | (refine key_ne (x := .int a) ?_ r s; simp [kindOf]; done) | (rw [key, key, ordF]; show th (c3 3 3) (th _ _) = _; rw [th_self]; rfl)
  | .float a, y, r, s => by
    cases y <;> first | (refine key_ne (x := .float a) ?_ r s; simp [kindOf]; done) | (rw [key, key, ordF]; show th (c3 4 4) (th _ _) = _; rw [th_self]; rfl)
  | .ref a, y, r, s => by
    cases y <;> first | (refine key_ne (x := .ref a) ?_ r s; simp [kindOf]; done) | (rw [key, key, ordF]; show th (c3 7 7) (th _ _) = _; rw [th_self]; rfl)
  | .text a, y, r, s => by
    cases y <;> first | (refine key_ne (x := .text a) ?_ r s; simp [kindOf]; done) | (rw [key, key, ordF]; show th (c3 5 5) (lexc (keyS _ ++ r) (keyS _ ++ s)) = _; rw [th_self, keyS_c])
  | .bytes a, y, r, s => by
    cases y <;> first | (refine key_ne (x := .bytes a) ?_ r s; simp [kindOf]; done) | (rw [key, key, ordF]; show th (c3 6 6) (lexc (keyS _ ++ r) (keyS _ ++ s)) = _; rw [th_self, keyS_c])
  | .list a, y, r, s => by
    cases y <;> first | (refine key_ne (x := .list a) ?_ r s; simp [kindOf]; done) | (rw [key, key, ordF]; show th (c3 8 8) (lexc (keyL _ ++ r) (keyL _ ++ s)) = _; rw [th_self, keyL_c])
  | .dict a, y, r, s => by
    cases y <;> first | (refine key_ne (x := .dict a) ?_ r s; simp [kindOf]; done) | (rw [key, key, ordF]; show th (c3 9 9) (lexc (keyD _ ++ r) (keyD _ ++ s)) = _; rw [th_self, keyD_c])
  | .record c v a, y, r, s => by
    cases y <;> first
      | (refine key_ne (x := .record c v a) ?_ r s; simp [kindOf]; done)
      | (rw [key, key, ordF]
         show th (c3 10 10) (lexc ((keyS _ ++ (_ :: keyD _)) ++ r) ((keyS _ ++ (_ :: keyD _)) ++ s)) = _
         rw [th_self, List.append_assoc, List.append_assoc, keyS_c]
         show th _ (th (c3 _ _) (lexc (keyD _ ++ r) (keyD _ ++ s))) = _
         rw [keyD_c, th_assoc, th_assoc])
theorem keyL_c : ∀ (x y : List V) (r s : List Int), lexc (keyL x ++ r) (keyL y ++ s) = th (ordL x y) (lexc r s)
  | [], [], r, s => by rw [keyL, ordL]; rfl
  | [], b :: y, r, s => by rw [keyL, keyL, ordL]; rfl
  | a :: x, [], r, s => by rw [keyL, keyL, ordL]; rfl
  | a :: x, b :: y, r, s => by
    rw [keyL, keyL, ordL]
    show th (c3 1 1) (lexc ((key a ++ keyL x) ++ r) ((key b ++ keyL y) ++ s)) = _
    rw [th_self, List.append_assoc, List.append_assoc, key_c a b, keyL_c x y r s, th_assoc]
theorem keyD_c : ∀ (x y : List (Str × V)) (r s : List Int), lexc (keyD x ++ r) (keyD y ++ s) = th (ordD x y) (lexc r s)
  | [], [], r, s => by rw [keyD, ordD]; rfl
  | [], (t, b) :: y, r, s => by rw [keyD, keyD, ordD]; rfl
  | (u, a) :: x, [], r, s => by rw [keyD, keyD, ordD]; rfl
  | (u, a) :: x, (t, b) :: y, r, s => by
    rw [keyD, keyD, ordD]
    show th (c3 1 1) (lexc ((keyS u ++ (key a ++ keyD x)) ++ r) ((keyS t ++ (key b ++ keyD y)) ++ s)) = _
    simp only [List.append_assoc]
    rw [th_self, keyS_c, key_c a b, keyD_c x y r s, th_assoc, th_assoc]
end
theorem ord_key (x y : V) : ordF x y = lexc (key x) (key y) := by
  have := key_c x y [] []
  rw [List.append_nil, List.append_nil] at this
  rw [this]; exact (th_zero _).symm
end Go.Proofs.Ytkmhecgagibgjaa

namespace Go.Proofs.Ytkmhecgagibgjaa
open Go Aw
set_option linter.unusedVariables false
set_option linter.unusedSimpArgs false
set_option maxRecDepth 8000
def Fine (x : V) : Prop := ∃ n dp d, (partF x n dp d).ok = true
theorem partsF_ok {d : Int} : ∀ {l : List V} {n dp : Int}, (partsF l n dp d).ok = true → ∀ y, y ∈ l → ∃ n dp, (partF y n dp d).ok = true
  | x :: r, n, dp, h, y, hy => by
    rw [partsF_cons] at h
    cases hk : (partF x n dp d).ok with
    | false => rw [if_neg (by simp [hk])] at h; rw [hk] at h; cases h
    | true =>
      rw [if_pos hk] at h
      rcases List.mem_cons.1 hy with rfl | hy
      · exact ⟨n, dp, hk⟩
      · exact partsF_ok h y hy
theorem Fine.own {x : V} (h : Fine x) : nearE x = 0 ∧ ∀ y, y ∈ x.parts → Fine y := by
  obtain ⟨n, dp, d, h⟩ := h
  rw [partF_eq] at h
  split at h
  · rename_i ho
    exact ⟨(own_zero ho).2.2, fun y hy => let ⟨n', dp', h'⟩ := partsF_ok h y hy; ⟨n', dp', _, h'⟩⟩
  · cases h
theorem check_fine {x : V} (h : (checkF x).2 = 0) : Fine x ∧ checkF x = (0, 0) := by
  unfold checkF at h ⊢
  cases hk : (partF x 0 0 1).ok with
  | true => exact ⟨⟨0, 0, 1, hk⟩, rfl⟩
  | false =>
    rw [if_neg (by simp [hk])] at h
    exact absurd h ((part_facts x 1 0 0).bad hk)
theorem ne_t {a : Int} (h : a ≠ 0) : (a != 0) = true := by simpa using h
theorem fieldsE_len {l : List Str} (h : fieldsE l = 0) : l.length ≤ 4096 := by
  unfold fieldsE at h
  split at h
  · cases h
  · omega
theorem near_list {l : List V} (h : nearE (.list l) = 0) : l.length ≤ 4096 := by
  simp only [nearE] at h
  split at h
  · cases h
  · omega
theorem near_rec {c : Str} {v : Int} {l : List (Str × V)} (h : nearE (.record c v l) = 0) : (1 ≤ v ∧ v ≤ 1000) ∧ l.length ≤ 4096 := by
  simp only [nearE] at h
  split at h
  · cases h
  · split at h
    · cases h
    · have := fieldsE_len h; rw [List.length_map] at this; omega
theorem near_dict {l : List (Str × V)} (h : nearE (.dict l) = 0) : l.length ≤ 4096 := by
  have := fieldsE_len h; rwa [List.length_map] at this
end Go.Proofs.Ytkmhecgagibgjaa

namespace Go.Proofs.Ytkmhecgagibgjaa
open Go Aw
set_option linter.unusedVariables false
set_option linter.unusedSimpArgs false
set_option maxRecDepth 8000
theorem value_cmp_int_eq (a b : Int) : p_value_cmp_int a b = some (c3 a b) := c3_cmp a b
theorem value_cmp_int64_eq (a b : Int) : p_value_cmp_int64 a b = some (c3 a b) := c3_cmp a b
theorem value_cmp_uint64_eq (a b : Int) : p_value_cmp_uint64 a b = some (c3 a b) := c3_cmp a b
theorem value_cmp_ref_eq (a b : Int) : p_value_cmp_api_Ref a b = some (c3 a b) := c3_cmp a b
theorem value_truth_eq (b : Bool) : p_value_truth b = some (trI b) := by cases b <;> rfl
theorem value_place_eq (f : Nat) : p_value_place f = some (plV f) := by
  unfold p_value_place plV
  by_cases h : shrK .u64 (f : Int) 63 = 1
  · rw [if_pos h, h]; rfl
  · rw [if_neg h]
    have : (shrK .u64 (f : Int) 63 == 1) = false := by simpa using h
    rw [this]; rfl
theorem ge_t {i n : Nat} (h : n ≤ i) : decide ((i : Int) ≥ (n : Int)) = true := decide_eq_true (by omega)
theorem ge_f {i n : Nat} (h : ¬ n ≤ i) : decide ((i : Int) ≥ (n : Int)) = false := decide_eq_false (by omega)
theorem th_some (c d : Int) : (bif c != 0 then some c else some d) = some (th c d) := by
  unfold th
  by_cases h : c = 0
  · subst h; rfl
  · have : (c != 0) = true := by simpa using h
    rw [this, if_neg h]; rfl
theorem byte_cmp_eq (a b : UInt8) : p_cmp_Compare_byte a b = some (c3 ((a.toNat : Int) + 1) ((b.toNat : Int) + 1)) := by
  have h1 : ∀ x : UInt8, p_cmp_isNaN_byte x = some false := fun x => by unfold p_cmp_isNaN_byte; simp
  simp only [p_cmp_Compare_byte, h1, Option.bind_some, cond_false, c3_shift]
  exact c3_cmp _ _
theorem bytes_l (a b : Str) : ∀ k i, k + i = a.length → i ≤ b.length → slices_Compare_byte_byte_l1 a b i = some (cmpS (a.drop i) (b.drop i))
  | 0, i, h, hb => by
    rw [slices_Compare_byte_byte_l1_eq]
    simp only [slices_Compare_byte_byte_l1b, lt_f (by omega : ¬ i < a.length), cond_false]
    rw [List.drop_of_length_le (by omega : a.length ≤ i)]
    by_cases hl : a.length < b.length
    · obtain ⟨y, hy, hd⟩ := dropc (by omega : i < b.length)
      rw [lt_t hl, hd]; rfl
    · rw [lt_f hl, List.drop_of_length_le (by omega : b.length ≤ i)]; rfl
  | k + 1, i, h, hb => by
    obtain ⟨x, hx, hdx⟩ := dropc (by omega : i < a.length)
    rw [slices_Compare_byte_byte_l1_eq]
    simp only [slices_Compare_byte_byte_l1b, lt_t (by omega : i < a.length), cond_true, hx, Option.bind_some]
    by_cases hl : i < b.length
    · obtain ⟨y, hy, hdy⟩ := dropc hl
      rw [ge_f (by omega : ¬ b.length ≤ i), hdx, hdy, cmpS_cons]
      simp only [cond_false, hy, Option.bind_some, byte_cmp_eq, bytes_l a b k (i + 1) (by omega) (by omega), th_some]
    · rw [ge_t (by omega : b.length ≤ i), hdx, List.drop_of_length_le (by omega : b.length ≤ i)]; rfl
theorem bytes_cmp_eq (a b : Str) : p_slices_Compare_byte_byte a b = some (cmpS a b) := bytes_l a b a.length 0 (by omega) (by omega)
theorem vl_l (a b : List V) (hab : ∀ x, x ∈ a → ∀ y, y ∈ b → p_value_order x y = some (ordF x y)) : ∀ k i, k + i = a.length → i ≤ b.length → slices_CompareFunc_api_List_api_List_any_any_value_order_l1 p_value_order a b i = some (ordL (a.drop i) (b.drop i))
  | 0, i, h, hb => by
    rw [slices_CompareFunc_api_List_api_List_any_any_value_order_l1_eq]
    simp only [slices_CompareFunc_api_List_api_List_any_any_value_order_l1b, lt_f (by omega : ¬ i < a.length), cond_false]
    rw [List.drop_of_length_le (by omega : a.length ≤ i)]
    by_cases hl : a.length < b.length
    · obtain ⟨y, hy, hd⟩ := dropc (by omega : i < b.length)
      rw [lt_t hl, hd, ordL]; rfl
    · rw [lt_f hl, List.drop_of_length_le (by omega : b.length ≤ i), ordL]; rfl
  | k + 1, i, h, hb => by
    obtain ⟨x, hx, hdx⟩ := dropc (by omega : i < a.length)
    rw [slices_CompareFunc_api_List_api_List_any_any_value_order_l1_eq]
    simp only [slices_CompareFunc_api_List_api_List_any_any_value_order_l1b, lt_t (by omega : i < a.length), cond_true, hx, Option.bind_some]
    by_cases hl : i < b.length
    · obtain ⟨y, hy, hdy⟩ := dropc hl
      rw [ge_f (by omega : ¬ b.length ≤ i), hdx, hdy, ordL]
      simp only [cond_false, hy, Option.bind_some, hab x (List.mem_of_getElem? hx) y (List.mem_of_getElem? hy), vl_l a b hab k (i + 1) (by omega) (by omega), th_some]
    · rw [ge_t (by omega : b.length ≤ i), hdx, List.drop_of_length_le (by omega : b.length ≤ i), ordL]; rfl
theorem field_eq (p q : Str × V) (h : p_value_order p.2 q.2 = some (ordF p.2 q.2)) : p_value_field p q = some (th (cmpS p.1 q.1) (ordF p.2 q.2)) := by
  rw [e_value_field, b_value_field]
  simp only [value_cmp_string_eq, Option.bind_some, h, th_some]
theorem vd_l (a b : List (Str × V)) (hab : ∀ x, x ∈ a → ∀ y, y ∈ b → p_value_order x.2 y.2 = some (ordF x.2 y.2)) : ∀ k i, k + i = a.length → i ≤ b.length → slices_CompareFunc_api_Dict_api_Dict_api_Field_api_Field_value_field_l1 p_value_field a b i = some (ordD (a.drop i) (b.drop i))
  | 0, i, h, hb => by
    rw [slices_CompareFunc_api_Dict_api_Dict_api_Field_api_Field_value_field_l1_eq]
    simp only [slices_CompareFunc_api_Dict_api_Dict_api_Field_api_Field_value_field_l1b, lt_f (by omega : ¬ i < a.length), cond_false]
    rw [List.drop_of_length_le (by omega : a.length ≤ i)]
    by_cases hl : a.length < b.length
    · obtain ⟨y, hy, hd⟩ := dropc (by omega : i < b.length)
      rw [lt_t hl, hd, ordD]; rfl
    · rw [lt_f hl, List.drop_of_length_le (by omega : b.length ≤ i), ordD]; rfl
  | k + 1, i, h, hb => by
    obtain ⟨x, hx, hdx⟩ := dropc (by omega : i < a.length)
    rw [slices_CompareFunc_api_Dict_api_Dict_api_Field_api_Field_value_field_l1_eq]
    simp only [slices_CompareFunc_api_Dict_api_Dict_api_Field_api_Field_value_field_l1b, lt_t (by omega : i < a.length), cond_true, hx, Option.bind_some]
    obtain ⟨sx, vx⟩ := x
    by_cases hl : i < b.length
    · obtain ⟨y, hy, hdy⟩ := dropc hl
      obtain ⟨sy, vy⟩ := y
      rw [ge_f (by omega : ¬ b.length ≤ i), hdx, hdy, ordD]
      simp only [cond_false, hy, Option.bind_some, field_eq _ _ (hab _ (List.mem_of_getElem? hx) _ (List.mem_of_getElem? hy)), vd_l a b hab k (i + 1) (by omega) (by omega), th_some]
    · rw [ge_t (by omega : b.length ≤ i), hdx, List.drop_of_length_le (by omega : b.length ≤ i), ordD]; rfl
theorem dict_eq (a b : List (Str × V)) (hab : ∀ x, x ∈ a → ∀ y, y ∈ b → p_value_order x.2 y.2 = some (ordF x.2 y.2)) : p_slices_CompareFunc_api_Dict_api_Dict_api_Field_api_Field_value_field a b = some (ordD a b) := by
  rw [e_slices_CompareFunc_api_Dict_api_Dict_api_Field_api_Field_value_field, b_slices_CompareFunc_api_Dict_api_Dict_api_Field_api_Field_value_field]
  exact vd_l a b hab a.length 0 (by omega) (by omega)
theorem list_eq (a b : List V) (hab : ∀ x, x ∈ a → ∀ y, y ∈ b → p_value_order x y = some (ordF x y)) : p_slices_CompareFunc_api_List_api_List_any_any_value_order a b = some (ordL a b) := by
  rw [e_slices_CompareFunc_api_List_api_List_any_any_value_order, b_slices_CompareFunc_api_List_api_List_any_any_value_order]
  exact vl_l a b hab a.length 0 (by omega) (by omega)
theorem ordF_ne {x y : V} (h : kindOf x ≠ kindOf y) : ordF x y = c3 (kindOf x) (kindOf y) := by
  rw [ord_key]
  have := key_ne h [] []
  rw [List.append_nil, List.append_nil] at this
  rw [this]; exact th_zero _
theorem value_order_eq (x : V) : ∀ y, Fine x → Fine y → p_value_order x y = some (ordF x y) := by
  induction x using V.byParts with
  | _ x ih =>
  intro y hx hy
  have hpx := hx.own.2
  have hpy := hy.own.2
  have e0 : ((0 : Int) != 0) = false := rfl
  rw [e_value_order, b_value_order]
  simp only [value_kind_eq, value_cmp_int_eq, Option.bind_some]
  by_cases hk : kindOf x = kindOf y
  · rw [hk, c3_self, e0, cond_false]
    cases x with
    | nil => cases y <;> first | (simp [kindOf] at hk; done) | (rw [ordF]; rfl)
    | nothing => have := hx.own.1; simp [nearE] at this
    | alien t => have := hx.own.1; simp [nearE] at this
    | bool a => cases y <;> first | (simp [kindOf] at hk; done) | (rw [ordF]; simp only [V.isBool, V.asBool, V.theBool, cond_true, value_truth_eq, Option.bind_some, value_cmp_int_eq])
    | int a => cases y <;> first | (simp [kindOf] at hk; done) | (rw [ordF]; simp only [V.isBool, V.isInt, V.asInt, V.theInt, cond_true, cond_false, Option.bind_some, value_cmp_int64_eq])
    | float a => cases y <;> first | (simp [kindOf] at hk; done) | (rw [ordF]; simp only [V.isBool, V.isInt, V.isFloat, V.asFloat, V.theFloat, cond_true, cond_false, Option.bind_some, value_place_eq, value_cmp_uint64_eq])
    | text a => cases y <;> first | (simp [kindOf] at hk; done) | (rw [ordF]; simp only [V.isBool, V.isInt, V.isFloat, V.isText, V.asText, V.theText, cond_true, cond_false, Option.bind_some, value_cmp_string_eq])
    | bytes a => cases y <;> first | (simp [kindOf] at hk; done) | (rw [ordF]; simp only [V.isBool, V.isInt, V.isFloat, V.isText, V.isBytes, V.asBytes, V.theBytes, cond_true, cond_false, Option.bind_some, bytes_cmp_eq])
    | ref a => cases y <;> first | (simp [kindOf] at hk; done) | (rw [ordF]; simp only [V.isBool, V.isInt, V.isFloat, V.isText, V.isBytes, V.isRef, V.asRef, V.theRef, cond_true, cond_false, Option.bind_some, value_cmp_ref_eq])
    | list a =>
      cases y <;> first
        | (simp [kindOf] at hk; done)
        | (rename_i b
           rw [ordF]
           simp only [V.isBool, V.isInt, V.isFloat, V.isText, V.isBytes, V.isRef, V.isList, V.asList, V.theList, cond_true, cond_false, Option.bind_some]
           rw [list_eq a b (fun u hu v hv => ih u hu v (hpx u hu) (hpy v hv))]; rfl)
    | dict a =>
      cases y <;> first
        | (simp [kindOf] at hk; done)
        | (rename_i b
           rw [ordF]
           simp only [V.isBool, V.isInt, V.isFloat, V.isText, V.isBytes, V.isRef, V.isList, V.isDict, V.asDict, V.theDict, cond_true, cond_false, Option.bind_some]
           rw [dict_eq a b (fun u hu v hv => ih u.2 (List.mem_map_of_mem hu) v.2 (hpx _ (List.mem_map_of_mem hu)) (hpy _ (List.mem_map_of_mem hv)))]; rfl)
    | record c v a =>
      cases y <;> first
        | (simp [kindOf] at hk; done)
        | (rename_i b
           rw [ordF]
           simp only [V.isBool, V.isInt, V.isFloat, V.isText, V.isBytes, V.isRef, V.isList, V.isDict, V.isRec, V.asRec, V.theRec, cond_true, cond_false, Option.bind_some, value_cmp_string_eq, value_cmp_int_eq]
           rw [dict_eq a b (fun u hu v hv => ih u.2 (List.mem_map_of_mem hu) v.2 (hpx _ (List.mem_map_of_mem hu)) (hpy _ (List.mem_map_of_mem hv)))]
           simp only [Option.bind_some, th_some])
  · have h2 : c3 (kindOf x) (kindOf y) ≠ 0 := fun e => hk (c3_zero.1 e)
    have e1 : (c3 (kindOf x) (kindOf y) != 0) = true := by simpa using h2
    rw [e1, cond_true, ordF_ne hk]
noncomputable def sameF (x y : V) : Bool := (checkF x).2 == 0 && ((checkF y).2 == 0 && ordF x y == 0)
theorem value_Same_eq (x y : V) : p_value_Same x y = some (sameF x y) := by
  simp only [p_value_Same, value_check_eq, Option.bind_some, sameF]
  by_cases hx : (checkF x).2 = 0
  · have ex : ((checkF x).2 == 0) = true := by simpa using hx
    rw [ex, cond_true, Bool.true_and]
    by_cases hy : (checkF y).2 = 0
    · have ey : ((checkF y).2 == 0) = true := by simpa using hy
      rw [ey, cond_true, Bool.true_and, value_order_eq x y (check_fine hx).1 (check_fine hy).1]; rfl
    · have ey : ((checkF y).2 == 0) = false := by simpa using hy
      rw [ey]; rfl
  · have ex : ((checkF x).2 == 0) = false := by simpa using hx
    rw [ex]; rfl
end Go.Proofs.Ytkmhecgagibgjaa

namespace Go.Proofs.Ytkmhecgagibgjaa
open Go Aw
set_option linter.unusedVariables false
set_option linter.unusedSimpArgs false
set_option maxRecDepth 8000
mutual
def cnt : V → Int
  | .list l => 1 + cntL l
  | .dict l => 1 + cntD l
  | .record _ _ l => 1 + cntD l
  | _ => 1
def cntL : List V → Int
  | [] => 0
  | x :: r => cnt x + cntL r
def cntD : List (Str × V) → Int
  | [] => 0
  | (_, x) :: r => cnt x + cntD r
end
mutual
def dpt : V → Int
  | .list l => 1 + dptL l
  | .dict l => 1 + dptD l
  | .record _ _ l => 1 + dptD l
  | _ => 1
def dptL : List V → Int
  | [] => 0
  | x :: r => max (dpt x) (dptL r)
def dptD : List (Str × V) → Int
  | [] => 0
  | (_, x) :: r => max (dpt x) (dptD r)
end
theorem cntD_map : ∀ l, cntD l = cntL (l.map (·.2))
  | [] => by simp only [cntD, cntL, List.map_nil]
  | (s, x) :: r => by simp only [cntD, cntL, List.map_cons, cntD_map r]
theorem dptD_map : ∀ l, dptD l = dptL (l.map (·.2))
  | [] => by simp only [dptD, dptL, List.map_nil]
  | (s, x) :: r => by simp only [dptD, dptL, List.map_cons, dptD_map r]
theorem cnt_eq (x : V) : cnt x = 1 + cntL x.parts := by cases x <;> simp only [cnt, V.parts, cntD_map, cntL] <;> rfl
theorem dpt_eq (x : V) : dpt x = 1 + dptL x.parts := by cases x <;> simp only [dpt, V.parts, dptD_map, dptL] <;> rfl
inductive Near : V → Prop
  | mk {x : V} : nearE x = 0 → (∀ y, y ∈ x.parts → Near y) → Near x
theorem Near.own {x : V} (h : Near x) : nearE x = 0 := by cases h; assumption
theorem Near.part {x : V} (h : Near x) : ∀ y, y ∈ x.parts → Near y := by cases h; assumption
theorem cnt_pos (x : V) : 1 ≤ cnt x ∧ 1 ≤ dpt x := by
  induction x using V.byParts with
  | _ x ih =>
    rw [cnt_eq, dpt_eq]
    have : ∀ l : List V, (∀ y, y ∈ l → 1 ≤ cnt y ∧ 1 ≤ dpt y) → 0 ≤ cntL l ∧ 0 ≤ dptL l := by
      intro l
      induction l with
      | nil => intro _; simp [cntL, dptL]
      | cons y r ihr =>
        intro h
        have h1 := h y (by simp)
        have h2 := ihr (fun z hz => h z (by simp [hz]))
        simp only [cntL, dptL]; omega
    have := this x.parts ih
    omega
theorem own_iff {x : V} {n d : Int} : ownE x n d = 0 ↔ n < 16384 ∧ d ≤ 64 ∧ nearE x = 0 := by
  constructor
  · exact own_zero
  · rintro ⟨h1, h2, h3⟩
    unfold ownE; rw [if_neg (by omega)]; exact h3
theorem near_far {x : V} (h : nearE x = 0) : farE x = 2 := by cases x <;> first | rfl | (simp [nearE] at h)
structure Goes (x : V) : Prop where
  yes : ∀ n dp d, Near x → d - 1 ≤ dp → n + cnt x ≤ 16384 → d + dpt x - 1 ≤ 64 → partF x n dp d = ⟨true, n + cnt x, max dp (d + dpt x - 1), 0⟩
  ok : ∀ n dp d, (partF x n dp d).ok = true → Near x ∧ n + cnt x ≤ 16384 ∧ d + dpt x - 1 ≤ 64 ∧ (partF x n dp d).n = n + cnt x
  long : ∀ n dp d, Near x → (partF x n dp d).ok = false → (partF x n dp d).why = 2
theorem goes_l {l : List V} (h : ∀ y, y ∈ l → Goes y) :
    (∀ n dp d, (∀ y, y ∈ l → Near y) → d - 1 ≤ dp → n + cntL l ≤ 16384 → d + dptL l - 1 ≤ 64 → partsF l n dp d = ⟨true, n + cntL l, max dp (d + dptL l - 1), 0⟩) ∧
    (∀ n dp d, n ≤ 16384 → d ≤ 65 → (partsF l n dp d).ok = true → (∀ y, y ∈ l → Near y) ∧ n + cntL l ≤ 16384 ∧ d + dptL l - 1 ≤ 64 ∧ (partsF l n dp d).n = n + cntL l) ∧
    (∀ n dp d, (∀ y, y ∈ l → Near y) → (partsF l n dp d).ok = false → (partsF l n dp d).why = 2) := by
  induction l with
  | nil =>
    refine ⟨fun n dp d _ hd _ _ => ?_, fun n dp d hn hd _ => ?_, fun n dp d _ hk => ?_⟩
    · rw [partsF_nil, cntL, dptL]; congr 1 <;> omega
    · rw [partsF_nil, cntL, dptL]; exact ⟨by simp, by omega, by omega, by simp⟩
    · rw [partsF_nil] at hk; cases hk
  | cons x r ih =>
    have hx := h x (by simp)
    obtain ⟨i1, i2, i3⟩ := ih (fun y hy => h y (by simp [hy]))
    have hp := cnt_pos x
    have hr : 0 ≤ cntL r ∧ 0 ≤ dptL r := by
      clear i1 i2 i3 ih h hx
      induction r with
      | nil => simp [cntL, dptL]
      | cons y q ihq => have := cnt_pos y; simp only [cntL, dptL]; omega
    refine ⟨fun n dp d hnr hd hn hdd => ?_, fun n dp d hn hd hk => ?_, fun n dp d hnr hk => ?_⟩
    · rw [cntL] at hn ⊢
      rw [dptL] at hdd ⊢
      have e := hx.yes n dp d (hnr x (by simp)) hd (by omega) (by omega)
      rw [partsF_cons, e, if_pos rfl]
      rw [i1 _ _ d (fun y hy => hnr y (by simp [hy])) (by simp only; omega) (by simp only; omega) (by omega)]
      congr 1
      · simp only; omega
      · simp only; omega
    · rw [partsF_cons] at hk ⊢
      cases hk1 : (partF x n dp d).ok with
      | false => rw [if_neg (by simp [hk1])] at hk; rw [hk1] at hk; cases hk
      | true =>
        rw [if_pos hk1] at hk
        rw [if_pos rfl]
        obtain ⟨a1, a2, a3, a4⟩ := hx.ok n dp d hk1
        rw [a4] at hk ⊢
        obtain ⟨b1, b2, b3, b4⟩ := i2 _ _ d (by omega) hd hk
        rw [cntL, dptL]
        refine ⟨fun y hy => ?_, by omega, by omega, by omega⟩
        rcases List.mem_cons.1 hy with rfl | hy
        · exact a1
        · exact b1 y hy
    · rw [partsF_cons] at hk ⊢
      cases hk1 : (partF x n dp d).ok with
      | false => rw [if_neg (by simp [hk1])]; exact hx.long n dp d (hnr x (by simp)) hk1
      | true =>
        rw [if_pos hk1] at hk
        rw [if_pos rfl]
        exact i3 _ _ d (fun y hy => hnr y (by simp [hy])) hk
theorem goes (x : V) : Goes x := by
  induction x using V.byParts with
  | _ x ih =>
    obtain ⟨i1, i2, i3⟩ := goes_l ih
    have hp := cnt_pos x
    refine ⟨fun n dp d hnr hd hn hdd => ?_, fun n dp d hk => ?_, fun n dp d hnr hk => ?_⟩
    · rw [partF_eq, if_pos (own_iff.2 ⟨by omega, by omega, hnr.own⟩)]
      rw [cnt_eq] at hn ⊢
      rw [dpt_eq] at hdd ⊢
      have hd0 := hp.2
      rw [dpt_eq] at hd0
      rw [i1 _ _ (d + 1) hnr.part (by omega) (by omega) (by omega)]
      congr 1 <;> omega
    · rw [partF_eq] at hk ⊢
      by_cases ho : ownE x n d = 0
      · rw [if_pos ho] at hk ⊢
        have h0 := own_zero ho
        obtain ⟨b1, b2, b3, b4⟩ := i2 _ _ (d + 1) (by omega) (by omega) hk
        rw [cnt_eq, dpt_eq]
        exact ⟨.mk h0.2.2 b1, by omega, by omega, by omega⟩
      · rw [if_neg ho] at hk; cases hk
    · rw [partF_eq] at hk ⊢
      by_cases ho : ownE x n d = 0
      · rw [if_pos ho] at hk ⊢; exact i3 _ _ _ hnr.part hk
      · rw [if_neg ho]
        have : ownE x n d = farE x := by
          unfold ownE at ho ⊢
          split
          · rfl
          · rename_i hc; rw [if_neg hc] at ho; exact absurd hnr.own ho
        show ownE x n d = 2
        rw [this]; exact near_far hnr.own
def Can (x : V) : Prop := Near x ∧ cnt x ≤ 16384 ∧ dpt x ≤ 64
theorem can_ok {x : V} : (partF x 0 0 1).ok = true ↔ Can x := by
  constructor
  · intro h
    obtain ⟨a, b, c, _⟩ := (goes x).ok 0 0 1 h
    exact ⟨a, by omega, by omega⟩
  · rintro ⟨a, b, c⟩
    rw [(goes x).yes 0 0 1 a (by omega) (by omega) (by omega)]
theorem check_can {x : V} (h : Can x) : checkF x = (0, 0) := by unfold checkF; rw [if_pos (can_ok.2 h)]
theorem check_cannot {x : V} (h : ¬ Can x) : (checkF x).2 ≠ 0 := by
  unfold checkF
  have hk : (partF x 0 0 1).ok = false := by
    cases hk : (partF x 0 0 1).ok with
    | false => rfl
    | true => exact absurd (can_ok.1 hk) h
  rw [if_neg (by simp [hk])]
  exact (part_facts x 1 0 0).bad hk
theorem can_fine {x : V} (h : Can x) : Fine x := ⟨0, 0, 1, can_ok.2 h⟩
end Go.Proofs.Ytkmhecgagibgjaa

namespace Go.Proofs.Ytkmhecgagibgjaa
open Go Aw
set_option linter.unusedVariables false
set_option linter.unusedSimpArgs false
set_option maxRecDepth 8000
theorem near_bytes {b : Str} (h : nearE (.bytes b) = 0) : b.length ≤ 65536 := by
  simp only [nearE] at h; split at h <;> omega
end Go.Proofs.Ytkmhecgagibgjaa

namespace Go.Proofs.Ytkmhecgagibgjaa
open Go Aw
set_option linter.unusedVariables false
set_option linter.unusedSimpArgs false
set_option maxRecDepth 8000
theorem rm_ok {n b : Nat} (hb : b ≤ 1024) (hn : n ≤ 1073741824) : roomO n b = some () := by
  have h1 : n * b ≤ 1073741824 * 1024 := Nat.mul_le_mul hn hb
  unfold roomO
  rw [Nat.ble_eq_true_of_le (by omega), Nat.ble_eq_true_of_le (by omega)]; rfl
theorem tk_snoc {α : Type} {l : List α} {i : Nat} {x : α} (h : l[i]? = some x) : l.take i ++ [x] = l.take (i + 1) := by
  rw [List.take_add_one, h]; rfl
theorem cq_l (l : List V) (hl : ∀ u, u ∈ l → p_value_copied u = some u) (hb : l.length ≤ 1073741824) : ∀ k i, k + i = l.length → value_copied_l1 p_value_copied (.list l) (l.take i) i = some (.list l)
  | 0, i, h => by
    rw [value_copied_l1_eq]
    simp only [value_copied_l1b, V.asList, lt_f (by omega : ¬ i < l.length), cond_false]
    rw [List.take_of_length_le (by omega)]
  | k + 1, i, h => by
    obtain ⟨x, hx, _⟩ := dropc (by omega : i < l.length)
    rw [value_copied_l1_eq]
    simp only [value_copied_l1b, V.asList, lt_t (by omega : i < l.length), cond_true, hx, Option.bind_some, hl x (List.mem_of_getElem? hx), app1 (b := 16) (by omega) (show (l.take i).length ≤ 1073741824 by simp; omega), tk_snoc hx]
    exact cq_l l hl hb k (i + 1) (by omega)
theorem cq_d (l : List (Str × V)) (hl : ∀ u, u ∈ l → p_value_copied u.2 = some u.2) (hb : l.length ≤ 1073741824) : ∀ k i, k + i = l.length → value_copiedDict_l1 p_value_copied l (l.take i) i = some l
  | 0, i, h => by
    rw [value_copiedDict_l1_eq]
    simp only [value_copiedDict_l1b, lt_f (by omega : ¬ i < l.length), cond_false]
    rw [List.take_of_length_le (by omega)]
  | k + 1, i, h => by
    obtain ⟨x, hx, _⟩ := dropc (by omega : i < l.length)
    rw [value_copiedDict_l1_eq]
    simp only [value_copiedDict_l1b, lt_t (by omega : i < l.length), cond_true, hx, Option.bind_some, hl x (List.mem_of_getElem? hx), app1 (b := 32) (x := (x.1, x.2)) (by omega) (show (l.take i).length ≤ 1073741824 by simp; omega)]
    rw [show l.take i ++ [(x.1, x.2)] = l.take (i + 1) from tk_snoc hx]
    exact cq_d l hl hb k (i + 1) (by omega)
theorem copied_eq (x : V) : Fine x → p_value_copied x = some x := by
  induction x using V.byParts with
  | _ x ih =>
  intro hx
  have hn := hx.own.1
  have hp : ∀ u, u ∈ x.parts → p_value_copied u = some u := fun u hu => ih u hu (hx.own.2 u hu)
  have hD : ∀ l : List (Str × V), l.length ≤ 4096 → (∀ u, u ∈ l → u.2 ∈ x.parts) → p_value_copiedDict l = some l := fun l hl h => by
    rw [e_value_copiedDict, b_value_copiedDict, rm_ok (by omega) (by omega), Option.bind_some]
    exact cq_d l (fun u hu => hp _ (h u hu)) (by omega) l.length 0 (by omega)
  rw [e_value_copied, b_value_copied]
  cases x with
  | bytes b =>
    have hb := near_bytes hn
    simp only [V.isBytes, V.asBytes, cond_true, app0 (by omega : 1 ≤ 1024) (show b.length ≤ 1073741824 by omega), Option.bind_some]
  | list l =>
    have hb := near_list hn
    simp only [V.isBytes, V.isList, V.asList, cond_true, cond_false, rm_ok (by omega : 16 ≤ 1024) (show l.length ≤ 1073741824 by omega), Option.bind_some]
    exact cq_l l hp (by omega) l.length 0 (by omega)
  | dict l =>
    have hb := near_dict hn
    simp only [V.isBytes, V.isList, V.isDict, V.asDict, cond_true, cond_false, hD l hb (fun u hu => List.mem_map_of_mem hu), Option.bind_some]
  | record c v l =>
    have hb := (near_rec hn).2
    simp only [V.isBytes, V.isList, V.isDict, V.isRec, V.asRec, cond_true, cond_false, Option.bind_some, hD l hb (fun u hu => List.mem_map_of_mem hu)]
  | nothing => simp [nearE] at hn
  | _ => rfl
theorem copy_can {x : V} (h : Can x) : p_value_Copy x = some (x, 0) := by
  simp only [p_value_Copy, value_check_eq, check_can h, Option.bind_some]
  rw [show ((0 : Int) != 0) = false from rfl, cond_false, copied_eq x (can_fine h)]; rfl
theorem copy_not {x : V} (h : ¬ Can x) : p_value_Copy x = some (.nil, (checkF x).2) := by
  simp only [p_value_Copy, value_check_eq, Option.bind_some]
  rw [ne_t (check_cannot h), cond_true]
end Go.Proofs.Ytkmhecgagibgjaa

namespace Go.Proofs.Ytkmhecgagibgjaa
open Go Aw
set_option linter.unusedVariables false
set_option linter.unusedSimpArgs false
set_option maxRecDepth 8000
abbrev Stp := S_api_Step
def stN (n : Str) : Stp := S_api_Step.mk n false 0
def stA (i : Nat) : Stp := S_api_Step.mk [] true ((i : Nat) : Int)
theorem zcnt_mem : ∀ {l : List V} {y : V}, y ∈ l → cnt y ≤ cntL l ∧ dpt y ≤ dptL l
  | x :: r, y, h => by
    have hp : 0 ≤ cntL r ∧ 0 ≤ dptL r := by
      clear h
      induction r with
      | nil => simp [cntL, dptL]
      | cons z q ih => have := cnt_pos z; simp only [cntL, dptL]; omega
    have hx := cnt_pos x
    simp only [cntL, dptL]
    rcases List.mem_cons.1 h with rfl | h
    · omega
    · have := zcnt_mem h; omega
theorem zcan_part {x y : V} (h : Can x) (hy : y ∈ x.parts) : Can y := by
  have h1 := zcnt_mem hy
  have h2 := cnt_eq x
  have h3 := dpt_eq x
  obtain ⟨a, b, c⟩ := h
  exact ⟨a.part y hy, by omega, by omega⟩
theorem zth {c : Int} : th c 0 = c := by
  unfold th; by_cases h : c = 0
  · rw [if_pos h, h]
  · rw [if_neg h]
theorem zcmp_key (a b : Str) : cmpS a b = lexc (keyS a) (keyS b) := by
  have h := keyS_c a b [] []
  rw [List.append_nil, List.append_nil] at h
  rw [h, show lexc [] [] = 0 from rfl, zth]
def zlt (a b : Str) : Prop := cmpS a b = -1
theorem zlt_trans {a b c : Str} (h : zlt a b) (k : zlt b c) : zlt a c := by
  unfold zlt at *
  rw [zcmp_key] at *
  have := lexc_trans (keyS a) (keyS b) (keyS c) (by omega) (by omega)
  have h2 := this.2 (.inl (by omega))
  have := lexc_rng (keyS a) (keyS c)
  omega
theorem cmp_self (s : Str) : cmpS s s = 0 := by
  rw [zcmp_key]; have := lexc_neg (keyS s) (keyS s); omega
theorem zlt_irr (a : Str) : ¬ zlt a a := by unfold zlt; rw [cmp_self]; omega
theorem zleB {a b : Str} (h : leB b a = false) : zlt a b := by
  simp only [leB, Bool.or_eq_false_iff] at h
  have h1 : cmpS b a = 1 := by unfold cmpS; rw [if_neg (by simp [h.1]), if_neg (by simp [h.2])]
  unfold zlt
  rw [zcmp_key] at h1 ⊢
  have := lexc_neg (keyS b) (keyS a)
  omega
theorem zsrt : ∀ {l : List Str} {p : Option Str}, risen p l = true → l.Pairwise zlt ∧ ∀ q, p = some q → ∀ s, s ∈ l → zlt q s
  | [], _, _ => ⟨.nil, fun _ _ s hs => by cases hs⟩
  | s :: r, p, h => by
    simp only [risen, Bool.and_eq_true] at h
    have ih := zsrt h.2
    refine ⟨.cons (fun x hx => ih.2 s rfl x hx) ih.1, fun q hq x hx => ?_⟩
    subst hq
    have h1 : zlt q s := zleB (by simpa using h.1.2)
    rcases List.mem_cons.1 hx with rfl | hx
    · exact h1
    · exact zlt_trans h1 (ih.2 s rfl x hx)
theorem fields_srt {l : List Str} (h : fieldsE l = 0) : l.Pairwise zlt := by
  unfold fieldsE at h
  split at h
  · cases h
  · split at h
    · rename_i h2; exact (zsrt h2).1
    · cases h
theorem zsrt_nodup {L : List Str} (h : L.Pairwise zlt) : L.Nodup := h.imp (fun h e => by subst e; exact zlt_irr _ h)
end Go.Proofs.Ytkmhecgagibgjaa

namespace Go.Proofs.Ytkmhecgagibgjaa
open Go Aw
set_option linter.unusedVariables false
set_option linter.unusedSimpArgs false
set_option maxRecDepth 8000
theorem ixB_mem (s : Str) (c : UInt8) : decide (ixB s c ≥ 0) = s.contains c := by
  unfold ixB
  cases h : (List.range s.length).find? fun i => s.toArray[i]! == c with
  | some i =>
    have h1 := List.find?_some h
    have h2 := List.mem_of_find?_eq_some h
    rw [List.mem_range] at h2
    have h3 : s.toArray[i]! = s[i] := by rw [getElem!_pos _ _ (by simpa using h2)]; rfl
    rw [h3] at h1
    have h4 : s[i] = c := by simpa using h1
    rw [decide_eq_true (by simp : ((i : Nat) : Int) ≥ 0)]
    exact (List.contains_iff_mem.2 (by rw [← h4]; exact List.getElem_mem h2)).symm
  | none =>
    rw [List.find?_eq_none] at h
    cases hc : s.contains c with
    | false => rfl
    | true =>
      have hm := List.contains_iff_mem.1 hc
      obtain ⟨i, hi, e⟩ := List.mem_iff_getElem.1 hm
      have h3 : s.toArray[i]! = s[i] := by rw [getElem!_pos _ _ (by simpa using hi)]; rfl
      exact absurd (by rw [h3, e]; simp : (s.toArray[i]! == c) = true) (h i (List.mem_range.2 hi))
theorem index_eq (s : Str) (c : UInt8) : p_strings_IndexByte s c = some (ixB s c) := rfl
def runF (p : UInt8 → Bool) (s : Str) (n : Nat) : Nat := ((s.drop n).takeWhile p).length
theorem span_l (s of : Str) (a : Int) (hl : s.length ≤ 4611686018427387904) : ∀ k n, n + k = s.length → path_span_l1 s a of (n : Int) = cutO s a ((n + runF of.contains s n : Nat) : Int)
  | 0, n, h => by
    rw [path_span_l1_eq]
    simp only [path_span_l1b, lt_f (by omega : ¬ n < s.length), cond_false, path_span_j1]
    have e : runF of.contains s n = 0 := by unfold runF; rw [List.drop_of_length_le (by omega)]; rfl
    rw [e, Nat.add_zero]
    cases cutO s a (n : Int) <;> rfl
  | k + 1, n, h => by
    obtain ⟨c, hc, hd⟩ := dropc (by omega : n < s.length)
    rw [path_span_l1_eq]
    simp only [path_span_l1b, lt_t (by omega : n < s.length), cond_true, idxI_nat, hc, Option.bind_some, index_eq, ixB_mem, path_span_j1]
    have e : runF of.contains s n = if of.contains c then 1 + runF of.contains s (n + 1) else 0 := by
      unfold runF
      rw [hd, List.takeWhile_cons]
      cases of.contains c with
      | true => rw [if_pos rfl, if_pos rfl, List.length_cons]; omega
      | false => rfl
    cases hm : of.contains c with
    | true =>
      rw [hm, if_pos rfl] at e
      rw [cond_true, w64_in (by omega) (by omega), show ((n : Int) + 1) = ((n + 1 : Nat) : Int) from by omega, span_l s of a hl k (n + 1) (by omega), e]
      congr 2; omega
    | false =>
      rw [hm] at e
      rw [cond_false, e]
      show _ = cutO s a ((n + 0 : Nat) : Int)
      rw [Nat.add_zero]
      cases cutO s a (n : Int) <;> rfl
theorem cut_nat {α : Type} {s : List α} {a b : Nat} (h1 : a ≤ b) (h2 : b ≤ s.length) : cutO s (a : Int) (b : Int) = some ((s.take b).drop a) := by
  unfold cutO
  rw [decide_eq_true (by omega : (0 : Int) ≤ (a : Int)), decide_eq_true (by omega : (a : Int) ≤ (b : Int)), decide_eq_true (by omega : (b : Int) ≤ (s.length : Int))]; rfl
theorem run_le (p : UInt8 → Bool) (s : Str) (n : Nat) (h : n ≤ s.length) : n + runF p s n ≤ s.length := by
  unfold runF
  have : ((s.drop n).takeWhile p).length ≤ (s.drop n).length := (List.takeWhile_prefix p).length_le
  rw [List.length_drop] at this; omega
theorem span_eq {s of : Str} {n : Nat} (hl : s.length ≤ 4611686018427387904) (h : n ≤ s.length) : p_path_span s (n : Int) of = some ((s.drop n).takeWhile of.contains) := by
  have := run_le of.contains s n h
  unfold p_path_span
  rw [span_l s of _ hl (s.length - n) n (by omega), cut_nat (by omega) (by omega)]
  congr 1
  rw [List.drop_take, show n + runF of.contains s n - n = runF of.contains s n from by omega]
  unfold runF
  exact (List.prefix_iff_eq_take.1 (List.takeWhile_prefix _)).symm
abbrev lowS : Str := [97, 98, 99, 100, 101, 102, 103, 104, 105, 106, 107, 108, 109, 110, 111, 112, 113, 114, 115, 116, 117, 118, 119, 120, 121, 122]
abbrev nmS : Str := [97, 98, 99, 100, 101, 102, 103, 104, 105, 106, 107, 108, 109, 110, 111, 112, 113, 114, 115, 116, 117, 118, 119, 120, 121, 122, 48, 49, 50, 51, 52, 53, 54, 55, 56, 57, 95]
theorem all8 {p : UInt8 → Bool} (h : (List.range 256).all (fun n => p (UInt8.ofNat n)) = true) (c : UInt8) : p c = true := by
  have := List.all_eq_true.1 h c.toNat (List.mem_range.2 c.toNat_lt)
  rwa [UInt8.ofNat_toNat] at this
theorem low_has (c : UInt8) : lowS.contains c = loOk c := by
  have := all8 (p := fun c => lowS.contains c == loOk c) (by decide +kernel) c
  simpa using this
theorem nm_has (c : UInt8) : nmS.contains c = chOk c := by
  have := all8 (p := fun c => nmS.contains c == chOk c) (by decide +kernel) c
  simpa using this
theorem take_all {p : UInt8 → Bool} : ∀ s : Str, (s.takeWhile p == s) = s.all p
  | [] => rfl
  | c :: r => by
    rw [List.takeWhile_cons, List.all_cons]
    cases p c with
    | true => rw [if_pos rfl, ← take_all r]; simp
    | false => rfl
theorem isName_eq (s : Str) : p_path_isName s = some (nameOk s) := by
  unfold p_path_isName
  cases s with
  | nil => rfl
  | cons c r =>
    have he : ((c :: r) == ([] : Str)) = false := rfl
    have h0 : (c :: r)[0]? = some c := rfl
    rw [he]
    simp only [Bool.not_false, cond_true, h0, Option.bind_some, index_eq, ixB_mem, low_has]
    by_cases h32 : (c :: r).length ≤ 32
    · rw [decide_eq_true (by omega : (((c :: r).length : Nat) : Int) ≤ 32), cond_true]
      have hs := span_eq (s := c :: r) (of := nmS) (n := 0) (by omega) (by omega)
      rw [show ((0 : Nat) : Int) = 0 from rfl, List.drop_zero] at hs
      have hf : (nmS.contains : UInt8 → Bool) = chOk := funext nm_has
      rw [hf] at hs
      unfold nameOk
      rw [Nat.ble_eq_true_of_le h32, Nat.ble_eq_true_of_le (by simp : 1 ≤ (c :: r).length), List.headD_cons]
      cases loOk c with
      | true => rw [cond_true, hs, Option.bind_some, take_all]; rfl
      | false => rfl
    · rw [decide_eq_false (by omega : ¬ (((c :: r).length : Nat) : Int) ≤ 32), cond_false]
      have e2 : Nat.ble (c :: r).length 32 = false := by
        cases hb : Nat.ble (c :: r).length 32 with
        | false => rfl
        | true => exact absurd (Nat.le_of_ble_eq_true hb) h32
      unfold nameOk
      rw [e2, Bool.and_false, Bool.false_and, Bool.false_and]
def canS (s : Stp) : Int :=
  if s.f_At = false ∧ nameOk s.f_Name = false then 8 else if s.f_At = false ∧ s.f_Index ≠ 0 then 1 else if s.f_At = true ∧ s.f_Name ≠ [] then 8 else if s.f_At = true ∧ (s.f_Index < 0 ∨ 4096 ≤ s.f_Index) then 1 else 0
theorem can_eq (s : Stp) : p_path_can s = some (canS s) := by
  unfold p_path_can canS
  cases ha : s.f_At with
  | false =>
    simp only [Bool.not_false, cond_true, isName_eq, Option.bind_some, path_can_j1, path_can_j2, path_can_j3, path_can_j4, ha, cond_false]
    cases nameOk s.f_Name with
    | false => rfl
    | true =>
      simp only [Bool.not_true, cond_false]
      by_cases hi : s.f_Index = 0
      · rw [hi]; rfl
      · rw [show (s.f_Index != 0) = true from by simpa using hi, cond_true]; simp [hi]
  | true =>
    simp only [Bool.not_true, cond_false, path_can_j1, path_can_j2, path_can_j3, path_can_j4, ha, cond_true]
    by_cases hn : s.f_Name = []
    · rw [hn]
      simp only [beq_self_eq_true, Bool.not_true, cond_false]
      by_cases h1 : s.f_Index < 0
      · rw [decide_eq_true h1]; simp [h1]
      · rw [decide_eq_false h1, cond_false]
        by_cases h2 : s.f_Index ≥ 4096
        · rw [decide_eq_true h2]; have h3 : 4096 ≤ s.f_Index := h2; simp [h3]
        · rw [decide_eq_false h2]; have h3 : ¬ 4096 ≤ s.f_Index := h2; simp [h1, h3]
    · rw [show (s.f_Name == ([] : Str)) = false from by simpa using hn]; simp [hn]
def stepsF : List Stp → Int
  | [] => 0
  | s :: r => if canS s ≠ 0 then canS s else stepsF r
def validF (w : List Stp) : Int := if 64 < w.length then 2 else stepsF w
theorem valid_l (w : List Stp) : ∀ k i, k + i = w.length → path_valid_l1 w i = some (stepsF (w.drop i))
  | 0, i, h => by
    rw [path_valid_l1_eq]
    simp only [path_valid_l1b, lt_f (by omega : ¬ i < w.length), cond_false]
    rw [List.drop_of_length_le (by omega)]; rfl
  | k + 1, i, h => by
    obtain ⟨s, hs, hd⟩ := dropc (by omega : i < w.length)
    rw [path_valid_l1_eq]
    simp only [path_valid_l1b, lt_t (by omega : i < w.length), cond_true, hs, Option.bind_some, can_eq, valid_l w k (i + 1) (by omega)]
    rw [hd, stepsF]
    by_cases he : canS s = 0
    · rw [he]; rfl
    · rw [show (canS s != 0) = true from by simpa using he, cond_true, if_pos he]
theorem valid_eq (w : List Stp) : p_path_valid w = some (validF w) := by
  unfold p_path_valid validF
  by_cases h : 64 < w.length
  · rw [decide_eq_true (by omega : ((w.length : Nat) : Int) > 64), if_pos h]; rfl
  · rw [decide_eq_false (by omega : ¬ ((w.length : Nat) : Int) > 64), if_neg h, cond_false]
    have := valid_l w w.length 0 (by omega)
    rw [List.drop_zero] at this; exact this
theorem steps_zero {w : List Stp} : stepsF w = 0 ↔ ∀ s, s ∈ w → canS s = 0 := by
  induction w with
  | nil => simp [stepsF]
  | cons s r ih =>
    rw [stepsF]
    by_cases h : canS s = 0
    · rw [if_neg (by simp [h]), ih]; simp [h]
    · rw [if_pos h]; simp [h]
theorem can_idx {s : Stp} (h : canS s = 0) (ha : s.f_At = true) : s = stA s.f_Index.toNat ∧ 0 ≤ s.f_Index ∧ s.f_Index < 4096 := by
  unfold canS at h
  rw [if_neg (by simp [ha]), if_neg (by simp [ha])] at h
  split at h
  · cases h
  · split at h
    · cases h
    · rename_i h1 h2
      obtain ⟨n, a, i⟩ := s
      simp only at ha h1 h2
      subst ha
      have hn : n = [] := Classical.byContradiction fun hn => h1 ⟨rfl, hn⟩
      subst hn
      have h3 : 0 ≤ i ∧ i < 4096 := by constructor <;> (apply Classical.byContradiction; intro h4; apply h2; refine ⟨rfl, ?_⟩; omega)
      refine ⟨?_, h3⟩
      simp only [stA]; congr 1; omega
theorem can_stN {n : Str} : canS (stN n) = if nameOk n = true then 0 else 8 := by
  unfold canS stN
  cases nameOk n <;> simp
theorem can_stA {i : Nat} : canS (stA i) = if i < 4096 then 0 else 1 := by
  unfold canS stA
  by_cases h : i < 4096
  · rw [if_pos h]; simp; omega
  · rw [if_neg h]; simp; omega
end Go.Proofs.Ytkmhecgagibgjaa

namespace Go.Proofs.Ytkmhecgagibgjaa
open Go Aw
set_option linter.unusedVariables false
set_option linter.unusedSimpArgs false
set_option maxRecDepth 8000
abbrev Fds := List (Str × V)
def fget (d : Fds) (n : Str) : Option V := (d.find? (fun f => f.1 == n)).map (·.2)
theorem fget_cons {f : Str × V} {r : Fds} {n : Str} : fget (f :: r) n = if f.1 = n then some f.2 else fget r n := by
  unfold fget
  rw [List.find?_cons]
  by_cases h : f.1 = n
  · rw [show (f.1 == n) = true from by simpa using h, if_pos h]; rfl
  · rw [show (f.1 == n) = false from by simpa using h, if_neg h]
theorem fget_mem {d : Fds} {n : Str} {v : V} (h : fget d n = some v) : (n, v) ∈ d := by
  induction d with
  | nil => cases h
  | cons f r ih =>
    rw [fget_cons] at h
    by_cases he : f.1 = n
    · rw [if_pos he] at h; injection h with h; subst h; subst he; simp
    · rw [if_neg he] at h; simp [ih h]
theorem fget_none {d : Fds} {n : Str} : fget d n = none ↔ n ∉ d.map (·.1) := by
  induction d with
  | nil => simp [fget]
  | cons f r ih =>
    rw [fget_cons]
    by_cases he : f.1 = n
    · rw [if_pos he]; simp [he]
    · rw [if_neg he, ih, List.map_cons, List.mem_cons, not_or]
      exact ⟨fun h => ⟨fun e => he e.symm, h⟩, fun h => h.2⟩
theorem bl_lt {a b : Str} : Op.bytesLess a b = true ↔ zlt a b := by
  unfold zlt cmpS
  cases Op.bytesLess a b with
  | true => simp
  | false => rw [if_neg (by simp)]; split <;> simp
structure Cut (d : Fds) (n : Str) (c : Nat) : Prop where
  le : c ≤ d.length
  lo : ∀ k x, d[k]? = some x → k < c → Op.bytesLess x.1 n = true
  hi : ∀ k x, d[k]? = some x → c ≤ k → Op.bytesLess x.1 n = false
theorem f1_eq (x : Str × V) (n : Str) : p_path_find_1 x n = some (if Op.bytesLess x.1 n = true then -1 else if x.1 = n then 0 else 1) := by
  unfold p_path_find_1
  cases h : Op.bytesLess x.1 n with
  | true => rfl
  | false =>
    rw [cond_false, Bool.false_or]
    by_cases he : x.1 = n
    · rw [show (x.1 == n) = true from by simpa using he, if_neg (by simp), if_pos he]; rfl
    · rw [show (x.1 == n) = false from by simpa using he, if_neg (by simp), if_neg he]; rfl
theorem half {i j : Nat} (h : i + j ≤ 1073741824) : IntKind.i64.wrap (shrK .u64 (IntKind.u64.wrap (IntKind.i64.wrap ((i : Int) + (j : Int)))) 1) = (((i + j) / 2 : Nat) : Int) := by
  have e1 : IntKind.i64.wrap ((i : Int) + (j : Int)) = ((i + j : Nat) : Int) := by rw [w64_in (by omega) (by omega)]; omega
  have e2 : IntKind.u64.wrap ((i + j : Nat) : Int) = ((i + j : Nat) : Int) := by
    have h : IntKind.u64.wrap ((i + j : Nat) : Int) = ((i + j : Nat) : Int) % 18446744073709551616 := rfl
    rw [h]; omega
  have e3 : shrK .u64 ((i + j : Nat) : Int) 1 = ((i + j : Nat) : Int).fdiv 2 := rfl
  rw [e1, e2, e3, Int.fdiv_eq_ediv_of_nonneg _ (by omega), w64_in (by omega) (by omega)]
  omega
theorem bs_l (d : Fds) (n : Str) (hs : (d.map (·.1)).Pairwise zlt) (hd : d.length ≤ 4096) : ∀ m i j, j - i ≤ m → i ≤ j → j ≤ d.length →
    (∀ k x, d[k]? = some x → k < i → Op.bytesLess x.1 n = true) → (∀ k x, d[k]? = some x → j ≤ k → Op.bytesLess x.1 n = false) →
    ∃ c, Cut d n c ∧ slices_BinarySearchFunc_api_Dict_api_Field_string_path_find_1_l1 d n (i : Int) (j : Int) = some ((c : Int), decide ((d[c]?).map (·.1) = some n)) := by
  have sorted : ∀ (a b : Nat) (x y : Str × V), a < b → d[a]? = some x → d[b]? = some y → zlt x.1 y.1 := by
    intro a b x y hab hx hy
    have := List.pairwise_iff_getElem.1 hs a b (by simp [(List.getElem?_eq_some_iff.1 hx).1]) (by simp [(List.getElem?_eq_some_iff.1 hy).1]) hab
    simp only [List.getElem_map] at this
    rwa [(List.getElem?_eq_some_iff.1 hx).2, (List.getElem?_eq_some_iff.1 hy).2] at this
  intro m
  induction m with
  | zero =>
    intro i j h1 h2 h3 hlo hhi
    have e : i = j := by omega
    subst e
    refine ⟨i, ⟨h3, hlo, hhi⟩, ?_⟩
    rw [slices_BinarySearchFunc_api_Dict_api_Field_string_path_find_1_l1_eq]
    simp only [slices_BinarySearchFunc_api_Dict_api_Field_string_path_find_1_l1b, lt_f (by omega : ¬ i < i), cond_false]
    by_cases hi : i < d.length
    · obtain ⟨x, hx, _⟩ := dropc hi
      rw [lt_t hi, cond_true, idxI_nat, hx, Option.bind_some, f1_eq, Option.bind_some, if_neg (by rw [hhi i x hx (Nat.le_refl _)]; simp)]
      by_cases hn : x.1 = n
      · rw [if_pos hn]; simp [hn]
      · rw [if_neg hn]; simp [hn]
    · rw [lt_f hi, cond_false, List.getElem?_eq_none (by omega)]; rfl
  | succ m ih =>
    intro i j h1 h2 h3 hlo hhi
    by_cases hij : i < j
    · have hmid : (i + j) / 2 < d.length := by omega
      obtain ⟨x, hx, _⟩ := dropc hmid
      rw [slices_BinarySearchFunc_api_Dict_api_Field_string_path_find_1_l1_eq]
      simp only [slices_BinarySearchFunc_api_Dict_api_Field_string_path_find_1_l1b, lt_t hij, cond_true, half (by omega : i + j ≤ 1073741824), idxI_nat, hx, Option.bind_some, f1_eq]
      cases hb : Op.bytesLess x.1 n with
      | true =>
        rw [if_pos rfl, show decide ((-1 : Int) < 0) = true from rfl, cond_true, w64_in (by omega) (by omega), show ((((i + j) / 2 : Nat) : Int) + 1) = (((i + j) / 2 + 1 : Nat) : Int) from by omega]
        refine ih _ j (by omega) (by omega) h3 (fun k y hy hk => ?_) hhi
        rcases Nat.lt_or_ge k ((i + j) / 2) with h | h
        · exact bl_lt.2 (zlt_trans (sorted _ _ _ _ h hy hx) (bl_lt.1 hb))
        · have : k = (i + j) / 2 := by omega
          subst this
          rw [hx] at hy; injection hy with hy; subst hy; exact hb
      | false =>
        have hz : decide ((if False then (-1 : Int) else if x.1 = n then 0 else 1) < 0) = false := by
          rw [if_neg (by simp)]; split <;> rfl
        rw [if_neg (by simp)]
        have hz2 : decide ((if x.1 = n then (0 : Int) else 1) < 0) = false := by split <;> rfl
        rw [hz2, cond_false]
        refine ih i _ (by omega) (by omega) (by omega) hlo (fun k y hy hk => ?_)
        rcases Nat.lt_or_ge ((i + j) / 2) k with h | h
        · cases hc : Op.bytesLess y.1 n with
          | false => rfl
          | true =>
            have := bl_lt.2 (zlt_trans (sorted _ _ _ _ h hx hy) (bl_lt.1 hc))
            rw [hb] at this; cases this
        · have : k = (i + j) / 2 := by omega
          subst this
          rw [hx] at hy; injection hy with hy; subst hy; exact hb
    · exact ih i j (by omega) h2 h3 hlo hhi
theorem find_eq {d : Fds} {n : Str} (hs : (d.map (·.1)).Pairwise zlt) (hd : d.length ≤ 4096) : ∃ c, Cut d n c ∧ p_path_find d n = some ((c : Int), decide ((d[c]?).map (·.1) = some n)) := by
  obtain ⟨c, h1, h2⟩ := bs_l d n hs hd d.length 0 d.length (by omega) (by omega) (by omega) (fun k x _ h => by omega) (fun k x hx h => by have := (List.getElem?_eq_some_iff.1 hx).1; omega)
  refine ⟨c, h1, ?_⟩
  unfold p_path_find p_slices_BinarySearchFunc_api_Dict_api_Field_string_path_find_1
  rw [show ((0 : Nat) : Int) = 0 from rfl] at h2
  rw [h2]; rfl
theorem cut_get {d : Fds} {n : Str} {c : Nat} (hs : (d.map (·.1)).Pairwise zlt) (h : Cut d n c) : fget d n = match d[c]? with | some x => if x.1 = n then some x.2 else none | none => none := by
  have key : ∀ (d : Fds) (c : Nat), (d.map (·.1)).Pairwise zlt → (∀ k x, d[k]? = some x → k < c → Op.bytesLess x.1 n = true) → (∀ k x, d[k]? = some x → c ≤ k → Op.bytesLess x.1 n = false) → fget d n = match d[c]? with | some x => if x.1 = n then some x.2 else none | none => none := by
    intro d
    induction d with
    | nil => intro c _ _ _; simp [fget]
    | cons f r ih =>
      intro c hs hlo hhi
      rw [List.map_cons, List.pairwise_cons] at hs
      rw [fget_cons]
      cases c with
      | zero =>
        rw [List.getElem?_cons_zero]
        simp only
        by_cases he : f.1 = n
        · rw [if_pos he, if_pos he]
        · rw [if_neg he, if_neg he, fget_none]
          intro hm
          have h1 := hs.1 n hm
          rw [← bl_lt, hhi 0 f rfl (Nat.le_refl _)] at h1; cases h1
      | succ c =>
        have h0 := hlo 0 f rfl (by omega)
        rw [if_neg (fun e => by rw [e] at h0; exact zlt_irr _ (bl_lt.1 h0)), List.getElem?_cons_succ]
        exact ih c hs.2 (fun k x hx hk => hlo (k + 1) x (by simpa using hx) (by omega)) (fun k x hx hk => hhi (k + 1) x (by simpa using hx) (by omega))
  exact key d c hs h.lo h.hi
def fdF : V → Option Fds
  | .dict d => some d
  | .record _ _ d => some d
  | _ => none
theorem fd_eq {v : V} (h : v ≠ .nothing) : p_path_fieldsOf v = some (match fdF v with | some d => (d, true) | none => ([], false)) := by
  cases v with
  | nothing => exact absurd rfl h
  | _ => rfl
theorem can_nn {v : V} (h : Can v) : v ≠ .nothing := by
  rintro rfl
  have := check_can h
  simp [checkF, partF, ownE, nearE] at this
theorem fields_len {l : List Str} (h : fieldsE l = 0) : l.length ≤ 4096 := by
  unfold fieldsE at h
  split at h
  · cases h
  · omega
theorem risen_nm : ∀ {l : List Str} {p : Option Str}, risen p l = true → ∀ s, s ∈ l → nameOk s = true
  | s :: r, p, h, t, ht => by
    simp only [risen, Bool.and_eq_true] at h
    rcases List.mem_cons.1 ht with rfl | ht
    · exact h.1.1
    · exact risen_nm h.2 t ht
theorem fields_nm {l : List Str} (h : fieldsE l = 0) : ∀ s, s ∈ l → nameOk s = true := by
  unfold fieldsE at h
  split at h
  · cases h
  · split at h
    · rename_i h2; exact risen_nm h2
    · cases h
theorem fd_near {v : V} {d : Fds} (hc : Can v) (h : fdF v = some d) : fieldsE (d.map (·.1)) = 0 := by
  have hn := hc.1.own
  cases v with
  | dict x => cases h; exact hn
  | record c k x =>
    cases h
    simp only [nearE] at hn
    split at hn
    · cases hn
    · split at hn
      · cases hn
      · exact hn
  | _ => cases h
theorem fd_parts {v : V} {d : Fds} (h : fdF v = some d) : v.parts = d.map (·.2) := by
  cases v <;> first | (cases h; rfl) | cases h
def stepF (v : V) (s : Stp) : V × Int :=
  match v with
  | .list l => if s.f_At = true then (match l[s.f_Index.toNat]? with | some x => (x, 0) | none => (.nil, 42)) else (.nil, 41)
  | v => match fdF v with
    | some d => if s.f_At = true then (.nil, 41) else (match fget d s.f_Name with | some x => (x, 0) | none => (.nil, 40))
    | none => (.nil, 41)
theorem step_fd {v : V} {d : Fds} (h : fdF v = some d) (s : Stp) : stepF v s = if s.f_At = true then (V.nil, (41 : Int)) else (match fget d s.f_Name with | some x => (x, (0 : Int)) | none => (V.nil, 40)) := by
  cases v <;> first | (cases h; rfl) | cases h
theorem step_nm {v : V} {d : Fds} (h : fdF v = some d) (n : Str) : stepF v (stN n) = match fget d n with | some x => (x, 0) | none => (.nil, 40) := by
  rw [step_fd h, if_neg (by simp [stN])]; rfl
theorem step_ix {v : V} {d : Fds} (h : fdF v = some d) (i : Nat) : stepF v (stA i) = (.nil, 41) := by rw [step_fd h, if_pos (by rfl)]
theorem step_li (l : List V) (i : Nat) : stepF (.list l) (stA i) = match l[i]? with | some x => (x, 0) | none => (.nil, 42) := by
  simp only [stepF]
  rw [if_pos (by rfl), show (stA i).f_Index.toNat = i from by simp [stA]]
theorem step_ln (l : List V) (n : Str) : stepF (.list l) (stN n) = (.nil, 41) := rfl
theorem one_at {v : V} {s : Stp} (hc : Can v) (hs : canS s = 0) : p_path_one v s = some (stepF v s) := by
  have flds : ∀ d, fdF v = some d → v.isList = false → p_path_one v s = some (stepF v s) := by
    intro d hd hl
    unfold p_path_one
    rw [hl, cond_false]
    unfold path_one_j1
    rw [cond_false, fd_eq (can_nn hc), hd, Option.bind_some, step_fd hd]
    simp only [Bool.not_true, cond_false]
    unfold path_one_j2
    cases s.f_At with
    | true => rfl
    | false =>
      have hn := fd_near hc hd
      obtain ⟨c, h1, h2⟩ := find_eq (n := s.f_Name) (fields_srt hn) (by have := fields_len hn; rwa [List.length_map] at this)
      rw [cond_false, if_neg (by simp), h2, Option.bind_some, cut_get (fields_srt hn) h1]
      simp only
      cases hx : d[c]? with
      | none => rfl
      | some x =>
        simp only [Option.map_some, Option.some.injEq]
        by_cases he : x.1 = s.f_Name
        · rw [decide_eq_true he, if_pos he, Bool.not_true, cond_false, idxI_nat, hx]; rfl
        · rw [decide_eq_false he, if_neg he]; rfl
  have none_ : fdF v = none → v.isList = false → stepF v s = (.nil, 41) → p_path_one v s = some (stepF v s) := by
    intro hd hl he
    unfold p_path_one
    rw [hl, cond_false]
    unfold path_one_j1
    rw [cond_false, fd_eq (can_nn hc), hd, he]; rfl
  cases v with
  | list l =>
    unfold p_path_one stepF
    simp only [V.isList, cond_true, V.asList]
    cases ha : s.f_At with
    | true =>
      obtain ⟨_, h1, h2⟩ := can_idx hs ha
      unfold path_one_j1
      rw [cond_true, if_pos rfl]
      simp only [V.asList]
      have e : s.f_Index = ((s.f_Index.toNat : Nat) : Int) := by omega
      by_cases hl : s.f_Index.toNat < l.length
      · obtain ⟨x, hx, _⟩ := dropc hl
        rw [decide_eq_false (by omega : ¬ s.f_Index ≥ ((l.length : Nat) : Int)), cond_false, e, idxI_nat, Int.toNat_natCast, hx]; rfl
      · rw [decide_eq_true (by omega : s.f_Index ≥ ((l.length : Nat) : Int)), cond_true, List.getElem?_eq_none (by omega)]
    | false => rfl
  | dict d => exact flds d rfl rfl
  | record c k d => exact flds d rfl rfl
  | nothing => exact absurd rfl (can_nn hc)
  | _ => exact none_ rfl rfl rfl
theorem step_part {v x : V} {s : Stp} (h : stepF v s = (x, 0)) : x ∈ v.parts := by
  have flds : ∀ d, fdF v = some d → x ∈ v.parts := by
    intro d hd
    rw [step_fd hd] at h
    rw [fd_parts hd]
    split at h
    · cases h
    · cases hg : fget d s.f_Name with
      | none => rw [hg] at h; cases h
      | some y => rw [hg] at h; injection h with h; subst h; exact List.mem_map.2 ⟨_, fget_mem hg, rfl⟩
  cases v with
  | list l =>
    simp only [stepF] at h
    split at h
    · cases hg : l[s.f_Index.toNat]? with
      | none => rw [hg] at h; cases h
      | some y => rw [hg] at h; injection h with h; subst h; exact List.mem_of_getElem? hg
    · cases h
  | dict d => exact flds d rfl
  | record c k d => exact flds d rfl
  | _ => cases h
def getF (v : V) : List Stp → V × Int
  | [] => (v, 0)
  | s :: r => if (stepF v s).2 ≠ 0 then (.nil, (stepF v s).2) else getF (stepF v s).1 r
theorem get_l (w : List Stp) : ∀ k i v, k + i = w.length → Can v → (∀ s, s ∈ w → canS s = 0) → path_get_l1 w v i = some (getF v (w.drop i))
  | 0, i, v, h, hc, hw => by
    rw [path_get_l1_eq]
    simp only [path_get_l1b, lt_f (by omega : ¬ i < w.length), cond_false]
    rw [List.drop_of_length_le (by omega)]; rfl
  | k + 1, i, v, h, hc, hw => by
    obtain ⟨s, hs, hd⟩ := dropc (by omega : i < w.length)
    rw [path_get_l1_eq]
    simp only [path_get_l1b, lt_t (by omega : i < w.length), cond_true, hs, Option.bind_some, one_at hc (hw s (List.mem_of_getElem? hs))]
    rw [hd, getF]
    by_cases he : (stepF v s).2 = 0
    · rw [if_neg (by simp [he]), show ((stepF v s).2 != 0) = false from by simp [he], cond_false]
      have hp : stepF v s = ((stepF v s).1, 0) := Prod.ext rfl he
      exact get_l w k (i + 1) _ (by omega) (zcan_part hc (step_part hp)) hw
    · rw [if_pos he, show ((stepF v s).2 != 0) = true from by simpa using he, cond_true]
theorem get_eq {v : V} {w : List Stp} (hc : Can v) (hw : ∀ s, s ∈ w → canS s = 0) : p_path_get v w = some (getF v w) := by
  have := get_l w w.length 0 v (by omega) hc hw
  rw [List.drop_zero] at this; exact this
theorem getF_can : ∀ {w : List Stp} {v x : V}, Can v → getF v w = (x, 0) → Can x
  | [], v, x, hc, h => by injection h with h; subst h; exact hc
  | s :: r, v, x, hc, h => by
    rw [getF] at h
    by_cases he : (stepF v s).2 = 0
    · rw [if_neg (by simp [he])] at h
      exact getF_can (zcan_part hc (step_part (Prod.ext rfl he : stepF v s = ((stepF v s).1, 0)))) h
    · rw [if_pos he] at h; injection h with h1 h2; exact absurd h2 he
def GetF (v : V) (w : List Stp) : V × Int := if (checkF v).2 ≠ 0 then (.nil, (checkF v).2) else if validF w ≠ 0 then (.nil, validF w) else if (getF v w).2 ≠ 0 then (.nil, (getF v w).2) else getF v w
theorem begin_eq (v : V) (w : List Stp) : p_path_begin v w = some (if (checkF v).2 ≠ 0 then (checkF v).2 else validF w) := by
  unfold p_path_begin
  rw [value_Check_eq, Option.bind_some]
  by_cases h : (checkF v).2 = 0
  · rw [show ((checkF v).2 != 0) = false from by simp [h], cond_false, valid_eq, if_neg (by simp [h])]; rfl
  · rw [show ((checkF v).2 != 0) = true from by simpa using h, cond_true, if_pos h]
theorem valid_steps {w : List Stp} (h : validF w = 0) : w.length ≤ 64 ∧ ∀ s, s ∈ w → canS s = 0 := by
  unfold validF at h
  split at h
  · cases h
  · exact ⟨by omega, steps_zero.1 h⟩
theorem can_of2 {x : V} (h : (checkF x).2 = 0) : Can x := Classical.byContradiction fun hc => check_cannot hc h
theorem Get_eq (v : V) (w : List Stp) : p_path_Get v w = some (GetF v w) := by
  unfold p_path_Get GetF
  rw [begin_eq, Option.bind_some]
  by_cases h : (checkF v).2 = 0
  · rw [if_neg (by simp [h]), if_neg (by simp [h])]
    by_cases h2 : validF w = 0
    · rw [show (validF w != 0) = false from by simp [h2], cond_false, if_neg (by simp [h2]), get_eq (can_of2 h) (valid_steps h2).2, Option.bind_some]
      by_cases h3 : (getF v w).2 = 0
      · rw [show ((getF v w).2 != 0) = false from by simp [h3], cond_false, if_neg (by simp [h3]), copy_can (getF_can (can_of2 h) (Prod.ext rfl h3 : getF v w = ((getF v w).1, 0)))]
        rw [Option.bind_some, ← h3]
      · rw [show ((getF v w).2 != 0) = true from by simpa using h3, cond_true, if_pos h3]
    · rw [show (validF w != 0) = true from by simpa using h2, cond_true, if_pos h2]
  · rw [if_pos h, if_pos h, show ((checkF v).2 != 0) = true from by simpa using h, cond_true]
def Norm (s : Stp) : Prop := (∃ n, s = stN n) ∨ ∃ i, s = stA i
theorem norm_can {v x : V} {s : Stp} (hc : Can v) (hn : Norm s) (h : stepF v s = (x, 0)) : canS s = 0 := by
  have flds : ∀ d, fdF v = some d → canS s = 0 := by
    intro d hd
    rw [step_fd hd] at h
    rcases hn with ⟨n, rfl⟩ | ⟨i, rfl⟩
    · rw [if_neg (by simp [stN])] at h
      cases hg : fget d (stN n).f_Name with
      | none => rw [hg] at h; cases h
      | some y => rw [can_stN, if_pos (fields_nm (fd_near hc hd) n (List.mem_map.2 ⟨_, fget_mem hg, rfl⟩))]
    · rw [if_pos (by rfl)] at h; cases h
  cases v with
  | list l =>
    simp only [stepF] at h
    rcases hn with ⟨n, rfl⟩ | ⟨i, rfl⟩
    · rw [if_neg (by simp [stN])] at h; cases h
    · rw [if_pos (by rfl)] at h
      cases hg : l[(stA i).f_Index.toNat]? with
      | none => rw [hg] at h; cases h
      | some y =>
        have h1 := (List.getElem?_eq_some_iff.1 hg).1
        have h2 := near_list hc.1.own
        simp only [stA, Int.toNat_natCast] at h1
        rw [can_stA, if_pos (by omega)]
  | dict d => exact flds d rfl
  | record c k d => exact flds d rfl
  | _ => cases h
theorem getF_valid : ∀ {w : List Stp} {v x : V}, Can v → (∀ s, s ∈ w → Norm s) → getF v w = (x, 0) → (∀ s, s ∈ w → canS s = 0) ∧ (w.length : Int) < dpt v
  | [], v, x, hc, hn, h => ⟨fun s hs => (by cases hs), by have := (cnt_pos v).2; simp only [List.length_nil]; omega⟩
  | s :: r, v, x, hc, hn, h => by
    rw [getF] at h
    by_cases he : (stepF v s).2 = 0
    · rw [if_neg (by simp [he])] at h
      have hp : stepF v s = ((stepF v s).1, 0) := Prod.ext rfl he
      obtain ⟨h1, h2⟩ := getF_valid (zcan_part hc (step_part hp)) (fun t ht => hn t (by simp [ht])) h
      have h3 := (zcnt_mem (step_part hp)).2
      have h4 := dpt_eq v
      refine ⟨fun t ht => ?_, by rw [List.length_cons]; omega⟩
      rcases List.mem_cons.1 ht with rfl | ht
      · exact norm_can hc (hn t (by simp)) hp
      · exact h1 t ht
    · rw [if_pos he] at h; injection h with h1 h2; exact absurd h2 he
theorem Get_norm {v x : V} {w : List Stp} (hc : Can v) (hn : ∀ s, s ∈ w → Norm s) (h : getF v w = (x, 0)) : GetF v w = (x, 0) := by
  obtain ⟨h1, h2⟩ := getF_valid hc hn h
  have h3 := hc.2.2
  unfold GetF validF
  rw [if_neg (by simp [check_can hc]), if_neg (by rw [if_neg (by omega)]; simp [steps_zero.2 h1]), if_neg (by simp [h]), h]
end Go.Proofs.Ytkmhecgagibgjaa

namespace Go.Proofs.Ytkmhecgagibgjaa
open Go Aw
set_option linter.unusedVariables false
set_option linter.unusedSimpArgs false
set_option maxRecDepth 8000
theorem s_trans (a b c : Str) (h1 : a ≤ b) (h2 : b ≤ c) : a ≤ c := List.le_trans h1 h2
theorem s_total (a b : Str) : a ≤ b ∨ b ≤ a := List.le_total a b
theorem s_anti {a b : Str} (h1 : a ≤ b) (h2 : b ≤ a) : a = b := List.le_antisymm h1 h2
theorem s_lt {a b : Str} (h1 : a ≤ b) (h2 : a ≠ b) : a < b := by
  rcases Classical.em (a < b) with h | h
  · exact h
  · exact absurd (s_anti h1 (List.not_lt.1 h)) h2
theorem s_le {a b : Str} (h : a < b) : a ≤ b := by
  rcases s_total a b with h1 | h1
  · exact h1
  · exact absurd h (List.not_lt.2 h1)
theorem s_irr (a : Str) : ¬ a < a := List.lt_irrefl a
theorem s_le_lt {a b c : Str} (h1 : a ≤ b) (h2 : b < c) : a < c := by
  refine s_lt (s_trans _ _ _ h1 (s_le h2)) (fun e => ?_)
  subst e
  exact absurd h2 (List.not_lt.2 h1)
theorem s_asym {a b : Str} (h1 : a < b) (h2 : b < a) : False := s_irr a (s_le_lt (s_le h1) h2)
theorem sort_le (l : List Str) : (sortS l).Pairwise (· ≤ ·) := by
  have := List.pairwise_mergeSort (le := fun x y : Str => decide (x ≤ y)) (fun a b c h1 h2 => by simp only [decide_eq_true_eq] at *; exact s_trans a b c h1 h2) (fun a b => by
    rcases s_total a b with h | h <;> simp [h]) l
  exact this.imp (fun h => by simpa using h)
theorem sort_mem {l : List Str} {x : Str} : x ∈ sortS l ↔ x ∈ l := List.mem_mergeSort
theorem arr_at {l : List Str} {i : Nat} (h : i < l.length) : l.toArray[i]! = l[i] := by
  rw [getElem!_pos l.toArray i (by simpa using h)]; simp
theorem comp_lt {l : List Str} (h : l.Pairwise (· ≤ ·)) : (compS l).Pairwise (· < ·) := by
  unfold compS Lib.compact Lib.compactUpTo
  rw [List.pairwise_map]
  have hr : ((List.range l.length).filter (Lib.keeps l.toArray)).Pairwise (fun i j => i < j ∧ j < l.length ∧ Lib.keeps l.toArray j = true) := by
    rw [List.pairwise_filter]
    refine (List.pairwise_lt_range (n := l.length)).imp_of_mem (fun {i j} hi hj hij _ hk => ⟨hij, by simpa using hj, hk⟩)
  refine hr.imp (fun {i j} ⟨h1, h2, h3⟩ => ?_)
  unfold Lib.keeps at h3
  simp only [decide_eq_true_eq] at h3
  rw [arr_at (by omega), arr_at h2]
  rw [arr_at h2, arr_at (by omega)] at h3
  rw [List.pairwise_iff_getElem] at h
  have hn : l[j] ≠ l[j - 1] := h3.resolve_left (by omega)
  have hle : l[j - 1] ≤ l[j] := h (j - 1) j (by omega) h2 (by omega)
  have hlt := s_lt hle (fun e => hn e.symm)
  rcases Nat.lt_or_ge i (j - 1) with hi | hi
  · exact s_le_lt (h i (j - 1) (by omega) (by omega) hi) hlt
  · have : i = j - 1 := by omega
    subst this; exact hlt
theorem comp_mem {l : List Str} {x : Str} : x ∈ compS l ↔ x ∈ l := by
  unfold compS Lib.compact Lib.compactUpTo
  simp only [List.mem_map, List.mem_filter, List.mem_range]
  constructor
  · rintro ⟨i, ⟨h1, _⟩, rfl⟩
    rw [arr_at h1]; exact List.getElem_mem h1
  · intro hx
    obtain ⟨i, hi, rfl⟩ := List.getElem_of_mem hx
    have key : ∀ i, ∀ hi : i < l.length, ∃ k, (k < l.length ∧ Lib.keeps l.toArray k = true) ∧ l.toArray[k]! = l[i] := by
      intro i
      induction i with
      | zero => intro hi; exact ⟨0, ⟨hi, by simp [Lib.keeps]⟩, arr_at hi⟩
      | succ i ih =>
        intro hi
        by_cases he : l[i + 1] = l[i]
        · obtain ⟨k, h1, h2⟩ := ih (by omega)
          exact ⟨k, h1, by rw [h2, he]⟩
        · refine ⟨i + 1, ⟨hi, ?_⟩, arr_at hi⟩
          unfold Lib.keeps
          simp only [decide_eq_true_eq]
          right
          rw [arr_at hi, Nat.add_sub_cancel, arr_at (by omega)]
          exact he
    exact key i hi
theorem rise_unique : ∀ {a b : List Str}, a.Pairwise (· < ·) → b.Pairwise (· < ·) → (∀ x, x ∈ a ↔ x ∈ b) → a = b
  | [], [], _, _, _ => rfl
  | [], y :: s, _, _, h => by have := (h y).2 (by simp); simp at this
  | x :: r, [], _, _, h => by have := (h x).1 (by simp); simp at this
  | x :: r, y :: s, ha, hb, h => by
    rw [List.pairwise_cons] at ha hb
    have hxy : x = y := by
      have h1 := (h x).1 (by simp)
      have h2 := (h y).2 (by simp)
      rw [List.mem_cons] at h1 h2
      rcases h1 with h1 | h1
      · exact h1
      · rcases h2 with h2 | h2
        · exact h2.symm
        · exact (s_asym (ha.1 y h2) (hb.1 x h1)).elim
    subst hxy
    rw [rise_unique ha.2 hb.2 (fun z => ?_)]
    constructor
    · intro hz
      have := (h z).1 (by simp [hz])
      rw [List.mem_cons] at this
      rcases this with e | h1
      · subst e; exact (s_irr _ (ha.1 _ hz)).elim
      · exact h1
    · intro hz
      have := (h z).2 (by simp [hz])
      rw [List.mem_cons] at this
      rcases this with e | h1
      · subst e; exact (s_irr _ (hb.1 _ hz)).elim
      · exact h1
def namesL (l : List Str) : List Str := compS (sortS l)
theorem names_lt (l : List Str) : (namesL l).Pairwise (· < ·) := comp_lt (sort_le l)
theorem names_mem {l : List Str} {x : Str} : x ∈ namesL l ↔ x ∈ l := comp_mem.trans sort_mem
theorem names_eq {l m : List Str} (h : ∀ x, x ∈ l ↔ x ∈ m) : namesL l = namesL m := rise_unique (names_lt l) (names_lt m) (fun x => by rw [names_mem, names_mem]; exact h x)
theorem names_is {l m : List Str} (hm : m.Pairwise (· < ·)) (h : ∀ x, x ∈ l ↔ x ∈ m) : namesL l = m := rise_unique (names_lt l) hm (fun x => by rw [names_mem]; exact h x)
end Go.Proofs.Ytkmhecgagibgjaa

namespace Go.Proofs.Ytkmhecgagibgjaa
open Go Aw
set_option linter.unusedVariables false
set_option linter.unusedSimpArgs false
set_option maxRecDepth 8000
abbrev Side := S_merge_side
abbrev Conf := S_api_Conflict
abbrev mS (v : V) (h : Bool) : Side := S_merge_side.mk v h
abbrev mM (cs : List Conf) : S_merge_merger := S_merge_merger.mk () cs
theorem can_of {x : V} (h : (checkF x).2 = 0) : Can x := Classical.byContradiction fun hc => check_cannot hc h
theorem ord_swap (x y : V) : ordF y x = - ordF x y := by rw [ord_key, ord_key, lexc_neg]
theorem ord_self (x : V) : ordF x x = 0 := by have := ord_swap x x; omega
theorem same_swap (x y : V) : sameF x y = sameF y x := by
  unfold sameF
  rw [ord_swap x y]
  have e : (-ordF x y == 0) = (ordF x y == 0) := by rw [Bool.eq_iff_iff]; simp only [beq_iff_eq]; omega
  rw [e]
  cases (checkF x).2 == 0 <;> cases (checkF y).2 == 0 <;> rfl
theorem same_refl {x : V} (h : Can x) : sameF x x = true := by
  unfold sameF; rw [check_can h, ord_self]; rfl
theorem same_can {x y : V} (h : sameF x y = true) : Can x ∧ Can y ∧ ordF x y = 0 := by
  unfold sameF at h
  simp only [Bool.and_eq_true, beq_iff_eq] at h
  exact ⟨can_of h.1, can_of h.2.1, h.2.2⟩
theorem same_of {x y : V} (hx : Can x) (hy : Can y) (h : ordF x y = 0) : sameF x y = true := by
  unfold sameF; rw [check_can hx, check_can hy, h]; rfl
theorem ord_trans0 {x y z : V} (h1 : ordF x y = 0) (h2 : ordF y z = 0) : ordF x z = 0 := by
  have a := lexc_trans (key x) (key y) (key z)
  have b := lexc_trans (key z) (key y) (key x)
  rw [ord_key] at h1 h2 ⊢
  have c := lexc_neg (key x) (key z)
  have d := lexc_neg (key x) (key y)
  have e := lexc_neg (key y) (key z)
  have a1 := (a (by omega) (by omega)).1
  have b1 := (b (by omega) (by omega)).1
  omega
noncomputable def oneF (a b : Side) : Bool := (a.f_has == b.f_has) && (!a.f_has || sameF a.f_v b.f_v)
theorem one_eq (a b : Side) : p_merge_one a b = some (oneF a b) := by
  unfold p_merge_one oneF
  cases a.f_has == b.f_has with
  | false => rfl
  | true =>
    cases a.f_has with
    | false => rfl
    | true => simp only [Bool.not_true, cond_true, cond_false, value_Same_eq, Option.bind_some, Bool.true_and, Bool.false_or]
theorem one_swap (a b : Side) : oneF a b = oneF b a := by
  unfold oneF
  have h : (a.f_has == b.f_has) = (b.f_has == a.f_has) := by cases a.f_has <;> cases b.f_has <;> rfl
  rw [h, same_swap a.f_v]
  cases ha : a.f_has <;> cases hb : b.f_has <;> simp
theorem one_trans {a b c : Side} (h1 : oneF a b = true) (h2 : oneF b c = true) : oneF a c = true := by
  unfold oneF at *
  simp only [Bool.and_eq_true, Bool.or_eq_true, beq_iff_eq, Bool.not_eq_true'] at *
  refine ⟨h1.1.trans h2.1, ?_⟩
  rcases h1.2 with h | h
  · exact .inl h
  · rcases h2.2 with h3 | h3
    · exact .inl (by rw [h1.1]; exact h3)
    · obtain ⟨c1, c2, c3⟩ := same_can h
      obtain ⟨d1, d2, d3⟩ := same_can h3
      exact .inr (same_of c1 d2 (ord_trans0 c3 d3))
def SOk (s : Side) : Prop := s.f_has = true → Can s.f_v
theorem put_ours {m : S_merge_merger} {w : List Stp} {b o t : Side} (h : oneF o t = true ∨ oneF t b = true) : p_merge_merger_put m w b o t = some (o, m) := by
  rw [e_merge_merger_put, b_merge_merger_put, one_eq, Option.bind_some]
  cases h1 : oneF o t with
  | true => rfl
  | false =>
    have h2 : oneF t b = true := h.resolve_left (by rw [h1]; simp)
    rw [cond_false, one_eq, h2]; rfl
theorem put_theirs {m : S_merge_merger} {w : List Stp} {b o t : Side} (h1 : oneF o t = false) (h2 : oneF t b = false) (h3 : oneF o b = true) : p_merge_merger_put m w b o t = some (t, m) := by
  rw [e_merge_merger_put, b_merge_merger_put, one_eq, Option.bind_some, h1, cond_false, one_eq, h2, Option.bind_some]
  unfold merge_merger_put_j1
  rw [cond_false, one_eq, h3]; rfl
noncomputable def ferr : List V → Int
  | [] => 0
  | x :: r => if (checkF x).2 ≠ 0 then (checkF x).2 else ferr r
theorem chk_l (l : List V) : ∀ k i, k + i = l.length → merge_check_l1 l i = some (ferr (l.drop i))
  | 0, i, h => by
    rw [merge_check_l1_eq]
    simp only [merge_check_l1b, lt_f (by omega : ¬ i < l.length), cond_false]
    rw [List.drop_of_length_le (by omega), ferr]
  | k + 1, i, h => by
    obtain ⟨x, hx, hd⟩ := dropc (by omega : i < l.length)
    rw [merge_check_l1_eq]
    simp only [merge_check_l1b, lt_t (by omega : i < l.length), cond_true, hx, Option.bind_some, value_Check_eq, chk_l l k (i + 1) (by omega)]
    rw [hd, ferr]
    by_cases he : (checkF x).2 = 0
    · rw [if_neg (by simp [he]), he]; rfl
    · rw [if_pos he, ne_t he, cond_true]
theorem chk_eq (l : List V) : p_merge_check l = some (ferr l) := by
  have := chk_l l l.length 0 (by omega)
  rw [List.drop_zero] at this
  exact this
theorem ferr_can {l : List V} (h : ∀ x, x ∈ l → Can x) : ferr l = 0 := by
  induction l with
  | nil => rfl
  | cons x r ih => rw [ferr, if_neg (by rw [check_can (h x (by simp))]; simp), ih (fun y hy => h y (by simp [hy]))]
theorem ferr_zero {l : List V} (h : ferr l = 0) : ∀ x, x ∈ l → Can x := by
  induction l with
  | nil => intro x hx; cases hx
  | cons y r ih =>
    rw [ferr] at h
    by_cases he : (checkF y).2 = 0
    · rw [if_neg (by simp [he])] at h
      intro x hx
      rcases List.mem_cons.1 hx with rfl | hx
      · exact can_of he
      · exact ih h x hx
    · rw [if_pos he] at h; exact absurd h he
open Classical in
noncomputable def cpF (v : V) : V := if Can v then v else .nil
theorem copied_F (v : V) : p_merge_copied v = some (cpF v) := by
  unfold p_merge_copied cpF
  by_cases h : Can v
  · rw [copy_can h, if_pos h]; rfl
  · rw [copy_not h, if_neg h]; rfl
theorem three_bad {a b c : V} (h : ferr [a, b, c] ≠ 0) : p_merge_Threenil a b c = some (.nil, [], ferr [a, b, c]) := by
  unfold p_merge_Threenil p_merge_threenil
  rw [chk_eq, Option.bind_some, ne_t h, cond_true]; rfl
theorem three_ok {a b c : V} (ha : Can a) (hb : Can b) (hc : Can c) {s : Side} {E : List Conf} (hp : p_merge_merger_put (mM []) [] (mS a true) (mS b true) (mS c true) = some (s, mM E)) (hs : Can s.f_v) : p_merge_Threenil a b c = some (s.f_v, E, 0) := by
  unfold p_merge_Threenil p_merge_threenil
  rw [chk_eq, Option.bind_some, ferr_can (l := [a, b, c]) (by intro x hx; simp at hx; rcases hx with rfl | rfl | rfl <;> assumption)]
  rw [show ((0 : Int) != 0) = false from rfl, cond_false, hp, Option.bind_some]
  simp only [chk_eq, Option.bind_some]
  rw [ferr_can (l := [s.f_v]) (by intro x hx; simp at hx; subst hx; exact hs)]
  rw [show ((0 : Int) != 0) = false from rfl, cond_false, copied_F, cpF, if_pos hs]; rfl
theorem three_nok {a b c : V} (ha : Can a) (hb : Can b) (hc : Can c) {s : Side} {E : List Conf} (hp : p_merge_merger_put (mM []) [] (mS a true) (mS b true) (mS c true) = some (s, mM E)) (hs : ¬ Can s.f_v) : ∃ e, e ≠ 0 ∧ p_merge_Threenil a b c = some (.nil, E, e) := by
  have he := check_cannot hs
  refine ⟨(checkF s.f_v).2, he, ?_⟩
  unfold p_merge_Threenil p_merge_threenil
  rw [chk_eq, Option.bind_some, ferr_can (l := [a, b, c]) (by intro x hx; simp at hx; rcases hx with rfl | rfl | rfl <;> assumption)]
  rw [show ((0 : Int) != 0) = false from rfl, cond_false, hp, Option.bind_some]
  simp only [chk_eq, Option.bind_some]
  rw [ferr, if_pos he, ne_t he, cond_true]; rfl
end Go.Proofs.Ytkmhecgagibgjaa

namespace Go.Proofs.Ytkmhecgagibgjaa
open Go Aw
set_option linter.unusedVariables false
set_option linter.unusedSimpArgs false
set_option maxRecDepth 8000
theorem sok {v : V} (h : Can v) (b : Bool) : SOk (mS v b) := fun _ => h
end Go.Proofs.Ytkmhecgagibgjaa

namespace Go.Proofs.Ytkmhecgagibgjaa
open Go Aw
set_option linter.unusedVariables false
set_option linter.unusedSimpArgs false
set_option maxRecDepth 8000
def undF : List (Str × V) → Str → Side
  | [], _ => mS .nil false
  | f :: r, n => if f.1 = n then mS f.2 true else undF r n
theorem und_l (d : List (Str × V)) (n : Str) : ∀ k i, k + i = d.length → ∃ r : Int, slices_IndexFunc_api_Dict_api_Field_merge_under_1_l1 d n i = some r ∧ ((r = -1 ∧ undF (d.drop i) n = mS .nil false) ∨ ∃ (j : Nat) (x : Str × V), r = (j : Int) ∧ d[j]? = some x ∧ undF (d.drop i) n = mS x.2 true)
  | 0, i, h => by
    refine ⟨-1, ?_, .inl ⟨rfl, ?_⟩⟩
    · rw [slices_IndexFunc_api_Dict_api_Field_merge_under_1_l1_eq]
      simp only [slices_IndexFunc_api_Dict_api_Field_merge_under_1_l1b, lt_f (by omega : ¬ i < d.length), cond_false]
    · rw [List.drop_of_length_le (by omega)]; rfl
  | k + 1, i, h => by
    obtain ⟨x, hx, hd⟩ := dropc (by omega : i < d.length)
    rw [slices_IndexFunc_api_Dict_api_Field_merge_under_1_l1_eq]
    simp only [slices_IndexFunc_api_Dict_api_Field_merge_under_1_l1b, lt_t (by omega : i < d.length), cond_true, hx, Option.bind_some, p_merge_under_1]
    rw [hd, undF]
    by_cases he : x.1 = n
    · refine ⟨(i : Int), ?_, .inr ⟨i, x, rfl, hx, by rw [if_pos he]⟩⟩
      rw [show (x.1 == n) = true from by simpa using he]; rfl
    · obtain ⟨r, h1, h2⟩ := und_l d n k (i + 1) (by omega)
      refine ⟨r, ?_, by rw [if_neg he]; exact h2⟩
      rw [show (x.1 == n) = false from by simpa using he, cond_false]; exact h1
theorem und_eq (d : List (Str × V)) (n : Str) : p_merge_under d n = some (undF d n) := by
  obtain ⟨r, h1, h2⟩ := und_l d n d.length 0 (by omega)
  rw [List.drop_zero] at h2
  unfold p_merge_under p_slices_IndexFunc_api_Dict_api_Field_merge_under_1
  rw [h1, Option.bind_some]
  rcases h2 with ⟨rfl, h2⟩ | ⟨j, x, rfl, hx, h2⟩
  · rw [show decide ((-1 : Int) < 0) = true from rfl, cond_true, h2]
  · rw [decide_eq_false (by omega : ¬ ((j : Int) < 0)), cond_false, idxI_nat, hx, Option.bind_some, h2]
theorem und_some {d : List (Str × V)} {n : Str} (h : (undF d n).f_has = true) : ∃ v, (n, v) ∈ d ∧ undF d n = mS v true := by
  induction d with
  | nil => cases h
  | cons f r ih =>
    rw [undF] at h ⊢
    by_cases he : f.1 = n
    · rw [if_pos he]; exact ⟨f.2, by rw [← he]; simp, rfl⟩
    · rw [if_neg he] at h ⊢
      obtain ⟨v, h1, h2⟩ := ih h
      exact ⟨v, by simp [h1], h2⟩
def fldF : V → Option (List (Str × V) × Str × Int)
  | .dict d => some (d, [], 0)
  | .record c k d => some (d, c, k)
  | _ => none
theorem fieldsOf_eq {v : V} (h : v ≠ .nothing) : p_merge_fieldsOf v = some (match fldF v with | some (d, c, k) => (d, c, k, true) | none => ([], [], 0, false)) := by
  cases v with
  | nothing => exact absurd rfl h
  | _ => rfl
theorem can_not_nothing {v : V} (h : Can v) : v ≠ .nothing := by
  rintro rfl
  have := check_can h
  simp [checkF, partF, ownE, nearE] at this
def mkF (c : Str) (k : Int) (d : List (Str × V)) : V := if c = [] then .dict d else .record c k d
theorem no_fields {m : S_merge_merger} {w : List Stp} {b o t : V} (hb : b ≠ .nothing) (ho : o ≠ .nothing) (ht : t ≠ .nothing) (h : ¬ ∃ x y z c k, fldF b = some (x, c, k) ∧ fldF o = some (y, c, k) ∧ fldF t = some (z, c, k)) : p_merge_merger_fields m w b o t = some (mS .nil false, false, m) := by
  rw [e_merge_merger_fields, b_merge_merger_fields, fieldsOf_eq hb, fieldsOf_eq ho, fieldsOf_eq ht]
  simp only [Option.bind_some]
  cases h1 : fldF b with
  | none => rfl
  | some p =>
    cases h2 : fldF o with
    | none => rfl
    | some q =>
      cases h3 : fldF t with
      | none => rfl
      | some r =>
        obtain ⟨x, c, k⟩ := p
        obtain ⟨y, c2, k2⟩ := q
        obtain ⟨z, c3, k3⟩ := r
        simp only [Bool.not_true, cond_false]
        by_cases e1 : c = c2
        · subst e1
          by_cases e2 : c = c3
          · subst e2
            by_cases e3 : k = k2
            · subst e3
              by_cases e4 : k = k3
              · subst e4; exact absurd ⟨x, y, z, c, k, h1, h2, h3⟩ h
              · have e : (k != k3) = true := by simpa using e4
                simp only [beq_self_eq_true, Bool.not_true, cond_false, bne_self_eq_false, e]; rfl
            · have e : (k != k2) = true := by simpa using e3
              simp only [beq_self_eq_true, Bool.not_true, cond_false, e, cond_true]; rfl
          · have e : (c == c3) = false := by simpa using e2
            simp only [beq_self_eq_true, Bool.not_true, cond_false, e, Bool.not_false, cond_true]; rfl
        · have e : (c == c2) = false := by simpa using e1
          simp only [e, Bool.not_false, cond_true]; rfl
theorem f2_l (g : List Str → Int → Option (Side × Bool × S_merge_merger)) (s7 : Int) (x : List (Str × V)) : ∀ k i (acc : List Str), k + i = x.length → acc.length + k ≤ 1073741824 → merge_merger_fields_l2 g s7 x acc i = g (acc ++ (x.drop i).map (·.1)) (IntKind.i64.wrap (s7 + 1))
  | 0, i, acc, h, hb => by
    rw [merge_merger_fields_l2_eq]
    simp only [merge_merger_fields_l2b, lt_f (by omega : ¬ i < x.length), cond_false]
    rw [List.drop_of_length_le (by omega)]; simp
  | k + 1, i, acc, h, hb => by
    obtain ⟨f, hf, hd⟩ := dropc (by omega : i < x.length)
    rw [merge_merger_fields_l2_eq]
    simp only [merge_merger_fields_l2b, lt_t (by omega : i < x.length), cond_true, hf, Option.bind_some, app1 (b := 16) (acc := acc) (x := f.1) (by omega) (by omega)]
    rw [f2_l g s7 x k (i + 1) (acc ++ [f.1]) (by omega) (by simp; omega), hd]
    simp
def PutsN (w : List Stp) (x y z : List (Str × V)) (s : Str → Side) (E : Str → List Conf) (L : List Str) : Prop :=
  ∀ n, n ∈ L → ∀ cs : List Conf, cs.length + (E n).length ≤ 1073741824 → p_merge_merger_put (mM cs) (w ++ [stN n]) (undF x n) (undF y n) (undF z n) = some (s n, mM (cs ++ E n))
def gotN (s : Str → Side) (L : List Str) : List (Str × V) := L.filterMap fun n => if (s n).f_has = true then some (n, (s n).f_v) else none
theorem f3_l {w : List Stp} {x y z : List (Str × V)} {c : Str} {k0 : Int} {names : List Str} {s : Str → Side} {E : Str → List Conf} (hw : w.length ≤ 1073741824) (hP : PutsN w x y z s E (compS names)) (hn : (compS names).length ≤ 268435456) :
    ∀ k i (acc : List (Str × V)) (cs : List Conf), k + i = (compS names).length → acc.length + k ≤ 1073741824 → cs.length + (((compS names).drop i).flatMap E).length ≤ 1073741824 →
      merge_merger_fields_l3 p_merge_merger_put w (x, c, k0, true) (y, c, k0, true) (z, c, k0, true) names acc (i : Nat) () cs = some (mS (mkF c k0 (acc ++ gotN s ((compS names).drop i))) true, true, mM (cs ++ ((compS names).drop i).flatMap E))
  | 0, i, acc, cs, h, _, _ => by
    rw [merge_merger_fields_l3_eq]
    simp only [merge_merger_fields_l3b, lt_f (by omega : ¬ i < (compS names).length), cond_false]
    rw [List.drop_of_length_le (by omega)]
    unfold mkF gotN
    by_cases hc : c = []
    · subst hc; simp
    · rw [show (c == ([] : Str)) = false from by simpa using hc, cond_false, if_neg hc]; simp
  | k + 1, i, acc, cs, h, hb, hE => by
    obtain ⟨n, hx, hd⟩ := dropc (by omega : i < (compS names).length)
    have hmem := List.mem_of_getElem? hx
    rw [hd, List.flatMap_cons, List.length_append] at hE
    have hp := hP n hmem cs (by omega)
    have hw2 : IntKind.i64.wrap ((i : Int) + 1) = ((i + 1 : Nat) : Int) := by rw [w64_in (by omega) (by omega)]; omega
    rw [merge_merger_fields_l3_eq]
    simp only [merge_merger_fields_l3b, lt_t (by omega : i < (compS names).length), cond_true, idxI_nat, hx, Option.bind_some, p_slices_Clip_api_Step_api_Step, app1 (b := 32) (acc := w) (x := S_api_Step.mk n false 0) (by omega) hw, und_eq]
    rw [show (S_api_Step.mk n false 0 : Stp) = stN n from rfl, hp]
    simp only [Option.bind_some]
    have ih : ∀ acc' : List (Str × V), acc'.length + k ≤ 1073741824 → _ := fun acc' ha => f3_l (c := c) (k0 := k0) hw hP hn k (i + 1) acc' (cs ++ E n) (by omega) ha (by rw [List.length_append]; omega)
    cases hs : (s n).f_has with
    | true =>
      rw [cond_true, app1 (b := 32) (by omega) (by omega), Option.bind_some]
      simp only [merge_merger_fields_j2, hw2]
      rw [ih (acc ++ [(n, (s n).f_v)]) (by simp; omega), hd]
      simp only [gotN, List.filterMap_cons, hs, if_true, List.flatMap_cons, List.append_assoc, List.singleton_append]
    | false =>
      rw [cond_false]
      simp only [merge_merger_fields_j2, hw2]
      rw [ih acc (by omega), hd]
      simp only [gotN, List.filterMap_cons, hs, Bool.false_eq_true, if_false, List.flatMap_cons, List.append_assoc]
theorem yes_fields {w : List Stp} {b o t : V} {x y z : List (Str × V)} {c : Str} {k0 : Int} (hb : fldF b = some (x, c, k0)) (ho : fldF o = some (y, c, k0)) (ht : fldF t = some (z, c, k0)) (lx : x.length ≤ 4096) (ly : y.length ≤ 4096) (lz : z.length ≤ 4096) {s : Str → Side} {E : Str → List Conf}
    (hw : w.length ≤ 1073741824) (hP : PutsN w x y z s E (namesL (x.map (·.1) ++ y.map (·.1) ++ z.map (·.1)))) {cs : List Conf} (hE : cs.length + ((namesL (x.map (·.1) ++ y.map (·.1) ++ z.map (·.1))).flatMap E).length ≤ 1073741824) :
    p_merge_merger_fields (mM cs) w b o t = some (mS (mkF c k0 (gotN s (namesL (x.map (·.1) ++ y.map (·.1) ++ z.map (·.1))))) true, true, mM (cs ++ (namesL (x.map (·.1) ++ y.map (·.1) ++ z.map (·.1))).flatMap E)) := by
  have nn : ∀ {v : V} {q : List (Str × V) × Str × Int}, fldF v = some q → v ≠ .nothing := by rintro v q h rfl; cases h
  rw [e_merge_merger_fields, b_merge_merger_fields, fieldsOf_eq (nn hb), fieldsOf_eq (nn ho), fieldsOf_eq (nn ht), hb, ho, ht]
  simp only [Option.bind_some, Bool.not_true, cond_false, beq_self_eq_true, bne_self_eq_false, merge_merger_fields_j1]
  have w1 : IntKind.i64.wrap ((0 : Int) + 1) = 1 := rfl
  have w2 : IntKind.i64.wrap ((1 : Int) + 1) = 2 := rfl
  have w3 : IntKind.i64.wrap ((2 : Int) + 1) = 3 := rfl
  rw [merge_merger_fields_l1_eq]
  simp only [merge_merger_fields_l1b]
  rw [show decide ((0 : Int) < (((([x, y, z] : List (List (Str × V)))).length : Nat) : Int)) = true from rfl, cond_true, show idxI ([x, y, z] : List (List (Str × V))) 0 = some x from rfl, Option.bind_some, f2_l _ _ x x.length 0 [] (by omega) (by simp; omega), w1, merge_merger_fields_l1_eq]
  simp only [merge_merger_fields_l1b]
  rw [show decide ((1 : Int) < (((([x, y, z] : List (List (Str × V)))).length : Nat) : Int)) = true from rfl, cond_true, show idxI ([x, y, z] : List (List (Str × V))) 1 = some y from rfl, Option.bind_some, f2_l _ _ y y.length 0 _ (by omega) (by simp; omega), w2, merge_merger_fields_l1_eq]
  simp only [merge_merger_fields_l1b]
  rw [show decide ((2 : Int) < (((([x, y, z] : List (List (Str × V)))).length : Nat) : Int)) = true from rfl, cond_true, show idxI ([x, y, z] : List (List (Str × V))) 2 = some z from rfl, Option.bind_some, f2_l _ _ z z.length 0 _ (by omega) (by simp; omega), w3, merge_merger_fields_l1_eq]
  simp only [merge_merger_fields_l1b]
  rw [show decide ((3 : Int) < (((([x, y, z] : List (List (Str × V)))).length : Nat) : Int)) = false from rfl, cond_false]
  simp only [List.drop_zero, List.nil_append]
  have hlen : (x.map (·.1) ++ y.map (·.1) ++ z.map (·.1)).length ≤ 12288 := by simp; omega
  have hs : sortO (x.map (·.1) ++ y.map (·.1) ++ z.map (·.1)) = some (sortS (x.map (·.1) ++ y.map (·.1) ++ z.map (·.1))) := by
    unfold sortO; rw [show Nat.blt _ _ = true from Nat.ble_eq_true_of_le (by omega)]; rfl
  rw [hs, Option.bind_some]
  have hc := compS_len (sortS (x.map (·.1) ++ y.map (·.1) ++ z.map (·.1)))
  rw [sortS_len] at hc
  have := f3_l (c := c) (k0 := k0) (names := sortS (x.map (·.1) ++ y.map (·.1) ++ z.map (·.1))) hw hP (by omega) _ 0 [] cs rfl (by rw [List.length_nil]; omega) (by rw [List.drop_zero]; exact hE)
  rw [List.drop_zero, List.nil_append] at this
  exact this
def lstF : V → Option (List V)
  | .list l => some l
  | _ => none
theorem no_list {m : S_merge_merger} {w : List Stp} {b o t : V} (h : ¬ ∃ x y z, lstF b = some x ∧ lstF o = some y ∧ lstF t = some z ∧ x.length = y.length ∧ x.length = z.length) : p_merge_merger_list m w b o t = some (mS .nil false, false, m) := by
  rw [e_merge_merger_list, b_merge_merger_list]
  have j : merge_merger_list_j1 p_merge_merger_put m w b o t true = some (mS .nil false, false, m) := rfl
  cases h1 : lstF b with
  | none => rw [show b.isList = false from by cases b <;> first | rfl | cases h1]; exact j
  | some x =>
    have e1 : b = .list x := by cases b <;> first | (cases h1; rfl) | cases h1
    subst e1
    cases h2 : lstF o with
    | none => rw [show o.isList = false from by cases o <;> first | rfl | cases h2]; exact j
    | some y =>
      have e2 : o = .list y := by cases o <;> first | (cases h2; rfl) | cases h2
      subst e2
      cases h3 : lstF t with
      | none => rw [show t.isList = false from by cases t <;> first | rfl | cases h3]; exact j
      | some z =>
        have e3 : t = .list z := by cases t <;> first | (cases h3; rfl) | cases h3
        subst e3
        simp only [V.isList, V.asList, Bool.not_true, cond_false]
        by_cases e4 : x.length = y.length
        · have e5 : ¬ x.length = z.length := fun e => h ⟨x, y, z, rfl, rfl, rfl, e4, e⟩
          rw [show (((x.length : Nat) : Int) != ((y.length : Nat) : Int)) = false from by simp [e4], cond_false, show (((x.length : Nat) : Int) != ((z.length : Nat) : Int)) = true from by simp; omega]; exact j
        · rw [show (((x.length : Nat) : Int) != ((y.length : Nat) : Int)) = true from by simp; omega, cond_true]; exact j
def PutsA (w : List Stp) (x y z : List V) (s : Nat → Side) (E : Nat → List Conf) (N : Nat) : Prop :=
  ∀ i p q r, i < N → x[i]? = some p → y[i]? = some q → z[i]? = some r → ∀ cs : List Conf, cs.length + (E i).length ≤ 1073741824 → p_merge_merger_put (mM cs) (w ++ [stA i]) (mS p true) (mS q true) (mS r true) = some (s i, mM (cs ++ E i))
def rng (i k : Nat) : List Nat := List.range' i k
theorem l1_l {w : List Stp} {x y z : List V} {s : Nat → Side} {E : Nat → List Conf} (hw : w.length ≤ 1073741824) (hy : x.length = y.length) (hz : x.length = z.length) (hP : PutsA w x y z s E x.length) (hn : x.length ≤ 268435456) :
    ∀ k i (acc : List V) (cs : List Conf), k + i = x.length → acc.length + k ≤ 1073741824 → cs.length + ((rng i k).flatMap E).length ≤ 1073741824 →
      merge_merger_list_l1 p_merge_merger_put w (.list x) (.list y) (.list z) acc i () cs = some (mS (.list (acc ++ (rng i k).map fun j => (s j).f_v)) true, true, mM (cs ++ (rng i k).flatMap E))
  | 0, i, acc, cs, h, _, _ => by
    rw [merge_merger_list_l1_eq]
    simp only [merge_merger_list_l1b, V.asList, lt_f (by omega : ¬ i < x.length), cond_false]
    simp [rng]
  | k + 1, i, acc, cs, h, hb, hE => by
    obtain ⟨p, hp, _⟩ := dropc (by omega : i < x.length)
    obtain ⟨q, hq, _⟩ := dropc (by omega : i < y.length)
    obtain ⟨r, hr, _⟩ := dropc (by omega : i < z.length)
    have hrg : rng i (k + 1) = i :: rng (i + 1) k := by simp [rng, List.range'_succ]
    rw [hrg, List.flatMap_cons, List.length_append] at hE
    have hput := hP i p q r (by omega) hp hq hr cs (by omega)
    rw [merge_merger_list_l1_eq]
    simp only [merge_merger_list_l1b, V.asList, lt_t (by omega : i < x.length), cond_true, p_slices_Clip_api_Step_api_Step, Option.bind_some, app1 (b := 32) (acc := w) (x := S_api_Step.mk [] true ((i : Nat) : Int)) (by omega) hw, hp, hq, hr]
    rw [show (S_api_Step.mk [] true ((i : Nat) : Int) : Stp) = stA i from rfl, hput]
    simp only [Option.bind_some]
    rw [app1 (b := 16) (by omega) (by omega), Option.bind_some]
    have ih := l1_l hw hy hz hP hn k (i + 1) (acc ++ [(s i).f_v]) (cs ++ E i) (by omega) (by simp; omega) (by rw [List.length_append]; omega)
    rw [ih, hrg]
    simp only [List.map_cons, List.flatMap_cons, List.append_assoc, List.singleton_append]
theorem yes_list {w : List Stp} {x y z : List V} {s : Nat → Side} {E : Nat → List Conf} (hw : w.length ≤ 1073741824) (hy : x.length = y.length) (hz : x.length = z.length) (hP : PutsA w x y z s E x.length) (hn : x.length ≤ 268435456) {cs : List Conf} (hE : cs.length + ((rng 0 x.length).flatMap E).length ≤ 1073741824) :
    p_merge_merger_list (mM cs) w (.list x) (.list y) (.list z) = some (mS (.list ((rng 0 x.length).map fun j => (s j).f_v)) true, true, mM (cs ++ (rng 0 x.length).flatMap E)) := by
  rw [e_merge_merger_list, b_merge_merger_list]
  simp only [V.isList, V.asList, Bool.not_true, cond_false]
  rw [show (((x.length : Nat) : Int) != ((y.length : Nat) : Int)) = false from by simp [hy], cond_false, show (((x.length : Nat) : Int) != ((z.length : Nat) : Int)) = false from by simp [hz]]
  unfold merge_merger_list_j1
  rw [cond_false]
  have := l1_l hw hy hz hP hn x.length 0 [] cs (by omega) (by simp; omega) hE
  rw [List.nil_append] at this
  exact this
noncomputable def conf (w : List Stp) (b o t : Side) : Conf := S_api_Conflict.mk w (cpF b.f_v) (cpF o.f_v) (cpF t.f_v) b.f_has o.f_has t.f_has
theorem j2_eq {w : List Stp} {b o t : Side} {cs : List Conf} (hw : w.length ≤ 1073741824) (hc : cs.length ≤ 1073741824) : merge_merger_put_j2 w b o t () cs = some (o, mM (cs ++ [conf w b o t])) := by
  unfold merge_merger_put_j2 p_merge_merger_conflict p_merge_merger_conflict_1 p_slices_Clone_api_Step_api_Step
  rw [app0 (b := 32) (by omega) hw]
  simp only [Option.bind_some, copied_F]
  rw [app1 (b := 80) (by omega) hc]; rfl
theorem put_conf {w : List Stp} {b o t : Side} {cs : List Conf} (hw : w.length ≤ 1073741824) (hc : cs.length ≤ 1073741824) (h1 : oneF o t = false) (h2 : oneF t b = false) (h3 : oneF o b = false) (hn : ¬ (b.f_has = true ∧ o.f_has = true ∧ t.f_has = true)) : p_merge_merger_put (mM cs) w b o t = some (o, mM (cs ++ [conf w b o t])) := by
  rw [e_merge_merger_put, b_merge_merger_put, one_eq, Option.bind_some, h1, cond_false, one_eq, h2, Option.bind_some]
  unfold merge_merger_put_j1
  rw [cond_false, one_eq, h3, Option.bind_some, cond_false]
  have j : merge_merger_put_j3 p_merge_merger_list p_merge_merger_fields (mM cs) w b o t false = some (o, mM (cs ++ [conf w b o t])) := j2_eq hw hc
  cases hb : b.f_has with
  | false => exact j
  | true =>
    cases ho : o.f_has with
    | false => exact j
    | true =>
      cases ht : t.f_has with
      | false => exact j
      | true => exact absurd ⟨hb, ho, ht⟩ hn
theorem put_deep {w : List Stp} {b o t : V} {cs : List Conf} (h1 : oneF (mS o true) (mS t true) = false) (h2 : oneF (mS t true) (mS b true) = false) (h3 : oneF (mS o true) (mS b true) = false) : p_merge_merger_put (mM cs) w (mS b true) (mS o true) (mS t true) = merge_merger_put_j3 p_merge_merger_list p_merge_merger_fields (mM cs) w (mS b true) (mS o true) (mS t true) true := by
  rw [e_merge_merger_put, b_merge_merger_put, one_eq, Option.bind_some, h1, cond_false, one_eq, h2, Option.bind_some]
  unfold merge_merger_put_j1
  rw [cond_false, one_eq, h3, Option.bind_some, cond_false]; rfl
theorem deep_f {w : List Stp} {b o t : V} {cs cs' : List Conf} {s : Side} (hf : p_merge_merger_fields (mM cs) w b o t = some (s, true, mM cs')) : merge_merger_put_j3 p_merge_merger_list p_merge_merger_fields (mM cs) w (mS b true) (mS o true) (mS t true) true = some (s, mM cs') := by
  unfold merge_merger_put_j3
  rw [cond_true, hf]; rfl
theorem deep_l {w : List Stp} {b o t : V} {cs cs' : List Conf} {s s0 : Side} (hf : p_merge_merger_fields (mM cs) w b o t = some (s0, false, mM cs)) (hl : p_merge_merger_list (mM cs) w b o t = some (s, true, mM cs')) : merge_merger_put_j3 p_merge_merger_list p_merge_merger_fields (mM cs) w (mS b true) (mS o true) (mS t true) true = some (s, mM cs') := by
  unfold merge_merger_put_j3
  rw [cond_true, hf]
  simp only [Option.bind_some, cond_false]
  rw [hl]; rfl
theorem deep_c {w : List Stp} {b o t : V} {cs : List Conf} {s0 s1 : Side} (hw : w.length ≤ 1073741824) (hc : cs.length ≤ 1073741824) (hf : p_merge_merger_fields (mM cs) w b o t = some (s0, false, mM cs)) (hl : p_merge_merger_list (mM cs) w b o t = some (s1, false, mM cs)) : merge_merger_put_j3 p_merge_merger_list p_merge_merger_fields (mM cs) w (mS b true) (mS o true) (mS t true) true = some (mS o true, mM (cs ++ [conf w (mS b true) (mS o true) (mS t true)])) := by
  unfold merge_merger_put_j3
  rw [cond_true, hf]
  simp only [Option.bind_some, cond_false]
  rw [hl]
  simp only [Option.bind_some, cond_false]
  exact j2_eq hw hc
end Go.Proofs.Ytkmhecgagibgjaa

namespace Go.Proofs.Ytkmhecgagibgjaa
open Go Aw
set_option linter.unusedVariables false
set_option linter.unusedSimpArgs false
set_option maxRecDepth 8000
abbrev na : Str := [97]
abbrev nb : Str := [98]
abbrev nc : Str := [99]
abbrev lB : List (Str × V) := [(na, .int 1), (nb, .int 1)]
abbrev lO : List (Str × V) := [(na, .int 2), (nb, .int 1)]
abbrev lT : List (Str × V) := [(na, .int 1), (nc, .int 3)]
abbrev lU : List (Str × V) := [(na, .int 3), (nb, .int 1)]
abbrev lR : List (Str × V) := [(na, .int 2), (nc, .int 3)]
theorem can_int (i : Int) : Can (.int i) := ⟨.mk rfl (fun y hy => by cases hy), by simp [cnt], by simp [dpt]⟩
theorem can_d2 {n m : Str} {i j : Int} (h : nearE (.dict [(n, .int i), (m, .int j)]) = 0) : Can (.dict [(n, .int i), (m, .int j)]) :=
  ⟨.mk h (fun y hy => by
    simp only [V.parts, List.map_cons, List.map_nil, List.mem_cons, List.not_mem_nil, or_false] at hy
    rcases hy with rfl | rfl <;> exact (can_int _).1), by simp [cnt, cntD], by simp only [dpt, dptD]; omega⟩
theorem one_int (i j : Int) : oneF (mS (.int i) true) (mS (.int j) true) = decide (i = j) := by
  unfold oneF sameF
  rw [check_can (can_int i), check_can (can_int j), ordF]
  unfold c3
  by_cases h : i = j
  · subst h; simp
  · by_cases h1 : i < j
    · simp [h, h1]
    · have : i > j := by omega
      simp [h, h1, this]
theorem ord_d2 (n m n' m' : Str) (i j i' j' : Int) : ordF (.dict [(n, .int i), (m, .int j)]) (.dict [(n', .int i'), (m', .int j')]) = th (th (cmpS n n') (c3 i i')) (th (th (cmpS m m') (c3 j j')) 0) := by
  simp only [ordF, ordD]
theorem one_d2 {n m n' m' : Str} {i j i' j' : Int} (h1 : nearE (.dict [(n, .int i), (m, .int j)]) = 0) (h2 : nearE (.dict [(n', .int i'), (m', .int j')]) = 0) :
    oneF (mS (.dict [(n, .int i), (m, .int j)]) true) (mS (.dict [(n', .int i'), (m', .int j')]) true) = (th (th (cmpS n n') (c3 i i')) (th (th (cmpS m m') (c3 j j')) 0) == 0) := by
  unfold oneF sameF
  rw [check_can (can_d2 h1), check_can (can_d2 h2), ord_d2]
  rfl
theorem nB : nearE (.dict lB) = 0 := by decide
theorem nO : nearE (.dict lO) = 0 := by decide
theorem nT : nearE (.dict lT) = 0 := by decide
theorem nU : nearE (.dict lU) = 0 := by decide
theorem nR : nearE (.dict lR) = 0 := by decide
theorem one_miss (v : V) : oneF (mS v true) (mS .nil false) = false := rfl
theorem one_miss2 (v : V) : oneF (mS .nil false) (mS v true) = false := rfl
theorem one_none : oneF (mS .nil false) (mS .nil false) = true := rfl
theorem first_eq : p_merge_Threenil (.dict lB) (.dict lO) (.dict lT) = some (.dict lR, [], 0) := by
  have hL : namesL (lB.map (·.1) ++ lO.map (·.1) ++ lT.map (·.1)) = [na, nb, nc] := names_is (by decide) (by
    intro x; simp only [List.map_cons, List.map_nil, List.cons_append, List.nil_append, List.mem_cons, List.not_mem_nil, or_false]
    constructor
    · rintro (h | h | h | h | h | h) <;> simp [h]
    · rintro (h | h | h) <;> simp [h])
  have hP : PutsN [] lB lO lT (fun n => if n = na then mS (.int 2) true else if n = nb then mS .nil false else mS (.int 3) true) (fun _ => []) (namesL (lB.map (·.1) ++ lO.map (·.1) ++ lT.map (·.1))) := by
    intro n hn cs hcs
    rw [hL] at hn
    simp only [List.mem_cons, List.not_mem_nil, or_false] at hn
    rw [List.append_nil]
    rcases hn with rfl | rfl | rfl
    · exact put_ours (.inr (by show oneF (mS (.int 1) true) (mS (.int 1) true) = true; rw [one_int]; rfl))
    · exact put_theirs (one_miss (.int 1)) (one_miss2 (.int 1)) (by show oneF (mS (.int 1) true) (mS (.int 1) true) = true; rw [one_int]; rfl)
    · exact put_theirs (one_miss2 (.int 3)) (one_miss (.int 3)) one_none
  have hf := yes_fields (b := .dict lB) (o := .dict lO) (t := .dict lT) rfl rfl rfl (by decide) (by decide) (by decide) (by decide) hP (cs := []) (by rw [hL]; decide)
  have hp : p_merge_merger_put (mM []) [] (mS (.dict lB) true) (mS (.dict lO) true) (mS (.dict lT) true) = some (mS (.dict lR) true, mM []) := by
    rw [put_deep (by rw [one_d2 nO nT]; decide) (by rw [one_d2 nT nB]; decide) (by rw [one_d2 nO nB]; decide)]
    rw [deep_f hf, hL]; rfl
  exact three_ok (can_d2 nB) (can_d2 nO) (can_d2 nT) hp (can_d2 nR)
theorem second_eq : ∃ c : Conf, c.f_Way = [stN na] ∧ p_merge_Threenil (.dict lB) (.dict lO) (.dict lU) = some (.dict lO, [c], 0) := by
  have hL : namesL (lB.map (·.1) ++ lO.map (·.1) ++ lU.map (·.1)) = [na, nb] := names_is (by decide) (by
    intro x; simp only [List.map_cons, List.map_nil, List.cons_append, List.nil_append, List.mem_cons, List.not_mem_nil, or_false]
    constructor
    · rintro (h | h | h | h | h | h) <;> simp [h]
    · rintro (h | h) <;> simp [h])
  refine ⟨conf [stN na] (mS (.int 1) true) (mS (.int 2) true) (mS (.int 3) true), rfl, ?_⟩
  have hP : PutsN [] lB lO lU (fun n => if n = na then mS (.int 2) true else mS (.int 1) true) (fun n => if n = na then [conf [stN na] (mS (.int 1) true) (mS (.int 2) true) (mS (.int 3) true)] else []) (namesL (lB.map (·.1) ++ lO.map (·.1) ++ lU.map (·.1))) := by
    intro n hn cs hcs
    rw [hL] at hn
    simp only [List.mem_cons, List.not_mem_nil, or_false] at hn
    rcases hn with rfl | rfl
    · have hcs' : cs.length ≤ 1073741824 := by omega
      show p_merge_merger_put (mM cs) [stN na] (mS (.int 1) true) (mS (.int 2) true) (mS (.int 3) true) = _
      rw [put_deep (by rw [one_int]; rfl) (by rw [one_int]; rfl) (by rw [one_int]; rfl)]
      exact deep_c (by decide) hcs' (no_fields (by simp) (by simp) (by simp) (by rintro ⟨x, y, z, c, k, h, _⟩; cases h)) (no_list (by rintro ⟨x, y, z, h, _⟩; cases h))
    · show p_merge_merger_put (mM cs) [stN nb] (mS (.int 1) true) (mS (.int 1) true) (mS (.int 1) true) = some (mS (.int 1) true, mM (cs ++ []))
      rw [List.append_nil]
      exact put_ours (.inl (by rw [one_int]; rfl))
  have hf := yes_fields (b := .dict lB) (o := .dict lO) (t := .dict lU) rfl rfl rfl (by decide) (by decide) (by decide) (by decide) hP (cs := []) (by rw [hL]; decide)
  have hp : p_merge_merger_put (mM []) [] (mS (.dict lB) true) (mS (.dict lO) true) (mS (.dict lU) true) = some (mS (.dict lO) true, mM [conf [stN na] (mS (.int 1) true) (mS (.int 2) true) (mS (.int 3) true)]) := by
    rw [put_deep (by rw [one_d2 nO nU]; decide) (by rw [one_d2 nU nB]; decide) (by rw [one_d2 nO nB]; decide)]
    rw [deep_f hf, hL]; rfl
  exact three_ok (can_d2 nB) (can_d2 nO) (can_d2 nU) hp (can_d2 nO)
theorem lives : p_law24_lives = some true := by
  obtain ⟨c, hw, h2⟩ := second_eq
  unfold p_law24_lives
  rw [first_eq, Option.bind_some, h2, Option.bind_some]
  simp only [value_Same_eq, same_refl (can_d2 nR), Option.bind_some, List.getElem?_cons_zero, hw]
  rfl
end Go.Proofs.Ytkmhecgagibgjaa

namespace Go.Proofs.Ytkmhecgagibgjaa
open Go Aw
set_option linter.unusedVariables false
set_option linter.unusedSimpArgs false
set_option maxRecDepth 8000
def W (s : Side) : Int := if s.f_has = true then cnt s.f_v else 0
theorem W_pos (s : Side) : 0 ≤ W s := by
  unfold W; split
  · have := cnt_pos s.f_v; omega
  · omega
theorem W_t (v : V) : W (mS v true) = cnt v := if_pos rfl
theorem fld_parts {v : V} {x : List (Str × V)} {c : Str} {k : Int} (h : fldF v = some (x, c, k)) : v.parts = x.map (·.2) := by
  cases v <;> first | (cases h; rfl) | cases h
theorem fld_cnt {v : V} {x : List (Str × V)} {c : Str} {k : Int} (h : fldF v = some (x, c, k)) : cnt v = 1 + cntD x := by
  rw [cnt_eq, fld_parts h, cntD_map]
theorem fld_len {v : V} {x : List (Str × V)} {c : Str} {k : Int} (hc : Can v) (h : fldF v = some (x, c, k)) : x.length ≤ 4096 := by
  have hn := hc.1.own
  cases v with
  | dict d => cases h; exact near_dict hn
  | record c' v' d => cases h; exact (near_rec hn).2
  | _ => cases h
theorem und_ok {v : V} {x : List (Str × V)} {c : Str} {k : Int} (hc : Can v) (h : fldF v = some (x, c, k)) (n : Str) : SOk (undF x n) ∧ ((undF x n).f_has = true → cnt (undF x n).f_v < cnt v) := by
  have key : (undF x n).f_has = true → Can (undF x n).f_v ∧ cnt (undF x n).f_v < cnt v := fun hh => by
    obtain ⟨u, h1, h2⟩ := und_some hh
    rw [h2]
    have hm : u ∈ v.parts := by rw [fld_parts h]; exact List.mem_map.2 ⟨_, h1, rfl⟩
    have := zcnt_mem hm
    have e := cnt_eq v
    exact ⟨zcan_part hc hm, by show cnt u < _; omega⟩
  exact ⟨fun hh => (key hh).1, fun hh => (key hh).2⟩
theorem sum_zero : ∀ (L : List Str), (L.map fun n => W (undF [] n)).sum = 0
  | [] => rfl
  | n :: r => by rw [List.map_cons, List.sum_cons, sum_zero r]; rfl
theorem sum_same {x : List (Str × V)} {f : Str × V} : ∀ (L : List Str), f.1 ∉ L → (L.map fun n => W (undF (f :: x) n)).sum = (L.map fun n => W (undF x n)).sum
  | [], _ => rfl
  | n :: r, h => by
    simp only [List.mem_cons, not_or] at h
    rw [List.map_cons, List.map_cons, List.sum_cons, List.sum_cons, sum_same r h.2, undF, if_neg h.1]
theorem sum_step {x : List (Str × V)} {f : Str × V} : ∀ (L : List Str), L.Nodup → (L.map fun n => W (undF (f :: x) n)).sum ≤ cnt f.2 + (L.map fun n => W (undF x n)).sum
  | [], _ => by have := cnt_pos f.2; simp; omega
  | n :: r, h => by
    rw [List.nodup_cons] at h
    rw [List.map_cons, List.map_cons, List.sum_cons, List.sum_cons]
    by_cases he : f.1 = n
    · have := sum_same (x := x) (f := f) r (by rw [he]; exact h.1)
      have hw := W_pos (undF x n)
      rw [undF, if_pos he, W_t, this]; omega
    · have := sum_step (x := x) (f := f) r h.2
      rw [undF, if_neg he]; omega
theorem sum_und : ∀ (x : List (Str × V)) (L : List Str), L.Nodup → (L.map fun n => W (undF x n)).sum ≤ cntD x
  | [], L, _ => by rw [sum_zero]; simp [cntD]
  | f :: r, L, h => by
    have h1 := sum_step (x := r) (f := f) L h
    have h2 := sum_und r L h
    obtain ⟨s, v⟩ := f
    have h3 : cnt (s, v).2 = cnt v := rfl
    simp only [cntD]
    omega
theorem lt_nodup {L : List Str} (h : L.Pairwise (· < ·)) : L.Nodup := h.imp (fun h e => by subst e; exact s_irr _ h)
def swp (c : Conf) : Conf := S_api_Conflict.mk c.f_Way c.f_Base c.f_Theirs c.f_Ours c.f_Had c.f_TheyHave c.f_WeHave
structure COk (c : Conf) : Prop where
  b : Can c.f_Base
  o : Can c.f_Ours
  t : Can c.f_Theirs
theorem can_nil : Can .nil := ⟨.mk rfl (fun y hy => by cases hy), by decide, by decide⟩
theorem can_cp (v : V) : Can (cpF v) := by
  unfold cpF; split
  · assumption
  · exact can_nil
def rEq (s s' : Side) : Prop := s.f_has = s'.f_has ∧ (s.f_has = true → ordF s.f_v s'.f_v = 0)
theorem rEq_refl (s : Side) : rEq s s := ⟨rfl, fun _ => ord_self _⟩
theorem rEq_one {a b : Side} (h : oneF a b = true) : rEq a b := by
  unfold oneF at h
  simp only [Bool.and_eq_true, Bool.or_eq_true, beq_iff_eq, Bool.not_eq_true'] at h
  refine ⟨h.1, fun hh => ?_⟩
  rcases h.2 with h2 | h2
  · rw [hh] at h2; cases h2
  · exact (same_can h2).2.2
theorem ordD_got {s s' : Str → Side} : ∀ (L : List Str), (∀ n, n ∈ L → rEq (s n) (s' n)) → ordD (gotN s L) (gotN s' L) = 0
  | [], _ => by simp [gotN, ordD]
  | n :: r, h => by
    have ih := ordD_got r (fun m hm => h m (by simp [hm]))
    obtain ⟨h1, h2⟩ := h n (by simp)
    unfold gotN at ih ⊢
    rw [List.filterMap_cons, List.filterMap_cons, ← h1]
    cases hs : (s n).f_has with
    | false => simpa using ih
    | true =>
      simp only [if_true]
      rw [ordD, cmp_self, h2 hs, ih]; rfl
theorem ord_mkF {c : Str} {k : Int} {d d' : List (Str × V)} (h : ordD d d' = 0) : ordF (mkF c k d) (mkF c k d') = 0 := by
  unfold mkF
  by_cases hc : c = []
  · rw [if_pos hc, if_pos hc, ordF]; exact h
  · rw [if_neg hc, if_neg hc, ordF]
    simp only [cmp_self, h, c3]
    simp [th]
theorem ordL_got {s s' : Nat → Side} : ∀ (L : List Nat), (∀ i, i ∈ L → ordF (s i).f_v (s' i).f_v = 0) → ordL (L.map fun i => (s i).f_v) (L.map fun i => (s' i).f_v) = 0
  | [], _ => by simp [ordL]
  | i :: r, h => by
    rw [List.map_cons, List.map_cons, ordL, h i (by simp), ordL_got r (fun m hm => h m (by simp [hm]))]; rfl
structure TP (w : List Stp) (b o t s s' : Side) (E : List Conf) : Prop where
  r : ∀ cs : List Conf, cs.length + E.length ≤ 1073741824 → p_merge_merger_put (mM cs) w b o t = some (s, mM (cs ++ E))
  r' : ∀ cs : List Conf, cs.length + E.length ≤ 1073741824 → p_merge_merger_put (mM cs) w b t o = some (s', mM (cs ++ E.map swp))
  n : (E.length : Int) ≤ W b + W o + W t
  c : ∀ c, c ∈ E → COk c
  e : E = [] → rEq s s'
  h : o.f_has = true → t.f_has = true → s.f_has = true ∧ s'.f_has = true
theorem sum_flat {α : Type} (E : α → List Conf) (f : α → Int) : ∀ (L : List α), (∀ n, n ∈ L → ((E n).length : Int) ≤ f n) → ((L.flatMap E).length : Int) ≤ (L.map f).sum
  | [], _ => by simp
  | n :: r, h => by
    have h1 := h n (by simp)
    have h2 := sum_flat E f r (fun m hm => h m (by simp [hm]))
    rw [List.flatMap_cons, List.length_append, List.map_cons, List.sum_cons]
    omega
theorem sum_add3 {α : Type} (f g h : α → Int) : ∀ (L : List α), (L.map fun n => f n + g n + h n).sum = (L.map f).sum + (L.map g).sum + (L.map h).sum
  | [] => rfl
  | n :: r => by simp only [List.map_cons, List.sum_cons, sum_add3 f g h r]; omega
theorem sum_at : ∀ (x : List V) (i : Nat) (pre : List V), pre.length = i → ((List.range' i x.length).map fun j => cnt ((pre ++ x).getD j .nil)).sum = cntL x
  | [], i, pre, _ => by simp [cntL]
  | a :: r, i, pre, h => by
    rw [List.length_cons, List.range'_succ, List.map_cons, List.sum_cons]
    have h1 : (pre ++ a :: r).getD i .nil = a := by simp [List.getD_eq_getElem?_getD, ← h]
    have h2 := sum_at r (i + 1) (pre ++ [a]) (by simp [h])
    rw [List.append_assoc, List.singleton_append] at h2
    rw [h1, h2]; simp only [cntL]
theorem sum_rng (x : List V) : ((rng 0 x.length).map fun j => cnt (x.getD j .nil)).sum = cntL x := by
  have := sum_at x 0 [] rfl
  rw [List.nil_append] at this
  exact this
theorem list_parts {l : List V} {u : V} {i : Nat} (h : l[i]? = some u) : u ∈ (V.list l).parts := List.mem_of_getElem? h
theorem has_eta {s : Side} (h : s.f_has = true) : s = mS s.f_v true := by
  obtain ⟨v, b⟩ := s
  simp only at h
  subst h; rfl
theorem conf_has {b o t : Side} (h : oneF o t = false) : o.f_has = true ∨ t.f_has = true := by
  unfold oneF at h
  cases ho : o.f_has with
  | true => exact .inl rfl
  | false =>
    cases ht : t.f_has with
    | true => exact .inr rfl
    | false => rw [ho, ht] at h; simp at h
theorem conf_W {b o t : Side} (h : oneF o t = false) : (1 : Int) ≤ W b + W o + W t := by
  have h1 := W_pos b
  have h2 := W_pos o
  have h3 := W_pos t
  rcases conf_has (b := b) h with h4 | h4
  · have : W o = cnt o.f_v := if_pos h4
    have := cnt_pos o.f_v
    omega
  · have : W t = cnt t.f_v := if_pos h4
    have := cnt_pos t.f_v
    omega
theorem conf_ok (w : List Stp) (b o t : Side) : COk (conf w b o t) := ⟨can_cp _, can_cp _, can_cp _⟩
theorem turned : ∀ (N : Nat) (w : List Stp) (b o t : Side), SOk b → SOk o → SOk t → (b.f_has = true → cnt b.f_v ≤ N) → w.length + N ≤ 1000000 → ∃ s s' E, TP w b o t s s' E := by
  intro N
  induction N with
  | zero =>
    intro w b o t hb ho ht hN hw
    cases h : b.f_has with
    | true => have := cnt_pos b.f_v; have := hN h; omega
    | false =>
      cases h1 : oneF o t with
      | true => exact ⟨o, t, [], fun cs _ => by rw [List.append_nil]; exact put_ours (.inl h1), fun cs _ => by rw [List.map_nil, List.append_nil]; exact put_ours (.inl (by rw [one_swap]; exact h1)), by have := W_pos b; have := W_pos o; have := W_pos t; simp; omega, (fun c hc => by cases hc), fun _ => rEq_one h1, fun a1 a2 => ⟨a1, a2⟩⟩
      | false =>
        cases h2 : oneF t b with
        | true =>
          have h3 : oneF o b = false := by
            cases h3 : oneF o b with
            | false => rfl
            | true => rw [one_trans h3 (by rw [one_swap]; exact h2)] at h1; cases h1
          exact ⟨o, o, [], fun cs _ => by rw [List.append_nil]; exact put_ours (.inr h2), fun cs _ => by rw [List.map_nil, List.append_nil]; exact put_theirs (by rw [one_swap]; exact h1) h3 h2, by have := W_pos b; have := W_pos o; have := W_pos t; simp; omega, (fun c hc => by cases hc), fun _ => rEq_refl _, fun a1 a2 => ⟨a1, a1⟩⟩
        | false =>
          cases h3 : oneF o b with
          | true => exact ⟨t, t, [], fun cs _ => by rw [List.append_nil]; exact put_theirs h1 h2 h3, fun cs _ => by rw [List.map_nil, List.append_nil]; exact put_ours (.inr h3), by have := W_pos b; have := W_pos o; have := W_pos t; simp; omega, (fun c hc => by cases hc), fun _ => rEq_refl _, fun a1 a2 => ⟨a2, a2⟩⟩
          | false =>
            refine ⟨o, t, [conf w b o t], fun cs hc => ?_, fun cs hc => ?_, by have := conf_W (b := b) h1; simpa using this, fun c hc => ?_, (fun e => by cases e), fun a1 a2 => ⟨a1, a2⟩⟩
            · exact put_conf (by omega) (by simp at hc; omega) h1 h2 h3 (by rw [h]; simp)
            · exact put_conf (by omega) (by simp at hc; omega) (by rw [one_swap]; exact h1) h3 h2 (by rw [h]; simp)
            · simp at hc; subst hc; exact conf_ok w b o t
  | succ N ih =>
    intro w b o t hb ho ht hN hw
    have hWs : (0 : Int) ≤ W b + W o + W t := by have := W_pos b; have := W_pos o; have := W_pos t; omega
    cases h1 : oneF o t with
    | true => exact ⟨o, t, [], fun cs _ => by rw [List.append_nil]; exact put_ours (.inl h1), fun cs _ => by rw [List.map_nil, List.append_nil]; exact put_ours (.inl (by rw [one_swap]; exact h1)), by simpa using hWs, (fun c hc => by cases hc), fun _ => rEq_one h1, fun a1 a2 => ⟨a1, a2⟩⟩
    | false =>
      have h1' : oneF t o = false := by rw [one_swap]; exact h1
      cases h2 : oneF t b with
      | true =>
        have h3 : oneF o b = false := by
          cases h3 : oneF o b with
          | false => rfl
          | true => rw [one_trans h3 (by rw [one_swap]; exact h2)] at h1; cases h1
        exact ⟨o, o, [], fun cs _ => by rw [List.append_nil]; exact put_ours (.inr h2), fun cs _ => by rw [List.map_nil, List.append_nil]; exact put_theirs h1' h3 h2, by simpa using hWs, (fun c hc => by cases hc), fun _ => rEq_refl _, fun a1 a2 => ⟨a1, a1⟩⟩
      | false =>
        cases h3 : oneF o b with
        | true => exact ⟨t, t, [], fun cs _ => by rw [List.append_nil]; exact put_theirs h1 h2 h3, fun cs _ => by rw [List.map_nil, List.append_nil]; exact put_ours (.inr h3), by simpa using hWs, (fun c hc => by cases hc), fun _ => rEq_refl _, fun a1 a2 => ⟨a2, a2⟩⟩
        | false =>
          have hwl : w.length ≤ 1073741824 := by omega
          by_cases hall : b.f_has = true ∧ o.f_has = true ∧ t.f_has = true
          · obtain ⟨eb, eo, et⟩ := hall
            have kb := hb eb
            have ko := ho eo
            have kt := ht et
            have kN := hN eb
            rw [has_eta eb, has_eta eo, has_eta et]
            rw [has_eta eo, has_eta et] at h1
            rw [has_eta et, has_eta eo] at h1'
            rw [has_eta et, has_eta eb] at h2
            rw [has_eta eo, has_eta eb] at h3
            generalize b.f_v = bv at *
            generalize o.f_v = ov at *
            generalize t.f_v = tv at *
            clear hb ho ht hN hWs eb eo et
            by_cases hF : ∃ x y z c k, fldF bv = some (x, c, k) ∧ fldF ov = some (y, c, k) ∧ fldF tv = some (z, c, k)
            · obtain ⟨x, y, z, c, k, fx, fy, fz⟩ := hF
              have hall : ∀ n, ∃ q : Side × Side × List Conf, TP (w ++ [stN n]) (undF x n) (undF y n) (undF z n) q.1 q.2.1 q.2.2 := fun n => by
                have ux := und_ok kb fx n
                obtain ⟨s, s', E, h⟩ := ih (w ++ [stN n]) (undF x n) (undF y n) (undF z n) ux.1 (und_ok ko fy n).1 (und_ok kt fz n).1 (fun hh => by have := ux.2 hh; omega) (by simp; omega)
                exact ⟨(s, s', E), h⟩
              obtain ⟨q, hq⟩ := Classical.skolem.1 hall
              have hL : namesL (x.map (·.1) ++ z.map (·.1) ++ y.map (·.1)) = namesL (x.map (·.1) ++ y.map (·.1) ++ z.map (·.1)) := names_eq (fun m => by simp only [List.mem_append]; constructor <;> (rintro ((h | h) | h) <;> simp [h]))
              have lx := fld_len kb fx
              have ly := fld_len ko fy
              have lz := fld_len kt fz
              have hnd := lt_nodup (names_lt (x.map (·.1) ++ y.map (·.1) ++ z.map (·.1)))
              generalize hLL : namesL (x.map (·.1) ++ y.map (·.1) ++ z.map (·.1)) = L at *
              have hsum : ((L.flatMap fun n => (q n).2.2).length : Int) ≤ W (mS bv true) + W (mS ov true) + W (mS tv true) := by
                have a := sum_flat (fun n => (q n).2.2) (fun n => W (undF x n) + W (undF y n) + W (undF z n)) L (fun n _ => (hq n).n)
                rw [sum_add3] at a
                have a1 := sum_und x L hnd
                have a2 := sum_und y L hnd
                have a3 := sum_und z L hnd
                rw [W_t, W_t, W_t, fld_cnt fx, fld_cnt fy, fld_cnt fz]
                omega
              have hmap : (L.flatMap fun n => (q n).2.2).map swp = L.flatMap fun n => (q n).2.2.map swp := List.map_flatMap
              refine ⟨mS (mkF c k (gotN (fun n => (q n).1) L)) true, mS (mkF c k (gotN (fun n => (q n).2.1) L)) true, L.flatMap fun n => (q n).2.2, fun cs hcs => ?_, fun cs hcs => ?_, hsum, fun e he => ?_, fun e => ?_, fun _ _ => ⟨rfl, rfl⟩⟩
              · have hf := yes_fields (b := bv) (o := ov) (t := tv) fx fy fz lx ly lz (s := fun n => (q n).1) (E := fun n => (q n).2.2) hwl (fun n _ cs h => (hq n).r cs h) (cs := cs) (by rw [hLL]; exact hcs)
                rw [hLL] at hf
                rw [put_deep h1 h2 h3]; exact deep_f hf
              · have hf := yes_fields (b := bv) (o := tv) (t := ov) fx fz fy lx lz ly (s := fun n => (q n).2.1) (E := fun n => (q n).2.2.map swp) hwl (fun n _ cs h => (hq n).r' cs (by rw [List.length_map] at h; exact h)) (cs := cs) (by rw [hL, ← hmap, List.length_map]; exact hcs)
                rw [hL] at hf
                rw [put_deep h1' h3 h2, hmap]; exact deep_f hf
              · obtain ⟨n, _, hn⟩ := List.mem_flatMap.1 he
                exact (hq n).c e hn
              · rw [List.flatMap_eq_nil_iff] at e
                exact ⟨rfl, fun _ => ord_mkF (ordD_got L (fun n hn => (hq n).e (e n hn)))⟩
            · have hF' : ¬ ∃ x y z c k, fldF bv = some (x, c, k) ∧ fldF tv = some (y, c, k) ∧ fldF ov = some (z, c, k) := fun ⟨x, y, z, c, k, a1, a2, a3⟩ => hF ⟨x, z, y, c, k, a1, a3, a2⟩
              have nf : ∀ cs, p_merge_merger_fields (mM cs) w bv ov tv = some (mS .nil false, false, mM cs) := fun cs => no_fields (can_not_nothing kb) (can_not_nothing ko) (can_not_nothing kt) hF
              have nf' : ∀ cs, p_merge_merger_fields (mM cs) w bv tv ov = some (mS .nil false, false, mM cs) := fun cs => no_fields (can_not_nothing kb) (can_not_nothing kt) (can_not_nothing ko) hF'
              by_cases hA : ∃ x y z, lstF bv = some x ∧ lstF ov = some y ∧ lstF tv = some z ∧ x.length = y.length ∧ x.length = z.length
              · obtain ⟨x, y, z, fx, fy, fz, ly, lz⟩ := hA
                have eb : bv = .list x := by cases bv <;> first | (cases fx; rfl) | cases fx
                have eo : ov = .list y := by cases ov <;> first | (cases fy; rfl) | cases fy
                have et : tv = .list z := by cases tv <;> first | (cases fz; rfl) | cases fz
                subst eb; subst eo; subst et
                have lx := near_list kb.1.own
                have hall : ∀ i, ∃ q : Side × Side × List Conf, i < x.length → TP (w ++ [stA i]) (mS (x.getD i .nil) true) (mS (y.getD i .nil) true) (mS (z.getD i .nil) true) q.1 q.2.1 q.2.2 := fun i => by
                  by_cases hi : i < x.length
                  · have gx : x[i]? = some (x.getD i .nil) := by rw [List.getD_eq_getElem?_getD, List.getElem?_eq_getElem hi]; rfl
                    have gy : y[i]? = some (y.getD i .nil) := by rw [List.getD_eq_getElem?_getD, List.getElem?_eq_getElem (by omega)]; rfl
                    have gz : z[i]? = some (z.getD i .nil) := by rw [List.getD_eq_getElem?_getD, List.getElem?_eq_getElem (by omega)]; rfl
                    have m1 := zcnt_mem (list_parts gx)
                    have c1 := cnt_eq (.list x)
                    obtain ⟨s, s', E, h⟩ := ih (w ++ [stA i]) (mS (x.getD i .nil) true) (mS (y.getD i .nil) true) (mS (z.getD i .nil) true) (sok (zcan_part kb (list_parts gx)) _) (sok (zcan_part ko (list_parts gy)) _) (sok (zcan_part kt (list_parts gz)) _) (fun _ => by show cnt (x.getD i .nil) ≤ _; omega) (by simp; omega)
                    exact ⟨(s, s', E), fun _ => h⟩
                  · exact ⟨(mS .nil false, mS .nil false, []), fun h => absurd h hi⟩
                obtain ⟨q, hq⟩ := Classical.skolem.1 hall
                have hmem : ∀ i, i ∈ rng 0 x.length → i < x.length := fun i hi => by
                  have := List.mem_range'_1.1 hi; omega
                have hget : ∀ {l : List V} {i : Nat} {p : V}, l[i]? = some p → l.getD i .nil = p := fun h => by rw [List.getD_eq_getElem?_getD, h]; rfl
                have hsum : (((rng 0 x.length).flatMap fun i => (q i).2.2).length : Int) ≤ W (mS (.list x) true) + W (mS (.list y) true) + W (mS (.list z) true) := by
                  have a := sum_flat (fun i => (q i).2.2) (fun i => cnt (x.getD i .nil) + cnt (y.getD i .nil) + cnt (z.getD i .nil)) (rng 0 x.length) (fun i hi => by
                    have := (hq i (hmem i hi)).n
                    rw [W_t, W_t, W_t] at this; exact this)
                  rw [sum_add3, sum_rng x] at a
                  have a2 := sum_rng y
                  have a3 := sum_rng z
                  rw [← ly] at a2; rw [← lz] at a3
                  rw [a2, a3] at a
                  rw [W_t, W_t, W_t]
                  simp only [cnt]
                  omega
                have hmap : ((rng 0 x.length).flatMap fun i => (q i).2.2).map swp = (rng 0 x.length).flatMap fun i => (q i).2.2.map swp := List.map_flatMap
                refine ⟨mS (.list ((rng 0 x.length).map fun i => (q i).1.f_v)) true, mS (.list ((rng 0 x.length).map fun i => (q i).2.1.f_v)) true, (rng 0 x.length).flatMap fun i => (q i).2.2, fun cs hcs => ?_, fun cs hcs => ?_, hsum, fun e he => ?_, fun e => ?_, fun _ _ => ⟨rfl, rfl⟩⟩
                · rw [put_deep h1 h2 h3]
                  exact deep_l (nf cs) (yes_list (s := fun i => (q i).1) (E := fun i => (q i).2.2) hwl ly lz (fun i p q' r hi e1 e2 e3 cs h => by
                    have := (hq i hi).r cs h
                    rw [hget e1, hget e2, hget e3] at this; exact this) (by omega) hcs)
                · rw [put_deep h1' h3 h2, hmap]
                  exact deep_l (nf' cs) (yes_list (s := fun i => (q i).2.1) (E := fun i => (q i).2.2.map swp) hwl lz ly (fun i p q' r hi e1 e2 e3 cs h => by
                    have := (hq i hi).r' cs (by rw [List.length_map] at h; exact h)
                    rw [hget e1, hget e2, hget e3] at this; exact this) (by omega) (by rw [← hmap, List.length_map]; exact hcs))
                · obtain ⟨i, hi, hn⟩ := List.mem_flatMap.1 he
                  exact (hq i (hmem i hi)).c e hn
                · rw [List.flatMap_eq_nil_iff] at e
                  refine ⟨rfl, fun _ => ?_⟩
                  rw [ordF]
                  refine ordL_got _ (fun i hi => ?_)
                  have hi' := hmem i hi
                  exact ((hq i hi').e (e i hi)).2 ((hq i hi').h rfl rfl).1
              · have hA' : ¬ ∃ x y z, lstF bv = some x ∧ lstF tv = some y ∧ lstF ov = some z ∧ x.length = y.length ∧ x.length = z.length := fun ⟨x, y, z, a1, a2, a3, a4, a5⟩ => hA ⟨x, z, y, a1, a3, a2, a5, a4⟩
                refine ⟨mS ov true, mS tv true, [conf w (mS bv true) (mS ov true) (mS tv true)], fun cs hc => ?_, fun cs hc => ?_, by have := conf_W (b := mS bv true) h1; simpa using this, fun c hc => ?_, (fun e => by cases e), fun _ _ => ⟨rfl, rfl⟩⟩
                · rw [put_deep h1 h2 h3]; exact deep_c hwl (by simp at hc; omega) (nf cs) (no_list hA)
                · rw [put_deep h1' h3 h2]; exact deep_c hwl (by simp at hc; omega) (nf' cs) (no_list hA')
                · simp at hc; subst hc; exact conf_ok w _ _ _
          · have hall' : ¬ (b.f_has = true ∧ t.f_has = true ∧ o.f_has = true) := fun ⟨a1, a2, a3⟩ => hall ⟨a1, a3, a2⟩
            refine ⟨o, t, [conf w b o t], fun cs hc => ?_, fun cs hc => ?_, by have := conf_W (b := b) h1; simpa using this, fun c hc => ?_, (fun e => by cases e), fun a1 a2 => ⟨a1, a2⟩⟩
            · exact put_conf hwl (by simp at hc; omega) h1 h2 h3 hall
            · exact put_conf hwl (by simp at hc; omega) h1' h3 h2 hall'
            · simp at hc; subst hc; exact conf_ok w b o t
end Go.Proofs.Ytkmhecgagibgjaa

namespace Go.Proofs.Ytkmhecgagibgjaa
open Go Aw
set_option linter.unusedVariables false
set_option linter.unusedSimpArgs false
set_option maxRecDepth 8000
end Go.Proofs.Ytkmhecgagibgjaa

namespace Go.Proofs.Ytkmhecgagibgjaa
open Go Aw
set_option linter.unusedVariables false
set_option linter.unusedSimpArgs false
set_option maxRecDepth 8000
def Leaf (v : V) : Prop := v.isList = false ∧ v.isDict = false ∧ v.isRec = false
def In (s : Side) (w : List Stp) (x : V) : Prop := s.f_has = true ∧ getF s.f_v w = (x, 0)
def Made (s o t : Side) : Prop := ∀ w x, (∀ q, q ∈ w → Norm q) → In s w x → Leaf x → In o w x ∨ In t w x
theorem fget_und (d : Fds) (n : Str) : fget d n = if (undF d n).f_has = true then some (undF d n).f_v else none := by
  induction d with
  | nil => rfl
  | cons f r ih =>
    rw [fget_cons, undF]
    by_cases h : f.1 = n
    · rw [if_pos h, if_pos h]; rfl
    · rw [if_neg h, if_neg h]; exact ih
theorem fld_fd {v : V} {d : Fds} {c : Str} {k : Int} (h : fldF v = some (d, c, k)) : fdF v = some d := by
  cases v <;> first | (cases h; rfl) | cases h
theorem in_nm {v : V} {d : Fds} {c : Str} {k : Int} {n : Str} {r : List Stp} {x : V} (h : fldF v = some (d, c, k)) : In (mS v true) (stN n :: r) x ↔ In (undF d n) r x := by
  unfold In
  simp only [true_and]
  rw [getF, step_nm (fld_fd h), fget_und]
  cases hu : (undF d n).f_has with
  | true => simp
  | false => simp
theorem in_at {l : List V} {i : Nat} {u : V} {r : List Stp} {x : V} (h : l[i]? = some u) : In (mS (.list l) true) (stA i :: r) x ↔ In (mS u true) r x := by
  unfold In
  simp only [true_and]
  rw [getF]
  have e : stepF (.list l) (stA i) = (u, 0) := by rw [step_li, h]
  rw [e, if_neg (by simp)]
theorem fget_got {s : Str → Side} {n : Str} {u : V} : ∀ {L : List Str}, fget (gotN s L) n = some u → (s n).f_has = true ∧ u = (s n).f_v
  | [], h => by cases h
  | m :: r, h => by
    have hg : gotN s (m :: r) = (if (s m).f_has = true then [(m, (s m).f_v)] else []) ++ gotN s r := by
      unfold gotN
      rw [List.filterMap_cons]
      cases (s m).f_has <;> simp
    rw [hg] at h
    cases hm : (s m).f_has with
    | false => rw [hm] at h; exact fget_got (L := r) (by simpa using h)
    | true =>
      rw [hm, if_pos rfl, List.singleton_append, fget_cons] at h
      by_cases he : m = n
      · subst he; rw [if_pos rfl] at h; injection h with h; exact ⟨hm, h.symm⟩
      · rw [if_neg he] at h; exact fget_got h
theorem made_o {s o t : Side} (h : s = o) : Made s o t := fun w x _ hi _ => .inl (by rw [← h]; exact hi)
theorem made_t {s o t : Side} (h : s = t) : Made s o t := fun w x _ hi _ => .inr (by rw [← h]; exact hi)
theorem fd_mkF (c : Str) (k : Int) (d : Fds) : fdF (mkF c k d) = some d := by
  unfold mkF; split <;> rfl
theorem made_f {ov tv : V} {y z : Fds} {c : Str} {k : Int} {L : List Str} {q : Str → Side} (fy : fldF ov = some (y, c, k)) (fz : fldF tv = some (z, c, k)) (h : ∀ n, Made (q n) (undF y n) (undF z n)) : Made (mS (mkF c k (gotN q L)) true) (mS ov true) (mS tv true) := by
  intro w x hw hi hl
  obtain ⟨_, hg⟩ := hi
  simp only at hg
  cases w with
  | nil =>
    injection hg with hg; subst hg
    obtain ⟨_, h2, h3⟩ := hl
    unfold mkF at h2 h3
    split at h2
    · cases h2
    · rename_i hc; rw [if_neg hc] at h3; cases h3
  | cons s r =>
    have hs := hw s (by simp)
    rw [getF] at hg
    rcases hs with ⟨n, rfl⟩ | ⟨i, rfl⟩
    · rw [step_nm (fd_mkF c k _)] at hg
      cases hu : fget (gotN q L) n with
      | none => rw [hu] at hg; simp at hg
      | some u =>
        rw [hu] at hg
        simp only [ne_eq, not_true_eq_false, if_false] at hg
        obtain ⟨h1, h2⟩ := fget_got hu
        rw [in_nm fy, in_nm fz]
        exact h n r x (fun p hp => hw p (by simp [hp])) ⟨h1, by rw [← h2]; exact hg⟩ hl
    · rw [step_ix (fd_mkF c k _)] at hg; simp at hg
theorem made_l {y z : List V} {N : Nat} {q : Nat → Side} (hy : y.length = N) (hz : z.length = N) (h : ∀ i, i < N → (q i).f_has = true ∧ Made (q i) (mS (y.getD i .nil) true) (mS (z.getD i .nil) true)) : Made (mS (.list ((rng 0 N).map fun i => (q i).f_v)) true) (mS (.list y) true) (mS (.list z) true) := by
  intro w x hw hi hl
  obtain ⟨_, hg⟩ := hi
  simp only at hg
  cases w with
  | nil => injection hg with hg; subst hg; cases hl.1
  | cons s r =>
    have hs := hw s (by simp)
    rw [getF] at hg
    rcases hs with ⟨n, rfl⟩ | ⟨i, rfl⟩
    · rw [step_ln] at hg; simp at hg
    · by_cases hi : i < N
      · have e0 : ((rng 0 N).map fun i => (q i).f_v)[i]? = some (q i).f_v := by
          rw [List.getElem?_map, show (rng 0 N)[i]? = some i from by simp [rng, hi]]; rfl
        have e : stepF (.list ((rng 0 N).map fun i => (q i).f_v)) (stA i) = ((q i).f_v, 0) := by rw [step_li, e0]
        rw [e, if_neg (by simp)] at hg
        obtain ⟨h1, h2⟩ := h i hi
        have gy : y[i]? = some (y.getD i .nil) := by rw [List.getD_eq_getElem?_getD, List.getElem?_eq_getElem (by omega)]; rfl
        have gz : z[i]? = some (z.getD i .nil) := by rw [List.getD_eq_getElem?_getD, List.getElem?_eq_getElem (by omega)]; rfl
        rw [in_at gy, in_at gz]
        exact h2 r x (fun p hp => hw p (by simp [hp])) ⟨h1, hg⟩ hl
      · have e : stepF (.list ((rng 0 N).map fun i => (q i).f_v)) (stA i) = (.nil, 42) := by rw [step_li, List.getElem?_eq_none (by simp [rng]; omega)]
        rw [e] at hg; simp at hg
structure MD (w : List Stp) (b o t s : Side) (E : List Conf) : Prop where
  r : ∀ cs : List Conf, cs.length + E.length ≤ 1073741824 → p_merge_merger_put (mM cs) w b o t = some (s, mM (cs ++ E))
  n : (E.length : Int) ≤ W b + W o + W t
  h : o.f_has = true → t.f_has = true → s.f_has = true
  m : Made s o t
theorem made : ∀ (N : Nat) (w : List Stp) (b o t : Side), SOk b → SOk o → SOk t → (b.f_has = true → cnt b.f_v ≤ N) → w.length + N ≤ 1000000 → ∃ s E, MD w b o t s E := by
  intro N
  induction N with
  | zero =>
    intro w b o t hb ho ht hN hw
    have hWs : (0 : Int) ≤ W b + W o + W t := by have := W_pos b; have := W_pos o; have := W_pos t; omega
    cases h : b.f_has with
    | true => have := cnt_pos b.f_v; have := hN h; omega
    | false =>
      cases h1 : oneF o t with
      | true => exact ⟨o, [], fun cs _ => by rw [List.append_nil]; exact put_ours (.inl h1), by simpa using hWs, fun a1 _ => a1, made_o rfl⟩
      | false =>
        cases h2 : oneF t b with
        | true => exact ⟨o, [], fun cs _ => by rw [List.append_nil]; exact put_ours (.inr h2), by simpa using hWs, fun a1 _ => a1, made_o rfl⟩
        | false =>
          cases h3 : oneF o b with
          | true => exact ⟨t, [], fun cs _ => by rw [List.append_nil]; exact put_theirs h1 h2 h3, by simpa using hWs, fun _ a2 => a2, made_t rfl⟩
          | false => exact ⟨o, [conf w b o t], fun cs hc => put_conf (by omega) (by simp at hc; omega) h1 h2 h3 (by rw [h]; simp), by have := conf_W (b := b) h1; simpa using this, fun a1 _ => a1, made_o rfl⟩
  | succ N ih =>
    intro w b o t hb ho ht hN hw
    have hWs : (0 : Int) ≤ W b + W o + W t := by have := W_pos b; have := W_pos o; have := W_pos t; omega
    cases h1 : oneF o t with
    | true => exact ⟨o, [], fun cs _ => by rw [List.append_nil]; exact put_ours (.inl h1), by simpa using hWs, fun a1 _ => a1, made_o rfl⟩
    | false =>
      cases h2 : oneF t b with
      | true => exact ⟨o, [], fun cs _ => by rw [List.append_nil]; exact put_ours (.inr h2), by simpa using hWs, fun a1 _ => a1, made_o rfl⟩
      | false =>
        cases h3 : oneF o b with
        | true => exact ⟨t, [], fun cs _ => by rw [List.append_nil]; exact put_theirs h1 h2 h3, by simpa using hWs, fun _ a2 => a2, made_t rfl⟩
        | false =>
          have hwl : w.length ≤ 1073741824 := by omega
          by_cases hall : b.f_has = true ∧ o.f_has = true ∧ t.f_has = true
          · obtain ⟨eb, eo, et⟩ := hall
            have kb := hb eb
            have ko := ho eo
            have kt := ht et
            have kN := hN eb
            rw [has_eta eb, has_eta eo, has_eta et]
            rw [has_eta eo, has_eta et] at h1
            rw [has_eta et, has_eta eb] at h2
            rw [has_eta eo, has_eta eb] at h3
            generalize b.f_v = bv at *
            generalize o.f_v = ov at *
            generalize t.f_v = tv at *
            clear hb ho ht hN hWs eb eo et
            by_cases hF : ∃ x y z c k, fldF bv = some (x, c, k) ∧ fldF ov = some (y, c, k) ∧ fldF tv = some (z, c, k)
            · obtain ⟨x, y, z, c, k, fx, fy, fz⟩ := hF
              have hall : ∀ n, ∃ q : Side × List Conf, MD (w ++ [stN n]) (undF x n) (undF y n) (undF z n) q.1 q.2 := fun n => by
                have ux := und_ok kb fx n
                obtain ⟨s, E, h⟩ := ih (w ++ [stN n]) (undF x n) (undF y n) (undF z n) ux.1 (und_ok ko fy n).1 (und_ok kt fz n).1 (fun hh => by have := ux.2 hh; omega) (by simp; omega)
                exact ⟨(s, E), h⟩
              obtain ⟨q, hq⟩ := Classical.skolem.1 hall
              have lx := fld_len kb fx
              have ly := fld_len ko fy
              have lz := fld_len kt fz
              have hnd := lt_nodup (names_lt (x.map (·.1) ++ y.map (·.1) ++ z.map (·.1)))
              generalize hLL : namesL (x.map (·.1) ++ y.map (·.1) ++ z.map (·.1)) = L at *
              have hsum : ((L.flatMap fun n => (q n).2).length : Int) ≤ W (mS bv true) + W (mS ov true) + W (mS tv true) := by
                have a := sum_flat (fun n => (q n).2) (fun n => W (undF x n) + W (undF y n) + W (undF z n)) L (fun n _ => (hq n).n)
                rw [sum_add3] at a
                have a1 := sum_und x L hnd
                have a2 := sum_und y L hnd
                have a3 := sum_und z L hnd
                rw [W_t, W_t, W_t, fld_cnt fx, fld_cnt fy, fld_cnt fz]
                omega
              refine ⟨mS (mkF c k (gotN (fun n => (q n).1) L)) true, L.flatMap fun n => (q n).2, fun cs hcs => ?_, hsum, fun _ _ => rfl, made_f fy fz (fun n => (hq n).m)⟩
              have hf := yes_fields (b := bv) (o := ov) (t := tv) fx fy fz lx ly lz (s := fun n => (q n).1) (E := fun n => (q n).2) hwl (fun n _ cs h => (hq n).r cs h) (cs := cs) (by rw [hLL]; exact hcs)
              rw [hLL] at hf
              rw [put_deep h1 h2 h3]; exact deep_f hf
            · have nf : ∀ cs, p_merge_merger_fields (mM cs) w bv ov tv = some (mS .nil false, false, mM cs) := fun cs => no_fields (can_not_nothing kb) (can_not_nothing ko) (can_not_nothing kt) hF
              by_cases hA : ∃ x y z, lstF bv = some x ∧ lstF ov = some y ∧ lstF tv = some z ∧ x.length = y.length ∧ x.length = z.length
              · obtain ⟨x, y, z, fx, fy, fz, ly, lz⟩ := hA
                have eb : bv = .list x := by cases bv <;> first | (cases fx; rfl) | cases fx
                have eo : ov = .list y := by cases ov <;> first | (cases fy; rfl) | cases fy
                have et : tv = .list z := by cases tv <;> first | (cases fz; rfl) | cases fz
                subst eb; subst eo; subst et
                have lx := near_list kb.1.own
                have hall : ∀ i, ∃ q : Side × List Conf, i < x.length → MD (w ++ [stA i]) (mS (x.getD i .nil) true) (mS (y.getD i .nil) true) (mS (z.getD i .nil) true) q.1 q.2 := fun i => by
                  by_cases hi : i < x.length
                  · have gx : x[i]? = some (x.getD i .nil) := by rw [List.getD_eq_getElem?_getD, List.getElem?_eq_getElem hi]; rfl
                    have gy : y[i]? = some (y.getD i .nil) := by rw [List.getD_eq_getElem?_getD, List.getElem?_eq_getElem (by omega)]; rfl
                    have gz : z[i]? = some (z.getD i .nil) := by rw [List.getD_eq_getElem?_getD, List.getElem?_eq_getElem (by omega)]; rfl
                    have m1 := zcnt_mem (list_parts gx)
                    have c1 := cnt_eq (.list x)
                    obtain ⟨s, E, h⟩ := ih (w ++ [stA i]) (mS (x.getD i .nil) true) (mS (y.getD i .nil) true) (mS (z.getD i .nil) true) (sok (zcan_part kb (list_parts gx)) _) (sok (zcan_part ko (list_parts gy)) _) (sok (zcan_part kt (list_parts gz)) _) (fun _ => by show cnt (x.getD i .nil) ≤ _; omega) (by simp; omega)
                    exact ⟨(s, E), fun _ => h⟩
                  · exact ⟨(mS .nil false, []), fun h => absurd h hi⟩
                obtain ⟨q, hq⟩ := Classical.skolem.1 hall
                have hmem : ∀ i, i ∈ rng 0 x.length → i < x.length := fun i hi => by
                  have := List.mem_range'_1.1 hi; omega
                have hget : ∀ {l : List V} {i : Nat} {p : V}, l[i]? = some p → l.getD i .nil = p := fun h => by rw [List.getD_eq_getElem?_getD, h]; rfl
                have hsum : (((rng 0 x.length).flatMap fun i => (q i).2).length : Int) ≤ W (mS (.list x) true) + W (mS (.list y) true) + W (mS (.list z) true) := by
                  have a := sum_flat (fun i => (q i).2) (fun i => cnt (x.getD i .nil) + cnt (y.getD i .nil) + cnt (z.getD i .nil)) (rng 0 x.length) (fun i hi => by
                    have := (hq i (hmem i hi)).n
                    rw [W_t, W_t, W_t] at this; exact this)
                  rw [sum_add3, sum_rng x] at a
                  have a2 := sum_rng y
                  have a3 := sum_rng z
                  rw [← ly] at a2; rw [← lz] at a3
                  rw [a2, a3] at a
                  rw [W_t, W_t, W_t]
                  simp only [cnt]
                  omega
                refine ⟨mS (.list ((rng 0 x.length).map fun i => (q i).1.f_v)) true, (rng 0 x.length).flatMap fun i => (q i).2, fun cs hcs => ?_, hsum, fun _ _ => rfl, made_l (q := fun i => (q i).1) ly.symm lz.symm (fun i hi => ⟨(hq i hi).h rfl rfl, (hq i hi).m⟩)⟩
                rw [put_deep h1 h2 h3]
                exact deep_l (nf cs) (yes_list (s := fun i => (q i).1) (E := fun i => (q i).2) hwl ly lz (fun i p q' r hi e1 e2 e3 cs h => by
                  have := (hq i hi).r cs h
                  rw [hget e1, hget e2, hget e3] at this; exact this) (by omega) hcs)
              · refine ⟨mS ov true, [conf w (mS bv true) (mS ov true) (mS tv true)], fun cs hc => ?_, by have := conf_W (b := mS bv true) h1; simpa using this, fun _ _ => rfl, made_o rfl⟩
                rw [put_deep h1 h2 h3]; exact deep_c hwl (by simp at hc; omega) (nf cs) (no_list hA)
          · exact ⟨o, [conf w b o t], fun cs hc => put_conf hwl (by simp at hc; omega) h1 h2 h3 hall, by have := conf_W (b := b) h1; simpa using this, fun a1 _ => a1, made_o rfl⟩
end Go.Proofs.Ytkmhecgagibgjaa

namespace Go.Proofs.Ytkmhecgagibgjaa
open Go Aw
set_option linter.unusedVariables false
set_option linter.unusedSimpArgs false
set_option maxRecDepth 8000
def Hit (y z : V) (w : List Stp) (x : V) : Prop := getF y w = (x, 0) ∨ getF z w = (x, 0)
theorem vis_ok {y z p : V} {w : List Stp} (hy : Can y) (hz : Can z) (hp : Can p) (hw : ∀ s, s ∈ w → Norm s) (h : Leaf p → Hit y z w p) : p_law24_MergeMade_1 w p y z true = some (0, true) := by
  unfold p_law24_MergeMade_1
  have go : Leaf p → (bif (bif p.isList then true else (bif p.isDict then true else p.isRec)) then some ((0 : Int), true) else Option.bind (p_path_Get y w) fun x2 =>
      Option.bind (p_path_Get z w) fun x3 =>
      bif true then (bif (x2.2 == 0) then (Option.bind (p_value_Same x2.1 p) fun x7 => bif x7 then law24_MergeMade_1_j1 true else (bif (x3.2 == 0) then (Option.bind (p_value_Same x3.1 p) fun x10 => law24_MergeMade_1_j1 x10) else law24_MergeMade_1_j1 false)) else (bif (x3.2 == 0) then (Option.bind (p_value_Same x3.1 p) fun x12 => law24_MergeMade_1_j1 x12) else law24_MergeMade_1_j1 false)) else law24_MergeMade_1_j1 false) = some (0, true) := by
    intro hl
    rw [hl.1, hl.2.1, hl.2.2]
    simp only [cond_false, cond_true, Get_eq, Option.bind_some, value_Same_eq]
    rcases h hl with h | h
    · rw [Get_norm hy hw h]
      simp only [beq_self_eq_true, cond_true, same_refl hp]; rfl
    · rw [Get_norm hz hw h]
      simp only [beq_self_eq_true, cond_true, same_refl hp]
      cases ((GetF y w).2 == 0) with
      | true => rw [cond_true]; cases sameF (GetF y w).1 p <;> rfl
      | false => rfl
  cases h1 : p.isList with
  | true => rfl
  | false =>
    cases h2 : p.isDict with
    | true => rfl
    | false =>
      cases h3 : p.isRec with
      | true => rfl
      | false =>
        have := go ⟨h1, h2, h3⟩
        rw [h1, h2, h3] at this
        exact this
def All (y z p : V) (w : List Stp) : Prop := ∀ u x, (∀ s, s ∈ u → Norm s) → getF p u = (x, 0) → Leaf x → Hit y z (w ++ u) x
theorem snoc_norm {w : List Stp} {s : Stp} (hw : ∀ s, s ∈ w → Norm s) (hs : Norm s) : ∀ t, t ∈ w ++ [s] → Norm t := fun t ht => by
  rcases List.mem_append.1 ht with h | h
  · exact hw t h
  · simp at h; subst h; exact hs
theorem all_step {y z p q : V} {w : List Stp} {s : Stp} (hs : Norm s) (h : All y z p w) (hq : stepF p s = (q, 0)) : All y z q (w ++ [s]) := fun u x hu hg hl => by
  rw [List.append_assoc, List.singleton_append]
  refine h (s :: u) x (fun t ht => ?_) ?_ hl
  · rcases List.mem_cons.1 ht with rfl | ht
    · exact hs
    · exact hu t ht
  · rw [getF, hq, if_neg (by simp)]; exact hg
theorem walk_ok {y z : V} (hy : Can y) (hz : Can z) (p : V) : ∀ w : List Stp, Can p → (w.length : Int) + dpt p ≤ 100000 → (∀ s, s ∈ w → Norm s) → All y z p w → p_path_walk_law24_MergeMade_1 w p y z true = some (true, 0, true) := by
  induction p using V.byParts with
  | _ p ih =>
  intro w hp hb hw hA
  have hd := cnt_pos p
  have hbw : w.length ≤ 1073741824 := by omega
  rw [e_path_walk_law24_MergeMade_1, b_path_walk_law24_MergeMade_1]
  have hc : p_path_caught_path_walk_1 y z true w p 0 = some (false, true, 0) := by
    unfold p_path_caught_path_walk_1 p_path_walk_1 p_slices_Clone_api_Step_api_Step p_path_shown
    rw [app0 (b := 32) (by omega) hbw]
    simp only [Option.bind_some]
    rw [copy_can hp]
    simp only [Option.bind_some]
    rw [vis_ok hy hz hp hw (fun hl => by have := hA [] p (fun s hs => by cases hs) rfl hl; rwa [List.append_nil] at this)]
    rfl
  rw [hc]
  simp only [Option.bind_some, cond_false, beq_self_eq_true, cond_true]
  -- what lies within
  have kid : ∀ (s : Stp) (q : V), Norm s → stepF p s = (q, 0) → p_path_walk_2 s q w y z true true 0 = some (true, true, true, 0) := by
    intro s q hs hq
    have hm := step_part hq
    have h3 := (zcnt_mem hm).2
    have h4 := dpt_eq p
    rw [e_path_walk_2, b_path_walk_2]
    unfold p_slices_Clip_api_Step_api_Step
    simp only [Option.bind_some]
    rw [app1 (b := 32) (by omega) hbw, Option.bind_some, ih q hm (w ++ [s]) (zcan_part hp hm) (by rw [List.length_append, List.length_singleton]; omega) (snoc_norm hw hs) (all_step hs hA hq)]
    rfl
  have flds : ∀ d : Fds, fdF p = some d → ∀ k i, k + i = d.length → path_parts_path_walk_2_l1 p_path_walk_2 w y z (d, true) i true true 0 = some (true, true, 0) := by
    intro d hf k
    have hn := fields_srt (fd_near hp hf)
    induction k with
    | zero =>
      intro i h
      rw [path_parts_path_walk_2_l1_eq]
      simp only [path_parts_path_walk_2_l1b, lt_f (by omega : ¬ i < d.length), cond_false]
    | succ k ihk =>
      intro i h
      obtain ⟨f, hx, _⟩ := dropc (by omega : i < d.length)
      have hg : fget d f.1 = some f.2 := by
        have nd := zsrt_nodup hn
        have key : ∀ (d : Fds) (f : Str × V), (d.map (·.1)).Nodup → f ∈ d → fget d f.1 = some f.2 := by
          intro d f
          induction d with
          | nil => intro _ h; cases h
          | cons g r ihr =>
            intro hd hm
            rw [List.map_cons, List.nodup_cons] at hd
            rw [fget_cons]
            rcases List.mem_cons.1 hm with rfl | hm
            · rw [if_pos rfl]
            · have hne : ¬ g.1 = f.1 := fun e => hd.1 (by rw [e]; exact List.mem_map.2 ⟨f, hm, rfl⟩)
              rw [if_neg hne]; exact ihr hd.2 hm
        exact key d f nd (List.mem_of_getElem? hx)
      have hk := kid (stN f.1) f.2 (.inl ⟨_, rfl⟩) (by rw [step_nm hf, hg])
      rw [path_parts_path_walk_2_l1_eq]
      simp only [path_parts_path_walk_2_l1b, lt_t (by omega : i < d.length), cond_true, hx, Option.bind_some]
      rw [show (S_api_Step.mk f.1 false 0 : Stp) = stN f.1 from rfl, hk]
      simp only [Option.bind_some, Bool.not_true, cond_false]
      exact ihk (i + 1) (by omega)
  have nof : path_parts_path_walk_2_l1 p_path_walk_2 w y z (([] : Fds), false) 0 true true 0 = some (true, true, 0) := by
    rw [path_parts_path_walk_2_l1_eq]; rfl
  have j1 : path_parts_path_walk_2_j1 p_path_walk_2 p w y z true true 0 = some (true, true, 0) := by
    unfold path_parts_path_walk_2_j1
    rw [fd_eq (can_nn hp)]
    cases hf : fdF p with
    | none => exact nof
    | some d => exact flds d hf d.length 0 (by omega)
  have hparts : p_path_parts_path_walk_2 p w y z true true 0 = some (true, true, 0) := by
    rw [e_path_parts_path_walk_2, b_path_parts_path_walk_2]
    cases hl : p.isList with
    | false => rw [cond_false]; exact j1
    | true =>
      rw [cond_true]
      have e : ∃ l, p = .list l := by cases p <;> first | exact ⟨_, rfl⟩ | cases hl
      obtain ⟨l, rfl⟩ := e
      have loop : ∀ k i, k + i = l.length → path_parts_path_walk_2_l2 p_path_walk_2 (.list l) w y z i true true 0 = some (true, true, 0) := by
        intro k
        induction k with
        | zero =>
          intro i h
          rw [path_parts_path_walk_2_l2_eq]
          simp only [path_parts_path_walk_2_l2b, V.asList, lt_f (by omega : ¬ i < l.length), cond_false]
          exact j1
        | succ k ihk =>
          intro i h
          obtain ⟨q, hx, _⟩ := dropc (by omega : i < l.length)
          have hk := kid (stA i) q (.inr ⟨_, rfl⟩) (by rw [step_li, hx])
          rw [path_parts_path_walk_2_l2_eq]
          simp only [path_parts_path_walk_2_l2b, V.asList, lt_t (by omega : i < l.length), cond_true, hx, Option.bind_some]
          rw [show (S_api_Step.mk [] true ((i : Nat) : Int) : Stp) = stA i from rfl, hk]
          simp only [Option.bind_some, Bool.not_true, cond_false]
          exact ihk (i + 1) (by omega)
      exact loop l.length 0 (by omega)
  rw [hparts]; rfl
theorem made_law (a0 a1 a2 : Term) (h0 : bkT a0 ≤ 268435456) (h1 : bkT a1 ≤ 268435456) (h2 : bkT a2 ≤ 268435456) : p_law24_MergeMade a0 a1 a2 = some true := by
  unfold p_law24_MergeMade
  rw [lives, Option.bind_some, Bool.not_true, cond_false, mk_Built_eq a0 h0, Option.bind_some, mk_Built_eq a1 h1, Option.bind_some, mk_Built_eq a2 h2, Option.bind_some]
  generalize bu a0 = x
  generalize bu a1 = y
  generalize bu a2 = z
  by_cases hc : Can x ∧ Can y ∧ Can z
  · obtain ⟨hx, hy, hz⟩ := hc
    obtain ⟨s, E, T⟩ := made 16384 [] (mS x true) (mS y true) (mS z true) (sok hx _) (sok hy _) (sok hz _) (fun _ => hx.2.1) (by simp)
    have hn := T.n
    have wx : W (mS x true) ≤ 16384 := by rw [W_t]; exact hx.2.1
    have wy : W (mS y true) ≤ 16384 := by rw [W_t]; exact hy.2.1
    have wz : W (mS z true) ≤ 16384 := by rw [W_t]; exact hz.2.1
    have r1 := T.r [] (by simp; omega)
    rw [List.nil_append] at r1
    have hh := T.h rfl rfl
    by_cases hs : Can s.f_v
    · rw [three_ok hx hy hz r1 hs, Option.bind_some]
      simp only
      rw [show ((0 : Int) != 0) = false from rfl, cond_false]
      unfold law24_MergeMade_j1
      cases decide (((E.length : Nat) : Int) > 0) with
      | true => rfl
      | false =>
        rw [cond_false]
        unfold p_path_Walk_law24_MergeMade_1
        rw [value_Check_eq, check_can hs, Option.bind_some]
        simp only
        rw [show ((0 : Int) != 0) = false from rfl, cond_false, walk_ok hy hz s.f_v [] hs (by have := hs.2.2; simp; omega) (fun q hq => by cases hq) (fun u p hu hg hl => by
          rw [List.nil_append]
          rcases T.m u p hu ⟨hh, hg⟩ hl with h | h
          · exact .inl h.2
          · exact .inr h.2)]
        rfl
    · obtain ⟨e, g1, g2⟩ := three_nok hx hy hz r1 hs
      rw [g2, Option.bind_some]
      simp only
      rw [show (e != 0) = true from by simpa using g1, cond_true]
      unfold law24_MergeMade_j1
      rw [cond_true]
      simp only
      rw [show (e == 0) = false from by simpa using g1]; rfl
  · have n1 : ferr [x, y, z] ≠ 0 := fun h => hc ⟨ferr_zero h x (by simp), ferr_zero h y (by simp), ferr_zero h z (by simp)⟩
    rw [three_bad n1, Option.bind_some]
    simp only
    rw [ne_t n1, cond_true]
    unfold law24_MergeMade_j1
    rw [cond_true]
    simp only
    rw [show (ferr [x, y, z] == 0) = false from by simpa using n1]; rfl
theorem plain_MergeMade {p q r : Prop} (a0 a1 a2 : Term) (h : bkT a0 + (bkT a1 + bkT a2) ≤ 1048576) (ok0 : p) (ok1 : q) (ok2 : r) : p_law24_MergeMade a0 a1 a2 = some true := made_law a0 a1 a2 (by omega) (by omega) (by omega)
end Go.Proofs.Ytkmhecgagibgjaa

