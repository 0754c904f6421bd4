/- Terms that are read: their bulk, and that they are a program's. -/
import Derived.Test.YtkmhecgagibgjaaTy
import Derived.Test.YtkmhecgagibgjaaAwR
namespace Go.Proofs.Ytkmhecgagibgjaa
open Go Aw Go.ChangeShapes Go.RowKit
set_option linter.unusedVariables false
set_option linter.unusedSimpArgs false
set_option maxRecDepth 8000
mutual
def bkT : Term → Nat
  | .mk _ _ _ _ t y _ l d c _ => t.length + y.length + c.length + bkTs l + bkEs d + 12
def bkTs : List Term → Nat
  | [] => 0
  | x :: r => bkT x + bkTs r
def bkEs : List (Str × Term) → Nat
  | [] => 0
  | (s, x) :: r => s.length + bkT x + 2 + bkEs r
end
def bkE (p : Str × Term) : Nat := p.1.length + bkT p.2 + 2
theorem bkTs_eq : ∀ l, bkTs l = (l.map bkT).sum
  | [] => by rw [bkTs]; rfl
  | x :: r => by rw [bkTs, bkTs_eq r]; rfl
theorem bkEs_eq : ∀ l, bkEs l = (l.map bkE).sum
  | [] => by rw [bkEs]; rfl
  | (s, x) :: r => by rw [bkEs, bkEs_eq r]; simp [bkE]
mutual
def okT : Term → Prop
  | .mk k _ i f _ _ r l d _ v => inI .i64 k ∧ inI .i64 i ∧ f < 18446744073709551616 ∧ inI .u64 r ∧ okTs l ∧ okEs d ∧ inI .i64 v
def okTs : List Term → Prop
  | [] => True
  | x :: r => okT x ∧ okTs r
def okEs : List (Str × Term) → Prop
  | [] => True
  | (s, x) :: r => okT x ∧ okEs r
end
theorem okTs_of : ∀ {l : List Term}, (∀ a, a ∈ l → okT a) → okTs l
  | [], _ => by rw [okTs]; trivial
  | x :: r, h => by rw [okTs]; exact ⟨h x (by simp), okTs_of (fun a ha => h a (by simp [ha]))⟩
theorem okEs_of : ∀ {l : List (Str × Term)}, (∀ a, a ∈ l → okT a.2) → okEs l
  | [], _ => by rw [okEs]; trivial
  | (s, x) :: r, h => by rw [okEs]; exact ⟨h (s, x) (by simp), okEs_of (fun a ha => h a (by simp [ha]))⟩
theorem sum_one {α : Type} : ∀ (l : List α), (l.map fun _ => 1).sum = l.length
  | [] => rfl
  | x :: r => by have := sum_one r; rw [List.map_cons, List.sum_cons, List.length_cons]; omega
section
variable {H : Type} {enc : TypeId × Value → H} {w : World} {base : Nat} {spare : Nat → Bool} {held : Bool} {n : Nat}
theorem RD.congr {α : Type} {f g : α → PV} {bk : α → Nat} {ok : α → Prop} {t : TypeId} (hfg : ∀ a, f a = g a) (h : RD enc Try.prog w base spare held n t f bk ok) : RD enc Try.prog w base spare held n t g bk ok := by
  have : f = g := funext hfg
  subst this; exact h
theorem rd_Entry (ih : ∀ m, m < n → RD enc Try.prog w base spare held m 29 ofTermX bkT okT) : RD enc Try.prog w base spare held n 71 ofEntryX bkE (fun p => okT p.2) := by
  intro cs x h
  obtain ⟨xs, m, rfl, rfl, hl, hlen, hf⟩ := DataW.trod_struct Try.underlying71 h
  match xs, hlen with
  | [x0, x1], _ =>
  obtain ⟨a0, t0, b0, o0⟩ := rd_str Try.underlying9 _ _ (hf 0 _ rfl)
  obtain ⟨a1, t1, b1, o1⟩ := ih m (by omega) _ _ (hf 1 _ rfl)
  refine ⟨(a0, a1), tv_of_at (tvat_app (tvat_of t0) (k := 1) rfl (tvat_app (tvat_of t1) (k := 11) rfl tvat_nil)) (by rw [hl, Inf.cells inf_71]; rfl), ?_, o1⟩
  (try dsimp only at b0); (try dsimp only at b1)
  simp only [Rows.uptoBulk, Rows.uptoBulkAll, List.map_cons, List.map_nil, bkE]; omega
theorem rd_Term : ∀ (n : Nat), RD enc Try.prog w base spare held n 29 ofTermX bkT okT := by
  intro n
  induction n using Nat.strongRecOn with
  | _ n ih =>
  intro cs x h
  obtain ⟨xs, m, rfl, rfl, hl, hlen, hf⟩ := DataW.trod_struct Try.underlying29 h
  match xs, hlen with
  | [x0, x1, x2, x3, x4, x5, x6, x7, x8, x9, x10], _ =>
  obtain ⟨a0, t0, b0, o0⟩ := (rd_int Try.underlying3) _ _ (hf 0 _ rfl)
  obtain ⟨a1, t1, b1, o1⟩ := (rd_bool Try.underlying4) _ _ (hf 1 _ rfl)
  obtain ⟨a2, t2, b2, o2⟩ := (rd_int Try.underlying2) _ _ (hf 2 _ rfl)
  obtain ⟨a3, t3, b3, o3⟩ := (rd_float Try.underlying22) _ _ (hf 3 _ rfl)
  obtain ⟨a4, t4, b4, o4⟩ := (rd_str Try.underlying9) _ _ (hf 4 _ rfl)
  obtain ⟨a5, t5, b5, o5⟩ := (rd_slice Try.underlying23 (Inf.cells inf_5) rfl (fun _ _ => rd_u8 Try.underlying5)) _ _ (hf 5 _ rfl)
  obtain ⟨a6, t6, b6, o6⟩ := (rd_int Try.underlying25) _ _ (hf 6 _ rfl)
  obtain ⟨a7, t7, b7, o7⟩ := (rd_slice Try.underlying26 (Inf.cells inf_29) rfl (fun k hk => RD.congr (fun a => (ofTerm_eq a).symm) (ih k (by omega)))) _ _ (hf 7 _ rfl)
  obtain ⟨a8, t8, b8, o8⟩ := (rd_slice Try.underlying27 (Inf.cells inf_71) rfl (fun k hk => RD.congr (fun a => (ofEntry_eq a).symm) (rd_Entry (fun j hj => ih j (by omega))))) _ _ (hf 8 _ rfl)
  obtain ⟨a9, t9, b9, o9⟩ := (rd_str Try.underlying9) _ _ (hf 9 _ rfl)
  obtain ⟨a10, t10, b10, o10⟩ := (rd_int Try.underlying3) _ _ (hf 10 _ rfl)
  refine ⟨.mk a0 a1 a2 a3 a4 a5 a6 a7 a8 a9 a10, tv_of_at (tvat_app (tvat_of t0) (k := 1) rfl (tvat_app (tvat_of t1) (k := 1) rfl (tvat_app (tvat_of t2) (k := 1) rfl (tvat_app (tvat_of t3) (k := 1) rfl (tvat_app (tvat_of t4) (k := 1) rfl (tvat_app (tvat_of t5) (k := 1) rfl (tvat_app (tvat_of t6) (k := 1) rfl (tvat_app (tvat_of t7) (k := 1) rfl (tvat_app (tvat_of t8) (k := 1) rfl (tvat_app (tvat_of t9) (k := 1) rfl (tvat_app (tvat_of t10) (k := 1) rfl tvat_nil))))))))))) (by rw [hl, Inf.cells inf_29]; rfl), ?_, ?_⟩
  · (try dsimp only at b0); (try dsimp only at b1); (try dsimp only at b2); (try dsimp only at b3); (try dsimp only at b4); (try dsimp only at b5); (try dsimp only at b6); (try dsimp only at b7); (try dsimp only at b8); (try dsimp only at b9); (try dsimp only at b10)
    simp only [sum_one] at b5
    simp only [Rows.uptoBulk, Rows.uptoBulkAll, List.map_cons, List.map_nil, bkT, bkTs_eq, bkEs_eq]; omega
  · rw [okT]; exact ⟨o0, o2, o3, o6, okTs_of o7, okEs_of o8, o10⟩
end
theorem own : ownKnob Try.prog.godebug = none := by kernel_rfl
theorem laidOut : laidOutB Try.prog = true := by kernel_rfl
end Go.Proofs.Ytkmhecgagibgjaa
