/- Terms that are read: their bulk, and that they are a program's. -/
import Derived.Test.YtiapdjdhaclmnaaTy
import Derived.Test.YtiapdjdhaclmnaaAwR
namespace Go.Proofs.Ytiapdjdhaclmnaa
open Go Aw Go.ChangeShapes Go.RowKit
set_option linter.unusedVariables false
set_option linter.unusedSimpArgs false
set_option maxRecDepth 8000
mutual
def bkT : Term → Nat
  | .mk _ _ _ _ t y _ l d c _ => t.length + y.length + c.length + ze0 l + bkEs d + 12
def ze0 : List Term → Nat
  | [] => 0
  | x :: r => bkT x + ze0 r
def bkEs : List (Str × Term) → Nat
  | [] => 0
  | (s, x) :: r => s.length + bkT x + 2 + bkEs r
end
def bkE (p : Str × Term) : Nat := p.1.length + bkT p.2 + 2
theorem zta : ∀ l, ze0 l = (l.map bkT).sum
  | [] => by rw [ze0]; rfl
  | x :: r => by rw [ze0, zta r]; rfl
theorem ztb : ∀ l, bkEs l = (l.map bkE).sum
  | [] => by rw [bkEs]; rfl
  | (s, x) :: r => by rw [bkEs, ztb r]; simp [bkE]
mutual
def okT : Term → Prop
  | .mk k _ i f _ _ r l d _ v => inI .i64 k ∧ inI .i64 i ∧ f < 18446744073709551616 ∧ inI .u64 r ∧ Z1c l ∧ Z1d d ∧ inI .i64 v
def Z1c : List Term → Prop
  | [] => True
  | x :: r => okT x ∧ Z1c r
def Z1d : List (Str × Term) → Prop
  | [] => True
  | (s, x) :: r => okT x ∧ Z1d r
end
theorem zrl : ∀ {l : List Term}, (∀ a, a ∈ l → okT a) → Z1c l
  | [], _ => by rw [Z1c]; trivial
  | x :: r, h => by rw [Z1c]; exact ⟨h x (by simp), zrl (fun a ha => h a (by simp [ha]))⟩
theorem zrm : ∀ {l : List (Str × Term)}, (∀ a, a ∈ l → okT a.2) → Z1d l
  | [], _ => by rw [Z1d]; trivial
  | (s, x) :: r, h => by rw [Z1d]; exact ⟨h (s, x) (by simp), zrm (fun a ha => h a (by simp [ha]))⟩
theorem zjf {α : Type} : ∀ (l : List α), (l.map fun _ => 1).sum = l.length
  | [] => rfl
  | x :: r => by have := zjf r; rw [List.map_cons, List.sum_cons, List.length_cons]; omega
section
variable {H : Type} {enc : TypeId × Value → H} {w : World} {base : Nat} {spare : Nat → Bool} {held : Bool} {n : Nat}
theorem RD.congr {α : Type} {f g : α → PV} {bk : α → Nat} {ok : α → Prop} {t : TypeId} (hfg : ∀ a, f a = g a) (h : RD enc Try.prog w base spare held n t f bk ok) : RD enc Try.prog w base spare held n t g bk ok := by
  have : f = g := funext hfg
  subst this; exact h
theorem zu0 (ih : ∀ m, m < n → RD enc Try.prog w base spare held m 29 z1o bkT okT) : RD enc Try.prog w base spare held n 101 zg5 bkE (fun p => okT p.2) := by
  intro cs x h
  obtain ⟨xs, m, rfl, rfl, hl, hlen, hf⟩ := DataW.trod_struct Try.underlying101 h
  match xs, hlen with
  | [x0, x1], _ =>
  obtain ⟨a0, t0, b0, o0⟩ := zgw Try.underlying9 _ _ (hf 0 _ rfl)
  obtain ⟨a1, t1, b1, o1⟩ := ih m (by omega) _ _ (hf 1 _ rfl)
  refine ⟨(a0, a1), zc5 (z2f (z2r t0) (k := 1) rfl (z2f (z2r t1) (k := 11) rfl zc4)) (by rw [hl, Inf.cells z44]; rfl), ?_, o1⟩
  (try dsimp only at b0); (try dsimp only at b1)
  simp only [Rows.uptoBulk, Rows.uptoBulkAll, List.map_cons, List.map_nil, bkE]; omega
theorem zp3 : ∀ (n : Nat), RD enc Try.prog w base spare held n 29 z1o bkT okT := by
  intro n
  induction n using Nat.strongRecOn with
  | _ n ih =>
  intro cs x h
  obtain ⟨xs, m, rfl, rfl, hl, hlen, hf⟩ := DataW.trod_struct Try.underlying29 h
  match xs, hlen with
  | [x0, x1, x2, x3, x4, x5, x6, x7, x8, x9, x10], _ =>
  obtain ⟨a0, t0, b0, o0⟩ := (zei Try.underlying3) _ _ (hf 0 _ rfl)
  obtain ⟨a1, t1, b1, o1⟩ := (zjm Try.underlying4) _ _ (hf 1 _ rfl)
  obtain ⟨a2, t2, b2, o2⟩ := (zei Try.underlying2) _ _ (hf 2 _ rfl)
  obtain ⟨a3, t3, b3, o3⟩ := (ztz Try.underlying22) _ _ (hf 3 _ rfl)
  obtain ⟨a4, t4, b4, o4⟩ := (zgw Try.underlying9) _ _ (hf 4 _ rfl)
  obtain ⟨a5, t5, b5, o5⟩ := (z86 Try.underlying23 (Inf.cells inf_5) rfl (fun _ _ => rd_u8 Try.underlying5)) _ _ (hf 5 _ rfl)
  obtain ⟨a6, t6, b6, o6⟩ := (zei Try.underlying25) _ _ (hf 6 _ rfl)
  obtain ⟨a7, t7, b7, o7⟩ := (z86 Try.underlying26 (Inf.cells z2g) rfl (fun k hk => RD.congr (fun a => (z3w a).symm) (ih k (by omega)))) _ _ (hf 7 _ rfl)
  obtain ⟨a8, t8, b8, o8⟩ := (z86 Try.underlying27 (Inf.cells z44) rfl (fun k hk => RD.congr (fun a => (z3b a).symm) (zu0 (fun j hj => ih j (by omega))))) _ _ (hf 8 _ rfl)
  obtain ⟨a9, t9, b9, o9⟩ := (zgw Try.underlying9) _ _ (hf 9 _ rfl)
  obtain ⟨a10, t10, b10, o10⟩ := (zei Try.underlying3) _ _ (hf 10 _ rfl)
  refine ⟨.mk a0 a1 a2 a3 a4 a5 a6 a7 a8 a9 a10, zc5 (z2f (z2r t0) (k := 1) rfl (z2f (z2r t1) (k := 1) rfl (z2f (z2r t2) (k := 1) rfl (z2f (z2r t3) (k := 1) rfl (z2f (z2r t4) (k := 1) rfl (z2f (z2r t5) (k := 1) rfl (z2f (z2r t6) (k := 1) rfl (z2f (z2r t7) (k := 1) rfl (z2f (z2r t8) (k := 1) rfl (z2f (z2r t9) (k := 1) rfl (z2f (z2r t10) (k := 1) rfl zc4))))))))))) (by rw [hl, Inf.cells z2g]; rfl), ?_, ?_⟩
  · (try dsimp only at b0); (try dsimp only at b1); (try dsimp only at b2); (try dsimp only at b3); (try dsimp only at b4); (try dsimp only at b5); (try dsimp only at b6); (try dsimp only at b7); (try dsimp only at b8); (try dsimp only at b9); (try dsimp only at b10)
    simp only [zjf] at b5
    simp only [Rows.uptoBulk, Rows.uptoBulkAll, List.map_cons, List.map_nil, bkT, zta, ztb]; omega
  · rw [okT]; exact ⟨o0, o2, o3, o6, zrl o7, zrm o8, o10⟩
end
mutual
def bkTy : Typ → Nat
  | .mk _ _ y p n l _ c => bkT y + bkTys p + (n.map (fun s => s.length + 1)).sum + l.length + c.length + 8
def bkTys : List Typ → Nat
  | [] => 0
  | x :: r => bkTy x + bkTys r
end
theorem zms : ∀ l, bkTys l = (l.map bkTy).sum
  | [] => by rw [bkTys]; rfl
  | x :: r => by rw [bkTys, zms r]; rfl
mutual
def zyw : Typ → Prop
  | .mk k o y p _ _ _ _ => inI .i64 k ∧ inI .i64 o ∧ okT y ∧ zrk p
def zrk : List Typ → Prop
  | [] => True
  | x :: r => zyw x ∧ zrk r
end
theorem zlr : ∀ {l : List Typ}, (∀ a, a ∈ l → zyw a) → zrk l
  | [], _ => by rw [zrk]; trivial
  | x :: r, h => by rw [zrk]; exact ⟨h x (by simp), zlr (fun a ha => h a (by simp [ha]))⟩
section
variable {H : Type} {enc : TypeId × Value → H} {w : World} {base : Nat} {spare : Nat → Bool} {held : Bool} {n : Nat}
theorem zp2 : ∀ (n : Nat), RD enc Try.prog w base spare held n 34 z07 bkTy zyw := by
  intro n
  induction n using Nat.strongRecOn with
  | _ n ih =>
  intro cs x h
  obtain ⟨xs, m, rfl, rfl, hl, hlen, hf⟩ := DataW.trod_struct Try.underlying34 h
  match xs, hlen with
  | [x0, x1, x2, x3, x4, x5, x6, x7], _ =>
  obtain ⟨a0, t0, b0, o0⟩ := (zei Try.underlying3) _ _ (hf 0 _ rfl)
  obtain ⟨a1, t1, b1, o1⟩ := (zei Try.underlying3) _ _ (hf 1 _ rfl)
  obtain ⟨a2, t2, b2, o2⟩ := (zp3 _) _ _ (hf 2 _ rfl)
  obtain ⟨a3, t3, b3, o3⟩ := (z86 Try.underlying30 (Inf.cells z0t) rfl (fun k hk => RD.congr (fun a => (z2m a).symm) (ih k (by omega)))) _ _ (hf 3 _ rfl)
  obtain ⟨a4, t4, b4, o4⟩ := (z86 Try.underlying31 (Inf.cells inf_9) rfl (fun _ _ => zgw Try.underlying9)) _ _ (hf 4 _ rfl)
  obtain ⟨a5, t5, b5, o5⟩ := (z86 Try.underlying32 (Inf.cells inf_4) rfl (fun _ _ => zjm Try.underlying4)) _ _ (hf 5 _ rfl)
  obtain ⟨a6, t6, b6, o6⟩ := (zjm Try.underlying4) _ _ (hf 6 _ rfl)
  obtain ⟨a7, t7, b7, o7⟩ := (zgw Try.underlying9) _ _ (hf 7 _ rfl)
  refine ⟨.mk a0 a1 a2 a3 a4 a5 a6 a7, zc5 (z2f (z2r t0) (k := 1) rfl (z2f (z2r t1) (k := 1) rfl (z2f (z2r t2) (k := 11) rfl (z2f (z2r t3) (k := 1) rfl (z2f (z2r t4) (k := 1) rfl (z2f (z2r t5) (k := 1) rfl (z2f (z2r t6) (k := 1) rfl (z2f (z2r t7) (k := 1) rfl zc4)))))))) (by rw [hl, Inf.cells z0t]; rfl), ?_, ?_⟩
  · (try dsimp only at b0); (try dsimp only at b1); (try dsimp only at b2); (try dsimp only at b3); (try dsimp only at b4); (try dsimp only at b5); (try dsimp only at b6); (try dsimp only at b7)
    simp only [zjf] at b5
    simp only [Rows.uptoBulk, Rows.uptoBulkAll, List.map_cons, List.map_nil, bkTy, zms]; omega
  · rw [zyw]; exact ⟨o0, o1, o2, zlr o3⟩
end
theorem own : ownKnob Try.prog.godebug = none := by kernel_rfl
theorem laidOut : laidOutB Try.prog = true := by kernel_rfl
end Go.Proofs.Ytiapdjdhaclmnaa
