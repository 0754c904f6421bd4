/- Structs of the program: as trees. Written by gen.py. -/
import Derived.Test.YtiapdjdhaclmnaaTy
import Derived.Test.YtiapdjdhaclmnaaAwG
import Derived.Test.YtiapdjdhaclmnaaPls
import Derived.Test.YtiapdjdhaclmnaaAwE
import Derived.Test.YtiapdjdhaclmnaaGrow
import Derived.Test.YtiapdjdhaclmnaaSpTy
import Derived.Test.YtiapdjdhaclmnaaAwH
import Derived.KernelRfl
namespace Go.Proofs.Ytiapdjdhaclmnaa
open Go Aw
set_option linter.unusedVariables false
set_option linter.unusedSimpArgs false
set_option maxRecDepth 20000
set_option maxHeartbeats 2000000
theorem zn3 (b : Nat) (w : World) : (callFunc 38 #[.float .f64 b]).run Try.prog w = .ok (.value (.int .u64 (b : Nat))) w := by
 have h1 : Try.prog.funcs[38]? = some Try.f38 := by kernel_rfl
 have h2 : (Extern.findNext Try.f38).isNone = true := by kernel_rfl
 have h3 : Extern.find Try.f38 = some Extern.MathFloatBits.float64bits := by kernel_rfl
 have h4 : (Try.f38.name == "runtime.NumGoroutine") = false := by kernel_rfl
 have h5 : Try.f38.body.isNone = true := by kernel_rfl
 have h2' : Extern.findNext Try.f38 = none := by simpa using h2
 have h4' : ¬ Try.f38.name = "runtime.NumGoroutine" := by simpa using h4
 have h6 : Extern.MathFloatBits.float64bits #[.float .f64 b] = pure (.int .u64 (b : Nat)) := rfl
 have h5' : Try.f38.body = none := by simpa using h5
 simp [callFunc, h1, h2', h3, h4', h5', h6]
theorem zfm {o : Oper} {env : List (Nat × PV)} {H : List AEnt} {n : Nat} {x : Operand} {types : Array TypeId} {b : Nat} (ho : o.op = .call { callee := .value (.func 38), args := #[x], argTypes := types }) (hx : ev env x = some (.v (.float .f64 b))) : Op1 Try.prog o env H n (.v (.int .u64 (b : Nat))) H :=
 z1k fun F g a w hr => ⟨_, vr_v.2 rfl, by
  have h := zn3 b w
  have he : a.eval (.func 38) = .func (.func 38) #[] #[] := rfl
  simp only [execOp, ho]
  simp [resolve, Deferred.ofValue, invoke, he, hr.const hx, h]⟩
structure S_mk_Odd where
 f_L : (List Int)
structure S_ref07_room where
 f_left : Int
def z15 (x : S_ref07_room) : PV := .agg [(PV.v (.int .i64 x.f_left))]
theorem z18 (x : S_ref07_room) : (z15 x).ids = [] := z34 rfl (zfx)
structure S_ref01_seen where
 f_n : Int
 f_deep : Int
 f_at : Int
 f_why : Int
def z1v (x : S_ref01_seen) : PV := .agg [(PV.v (.int .i64 x.f_n)), (PV.v (.int .i64 x.f_deep)), (PV.v (.int .i64 x.f_at)), (PV.v (.int .i64 x.f_why))]
theorem z2h (x : S_ref01_seen) : (z1v x).ids = [] := z34 rfl (z34 rfl (z34 rfl (z34 rfl (zfx))))
structure S_check_room where
 f_left : Int
structure S_value_count where
 f_n : Int
 f_deep : Int
 f_why : Int
structure S_anon153 where
def lkT {α : Type} : List (Nat × α) → Nat → Option α
 | [], _ => none
 | (k, v) :: r, t => bif Nat.beq k t then some v else lkT r t
def Zfd {α : Type} (p : Nat → α → Prop) : List (Nat × α) → Prop
 | [] => True
 | (k, v) :: r => p k v ∧ Zfd p r
theorem zm3 {α : Type} {p : Nat → α → Prop} : ∀ {l : List (Nat × α)} {t : Nat} {v : α}, lkT l t = some v → Zfd p l → p t v
 | [], _, _, h, _ => by cases h
 | (k, u) :: r, t, v, h, ⟨h1, h2⟩ => by
  simp only [lkT] at h
  cases hb : Nat.beq k t with
  | true => rw [hb] at h; simp only [cond_true] at h; injection h with h; subst h; have := Nat.eq_of_beq_eq_true hb; subst this; exact h1
  | false => rw [hb] at h; simp only [cond_false] at h; exact zm3 h h2
def scT : List (Nat × Unit) := [(2, ()), (3, ()), (4, ()), (5, ()), (9, ()), (20, ()), (22, ()), (23, ()), (25, ()), (26, ()), (27, ()), (30, ()), (31, ()), (32, ()), (39, ()), (45, ())]
theorem Z2p {t : Nat} {u : Unit} (h : lkT scT t = some u) : ∃ d, Try.prog.underlying t = some d ∧ zmu d = false := zm3 (p := fun t _ => ∃ d, Try.prog.underlying t = some d ∧ zmu d = false) h ⟨⟨_, Try.underlying2, rfl⟩, ⟨_, Try.underlying3, rfl⟩, ⟨_, Try.underlying4, rfl⟩, ⟨_, Try.underlying5, rfl⟩, ⟨_, Try.underlying9, rfl⟩, ⟨_, Try.underlying20, rfl⟩, ⟨_, Try.underlying22, rfl⟩, ⟨_, Try.underlying23, rfl⟩, ⟨_, Try.underlying25, rfl⟩, ⟨_, Try.underlying26, rfl⟩, ⟨_, Try.underlying27, rfl⟩, ⟨_, Try.underlying30, rfl⟩, ⟨_, Try.underlying31, rfl⟩, ⟨_, Try.underlying32, rfl⟩, ⟨_, Try.underlying39, rfl⟩, ⟨_, Try.underlying45, rfl⟩, trivial⟩
def agT : List (Nat × Nat) := [(29, 11), (34, 18), (43, 2), (79, 1), (98, 4), (101, 12)]
theorem zyi {t k : Nat} (h : lkT agT t = some k) : ∃ d z b, Try.prog.underlying t = some d ∧ zmu d = true ∧ Inf Try.prog t z k b := zm3 (p := fun t k => ∃ d z b, Try.prog.underlying t = some d ∧ zmu d = true ∧ Inf Try.prog t z k b) h ⟨⟨_, _, _, Try.underlying29, rfl, z20⟩, ⟨_, _, _, Try.underlying34, rfl, z0u⟩, ⟨_, _, _, Try.underlying43, rfl, z2z⟩, ⟨_, _, _, Try.underlying79, rfl, z43⟩, ⟨_, _, _, Try.underlying98, rfl, zbd⟩, ⟨_, _, _, Try.underlying101, rfl, z24⟩, trivial⟩
def slT : List (Nat × Nat × Nat) := [(23, 5, 1), (26, 29, 11), (27, 101, 12), (30, 34, 18), (31, 9, 1), (32, 4, 1), (37, 20, 1), (45, 43, 2), (151, 30, 1)]
theorem Z72 {t e s : Nat} (h : lkT slT t = some (e, s)) : ∃ z b, Try.prog.underlying t = some (.slice e) ∧ Inf Try.prog e z s b := zm3 (p := fun t (v : Nat × Nat) => ∃ z b, Try.prog.underlying t = some (.slice v.1) ∧ Inf Try.prog v.1 z v.2 b) h ⟨⟨_, _, Try.underlying23, inf_5⟩, ⟨_, _, Try.underlying26, z20⟩, ⟨_, _, Try.underlying27, z24⟩, ⟨_, _, Try.underlying30, z0u⟩, ⟨_, _, Try.underlying31, inf_9⟩, ⟨_, _, Try.underlying32, inf_4⟩, ⟨_, _, Try.underlying37, zbe⟩, ⟨_, _, Try.underlying45, z2z⟩, ⟨_, _, Try.underlying151, zfv⟩, trivial⟩
def stT : List (Nat × List (Nat × Nat)) := [(29, [(0, 1), (1, 1), (2, 1), (3, 1), (4, 1), (5, 1), (6, 1), (7, 1), (8, 1), (9, 1), (10, 1)]), (34, [(0, 1), (1, 1), (2, 11), (13, 1), (14, 1), (15, 1), (16, 1), (17, 1)]), (43, [(0, 1), (1, 1)]), (72, [(0, 1), (1, 1), (2, 1)]), (79, [(0, 1)]), (98, [(0, 1), (1, 1), (2, 1), (3, 1)]), (101, [(0, 1), (1, 11)]), (105, [(0, 1)]), (119, [(0, 1)]), (148, [(0, 1), (1, 1), (2, 1)]), (153, [])]
theorem Z2l {t : Nat} {pl : List (Nat × Nat)} (h : lkT stT t = some pl) : ∃ fs, IsStruct Try.prog t fs pl := zm3 (p := fun t pl => ∃ fs, IsStruct Try.prog t fs pl) h ⟨⟨_, zmy⟩, ⟨_, z5e⟩, ⟨_, Z4d⟩, ⟨_, zsx⟩, ⟨_, Z6z⟩, ⟨_, Z6y⟩, ⟨_, zsy⟩, ⟨_, Z71⟩, ⟨_, Z2k⟩, ⟨_, Z70⟩, ⟨_, Z2j⟩, trivial⟩
section
variable {H : List AEnt} {env : List (Nat × PV)} {n : Nat} {o : Oper}
theorem qfa {t i k s j off : Nat} {x : Operand} {pl : List (Nat × Nat)} (ho : o.op = .fieldAddr t x i) (hl : lkT stT t = some pl) (hk : pl[i]? = some (k, s)) (hx : ev env x = some (.rf j off)) : Op1 Try.prog o env H n (.rf j (off + k)) H := let ⟨_, h⟩ := Z2l hl; Z52 h hk ho hx
theorem qfp {t i k s e off : Nat} {x : Operand} {q : PV} {pl : List (Nat × Nat)} (ho : o.op = .fieldAddr t x i) (hl : lkT stT t = some pl) (hk : pl[i]? = some (k, s)) (hx : ev env x = some (.pt e q off)) : Op1 Try.prog o env H n (.pt e q (off + k)) H := let ⟨_, h⟩ := Z2l hl; zjf h hk ho hx
theorem qld {t ty i off : Nat} {x : Operand} {u : Unit} {cs : List PV} {y : PV} (ho : o.op = .load t x) (hs : lkT scT t = some u) (hx : ev env x = some (.rf i off)) (hi : H[i]? = some (.box ty cs)) (hy : cs[off]? = some y) : Op1 Try.prog o env H n y H := let ⟨_, h1, h2⟩ := Z2p hs; Z51 h1 h2 ho hx hi hy
theorem qla {t ty i off k : Nat} {x : Operand} {cs ds : List PV} (ho : o.op = .load t x) (hs : lkT agT t = some k) (hx : ev env x = some (.rf i off)) (hi : H[i]? = some (.box ty cs)) (hcs : (cs.drop off).take k = ds) (hk : ds.length = k) : Op1 Try.prog o env H n (.agg ds) H := let ⟨_, _, _, h1, h2, h3⟩ := zyi hs; z4u h3 h1 h2 ho hx hi hcs hk
theorem qlp {t e off : Nat} {x : Operand} {u : Unit} {q y : PV} (ho : o.op = .load t x) (hs : lkT scT t = some u) (hx : ev env x = some (.pt e q off)) (hy : q.cells[off]? = some y) : Op1 Try.prog o env H n y H := let ⟨_, h1, h2⟩ := Z2p hs; z7y h1 h2 ho hx hy
theorem qlw {t e k : Nat} {x : Operand} {q : PV} {cs : List PV} (ho : o.op = .load t x) (hs : lkT agT t = some k) (hx : ev env x = some (.pt e q 0)) (hcs : q = .agg cs) (hk : cs.length = k) : Op1 Try.prog o env H n q H := let ⟨_, _, _, h1, h2, h3⟩ := zyi hs; zb0 h3 h1 h2 ho hx hcs hk
theorem qlq {t e off k : Nat} {x : Operand} {q : PV} {cs : List PV} (ho : o.op = .load t x) (hs : lkT agT t = some k) (hx : ev env x = some (.pt e q off)) (hcs : (q.cells.drop off).take k = cs) (hk : cs.length = k) : Op1 Try.prog o env H n (.agg cs) H := let ⟨_, _, _, h1, h2, h3⟩ := zyi hs; zps h3 h1 h2 ho hx hcs hk
theorem qln {α : Type} {f : α → PV} {t e sz s : Nat} {x : Operand} {tk : Option Nat} {l : List α} (ho : o.op = .call { callee := .builtin .len, args := #[x], argTypes := #[t] }) (ht : lkT slT t = some (e, s)) (hx : ev env x = some (.sl tk e sz (l.map f))) : Op1 Try.prog o env H n (.v (.int .i64 l.length)) H := let ⟨_, _, h, _⟩ := Z72 ht; z4i h ho hx
end
section
variable {H : List AEnt} {env : List (Nat × PV)} {n : Nat} {o : Oper} {H0 : List AEnt} {K : AExit → ASt → Prop} {ops : Array Oper} {rest : List Oper} {x : PV} {H' : List AEnt} {d j t : Nat} {want b : Bool} {v : Value}
theorem sX (h : AO Try.prog ops rest ⟨(d, x) :: env, H', n⟩ K) (h1 : Op1 Try.prog o env H n x H' := by first | exact z77 rfl rfl | exact zaz rfl rfl | exact qfa rfl rfl rfl rfl | exact qld rfl rfl rfl rfl rfl | exact z3w rfl rfl rfl | exact z8r rfl rfl rfl | exact z8q rfl rfl rfl | exact qla rfl rfl rfl rfl rfl rfl | exact zfn rfl rfl rfl rfl | exact qln rfl rfl rfl | exact qlp rfl rfl rfl rfl | exact zfl rfl rfl | exact zb3 rfl rfl rfl | exact qfp rfl rfl rfl rfl | exact qlw rfl rfl rfl rfl rfl | exact qlq rfl rfl rfl rfl rfl | exact zni rfl rfl rfl) (hg : o.guard = none := by exact rfl) (hd : o.dst = some d := by exact rfl) (hn : Nat.blt d n = true := by exact rfl) : AO Try.prog ops (o :: rest) ⟨env, H, n⟩ K := sS hg hd hn h1 h
theorem eX {c : Code} {K' : AExit → ASt → Prop} (h : BW Try.prog H0 c ⟨(d, x) :: env, H', n⟩ K') (h1 : Op1 Try.prog o env H n x H' := by first | exact z77 rfl rfl | exact zaz rfl rfl | exact qfa rfl rfl rfl rfl | exact qld rfl rfl rfl rfl rfl | exact z3w rfl rfl rfl | exact z8r rfl rfl rfl | exact z8q rfl rfl rfl | exact qla rfl rfl rfl rfl rfl rfl | exact zfn rfl rfl rfl rfl | exact qln rfl rfl rfl | exact qlp rfl rfl rfl rfl | exact zfl rfl rfl | exact zb3 rfl rfl rfl | exact qfp rfl rfl rfl rfl | exact qlw rfl rfl rfl rfl rfl | exact qlq rfl rfl rfl rfl rfl | exact zni rfl rfl rfl) (hg : o.guard = none := by exact rfl) (hd : o.dst = some d := by exact rfl) (hn : Nat.blt d n = true := by exact rfl) (hK : K .normal ⟨(d, x) :: env, H', n⟩ = BW Try.prog H0 c ⟨(d, x) :: env, H', n⟩ K' := by exact rfl) : AO Try.prog ops [o] ⟨env, H, n⟩ K := sS hg hd hn h1 (z06 (hK ▸ h))
theorem yX (h : AO Try.prog ops rest ⟨(d, x) :: env, H', n⟩ K) (h1 : Op1 Try.prog o env H n x H' := by first | exact z77 rfl rfl | exact zaz rfl rfl | exact qfa rfl rfl rfl rfl | exact qld rfl rfl rfl rfl rfl | exact z3w rfl rfl rfl | exact z8r rfl rfl rfl | exact z8q rfl rfl rfl | exact qla rfl rfl rfl rfl rfl rfl | exact zfn rfl rfl rfl rfl | exact qln rfl rfl rfl | exact qlp rfl rfl rfl rfl | exact zfl rfl rfl | exact zb3 rfl rfl rfl | exact qfp rfl rfl rfl rfl | exact qlw rfl rfl rfl rfl rfl | exact qlq rfl rfl rfl rfl rfl | exact zni rfl rfl rfl) (hg : o.guard = some (j, want) := by exact rfl) (ht : (ops[j]?).bind (·.dst) = some t := by exact rfl) (hb : get env t = some (.v (.bool b)) := by exact rfl) (hw : (b == want) = true := by exact rfl) (hd : o.dst = some d := by exact rfl) (hn : Nat.blt d n = true := by exact rfl) : AO Try.prog ops (o :: rest) ⟨env, H, n⟩ K := z1g hg ht hb hw hd hn h1 h
theorem nX (h : AO Try.prog ops rest ⟨(d, .v undef) :: env, H, n⟩ K) (hg : o.guard = some (j, want) := by exact rfl) (ht : (ops[j]?).bind (·.dst) = some t := by exact rfl) (hb : get env t = some (.v v) := by exact rfl) (hw : noW v want = true := by exact rfl) (hd : o.dst = some d := by exact rfl) (hn : Nat.blt d n = true := by exact rfl) : AO Try.prog ops (o :: rest) ⟨env, H, n⟩ K := Zdw hg ht hb hw hd hn h
end
section
variable {H : List AEnt} {env : List (Nat × PV)} {n : Nat} {o : Oper} {ops : Array Oper} {ls I : List Nat} {H0 : List AEnt} {K : AExit → ASt → Prop} {k : Nat} {r : List Oper} {x : PV} {d j t : Nat} {want b : Bool} {v : Value}
theorem gX (h : AC Try.prog ops ls I H0 n K (k + 1) r ((d, x) :: env) H) (hl : ls.contains k = false := by exact rfl) (hg : o.guard = none := by exact rfl) (hd : o.dst = some d := by exact rfl) (hn : Nat.blt d n = true := by exact rfl) (h1 : ∀ H, Pins I H0 H → Op1 Try.prog o (z5f (o.looksAt ops) env) H n x H := by first | exact fun _ hp => z77 rfl rfl | exact fun _ hp => zaz rfl rfl | exact fun _ hp => qfa rfl rfl rfl rfl | exact fun _ hp => qld rfl rfl rfl (hp.at rfl rfl) rfl | exact fun _ hp => z3w rfl rfl rfl | exact fun _ hp => z8r rfl rfl rfl | exact fun _ hp => z8q rfl rfl rfl | exact fun _ hp => qla rfl rfl rfl (hp.at rfl rfl) rfl rfl | exact fun _ hp => zfn rfl rfl rfl rfl | exact fun _ hp => qln rfl rfl rfl | exact fun _ hp => qlp rfl rfl rfl rfl | exact fun _ hp => zfl rfl rfl | exact fun _ hp => zb3 rfl rfl rfl | exact fun _ hp => qfp rfl rfl rfl rfl | exact fun _ hp => qlw rfl rfl rfl rfl rfl | exact fun _ hp => qlq rfl rfl rfl rfl rfl) : AC Try.prog ops ls I H0 n K k (o :: r) env H := z1h hl hg hd hn h1 h
theorem wX (h : AC Try.prog ops ls I H0 n K (k + 1) r ((d, x) :: env) H) (hl : ls.contains k = false := by exact rfl) (hg : o.guard = some (j, want) := by exact rfl) (ht : (ops[j]?).bind (·.dst) = some t := by exact rfl) (hb : get env t = some (.v (.bool b)) := by exact rfl) (hw : (b == want) = true := by exact rfl) (hd : o.dst = some d := by exact rfl) (hn : Nat.blt d n = true := by exact rfl) (h1 : ∀ H, Pins I H0 H → Op1 Try.prog o (z5f (o.looksAt ops) env) H n x H := by first | exact fun _ hp => z77 rfl rfl | exact fun _ hp => zaz rfl rfl | exact fun _ hp => qfa rfl rfl rfl rfl | exact fun _ hp => qld rfl rfl rfl (hp.at rfl rfl) rfl | exact fun _ hp => z3w rfl rfl rfl | exact fun _ hp => z8r rfl rfl rfl | exact fun _ hp => z8q rfl rfl rfl | exact fun _ hp => qla rfl rfl rfl (hp.at rfl rfl) rfl rfl | exact fun _ hp => zfn rfl rfl rfl rfl | exact fun _ hp => qln rfl rfl rfl | exact fun _ hp => qlp rfl rfl rfl rfl | exact fun _ hp => zfl rfl rfl | exact fun _ hp => zb3 rfl rfl rfl | exact fun _ hp => qfp rfl rfl rfl rfl | exact fun _ hp => qlw rfl rfl rfl rfl rfl | exact fun _ hp => qlq rfl rfl rfl rfl rfl) : AC Try.prog ops ls I H0 n K k (o :: r) env H := z2l hl hg ht hb hw hd hn h1 h
theorem mX (h : AC Try.prog ops ls I H0 n K (k + 1) r ((d, .v undef) :: env) H) (hl : ls.contains k = false := by exact rfl) (hg : o.guard = some (j, want) := by exact rfl) (ht : (ops[j]?).bind (·.dst) = some t := by exact rfl) (hb : get env t = some (.v v) := by exact rfl) (hw : noW v want = true := by exact rfl) (hd : o.dst = some d := by exact rfl) (hn : Nat.blt d n = true := by exact rfl) : AC Try.prog ops ls I H0 n K k (o :: r) env H := Zdx hl hg ht hb hw hd hn h
end
theorem eI {α : Type} {a b : α} (h : some a = some b) : a = b := Option.some.inj h
theorem eK {H : List AEnt} {a : Option (List PV)} {l : List PV} {R : PV → List AEnt → Prop} (h1 : a = some l := by exact rfl) (hy : (zjv l).ids = [] := by repeat (first | exact z0o | refine z03 rfl ?_ | exact rfl)) (hR : R (zjv l) [] := by exact ⟨rfl, rfl⟩) : ∃ xs, a = some xs ∧ EndOk H 0 (zjv xs) R := ⟨l, h1, z1f (Wk.refl _) hy hR⟩
theorem jN {env : List (Nat × PV)} {H : List AEnt} {s : ASt} (hh : HSub H s.H := by repeat (first | exact .nil | refine .cons .same ?_)) (he : Sub env s.env := by repeat (first | exact z1i | refine sC rfl ?_)) : Joins env H s := ⟨hh, he⟩
section
variable {P : Program} {H0 : List AEnt} {s : ASt} {K : AExit → ASt → Prop}
theorem lX {σ ρ : Type} {Φ : (σ → Option ρ) → σ → Option ρ} {r : ρ} {c : Code} (mk : σ → List (Nat × PV)) (mkH : σ → List AEnt) (x0 : σ) (hr0 : z22 Φ x0 = some r) (h0 : Joins (mk x0) (mkH x0) s) (round : ∀ (g : σ → Option ρ) (x : σ), Φ g x = some r → BW P H0 c ⟨mk x, mkH x, s.n⟩ (zzx (fun s' => s'.n = s.n ∧ ∃ x', g x' = some r ∧ Joins (mk x') (mkH x') s') K))
 (hw : ∀ x, WfJ H0.length (mk x) (mkH x) := by intro _; refine ⟨Nat.le_of_ble_eq_true rfl, ?_, ?_⟩ <;> repeat (first | exact trivial | refine ⟨il_rf rfl, ?_⟩ | refine ⟨z00 (z0c (fun _ => rfl) _), ?_⟩ | refine ⟨z00 (z0c z1p _), ?_⟩ | refine ⟨z00 (z0c z19 _), ?_⟩ | refine ⟨z00 (z0c z1m _), ?_⟩ | refine ⟨z00 (z0c ids_V _), ?_⟩ | refine ⟨z00 (z0c z2i _), ?_⟩ | refine ⟨z00 rfl, ?_⟩ | refine ⟨?_, ?_⟩)) : BW P H0 (.loop c) s K := z3c mk mkH x0 hr0 hw h0 round
theorem jX {ι : Type} {x y : Code} (J : ι → Prop) (mk : ι → List (Nat × PV)) (mkH : ι → List AEnt) (hy : ∀ i, J i → BW P H0 y ⟨mk i, mkH i, s.n⟩ K) (hx : BW P H0 x s (zzx (fun s' => s'.n = s.n ∧ ∃ i, J i ∧ Joins (mk i) (mkH i) s') K))
 (hw : ∀ i, WfJ H0.length (mk i) (mkH i) := by intro _; refine ⟨Nat.le_of_ble_eq_true rfl, ?_, ?_⟩ <;> repeat (first | exact trivial | refine ⟨il_rf rfl, ?_⟩ | refine ⟨z00 (z0c (fun _ => rfl) _), ?_⟩ | refine ⟨z00 (z0c z1p _), ?_⟩ | refine ⟨z00 (z0c z19 _), ?_⟩ | refine ⟨z00 (z0c z1m _), ?_⟩ | refine ⟨z00 (z0c ids_V _), ?_⟩ | refine ⟨z00 (z0c z2i _), ?_⟩ | refine ⟨z00 rfl, ?_⟩ | refine ⟨?_, ?_⟩)) : BW P H0 (.seq x y) s K := z37 J mk mkH hw hy hx
theorem cX {α : Type} {b : Bool} {u v z : α} {c : Operand} {x y : Code} (h : (bif b then u else v) = z) (hc : ev s.env c = some (.v (.bool b))) (ht : b = true → u = z → BW P H0 x s K) (hf : b = false → v = z → BW P H0 y s K) : BW P H0 (.cond c x y) s K := zo0 hc (fun q => ht q (z0j q h)) (fun q => hf q (z0k q h))
end
abbrev zjt : List PV := [(I64 0), (BO false), (I64 0), (PV.v (.float .f64 0)), (ofStr []), (PV.v (.slice none 0 0)), (PV.v (.int .u64 0)), (PV.v (.slice none 0 0)), (PV.v (.slice none 0 0)), (ofStr []), (I64 0)]
abbrev z2j (a0 : Term) : List PV := [(I64 a0.kind), (BO a0.bool), (I64 a0.int), (PV.v (.float .f64 a0.float)), (ofStr a0.text), (PV.sl none 5 1 (List.map ofB a0.bytes)), (PV.v (.int .u64 a0.ref)), (PV.sl none 29 11 (List.map z0r a0.list)), (PV.sl none 101 12 (List.map z0f a0.fields)), (ofStr a0.cls), (I64 a0.ver)]
theorem wfC29 {k : Nat} {b1 : _} {b2 : _} {b3 : _} {b4 : _} {b5 : _} {b6 : _} {b7 : _} {b8 : _} {b9 : _} {b10 : _} {b11 : _} : WfL k [(I64 b1), (BO b2), (I64 b3), (PV.v (.float .f64 b4)), (ofStr b5), (PV.sl none 5 1 (List.map ofB b6)), (PV.v (.int .u64 b7)), (PV.sl none 29 11 (List.map z0r b8)), (PV.sl none 101 12 (List.map z0f b9)), (ofStr b10), (I64 b11)] := ⟨(z00 rfl), ⟨(z00 rfl), ⟨(z00 rfl), ⟨(z00 rfl), ⟨(z00 rfl), ⟨(z00 (z0c (fun _ => rfl) _)), ⟨(z00 rfl), ⟨(z00 (z0c z1p _)), ⟨(z00 (z0c z19 _)), ⟨(z00 rfl), ⟨(z00 rfl), trivial⟩⟩⟩⟩⟩⟩⟩⟩⟩⟩⟩
abbrev z5d : List PV := [(I64 0), (I64 0), (I64 0), (BO false), (I64 0), (PV.v (.float .f64 0)), (ofStr []), (PV.v (.slice none 0 0)), (PV.v (.int .u64 0)), (PV.v (.slice none 0 0)), (PV.v (.slice none 0 0)), (ofStr []), (I64 0), (PV.v (.slice none 0 0)), (PV.v (.slice none 0 0)), (PV.v (.slice none 0 0)), (BO false), (ofStr [])]
abbrev z0x (a1 : Typ) : List PV := [(I64 a1.kind), (I64 a1.of), (I64 ((a1.only).kind)), (BO ((a1.only).bool)), (I64 ((a1.only).int)), (PV.v (.float .f64 (a1.only).float)), (ofStr (a1.only).text), (PV.sl none 5 1 (List.map ofB (a1.only).bytes)), (PV.v (.int .u64 (a1.only).ref)), (PV.sl none 29 11 (List.map z0r (a1.only).list)), (PV.sl none 101 12 (List.map z0f (a1.only).fields)), (ofStr (a1.only).cls), (I64 ((a1.only).ver)), (PV.sl none 34 18 (List.map ofTyp a1.parts)), (PV.sl none 9 1 (List.map ofStr a1.names)), (PV.sl none 4 1 (List.map z17 a1.lacks)), (BO a1.opn), (ofStr a1.cls)]
theorem wfC34 {k : Nat} {b1 : _} {b2 : _} {b3 : _} {b4 : _} {b5 : _} {b6 : _} {b7 : _} {b8 : _} {b9 : _} {b10 : _} {b11 : _} {b12 : _} {b13 : _} {b14 : _} {b15 : _} {b16 : _} {b17 : _} {b18 : _} : WfL k [(I64 b1), (I64 b2), (I64 b3), (BO b4), (I64 b5), (PV.v (.float .f64 b6)), (ofStr b7), (PV.sl none 5 1 (List.map ofB b8)), (PV.v (.int .u64 b9)), (PV.sl none 29 11 (List.map z0r b10)), (PV.sl none 101 12 (List.map z0f b11)), (ofStr b12), (I64 b13), (PV.sl none 34 18 (List.map ofTyp b14)), (PV.sl none 9 1 (List.map ofStr b15)), (PV.sl none 4 1 (List.map z17 b16)), (BO b17), (ofStr b18)] := ⟨(z00 rfl), ⟨(z00 rfl), ⟨(z00 rfl), ⟨(z00 rfl), ⟨(z00 rfl), ⟨(z00 rfl), ⟨(z00 rfl), ⟨(z00 (z0c (fun _ => rfl) _)), ⟨(z00 rfl), ⟨(z00 (z0c z1p _)), ⟨(z00 (z0c z19 _)), ⟨(z00 rfl), ⟨(z00 rfl), ⟨(z00 (z0c z1m _)), ⟨(z00 (z0c (fun _ => rfl) _)), ⟨(z00 (z0c (fun _ => rfl) _)), ⟨(z00 rfl), ⟨(z00 rfl), trivial⟩⟩⟩⟩⟩⟩⟩⟩⟩⟩⟩⟩⟩⟩⟩⟩⟩⟩
theorem cBx {P : Program} {H0 : List AEnt} {c : Code} {s : ASt} {K : AExit → ASt → Prop} (h : BW P H0 c s K) : BW P H0 c s K := h
theorem lbE {n m : Nat} (h : Nat.ble n m = true) : n ≤ m := Nat.le_of_ble_eq_true h
abbrev OF {ι : Type} (ρ : ι → Type) := ∀ i, Option (ρ i)
abbrev cc0 (x : Term) : List PV := [(I64 x.kind), (BO x.bool), (I64 x.int), (PV.v (.float .f64 x.float)), (ofStr x.text), (PV.sl none 5 1 (List.map ofB x.bytes)), (PV.v (.int .u64 x.ref)), (PV.sl none 29 11 (List.map z0r x.list)), (PV.sl none 101 12 (List.map z0f x.fields)), (ofStr x.cls), (I64 x.ver)]
abbrev cc1 (x : Typ) : List PV := [(I64 (x.kind)), (I64 (x.of)), (I64 ((x.only).kind)), (BO ((x.only).bool)), (I64 ((x.only).int)), (PV.v (.float .f64 (x.only).float)), (ofStr (x.only).text), (PV.hid 2 (PV.sl none 5 1 (List.map ofB (x.only).bytes))), (PV.v (.int .u64 (x.only).ref)), (PV.hid 2 (PV.sl none 29 11 (List.map z0r (x.only).list))), (PV.hid 2 (PV.sl none 101 12 (List.map z0f (x.only).fields))), (ofStr (x.only).cls), (I64 ((x.only).ver)), (PV.hid 2 (PV.sl none 34 18 (List.map ofTyp x.parts))), (PV.hid 2 (PV.sl none 9 1 (List.map ofStr x.names))), (PV.hid 2 (PV.sl none 4 1 (List.map z17 x.lacks))), (BO (x.opn)), (ofStr x.cls)]
abbrev cc2 (x : Typ) : List PV := [(I64 (x.kind)), (I64 (x.of)), (I64 ((x.only).kind)), (BO ((x.only).bool)), (I64 ((x.only).int)), (PV.v (.float .f64 (x.only).float)), (ofStr (x.only).text), (PV.hid 4 (PV.sl none 5 1 (List.map ofB (x.only).bytes))), (PV.v (.int .u64 (x.only).ref)), (PV.hid 4 (PV.sl none 29 11 (List.map z0r (x.only).list))), (PV.hid 4 (PV.sl none 101 12 (List.map z0f (x.only).fields))), (ofStr (x.only).cls), (I64 ((x.only).ver)), (PV.hid 4 (PV.sl none 34 18 (List.map ofTyp x.parts))), (PV.hid 4 (PV.sl none 9 1 (List.map ofStr x.names))), (PV.hid 4 (PV.sl none 4 1 (List.map z17 x.lacks))), (BO (x.opn)), (ofStr x.cls)]
abbrev cc3 (x : Typ) : List PV := [(I64 x.kind), (I64 x.of), (I64 ((x.only).kind)), (BO ((x.only).bool)), (I64 ((x.only).int)), (PV.v (.float .f64 (x.only).float)), (ofStr (x.only).text), (PV.old (PV.sl none 5 1 (List.map ofB (x.only).bytes))), (PV.v (.int .u64 (x.only).ref)), (PV.old (PV.sl none 29 11 (List.map z0r (x.only).list))), (PV.old (PV.sl none 101 12 (List.map z0f (x.only).fields))), (ofStr (x.only).cls), (I64 ((x.only).ver)), (PV.old (PV.sl none 34 18 (List.map ofTyp x.parts))), (PV.old (PV.sl none 9 1 (List.map ofStr x.names))), (PV.old (PV.sl none 4 1 (List.map z17 x.lacks))), (BO x.opn), (ofStr x.cls)]
abbrev cc4 (x : Typ) : List PV := [(I64 x.kind), (I64 x.of), (I64 ((x.only).kind)), (BO ((x.only).bool)), (I64 ((x.only).int)), (PV.v (.float .f64 (x.only).float)), (ofStr (x.only).text), (PV.sl none 5 1 (List.map ofB (x.only).bytes)), (PV.v (.int .u64 (x.only).ref)), (PV.sl none 29 11 (List.map z0r (x.only).list)), (PV.sl none 101 12 (List.map z0f (x.only).fields)), (ofStr (x.only).cls), (I64 ((x.only).ver)), (PV.sl none 34 18 (List.map ofTyp x.parts)), (PV.sl none 9 1 (List.map ofStr x.names)), (PV.sl none 4 1 (List.map z17 x.lacks)), (BO x.opn), (ofStr x.cls)]
theorem wkr {x : PV} {xs ys : List PV} (h : WkL xs ys) : WkL (x :: xs) (x :: ys) := .cons (Wk.refl _) h
theorem wkn {e sz : Nat} {xs ys : List PV} (h : WkL xs ys) : WkL (.v (.slice none 0 0) :: xs) (.sl none e sz [] :: ys) := .cons Wk.nil h
theorem wko {x : Value} {xs ys : List PV} (h : WkL xs ys) : WkL (.old (.v x) :: xs) (.v x :: ys) := .cons (Wk.oldSc Sc.v) h
end Go.Proofs.Ytiapdjdhaclmnaa
