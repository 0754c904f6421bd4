/- Aw: functions that defer a closure, which may take a panic back. -/
import Derived.Test.YtkmhecgagibgjaaAwP
import Derived.Recover
namespace Go.Proofs.Ytkmhecgagibgjaa.Aw
open Go
set_option linter.unusedVariables false
set_option linter.unusedSimpArgs false
variable {P : Program} {H : List AEnt} {env : List (Nat × PV)} {n : Nat} {o : Oper} {σ : List Nat}
inductive DMode where
  | ret
  | pan (p : PV)
def ModeR (C : Ctx) : DMode → FrameMode → Prop
  | .ret, .returning => True
  | .pan p, .panicking ch => ∃ v, ch = [{ v := v, recovered := false }] ∧ VR C p v
  | _, _ => False
def DMode.told : DMode → PV
  | .ret => .v .nilIface
  | .pan p => p
def DCalls (P : Program) (f : FuncId) (args : List PV) (Hp : List AEnt) (u : DMode) (Q : List AEnt → Prop) : Prop :=
  ∀ F g vargs w u0, RelH P F Hp g w → VRs (ctx P F Hp g w) args vargs → ModeR (ctx P F Hp g w) u u0 → CallsD P f vargs u0 w fun e u' w' =>
    ∃ v H' g', e = .returned v ∧ settle u' = .returning ∧ RelH P F H' g' w' ∧ Ext P F Hp g w H' g' w' ∧ Q H'
def DefOk (C : Ctx) : List (FuncId × List PV) → List Deferred → Prop
  | [], [] => True
  | (f, cap) :: r, d :: ds => (∃ us, d = { target := .fn (.func f) us, args := #[] } ∧ VRs C cap us) ∧ DefOk C r ds
  | _, _ => False
theorem VRs.mono {C C' : Ctx} (h : C.Le C') {xs : List PV} {us : Array Value} (hv : VRs C xs us) : VRs C' xs us := ⟨hv.1, fun i x hx => let ⟨u, h1, h2⟩ := hv.2 i x hx; ⟨u, h1, h2.mono h⟩⟩
theorem DefOk.mono {C C' : Ctx} (h : C.Le C') : ∀ {ds : List (FuncId × List PV)} {dv : List Deferred}, DefOk C ds dv → DefOk C' ds dv
  | [], [], _ => trivial
  | (_, _) :: _, _ :: _, ⟨⟨us, h1, h2⟩, h3⟩ => ⟨⟨us, h1, h2.mono h⟩, DefOk.mono h h3⟩
  | [], _ :: _, h => h.elim
  | (_, _) :: _, [], h => h.elim
def Fin (P : Program) (F : Lo) (H0 : List AEnt) (g0 : List (Option Nat)) (w0 : World) (R : ARes → List AEnt → Prop) : Ending → World → Prop := fun e w' =>
  ∃ r H' g', EndR (ctx P F H' g' w') r e ∧ RelH P F H' g' w' ∧ Ext P F H0 g0 w0 H' g' w' ∧ R r H'
def DW (P : Program) (fn : Func) (H0 : List AEnt) (R : ARes → List AEnt → Prop) (c : Code) (s : ASt) (ds : List (FuncId × List PV)) : Prop :=
  ∀ (F : Fr) g a w g0 w0, RelH P F H0 g0 w0 → Rel P F s a w g → Ext P F H0 g0 w0 s.H g w → DefOk (ctx P F s.H g w) ds F.ds → c.wp P (bodyPostD P fn (Fin P F H0 g0 w0 R)) a w
theorem acalls_of_dw {f : FuncId} {fn : Func} {c : Code} {args : List PV} {Hp : List AEnt} {R : ARes → List AEnt → Prop} {N : Nat}
    (hf : P.funcs[f]? = some fn) (hb : fn.body = some c) (hN : fn.ntmps = N) (hlen : Nat.ble args.length N = true) (h : DW P fn Hp R c ⟨paramsE 0 args, Hp, N⟩ []) : ACalls P f args Hp R := by
  intro F g vargs w hrel hargs
  refine calls_of_wp_defers hf hb ?_
  have hlen' := Nat.le_of_ble_eq_true hlen
  have hr : Rel P ⟨F, []⟩ ⟨paramsE 0 args, Hp, N⟩ { tmps := vargs ++ Array.replicate (fn.ntmps - vargs.size) undef, defers := [] } w g := by
    refine ⟨hrel, fun t x hx => ?_, ?_, rfl⟩
    · obtain ⟨_, h1⟩ := paramsE_get hx
      obtain ⟨u, h2, h3⟩ := hargs.2 _ _ h1
      refine ⟨u, ?_, h3⟩
      have : t < vargs.size := by simpa using lt_of_get h2
      show (vargs ++ _)[t]? = some u
      rw [Array.getElem?_append_left this]
      simpa using h2
    · show (vargs ++ _).size = N
      simp [hargs.1, hN]; omega
  exact h ⟨F, []⟩ g _ w g w hrel hr .refl trivial
def seqD (P : Program) (fn : Func) (H0 : List AEnt) (R : ARes → List AEnt → Prop) (y : Code) (ds : List (FuncId × List PV)) : AExit → ASt → Prop
  | .normal, s => DW P fn H0 R y s ds
  | _, _ => False
theorem dw_seq {fn : Func} {H0 : List AEnt} {R : ARes → List AEnt → Prop} {x y : Code} {s : ASt} {ds : List (FuncId × List PV)} (h : BW P s.H x s (seqD P fn H0 R y ds)) : DW P fn H0 R (.seq x y) s ds := by
  intro F g a w g0 w0 h0 hr hx hd
  refine wp_seq (wp_mono (aw_of_bw h F g a w hr) ?_)
  rintro e a' w' ⟨x, s', g', h1, h2, h3, h4⟩
  cases x <;> cases e <;> first
    | exact h1.elim
    | exact h4.elim
    | skip
  exact h4 F g' a' w' g0 w0 h0 h2 (hx.trans h3) (hd.mono h3.le)
theorem dw_defer {fn : Func} {H0 : List AEnt} {R : ARes → List AEnt → Prop} {y : Code} {rid fc t : Nat} {caps : List Operand} {cap : List PV} {om od : Oper} {types : Array TypeId}
    (hm : om.op = .makeFunc (.func fc) #[] caps.toArray) (hmg : om.guard = none) (hmd : om.dst = some t) (hn : Nat.blt t n = true) (hx : evs env caps = some cap)
    (hdf : od.op = .defer { callee := .value (.tmp t), args := #[], argTypes := types }) (hdg : od.guard = none) (hdd : od.dst = none)
    (h : DW P fn H0 R y ⟨(t, .fn (.func fc) [] cap) :: env, H, n⟩ [(fc, cap)]) : DW P fn H0 R (.seq (.region rid [om, od].toArray false) y) ⟨env, H, n⟩ [] := by
  intro F g a w g0 w0 h0 hr hext hd
  have hds : F.ds = [] := by
    cases hF : F.ds with
    | nil => rfl
    | cons _ _ => rw [hF] at hd; exact hd.elim
  refine wp_seq (wp_region ?_)
  have hcap := hr.vrs hx
  have hv : VR (ctx P F H g w) (.fn (.func fc) [] cap) (.func (.func fc) #[] (caps.toArray.map a.eval)) :=
    vr_fn.2 ⟨[], (caps.toArray.map a.eval).toList, by simp, rfl, by simpa using hcap.1, by simp, fun i y hy => by simpa using hcap.2 i y hy⟩
  have hr1 : Rel P F ⟨(t, .fn (.func fc) [] cap) :: env, H, n⟩ (a.put (some t) (.func (.func fc) #[] (caps.toArray.map a.eval))) w g := hr.put (d := some t) (by simpa [dstOk] using hn) hv hr.rel .refl
  have ht : (a.put (some t) (.func (.func fc) #[] (caps.toArray.map a.eval))).tmps[t]? = some (.func (.func fc) #[] (caps.toArray.map a.eval)) := by
    have : t < a.tmps.size := by rw [hr.size]; exact Nat.le_of_ble_eq_true hn
    simp [Act.put, this]
  generalize hval : Value.func (.func fc) #[] (caps.toArray.map a.eval) = fv at hr1 ht
  have hval' : Value.func (.func fc) #[] (List.map a.eval caps).toArray = fv := by rw [← hval]; simp
  have hrun1 : (execOp a.eval om).run P w = .ok (.value fv) w := by simp [execOp, hm, Instr.makeFunc, hval']
  have hrange : List.range ([om, od].toArray : Array Oper).size = [0, 1] := rfl
  rw [hrange]
  have hw0 : Region.wanted om (yielded [om, od].toArray a.tmps) = true := by simp [Region.wanted, hmg]
  have hw1 : ∀ a' : Act, Region.wanted od (yielded [om, od].toArray a'.tmps) = true := fun a' => by simp [Region.wanted, hdg]
  have hrun2 : (execOp (a.put (some t) fv).eval od).run P w = .ok (.defer { target := .fn (.func fc) (caps.toArray.map a.eval), args := #[] }) w := by
    have he : (a.put (some t) fv).eval (.tmp t) = fv := by simp only [Act.eval]; rw [Array.getD_eq_getD_getElem?, ht]; rfl
    have he' := he.trans hval.symm
    simp only [execOp, hdf]
    simp [resolve, he', Deferred.ofValue]
  unfold wpOps
  simp only [List.getElem?_toArray, List.getElem?_cons_zero, hw0, if_true]
  unfold Oper.wp
  rw [hrun1]
  refine .inl ?_
  rw [Oper.upon_value]
  rw [hmd]
  unfold wpOps
  simp only [List.getElem?_toArray, List.getElem?_cons_succ, List.getElem?_cons_zero, hw1, if_true]
  unfold Oper.wp
  rw [hrun2]
  refine .inl ?_
  simp only [Oper.upon]
  rw [hdd]
  unfold wpOps
  show y.wp P _ _ w
  refine h ⟨F.fr, [{ target := .fn (.func fc) (caps.toArray.map a.eval), args := #[] }]⟩ g _ w g0 w0 h0 ⟨hr1.rel, hr1.env, hr1.size, ?_⟩ hext ⟨⟨_, rfl, hcap⟩, trivial⟩
  show _ :: (a.put (some t) fv).defers = _
  have := hr1.defers
  rw [this, hds]
def EndD (P : Program) (rs : List ResultVar) (m : Nat) (R : ARes → List AEnt → Prop) (fc : FuncId) (cap : List PV) (u : DMode) (s : ASt) : Prop :=
  ∃ (σ : List Nat) (Hp : List AEnt) (fargs : List PV), σ.Nodup ∧ Hand s.H σ σ Hp ∧ RnSL σ cap fargs ∧ (∀ p, u = .pan p → p.ids = []) ∧ DCalls P fc fargs Hp u fun Hp' => ∃ es, HandB σ es Hp' ∧ Hp'.length = σ.length ∧
    ∃ xs, resPVs P s.env (setHs s.H σ es) rs = some xs ∧ EndOk (setHs s.H σ es) m (tupPV xs) (fun x H' => R (.ret x) H')
def endKD (P : Program) (rs : List ResultVar) (m : Nat) (R : ARes → List AEnt → Prop) (fc : FuncId) (cap : List PV) : AExit → ASt → Prop
  | .normal, s => EndD P rs m R fc cap .ret s
  | .ret, s => EndD P rs m R fc cap .ret s
  | .panic p, s => EndD P rs m R fc cap (.pan p) s
  | _, _ => False
theorem DCalls.mono {f : FuncId} {args : List PV} {Hp : List AEnt} {u : DMode} {Q Q' : List AEnt → Prop} (h : DCalls P f args Hp u Q) (hq : ∀ H', Q H' → Q' H') : DCalls P f args Hp u Q' := fun F g vargs w u0 h1 h2 h3 =>
  CallsD.mono (h F g vargs w u0 h1 h2 h3) fun e u' w' ⟨v, H', g', a, b, c, d, e⟩ => ⟨v, H', g', a, b, c, d, hq _ e⟩
theorem endD_of {rs : List ResultVar} {m : Nat} {R : ARes → List AEnt → Prop} {fc : FuncId} {cap fargs xs : List PV} {u : DMode} {s : ASt} {Hp Hp' es : List AEnt} (σ : List Nat) (hn : (σ.map fun i => σ.count i).all (Nat.beq 1) = true) (hH : Hand s.H σ σ Hp) (hb : RnSL σ cap fargs) (hp : ∀ p, u = .pan p → p.ids = [])
    (hc : DCalls P fc fargs Hp u (fun H' => H' = Hp')) (hB : HandB σ es Hp') (hlen : Hp'.length = σ.length) (hx : resPVs P s.env (setHs s.H σ es) rs = some xs) (he : EndOk (setHs s.H σ es) m (tupPV xs) (fun x H' => R (.ret x) H')) : EndD P rs m R fc cap u s :=
  ⟨σ, Hp, fargs, nodupσ hn, hH, hb, hp, hc.mono fun H' h => by subst h; exact ⟨es, hB, hlen, xs, hx, he⟩⟩
theorem endKD_ret {rs : List ResultVar} {m : Nat} {R : ARes → List AEnt → Prop} {fc : FuncId} {cap : List PV} {s : ASt} (h : EndD P rs m R fc cap .ret s) : endKD P rs m R fc cap .ret s := h
theorem dw_end {fn : Func} {H0 : List AEnt} {R : ARes → List AEnt → Prop} {c : Code} {s : ASt} {fc : FuncId} {cap : List PV} {rs : List ResultVar} (hen : Enters P fc) (hres : fn.results = rs.toArray) (h : BW P s.H c s (endKD P rs H0.length R fc cap)) : DW P fn H0 R c s [(fc, cap)] := by
  intro F g a w g0 w0 h0 hr hext hd
  obtain ⟨dv, hF, us, rfl, hus⟩ : ∃ dv, F.ds = [dv] ∧ ∃ us, dv = { target := .fn (.func fc) us, args := #[] } ∧ VRs (ctx P F s.H g w) cap us := by
    cases hF : F.ds with
    | nil => rw [hF] at hd; exact hd.elim
    | cons d r =>
      rw [hF] at hd
      cases r with
      | nil => exact ⟨d, rfl, hd.1⟩
      | cons _ _ => exact hd.2.elim
  refine wp_mono (aw_of_bw h F g a w hr) ?_
  rintro e a' w' ⟨x, s', g', h1, h2, h3, h4⟩
  have hus' := hus.mono h3.le
  have hdf : a'.defers = [{ target := .fn (.func fc) us, args := #[] }] := by rw [h2.defers, hF]
  -- the closure runs
  have run : ∀ (u : DMode) (u0 : FrameMode), u0 ≠ .run → ModeR (ctx P F s'.H g' w') u u0 → EndD P rs H0.length R fc cap u s' → Leaves P fn a'.tmps (Fin P F H0 g0 w0 R) a'.defers u0 w' := by
    intro u u0 hu0 hmode ⟨σ, Hp, fargs, hn, hH, hb, hids, hc⟩
    have hf := frame_fits h2.rel σ
    have hrel := pick_rel h2.rel hn hf hH.lt hH.ids
    have hpick : pickH s'.H σ = Hp := hH.pick hn
    have hargs : VRs (ctx P (frameF P F s'.H g' σ) (pickH s'.H σ) (pickG g' σ) w') fargs us := by
      have e : fargs = cap.map (PV.ren (σ.idxOf ·)) := by rw [← renL_map, hb.down hn]
      rw [e]
      refine ⟨by simpa using hus'.1, fun i x hx => ?_⟩
      rw [List.getElem?_map, Option.map_eq_some_iff] at hx
      obtain ⟨y, hy, rfl⟩ := hx
      obtain ⟨u, h1, h2'⟩ := hus'.2 i y hy
      exact ⟨u, h1, pick_VR h2.rel hn hf (fun k hk => hb.ids k (mem_idsL.2 ⟨y, List.mem_of_getElem? hy, hk⟩)) h2'⟩
    have hmode' : ModeR (ctx P (frameF P F s'.H g' σ) (pickH s'.H σ) (pickG g' σ) w') u u0 := by
      cases u with
      | ret =>
        cases u0 with
        | returning => trivial
        | _ => exact hmode.elim
      | pan p =>
        cases u0 with
        | panicking ch =>
          obtain ⟨v, h1, h3⟩ := hmode
          have hi := hids p rfl
          have := pick_VR h2.rel hn hf (p := p) (fun k hk => by rw [hi] at hk; cases hk) h3
          rw [ren_id_of p (fun k hk => by rw [hi] at hk; cases hk)] at this
          exact ⟨v, h1, this⟩
        | _ => exact hmode.elim
    rw [← hpick] at hc
    rw [hdf]
    have hinv : (invoke (.fn (.func fc) us) #[]).run P w' = .ok (.enter fc us) w' := by
      simp [invoke, run_callFunc hen]
    refine leaves_cons hu0 hinv (CallsD.mono (hc _ _ us w' u0 hrel hargs hmode') ?_)
    rintro e u' w'' ⟨v, H', g'', rfl, hset, a1, a2, es, hB, hlen, xs, hxs, hend⟩
    have hm := merge_rel h2.rel hn hH.lt a1 a2
    have hx := merge_ext h2.rel hn hH.lt a1 a2
    rw [mergeH_set hn hH.lt hB hlen] at hm hx
    show Leaves P fn a'.tmps _ [] (settle u') w''
    rw [hset]
    have hr3 : Rel P ⟨F.fr, a'.defers⟩ ⟨s'.env, setHs s'.H σ es, s'.n⟩ a' w'' (mergeG g' σ g'') := ⟨hm, fun t y hy => let ⟨u, b1, b2⟩ := h2.env t y hy; ⟨u, b1, b2.mono hx.le⟩, h2.size, rfl⟩
    obtain ⟨v', h5, h6⟩ := run_results hres hr3 hxs
    obtain ⟨τ, y, e1, e2, e3, e4, e5, e6, e7⟩ := hend
    have hfd := drop_fits hm τ
    exact ⟨v', h5, .ret _, _, pickG _ τ, pick_VR hm e1 hfd e5 (e4 _ _ h6), pick_rel hm e1 hfd e2 e6, drop_ext ((hext.trans h3).trans hx) h0 hm rfl e1 e2 e3, e7⟩
  cases x <;> cases e <;> first
    | exact h1.elim
    | exact h4.elim
    | exact run .ret .returning (by simp) trivial h4
    | skip
  obtain ⟨v, rfl, hv⟩ := h1
  exact run (.pan _) (.panicking _) (by simp) ⟨v, rfl, hv⟩ h4
end Go.Proofs.Ytkmhecgagibgjaa.Aw
