/- Pure functions, and that calls answer as they say. -/
import Derived.Test.YthidgpcbnieleaaGreatDoorG10
namespace Go.Proofs.YthidgpcbnieleaaGreatDoor
open Go Aw
set_option linter.unusedVariables false
set_option linter.unusedSimpArgs false
set_option maxRecDepth 20000
set_option maxHeartbeats 2000000
variable {ι : Type} {ρ : ι → Type}
noncomputable def z9d (x3 : V) (x4 : (Int × Bool × Int)) (x5 : (Int × Int × Int)) (s6 : Bool) : Option Bool :=
 bif s6 then (
 bif (x4.1 == x5.2.2) then (
 some (x4.2.2 == 0)
 ) else (
 some false
 )
 ) else (
 (zqx x3 0).bind fun x9 =>
 (zqz x3).bind fun x10 =>
 bif x4.2.1 then (
 bif (x4.2.2 == x5.1) then (
 bif (x9.2.1 == 0) then (
 bif (x9.2.2 == x5.1) then (
 (zdv x9.1 x3).bind fun x15 =>
 bif x15 then (
 bif (x10.2 == 0) then (
 some ((((x10.1).length : Nat) : Int) == x5.1)
 ) else (
 some false
 )
 ) else (
 some false
 )
 ) else (
 some false
 )
 ) else (
 some false
 )
 ) else (
 bif (x4.2.2 == 301) then (
 bif (decide (x5.1 > 300)) then (
 bif (x9.2.1 == 0) then (
 bif (x9.2.2 == x5.1) then (
 (zdv x9.1 x3).bind fun x22 =>
 bif x22 then (
 bif (x10.2 == 0) then (
 some ((((x10.1).length : Nat) : Int) == x5.1)
 ) else (
 some false
 )
 ) else (
 some false
 )
 ) else (
 some false
 )
 ) else (
 some false
 )
 ) else (
 some false
 )
 ) else (
 some false
 )
 )
 ) else (
 some false
 )
 )
noncomputable def ztz (a0 : Term) : Option Bool :=
 (zqp).bind fun x1 =>
 bif (!x1) then (
 some false
 ) else (
 (z9r a0).bind fun x3 =>
 (zi6 x3 x3 true 0).bind fun x4 =>
 (zjq x3).bind fun x5 =>
 bif (x4.1 != 0) then (
 z9d x3 x4 x5 true
 ) else (
 z9d x3 x4 x5 (x5.2.2 != 0)
 )
 )
theorem Z52 (a0 : Term) (r : Bool) (h : ztz a0 = some r) : z0m Tryz.prog 7 [(z3w a0)] (BO r) := by
 unfold ztz at h
 refine z0d Tryz.func7 rfl Tryz.ntmps7 Tryz.results7 rfl (z0g ?_)
 change BW _ _ _ ⟨[(0, (z3w a0))], [], _⟩ _
 refine bR ?_
 refine sX ?_
 refine eX ?_
 refine z08 ?_
 refine bR ?_
 obtain ⟨x1, hx1, h⟩ := obind h
 refine sS rfl rfl rfl (z06 rfl Z9p rfl .nil trivial (Z4x  x1 hx1) rfl) ?_
 refine eX ?_
 refine cX h rfl ?_ ?_
 intro hc2 h
 refine bR ?_
 refine eX ?_
 obtain rfl := eI h; exact z05 eK
 intro hc2 h
 refine z07 ?_
 refine cBx ?_
 refine bR ?_
 refine sX ?_
 obtain ⟨x3, hx3, h⟩ := obind h
 refine sS rfl rfl rfl (z06 rfl Z6w rfl (wkr .nil) ⟨(zdi a0), trivial⟩ (Z4l a0 x3 hx3) (ids_V x3)) ?_
 refine sS rfl rfl rfl ((z14 z1t rfl).cast (H'' := [.box 29 (cc0 a0), .box 20 [(ofV V.nil)]]) rfl (by simp only [mk_nil]; rfl)) ?_
 refine z0j rfl rfl ((z0e z1t rfl rfl rfl rfl (z3t _) (csz_V _) (lbE rfl) (z4i _)).cast (H'' := [.box 29 (cc0 a0), .box 20 [(ofV x3)]]) rfl (by rw [z0t]; rfl)) ?_
 refine z0a ?_
 refine cBx ?_
 refine bR ?_
 refine sS rfl rfl rfl (z14 z8f rfl) ?_
 refine sS rfl rfl rfl (z14 z3a rfl) ?_
 refine z0j rfl rfl (z0e z8f rfl rfl rfl rfl rfl rfl (lbE rfl) rfl) ?_
 refine z0j rfl rfl (z0e z3a rfl rfl rfl rfl rfl rfl (lbE rfl) rfl) ?_
 refine z0a ?_
 refine cBx ?_
 refine z08 ?_
 refine z3p 1 3 (y := (PV.pt 20 (ofV x3) 0)) rfl rfl (Wk.pt (x := .agg [(ofV x3)]) (y := (ofV x3)) (by rw [z0t]; exact (wkr .nil))) ?_
 refine z0f ?_
 refine sS rfl rfl rfl (z1y (y := (ofV x3)) Tryz.underlying20 rfl rfl rfl (by rw [z0t]; rfl)) ?_
 refine sS rfl rfl rfl (z69 rfl rfl rfl) ?_
 obtain ⟨x4, hx4, h⟩ := obind h
 refine sS rfl rfl rfl (Op1.cast (y := (I64 x4.1)) (H'' := [.box 29 (cc0 a0), .dead, .box 3 [(I64 x4.2.2)], .box 4 [(BO x4.2.1)]]) (z1b [3, 2] (.func rfl) Z7m rfl (wkr (wkr .nil)) rfl (.cons rfl (.box (.cons (.same rfl) .nil)) (.cons rfl (.box (.cons (.same rfl) .nil)) .nil)) (.cons (.same (ids_V x3)) (.cons (.fn (.cons (.same (z13 (ids_V x3))) (.cons (.rf rfl) (.cons (.rf rfl) .nil)))) .nil)) (Z5k x3 x3 true 0 x4 hx4) (.same rfl) (.cons (.box (.cons (.same rfl) .nil)) (.cons (.box (.cons (.same rfl) .nil)) .nil)) rfl) rfl rfl) ?_
 refine eX ?_
 refine bR ?_
 refine sS rfl rfl rfl (z1y (y := (ofV x3)) Tryz.underlying20 rfl rfl rfl (by rw [z0t]; rfl)) ?_
 obtain ⟨x5, hx5, h⟩ := obind h
 refine sS rfl rfl rfl (z06 rfl Z7k rfl (wkr .nil) ⟨(ids_V x3), trivial⟩ (Z4s x3 x5 hx5) (z01 rfl (z01 rfl (z01 rfl z04)))) ?_
 iterate 6 refine sX ?_
 refine eX ?_
 refine z08 ?_
 refine z2t (ι := Bool) (fun i => z9d x3 x4 x5 i = some r) (fun i => [(3, (PV.pt 20 (ofV x3) 0)), (4, (PV.rf 2 0)), (5, (PV.rf 3 0)), (6, (I64 x4.1)), (7, (I64 x5.1)), (9, (I64 x5.2.2)), (33, (BO i))]) (fun i => [.dead, .dead, .box 3 [(I64 x4.2.2)], .box 4 [(BO x4.2.1)]]) ?_ ?_ ?_
 intro i; exact ⟨lbE rfl, ⟨(z09 (z13 (ids_V _))), ⟨(il_rf rfl), ⟨(il_rf rfl), ⟨(z09 rfl), ⟨(z09 rfl), ⟨(z09 rfl), ⟨(z09 rfl), trivial⟩⟩⟩⟩⟩⟩⟩, ⟨⟨(z09 rfl), trivial⟩, ⟨⟨(z09 rfl), trivial⟩, trivial⟩⟩⟩
 rintro s6 h; replace h : z9d x3 x4 x5 s6 = some r := h; unfold z9d at h
 change BW _ _ _ ⟨[(3, (PV.pt 20 (ofV x3) 0)), (4, (PV.rf 2 0)), (5, (PV.rf 3 0)), (6, (I64 x4.1)), (7, (I64 x5.1)), (9, (I64 x5.2.2)), (33, (BO s6))], [.dead, .dead, .box 3 [(I64 x4.2.2)], .box 4 [(BO x4.2.1)]], _⟩ _
 refine cX h rfl ?_ ?_
 intro hc7 h
 refine bR ?_
 iterate 4 refine sX ?_
 refine z0q (t := 37) rfl ?_ ?_
 intro hb8; replace h := z0x hb8 h
 iterate 2 refine yX ?_
 refine sX ?_
 refine eX ?_
 obtain rfl := eI h; exact z05 eK
 intro hb8; replace h := z0y hb8 h
 iterate 2 refine nX ?_
 refine sX ?_
 refine eX ?_
 obtain rfl := eI h; exact z05 eK
 intro hc7 h
 refine z07 ?_
 refine cBx ?_
 refine bR ?_
 refine sS rfl rfl rfl (z14 z8f rfl) ?_
 refine z0j rfl rfl (z0e z8f rfl rfl rfl rfl rfl rfl (lbE rfl) rfl) ?_
 refine z0a ?_
 refine cBx ?_
 refine bR ?_
 refine sS rfl rfl rfl (z1y (y := (ofV x3)) Tryz.underlying20 rfl rfl rfl (by rw [z0t]; rfl)) ?_
 refine sS rfl rfl rfl (z69 rfl rfl rfl) ?_
 obtain ⟨x9, hx9, h⟩ := obind h
 refine sS rfl rfl rfl (Op1.cast (y := (PV.tup [(ofV x9.1), (I64 x9.2.1)])) (H'' := [.dead, .dead, .box 3 [(I64 x4.2.2)], .box 4 [(BO x4.2.1)], .box 3 [(I64 x9.2.2)]]) (z1b [4] (.func rfl) Z7j rfl (wkr (wkr .nil)) rfl (.cons rfl (.box (.cons (.same rfl) .nil)) .nil) (.cons (.same (ids_V x3)) (.cons (.fn (.cons (.rf rfl) .nil)) .nil)) (Z5h x3 0 x9 hx9) (.same (z01 (ids_V x9.1) (z01 rfl z04))) (.cons (.box (.cons (.same rfl) .nil)) .nil) rfl) rfl rfl) ?_
 iterate 4 refine sX ?_
 refine eX ?_
 refine bR ?_
 refine sS rfl rfl rfl (z1y (y := (ofV x3)) Tryz.underlying20 rfl rfl rfl (by rw [z0t]; rfl)) ?_
 obtain ⟨x10, hx10, h⟩ := obind h
 refine sS rfl rfl rfl (z06 rfl Z7h rfl (wkr (wkr .nil)) ⟨(ids_V x3), ⟨rfl, trivial⟩⟩ (Z5l x3 x10 hx10) (z01 (z03 (fun a => z03 (e := 83) (sz := 3) z02 a) x10.1) (z01 rfl z04))) ?_
 iterate 4 refine sX ?_
 refine eX ?_
 refine bR ?_
 iterate 2 refine sX ?_
 refine z0q (t := 53) rfl ?_ ?_
 intro hb11; replace h := z0x hb11 h
 iterate 4 refine yX ?_
 refine z0q (t := 57) rfl ?_ ?_
 intro hb12; replace h := z0x hb12 h
 iterate 6 refine nX ?_
 refine yX ?_
 iterate 2 refine sX ?_
 iterate 2 refine yX ?_
 iterate 2 refine sX ?_
 refine z0q (t := 70) rfl ?_ ?_
 intro hb13; replace h := z0x hb13 h
 iterate 3 refine yX ?_
 iterate 2 refine sX ?_
 refine z0q (t := 75) rfl ?_ ?_
 intro hb14; replace h := z0x hb14 h
 refine yX ?_
 refine z1q rfl rfl rfl rfl rfl rfl (z1y (y := (ofV x3)) Tryz.underlying20 rfl rfl rfl (by rw [z0t]; rfl)) ?_
 obtain ⟨x15, hx15, h⟩ := obind h
 refine z1q rfl rfl rfl rfl rfl rfl (z06 rfl zop rfl (wkr (wkr .nil)) ⟨(ids_V x9.1), ⟨(ids_V x3), trivial⟩⟩ (znd x9.1 x3 x15 hx15) rfl) ?_
 iterate 2 refine sX ?_
 refine z0q (t := 80) rfl ?_ ?_
 intro hb16; replace h := z0x hb16 h
 iterate 2 refine yX ?_
 iterate 2 refine sX ?_
 refine z0q (t := 84) rfl ?_ ?_
 intro hb17; replace h := z0x hb17 h
 refine yX ?_
 refine z1q rfl rfl rfl rfl rfl rfl (zfw Tryz.underlying61 rfl rfl) ?_
 iterate 2 refine yX ?_
 refine sX ?_
 refine eX ?_
 obtain rfl := eI h; exact z05 eK
 intro hb17; replace h := z0y hb17 h
 iterate 4 refine nX ?_
 refine sX ?_
 refine eX ?_
 obtain rfl := eI h; exact z05 eK
 intro hb16; replace h := z0y hb16 h
 iterate 2 refine nX ?_
 iterate 2 refine sX ?_
 iterate 4 refine nX ?_
 refine sX ?_
 refine eX ?_
 obtain rfl := eI h; exact z05 eK
 intro hb14; replace h := z0y hb14 h
 iterate 3 refine nX ?_
 iterate 2 refine sX ?_
 iterate 2 refine nX ?_
 iterate 2 refine sX ?_
 iterate 4 refine nX ?_
 refine sX ?_
 refine eX ?_
 obtain rfl := eI h; exact z05 eK
 intro hb13; replace h := z0y hb13 h
 iterate 3 refine nX ?_
 iterate 2 refine sX ?_
 iterate 3 refine nX ?_
 iterate 2 refine sX ?_
 iterate 2 refine nX ?_
 iterate 2 refine sX ?_
 iterate 4 refine nX ?_
 refine sX ?_
 refine eX ?_
 obtain rfl := eI h; exact z05 eK
 intro hb12; replace h := z0y hb12 h
 iterate 3 refine yX ?_
 refine z0q (t := 60) rfl ?_ ?_
 intro hb18; replace h := z0x hb18 h
 iterate 4 refine yX ?_
 iterate 2 refine sX ?_
 refine z0q (t := 66) rfl ?_ ?_
 intro hb19; replace h := z0x hb19 h
 iterate 2 refine yX ?_
 iterate 2 refine sX ?_
 refine z0q (t := 70) rfl ?_ ?_
 intro hb20; replace h := z0x hb20 h
 iterate 3 refine yX ?_
 iterate 2 refine sX ?_
 refine z0q (t := 75) rfl ?_ ?_
 intro hb21; replace h := z0x hb21 h
 refine yX ?_
 refine z1q rfl rfl rfl rfl rfl rfl (z1y (y := (ofV x3)) Tryz.underlying20 rfl rfl rfl (by rw [z0t]; rfl)) ?_
 obtain ⟨x22, hx22, h⟩ := obind h
 refine z1q rfl rfl rfl rfl rfl rfl (z06 rfl zop rfl (wkr (wkr .nil)) ⟨(ids_V x9.1), ⟨(ids_V x3), trivial⟩⟩ (znd x9.1 x3 x22 hx22) rfl) ?_
 iterate 2 refine sX ?_
 refine z0q (t := 80) rfl ?_ ?_
 intro hb23; replace h := z0x hb23 h
 iterate 2 refine yX ?_
 iterate 2 refine sX ?_
 refine z0q (t := 84) rfl ?_ ?_
 intro hb24; replace h := z0x hb24 h
 refine yX ?_
 refine z1q rfl rfl rfl rfl rfl rfl (zfw Tryz.underlying61 rfl rfl) ?_
 iterate 2 refine yX ?_
 refine sX ?_
 refine eX ?_
 obtain rfl := eI h; exact z05 eK
 intro hb24; replace h := z0y hb24 h
 iterate 4 refine nX ?_
 refine sX ?_
 refine eX ?_
 obtain rfl := eI h; exact z05 eK
 intro hb23; replace h := z0y hb23 h
 iterate 2 refine nX ?_
 iterate 2 refine sX ?_
 iterate 4 refine nX ?_
 refine sX ?_
 refine eX ?_
 obtain rfl := eI h; exact z05 eK
 intro hb21; replace h := z0y hb21 h
 iterate 3 refine nX ?_
 iterate 2 refine sX ?_
 iterate 2 refine nX ?_
 iterate 2 refine sX ?_
 iterate 4 refine nX ?_
 refine sX ?_
 refine eX ?_
 obtain rfl := eI h; exact z05 eK
 intro hb20; replace h := z0y hb20 h
 iterate 3 refine nX ?_
 iterate 2 refine sX ?_
 iterate 3 refine nX ?_
 iterate 2 refine sX ?_
 iterate 2 refine nX ?_
 iterate 2 refine sX ?_
 iterate 4 refine nX ?_
 refine sX ?_
 refine eX ?_
 obtain rfl := eI h; exact z05 eK
 intro hb19; replace h := z0y hb19 h
 iterate 2 refine nX ?_
 iterate 2 refine sX ?_
 iterate 3 refine nX ?_
 iterate 2 refine sX ?_
 iterate 3 refine nX ?_
 iterate 2 refine sX ?_
 iterate 2 refine nX ?_
 iterate 2 refine sX ?_
 iterate 4 refine nX ?_
 refine sX ?_
 refine eX ?_
 obtain rfl := eI h; exact z05 eK
 intro hb18; replace h := z0y hb18 h
 iterate 2 refine nX ?_
 iterate 2 refine yX ?_
 iterate 2 refine sX ?_
 iterate 2 refine nX ?_
 iterate 2 refine sX ?_
 iterate 3 refine nX ?_
 iterate 2 refine sX ?_
 iterate 3 refine nX ?_
 iterate 2 refine sX ?_
 iterate 2 refine nX ?_
 iterate 2 refine sX ?_
 iterate 4 refine nX ?_
 refine sX ?_
 refine eX ?_
 obtain rfl := eI h; exact z05 eK
 intro hb11; replace h := z0y hb11 h
 iterate 11 refine nX ?_
 iterate 2 refine sX ?_
 iterate 2 refine nX ?_
 iterate 2 refine sX ?_
 iterate 3 refine nX ?_
 iterate 2 refine sX ?_
 iterate 3 refine nX ?_
 iterate 2 refine sX ?_
 iterate 2 refine nX ?_
 iterate 2 refine sX ?_
 iterate 4 refine nX ?_
 refine sX ?_
 refine eX ?_
 obtain rfl := eI h; exact z05 eK
 refine z0f ?_
 iterate 3 refine sX ?_
 refine z0q (t := 30) rfl ?_ ?_
 intro hb25; replace h := z0x hb25 h
 iterate 2 refine nX ?_
 refine sX (z0a ?_)
 exact ⟨rfl, true, h, ⟨(.cons .dead (.cons .dead (.cons .same (.cons .same .nil)))), (sC rfl (sC rfl (sC rfl (sC rfl (sC rfl (sC rfl (sC rfl zjc)))))))⟩⟩
 intro hb25; replace h := z0y hb25 h
 iterate 2 refine yX ?_
 refine sX (z0a ?_)
 exact ⟨rfl, (x5.2.2 != 0), h, ⟨(.cons .dead (.cons .dead (.cons .same (.cons .same .nil)))), (sC rfl (sC rfl (sC rfl (sC rfl (sC rfl (sC rfl (sC rfl zjc)))))))⟩⟩
end Go.Proofs.YthidgpcbnieleaaGreatDoor
