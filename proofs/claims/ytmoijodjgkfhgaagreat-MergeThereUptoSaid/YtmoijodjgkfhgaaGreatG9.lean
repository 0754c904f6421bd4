/- Pure functions, and that calls answer as they say. -/
import Derived.Test.YtmoijodjgkfhgaaGreatG8
namespace Go.Proofs.YtmoijodjgkfhgaaGreat
open Go Aw
set_option linter.unusedVariables false
set_option linter.unusedSimpArgs false
set_option maxRecDepth 20000
set_option maxHeartbeats 2000000
variable {ι : Type} {ρ : ι → Type}
noncomputable def zdv (x5 : V) (x6 : (V × (List S_api_Conflict) × Int)) (x7 : ((List S_api_Edit) × Int)) (s8 : Bool) : Option Bool :=
 bif s8 then (
 bif (x6.2.2 == x7.2) then (
 some ((((x7.1).length : Nat) : Int) == 0)
 ) else (
 some false
 )
 ) else (
 (zky x5 x7.1).bind fun x11 =>
 bif (x11.2 == 0) then (
 (zgr x6.1 x11.1).bind fun x13 =>
 some x13
 ) else (
 some false
 )
 )
noncomputable def zso (a0 a1 a2 : Term) : Option Bool :=
 (zp4).bind fun x1 =>
 bif (!x1) then (
 some false
 ) else (
 (z9h a0).bind fun x3 =>
 (z9h a1).bind fun x4 =>
 (z9h a2).bind fun x5 =>
 (z9i x3 x4 x5).bind fun x6 =>
 (zl3 x3 x4 x5).bind fun x7 =>
 bif (x6.2.2 != 0) then (
 zdv x5 x6 x7 true
 ) else (
 zdv x5 x6 x7 (x7.2 != 0)
 )
 )
theorem Z7i (a0 a1 a2 : Term) (r : Bool) (h : zso a0 a1 a2 = some r) : z0p Tryz.prog 5 [(z2w a0), (z2w a1), (z2w a2)] (BO r) := by
 unfold zso at h
 refine z0j Tryz.func5 rfl Tryz.ntmps5 Tryz.results5 rfl (z0n ?_)
 change BW _ _ _ ⟨[(0, (z2w a0)), (1, (z2w a1)), (2, (z2w a2))], [], _⟩ _
 refine bR ?_
 iterate 3 refine sX ?_
 refine eX ?_
 refine z0f ?_
 refine bR ?_
 obtain ⟨x1, hx1, h⟩ := obind h
 refine sS rfl rfl rfl (z08 rfl Z8s rfl .nil trivial (Z77  x1 hx1) rfl) ?_
 refine eX ?_
 refine cX h rfl ?_ ?_
 intro hc2 h
 refine bR ?_
 refine eX ?_
 obtain rfl := eI h; exact z06 eK
 intro hc2 h
 refine z0g ?_
 refine cBx ?_
 refine z0f (z1w 5 [] [0, 1, 2] mo (by kernel_rfl) ?_)
 refine gX ?_
 obtain ⟨x3, hx3, h⟩ := obind h
 refine z1r rfl rfl rfl rfl (fun H hp => z08 rfl Z5j rfl (wkr .nil) ⟨(z8s a0), trivial⟩ (Z0h a0 x3 hx3) (ids_V x3)) ?_
 refine gX ?_
 obtain ⟨x4, hx4, h⟩ := obind h
 refine z1r rfl rfl rfl rfl (fun H hp => z08 rfl Z5j rfl (wkr .nil) ⟨(z8s a1), trivial⟩ (Z0h a1 x4 hx4) (ids_V x4)) ?_
 refine gX ?_
 refine z20 ?_
 change AO _ _ _ _ _
 obtain ⟨x5, hx5, h⟩ := obind h
 refine sS rfl rfl rfl (z08 rfl Z5j rfl (wkr .nil) ⟨(z8s a2), trivial⟩ (Z0h a2 x5 hx5) (ids_V x5)) ?_
 iterate 2 refine sX ?_
 refine eX ?_
 refine bR ?_
 iterate 3 refine sX ?_
 obtain ⟨x6, hx6, h⟩ := obind h
 refine sS rfl rfl rfl (z08 rfl Z2h rfl (wkr (wkr (wkr (wkr .nil)))) ⟨(ids_V x3), ⟨(ids_V x4), ⟨(ids_V x5), ⟨rfl, trivial⟩⟩⟩⟩ (Z0n x3 x4 x5 x6 hx6) (z00 (ids_V x6.1) (z00 (z05 z0a x6.2.1) (z00 rfl z04)))) ?_
 iterate 6 refine sX ?_
 refine eX ?_
 refine bR ?_
 iterate 3 refine sX ?_
 obtain ⟨x7, hx7, h⟩ := obind h
 refine sS rfl rfl rfl (z08 rfl Zak rfl (wkr (wkr (wkr .nil))) ⟨(ids_V x3), ⟨(ids_V x4), ⟨(ids_V x5), trivial⟩⟩⟩ (Z79 x3 x4 x5 x7 hx7) (z00 (z05 z0e x7.1) (z00 rfl z04))) ?_
 iterate 4 refine sX ?_
 refine eX ?_
 refine z0f ?_
 refine z2e (ι := Bool) (fun i => zdv x5 x6 x7 i = some r) (fun i => [(9, (ofV x5)), (10, (ofV x6.1)), (12, (I64 x6.2.2)), (13, (PV.sl none 49 3 (List.map z0b x7.1))), (14, (I64 x7.2)), (45, (BO i))]) (fun i => []) ?_ ?_ ?_
 intro i; exact ⟨lbE rfl, ⟨(z07 (ids_V _)), ⟨(z07 (ids_V _)), ⟨(z07 rfl), ⟨(z07 (z05 z0e _)), ⟨(z07 rfl), ⟨(z07 rfl), trivial⟩⟩⟩⟩⟩⟩, trivial⟩
 rintro s8 h; replace h : zdv x5 x6 x7 s8 = some r := h; unfold zdv at h
 change BW _ _ _ ⟨[(9, (ofV x5)), (10, (ofV x6.1)), (12, (I64 x6.2.2)), (13, (PV.sl none 49 3 (List.map z0b x7.1))), (14, (I64 x7.2)), (45, (BO s8))], [], _⟩ _
 refine cX h rfl ?_ ?_
 intro hc9 h
 refine bR ?_
 iterate 4 refine sX ?_
 refine z0t (t := 49) rfl ?_ ?_
 intro hb10; replace h := z10 hb10 h
 iterate 3 refine yX ?_
 refine sX ?_
 refine eX ?_
 obtain rfl := eI h; exact z06 eK
 intro hb10; replace h := z11 hb10 h
 iterate 3 refine nX ?_
 refine sX ?_
 refine eX ?_
 obtain rfl := eI h; exact z06 eK
 intro hc9 h
 refine z0g ?_
 refine cBx ?_
 refine bR ?_
 iterate 2 refine sX ?_
 obtain ⟨x11, hx11, h⟩ := obind h
 refine sS rfl rfl rfl (z08 rfl Z8q rfl (wkr (wkr .nil)) ⟨(ids_V x5), ⟨(z05 z0e x7.1), trivial⟩⟩ (Z74 x5 x7.1 x11 hx11) (z00 (ids_V x11.1) (z00 rfl z04))) ?_
 iterate 4 refine sX ?_
 refine eX ?_
 refine bR ?_
 iterate 3 refine sX ?_
 refine z0t (t := 62) rfl ?_ ?_
 intro hb12; replace h := z10 hb12 h
 iterate 2 refine yX ?_
 obtain ⟨x13, hx13, h⟩ := obind h
 refine z23 rfl rfl rfl rfl rfl rfl (z08 rfl zxn rfl (wkr (wkr .nil)) ⟨(ids_V x6.1), ⟨(ids_V x11.1), trivial⟩⟩ (zvg x6.1 x11.1 x13 hx13) rfl) ?_
 refine sX ?_
 refine eX ?_
 obtain rfl := eI h; exact z06 eK
 intro hb12; replace h := z11 hb12 h
 iterate 3 refine nX ?_
 refine sX ?_
 refine eX ?_
 obtain rfl := eI h; exact z06 eK
 refine z0l ?_
 iterate 3 refine sX ?_
 refine z0t (t := 42) rfl ?_ ?_
 intro hb14; replace h := z10 hb14 h
 iterate 2 refine nX ?_
 refine sX (z0h ?_)
 exact ⟨rfl, true, h, jN⟩
 intro hb14; replace h := z11 hb14 h
 iterate 2 refine yX ?_
 refine sX (z0h ?_)
 exact ⟨rfl, (x7.2 != 0), h, jN⟩
end Go.Proofs.YtmoijodjgkfhgaaGreat
