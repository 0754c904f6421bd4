/- Pure functions, and that calls answer as they say. Written by gen.py. -/
import Derived.Test.YthfdpaboekoncaaG4
namespace Go.Proofs.Ythfdpaboekoncaa
open Go Aw
set_option linter.unusedVariables false
set_option linter.unusedSimpArgs false
set_option maxRecDepth 20000
set_option maxHeartbeats 2000000
noncomputable def mk_Entries_j1 (g1 : Nat → Option Bool) (s2 : Nat) (s5 : Bool) : Option Bool :=
 bif s5 then (
  some false
 ) else (
  g1 (s2 + 1)
 )
theorem mk_Entries_j1_cm {ι : Type} {ρ : ι → Type} (g1 : (∀ i, Option (ρ i)) → Nat → Option Bool) (h_g1 : ∀ y0, CM (fun G => g1 G y0)) (s2 : Nat) (s5 : Bool) : CM (fun G : (∀ i, Option (ρ i)) => mk_Entries_j1 (g1 G) s2 s5) := by
 simp only [mk_Entries_j1]
 repeat (first | exact cm_const | exact h_g1 _ | refine cm_cond ?_ ?_ | refine cm_bind ?_ (fun _ => ?_))
noncomputable def mk_Entries_l1b (r_mk_Same : Term → Term → Option Bool) (a0 : (List (Str × Term))) (a1 : (List (Str × Term))) (g1 : Nat → Option Bool) (s2 : Nat) : Option Bool :=
 bif (decide (((s2 : Nat) : Int) < (((a0).length : Nat) : Int))) then (
  Option.bind ((a0)[s2]?) fun x7 =>
  Option.bind ((a1)[s2]?) fun x8 =>
  bif (!(x7.1 == x8.1)) then (
   mk_Entries_j1 g1 s2 true
  ) else (
   Option.bind ((a0)[s2]?) fun x10 =>
   Option.bind ((a1)[s2]?) fun x11 =>
   Option.bind (r_mk_Same (x10.2) (x11.2)) fun x12 =>
   mk_Entries_j1 g1 s2 (!x12)
  )
 ) else (
  some true
 )
theorem mk_Entries_l1b_cm {ι : Type} {ρ : ι → Type} (r_mk_Same : (∀ i, Option (ρ i)) → Term → Term → Option Bool) (h_r_mk_Same : ∀ y0 y1, CM (fun G => r_mk_Same G y0 y1)) (g1 : (∀ i, Option (ρ i)) → Nat → Option Bool) (h_g1 : ∀ y0, CM (fun G => g1 G y0)) (a0 : (List (Str × Term))) (a1 : (List (Str × Term))) (s2 : Nat) : CM (fun G : (∀ i, Option (ρ i)) => mk_Entries_l1b (r_mk_Same G) a0 a1 (g1 G) s2) := by
 simp only [mk_Entries_l1b]
 repeat (first | exact cm_const | exact h_r_mk_Same _ _ | exact h_g1 _ | apply mk_Entries_j1_cm | refine cm_cond ?_ ?_ | refine cm_bind ?_ (fun _ => ?_) | intro _ | assumption)
noncomputable def mk_Entries_l1 (r_mk_Same : Term → Term → Option Bool) (a0 : (List (Str × Term))) (a1 : (List (Str × Term))) (s2 : Nat) : Option Bool :=
 fixO (ι := Nat) (ρ := fun _ => Bool) (fun g i => mk_Entries_l1b r_mk_Same a0 a1 (fun s2 => g s2) i) s2
theorem mk_Entries_l1_eq (r_mk_Same : Term → Term → Option Bool) (a0 : (List (Str × Term))) (a1 : (List (Str × Term))) (s2 : Nat) : mk_Entries_l1 r_mk_Same a0 a1 s2 = mk_Entries_l1b r_mk_Same a0 a1 (mk_Entries_l1 r_mk_Same a0 a1) s2 :=
 fixO_eq (ι := Nat) (ρ := fun _ => Bool) (Φ := fun g i => mk_Entries_l1b r_mk_Same a0 a1 (fun s2 => g s2) i) (fun i => mk_Entries_l1b_cm (ι := Nat) (ρ := fun _ => Bool) (fun _ => r_mk_Same) (fun _ _ => cm_const) (fun g => (fun s2 => g s2)) (fun _ => cm_app) a0 a1 i) s2
theorem mk_Entries_l1_cm {ι : Type} {ρ : ι → Type} (r_mk_Same : (∀ i, Option (ρ i)) → Term → Term → Option Bool) (h_r_mk_Same : ∀ y0 y1, CM (fun G => r_mk_Same G y0 y1)) (a0 : (List (Str × Term))) (a1 : (List (Str × Term))) (s2 : Nat) : CM (fun G : (∀ i, Option (ρ i)) => mk_Entries_l1 (r_mk_Same G) a0 a1 s2) :=
 cm_fix (κ := Nat) (τ := fun _ => Bool) (Φ := fun G g i => mk_Entries_l1b (r_mk_Same G) a0 a1 (fun s2 => g s2) i) (fun g i => mk_Entries_l1b_cm r_mk_Same h_r_mk_Same (fun _ => (fun s2 => g s2)) (fun _ => cm_const) a0 a1 i) (fun G i => mk_Entries_l1b_cm (ι := Nat) (ρ := fun _ => Bool) (fun _ => r_mk_Same G) (fun _ _ => cm_const) (fun g => (fun s2 => g s2)) (fun _ => cm_app) a0 a1 i) s2
noncomputable def b_mk_Entries (r_mk_Entries : (List (Str × Term)) → (List (Str × Term)) → Option Bool) (r_mk_Lists : (List Term) → (List Term) → Option Bool) (r_mk_Same : Term → Term → Option Bool) (a0 : (List (Str × Term))) (a1 : (List (Str × Term))) : Option Bool :=
 bif ((((a0).length : Nat) : Int) != (((a1).length : Nat) : Int)) then (
  some false
 ) else (
  mk_Entries_l1 r_mk_Same a0 a1 0
 )
theorem b_mk_Entries_cm {ι : Type} {ρ : ι → Type} (r_mk_Entries : (∀ i, Option (ρ i)) → (List (Str × Term)) → (List (Str × Term)) → Option Bool) (h_r_mk_Entries : ∀ y0 y1, CM (fun G => r_mk_Entries G y0 y1)) (r_mk_Lists : (∀ i, Option (ρ i)) → (List Term) → (List Term) → Option Bool) (h_r_mk_Lists : ∀ y0 y1, CM (fun G => r_mk_Lists G y0 y1)) (r_mk_Same : (∀ i, Option (ρ i)) → Term → Term → Option Bool) (h_r_mk_Same : ∀ y0 y1, CM (fun G => r_mk_Same G y0 y1)) (a0 : (List (Str × Term))) (a1 : (List (Str × Term))) : CM (fun G : (∀ i, Option (ρ i)) => b_mk_Entries (r_mk_Entries G) (r_mk_Lists G) (r_mk_Same G) a0 a1) := by
 simp only [b_mk_Entries]
 repeat (first | exact cm_const | exact h_r_mk_Entries _ _ | exact h_r_mk_Lists _ _ | exact h_r_mk_Same _ _ | apply mk_Entries_l1_cm | refine cm_cond ?_ ?_ | refine cm_bind ?_ (fun _ => ?_) | intro _ | assumption)
noncomputable def mk_Lists_l1b (r_mk_Same : Term → Term → Option Bool) (a0 : (List Term)) (a1 : (List Term)) (g1 : Nat → Option Bool) (s2 : Nat) : Option Bool :=
 bif (decide (((s2 : Nat) : Int) < (((a0).length : Nat) : Int))) then (
  Option.bind ((a0)[s2]?) fun x5 =>
  Option.bind ((a1)[s2]?) fun x6 =>
  Option.bind (r_mk_Same x5 x6) fun x7 =>
  bif (!x7) then (
   some false
  ) else (
   g1 (s2 + 1)
  )
 ) else (
  some true
 )
theorem mk_Lists_l1b_cm {ι : Type} {ρ : ι → Type} (r_mk_Same : (∀ i, Option (ρ i)) → Term → Term → Option Bool) (h_r_mk_Same : ∀ y0 y1, CM (fun G => r_mk_Same G y0 y1)) (g1 : (∀ i, Option (ρ i)) → Nat → Option Bool) (h_g1 : ∀ y0, CM (fun G => g1 G y0)) (a0 : (List Term)) (a1 : (List Term)) (s2 : Nat) : CM (fun G : (∀ i, Option (ρ i)) => mk_Lists_l1b (r_mk_Same G) a0 a1 (g1 G) s2) := by
 simp only [mk_Lists_l1b]
 repeat (first | exact cm_const | exact h_r_mk_Same _ _ | exact h_g1 _ | refine cm_cond ?_ ?_ | refine cm_bind ?_ (fun _ => ?_))
noncomputable def mk_Lists_l1 (r_mk_Same : Term → Term → Option Bool) (a0 : (List Term)) (a1 : (List Term)) (s2 : Nat) : Option Bool :=
 fixO (ι := Nat) (ρ := fun _ => Bool) (fun g i => mk_Lists_l1b r_mk_Same a0 a1 (fun s2 => g s2) i) s2
theorem mk_Lists_l1_eq (r_mk_Same : Term → Term → Option Bool) (a0 : (List Term)) (a1 : (List Term)) (s2 : Nat) : mk_Lists_l1 r_mk_Same a0 a1 s2 = mk_Lists_l1b r_mk_Same a0 a1 (mk_Lists_l1 r_mk_Same a0 a1) s2 :=
 fixO_eq (ι := Nat) (ρ := fun _ => Bool) (Φ := fun g i => mk_Lists_l1b r_mk_Same a0 a1 (fun s2 => g s2) i) (fun i => mk_Lists_l1b_cm (ι := Nat) (ρ := fun _ => Bool) (fun _ => r_mk_Same) (fun _ _ => cm_const) (fun g => (fun s2 => g s2)) (fun _ => cm_app) a0 a1 i) s2
theorem mk_Lists_l1_cm {ι : Type} {ρ : ι → Type} (r_mk_Same : (∀ i, Option (ρ i)) → Term → Term → Option Bool) (h_r_mk_Same : ∀ y0 y1, CM (fun G => r_mk_Same G y0 y1)) (a0 : (List Term)) (a1 : (List Term)) (s2 : Nat) : CM (fun G : (∀ i, Option (ρ i)) => mk_Lists_l1 (r_mk_Same G) a0 a1 s2) :=
 cm_fix (κ := Nat) (τ := fun _ => Bool) (Φ := fun G g i => mk_Lists_l1b (r_mk_Same G) a0 a1 (fun s2 => g s2) i) (fun g i => mk_Lists_l1b_cm r_mk_Same h_r_mk_Same (fun _ => (fun s2 => g s2)) (fun _ => cm_const) a0 a1 i) (fun G i => mk_Lists_l1b_cm (ι := Nat) (ρ := fun _ => Bool) (fun _ => r_mk_Same G) (fun _ _ => cm_const) (fun g => (fun s2 => g s2)) (fun _ => cm_app) a0 a1 i) s2
noncomputable def b_mk_Lists (r_mk_Entries : (List (Str × Term)) → (List (Str × Term)) → Option Bool) (r_mk_Lists : (List Term) → (List Term) → Option Bool) (r_mk_Same : Term → Term → Option Bool) (a0 : (List Term)) (a1 : (List Term)) : Option Bool :=
 bif ((((a0).length : Nat) : Int) != (((a1).length : Nat) : Int)) then (
  some false
 ) else (
  mk_Lists_l1 r_mk_Same a0 a1 0
 )
theorem b_mk_Lists_cm {ι : Type} {ρ : ι → Type} (r_mk_Entries : (∀ i, Option (ρ i)) → (List (Str × Term)) → (List (Str × Term)) → Option Bool) (h_r_mk_Entries : ∀ y0 y1, CM (fun G => r_mk_Entries G y0 y1)) (r_mk_Lists : (∀ i, Option (ρ i)) → (List Term) → (List Term) → Option Bool) (h_r_mk_Lists : ∀ y0 y1, CM (fun G => r_mk_Lists G y0 y1)) (r_mk_Same : (∀ i, Option (ρ i)) → Term → Term → Option Bool) (h_r_mk_Same : ∀ y0 y1, CM (fun G => r_mk_Same G y0 y1)) (a0 : (List Term)) (a1 : (List Term)) : CM (fun G : (∀ i, Option (ρ i)) => b_mk_Lists (r_mk_Entries G) (r_mk_Lists G) (r_mk_Same G) a0 a1) := by
 simp only [b_mk_Lists]
 repeat (first | exact cm_const | exact h_r_mk_Entries _ _ | exact h_r_mk_Lists _ _ | exact h_r_mk_Same _ _ | apply mk_Lists_l1_cm | refine cm_cond ?_ ?_ | refine cm_bind ?_ (fun _ => ?_) | intro _ | assumption)
noncomputable def mk_Same_j1 (r_mk_Entries : (List (Str × Term)) → (List (Str × Term)) → Option Bool) (r_mk_Lists : (List Term) → (List Term) → Option Bool) (a0 : Term) (a1 : Term) (s2 : Bool) : Option Bool :=
 bif s2 then (
  some true
 ) else (
  bif (a0.kind == 2) then (
   some (a0.bool == a1.bool)
  ) else (
   bif (a0.kind == 3) then (
    some (a0.int == a1.int)
   ) else (
    bif (a0.kind == 4) then (
     some (((a0.float : Nat) : Int) == ((a1.float : Nat) : Int))
    ) else (
     bif (a0.kind == 5) then (
      some (a0.text == a1.text)
     ) else (
      bif (a0.kind == 6) then (
       some (a0.bytes == a1.bytes)
      ) else (
       bif (a0.kind == 7) then (
        some (a0.ref == a1.ref)
       ) else (
        bif (a0.kind == 8) then (
         Option.bind (r_mk_Lists a0.list a1.list) fun x11 =>
         some x11
        ) else (
         bif (a0.kind == 9) then (
          Option.bind (r_mk_Entries a0.fields a1.fields) fun x13 =>
          some x13
         ) else (
          bif (a0.kind == 10) then (
           bif (a0.cls == a1.cls) then (
            bif (a0.ver == a1.ver) then (
             Option.bind (r_mk_Entries a0.fields a1.fields) fun x17 =>
             some x17
            ) else (
             some false
            )
           ) else (
            some false
           )
          ) else (
           some false
          )
         )
        )
       )
      )
     )
    )
   )
  )
 )
theorem mk_Same_j1_cm {ι : Type} {ρ : ι → Type} (r_mk_Entries : (∀ i, Option (ρ i)) → (List (Str × Term)) → (List (Str × Term)) → Option Bool) (h_r_mk_Entries : ∀ y0 y1, CM (fun G => r_mk_Entries G y0 y1)) (r_mk_Lists : (∀ i, Option (ρ i)) → (List Term) → (List Term) → Option Bool) (h_r_mk_Lists : ∀ y0 y1, CM (fun G => r_mk_Lists G y0 y1)) (a0 : Term) (a1 : Term) (s2 : Bool) : CM (fun G : (∀ i, Option (ρ i)) => mk_Same_j1 (r_mk_Entries G) (r_mk_Lists G) a0 a1 s2) := by
 simp only [mk_Same_j1]
 repeat (first | exact cm_const | exact h_r_mk_Entries _ _ | exact h_r_mk_Lists _ _ | refine cm_cond ?_ ?_ | refine cm_bind ?_ (fun _ => ?_))
noncomputable def b_mk_Same (r_mk_Entries : (List (Str × Term)) → (List (Str × Term)) → Option Bool) (r_mk_Lists : (List Term) → (List Term) → Option Bool) (r_mk_Same : Term → Term → Option Bool) (a0 : Term) (a1 : Term) : Option Bool :=
 bif (a0.kind != a1.kind) then (
  some false
 ) else (
  bif (a0.kind == 1) then (
   mk_Same_j1 r_mk_Entries r_mk_Lists a0 a1 (a0.kind == 1)
  ) else (
   mk_Same_j1 r_mk_Entries r_mk_Lists a0 a1 (a0.kind == 11)
  )
 )
theorem b_mk_Same_cm {ι : Type} {ρ : ι → Type} (r_mk_Entries : (∀ i, Option (ρ i)) → (List (Str × Term)) → (List (Str × Term)) → Option Bool) (h_r_mk_Entries : ∀ y0 y1, CM (fun G => r_mk_Entries G y0 y1)) (r_mk_Lists : (∀ i, Option (ρ i)) → (List Term) → (List Term) → Option Bool) (h_r_mk_Lists : ∀ y0 y1, CM (fun G => r_mk_Lists G y0 y1)) (r_mk_Same : (∀ i, Option (ρ i)) → Term → Term → Option Bool) (h_r_mk_Same : ∀ y0 y1, CM (fun G => r_mk_Same G y0 y1)) (a0 : Term) (a1 : Term) : CM (fun G : (∀ i, Option (ρ i)) => b_mk_Same (r_mk_Entries G) (r_mk_Lists G) (r_mk_Same G) a0 a1) := by
 simp only [b_mk_Same]
 repeat (first | exact cm_const | exact h_r_mk_Entries _ _ | exact h_r_mk_Lists _ _ | exact h_r_mk_Same _ _ | apply mk_Same_j1_cm | refine cm_cond ?_ ?_ | refine cm_bind ?_ (fun _ => ?_) | intro _ | assumption)
inductive C_mk_Entries where
 | k_mk_Entries (a0 : (List (Str × Term))) (a1 : (List (Str × Term)))
 | k_mk_Lists (a0 : (List Term)) (a1 : (List Term))
 | k_mk_Same (a0 : Term) (a1 : Term)
def C_mk_Entries.R : C_mk_Entries → Type
 | .k_mk_Entries _ _ => Bool
 | .k_mk_Lists _ _ => Bool
 | .k_mk_Same _ _ => Bool
noncomputable def C_mk_Entries.F (g : ∀ i : C_mk_Entries, Option i.R) : ∀ i : C_mk_Entries, Option i.R
 | .k_mk_Entries a0 a1 => b_mk_Entries (fun a0 a1 => g (.k_mk_Entries a0 a1)) (fun a0 a1 => g (.k_mk_Lists a0 a1)) (fun a0 a1 => g (.k_mk_Same a0 a1)) a0 a1
 | .k_mk_Lists a0 a1 => b_mk_Lists (fun a0 a1 => g (.k_mk_Entries a0 a1)) (fun a0 a1 => g (.k_mk_Lists a0 a1)) (fun a0 a1 => g (.k_mk_Same a0 a1)) a0 a1
 | .k_mk_Same a0 a1 => b_mk_Same (fun a0 a1 => g (.k_mk_Entries a0 a1)) (fun a0 a1 => g (.k_mk_Lists a0 a1)) (fun a0 a1 => g (.k_mk_Same a0 a1)) a0 a1
noncomputable def p_mk_Entries (a0 : (List (Str × Term))) (a1 : (List (Str × Term))) : Option Bool := fixO C_mk_Entries.F (.k_mk_Entries a0 a1)
noncomputable def p_mk_Lists (a0 : (List Term)) (a1 : (List Term)) : Option Bool := fixO C_mk_Entries.F (.k_mk_Lists a0 a1)
noncomputable def p_mk_Same (a0 : Term) (a1 : Term) : Option Bool := fixO C_mk_Entries.F (.k_mk_Same a0 a1)
theorem C_mk_Entries.cm (i : C_mk_Entries) : CM (fun g : (∀ i : C_mk_Entries, Option i.R) => C_mk_Entries.F g i) := by
 cases i with
 | k_mk_Entries a0 a1 => exact b_mk_Entries_cm (fun (g : ∀ i : C_mk_Entries, Option i.R) a0 a1 => g (.k_mk_Entries a0 a1)) (fun a0 a1 => cm_app (i := C_mk_Entries.k_mk_Entries a0 a1)) (fun (g : ∀ i : C_mk_Entries, Option i.R) a0 a1 => g (.k_mk_Lists a0 a1)) (fun a0 a1 => cm_app (i := C_mk_Entries.k_mk_Lists a0 a1)) (fun (g : ∀ i : C_mk_Entries, Option i.R) a0 a1 => g (.k_mk_Same a0 a1)) (fun a0 a1 => cm_app (i := C_mk_Entries.k_mk_Same a0 a1)) a0 a1
 | k_mk_Lists a0 a1 => exact b_mk_Lists_cm (fun (g : ∀ i : C_mk_Entries, Option i.R) a0 a1 => g (.k_mk_Entries a0 a1)) (fun a0 a1 => cm_app (i := C_mk_Entries.k_mk_Entries a0 a1)) (fun (g : ∀ i : C_mk_Entries, Option i.R) a0 a1 => g (.k_mk_Lists a0 a1)) (fun a0 a1 => cm_app (i := C_mk_Entries.k_mk_Lists a0 a1)) (fun (g : ∀ i : C_mk_Entries, Option i.R) a0 a1 => g (.k_mk_Same a0 a1)) (fun a0 a1 => cm_app (i := C_mk_Entries.k_mk_Same a0 a1)) a0 a1
 | k_mk_Same a0 a1 => exact b_mk_Same_cm (fun (g : ∀ i : C_mk_Entries, Option i.R) a0 a1 => g (.k_mk_Entries a0 a1)) (fun a0 a1 => cm_app (i := C_mk_Entries.k_mk_Entries a0 a1)) (fun (g : ∀ i : C_mk_Entries, Option i.R) a0 a1 => g (.k_mk_Lists a0 a1)) (fun a0 a1 => cm_app (i := C_mk_Entries.k_mk_Lists a0 a1)) (fun (g : ∀ i : C_mk_Entries, Option i.R) a0 a1 => g (.k_mk_Same a0 a1)) (fun a0 a1 => cm_app (i := C_mk_Entries.k_mk_Same a0 a1)) a0 a1
theorem e_mk_Entries (a0 : (List (Str × Term))) (a1 : (List (Str × Term))) : p_mk_Entries a0 a1 = b_mk_Entries p_mk_Entries p_mk_Lists p_mk_Same a0 a1 := fixO_eq C_mk_Entries.cm (.k_mk_Entries a0 a1)
theorem e_mk_Lists (a0 : (List Term)) (a1 : (List Term)) : p_mk_Lists a0 a1 = b_mk_Lists p_mk_Entries p_mk_Lists p_mk_Same a0 a1 := fixO_eq C_mk_Entries.cm (.k_mk_Lists a0 a1)
theorem e_mk_Same (a0 : Term) (a1 : Term) : p_mk_Same a0 a1 = b_mk_Same p_mk_Entries p_mk_Lists p_mk_Same a0 a1 := fixO_eq C_mk_Entries.cm (.k_mk_Same a0 a1)
def C_mk_Entries.Q : ∀ i : C_mk_Entries, i.R → Prop
 | .k_mk_Entries a0 a1 => fun (r : Bool) => PCalls Try.prog 49 [(PV.sl none 66 12 (List.map ofEntry a0)), (PV.sl none 66 12 (List.map ofEntry a1))] (BO r)
 | .k_mk_Lists a0 a1 => fun (r : Bool) => PCalls Try.prog 48 [(PV.sl none 29 11 (List.map ofTerm a0)), (PV.sl none 29 11 (List.map ofTerm a1))] (BO r)
 | .k_mk_Same a0 a1 => fun (r : Bool) => PCalls Try.prog 32 [(ofTermX a0), (ofTermX a1)] (BO r)
theorem t_mk_Entries (r_mk_Entries : (List (Str × Term)) → (List (Str × Term)) → Option Bool) (c_mk_Entries : ∀ (a0 : (List (Str × Term))) (a1 : (List (Str × Term))) r, r_mk_Entries a0 a1 = some r → PCalls Try.prog 49 [(PV.sl none 66 12 (List.map ofEntry a0)), (PV.sl none 66 12 (List.map ofEntry a1))] (BO r)) (r_mk_Lists : (List Term) → (List Term) → Option Bool) (c_mk_Lists : ∀ (a0 : (List Term)) (a1 : (List Term)) r, r_mk_Lists a0 a1 = some r → PCalls Try.prog 48 [(PV.sl none 29 11 (List.map ofTerm a0)), (PV.sl none 29 11 (List.map ofTerm a1))] (BO r)) (r_mk_Same : Term → Term → Option Bool) (c_mk_Same : ∀ (a0 : Term) (a1 : Term) r, r_mk_Same a0 a1 = some r → PCalls Try.prog 32 [(ofTermX a0), (ofTermX a1)] (BO r)) (a0 : (List (Str × Term))) (a1 : (List (Str × Term))) (r : Bool) (h : b_mk_Entries r_mk_Entries r_mk_Lists r_mk_Same a0 a1 = some r) : PCalls Try.prog 49 [(PV.sl none 66 12 (List.map ofEntry a0)), (PV.sl none 66 12 (List.map ofEntry a1))] (BO r) := by
 unfold b_mk_Entries at h
 refine acalls_of Try.func49 rfl Try.ntmps49 Try.results49 rfl (aw_of_bw ?_)
 change BW _ _ _ ⟨[(0, (PV.sl none 66 12 (List.map ofEntry a0))), (1, (PV.sl none 66 12 (List.map ofEntry a1)))], [], _⟩ _
 refine bR ?_
 refine sA rfl rfl rfl rfl rfl (ao_nil ?_)
 change BW _ _ _ _ _
 refine bw_seq ?_
 refine bR ?_
 refine sM rfl rfl rfl rfl rfl ?_
 refine sS rfl rfl rfl (op1_lenM Try.underlying27 rfl rfl) ?_
 refine sM rfl rfl rfl rfl rfl ?_
 refine sS rfl rfl rfl (op1_lenM Try.underlying27 rfl rfl) ?_
 refine sS rfl rfl rfl ((op1_cmp rfl rfl rfl rfl).cast (y := (BO (((((a0).length : Nat) : Int) != (((a1).length : Nat) : Int))))) rfl rfl) (ao_nil ?_)
 change BW _ _ _ _ _
 refine bw_cond rfl ?_ ?_
 ·intro hc1; replace h := ocond_t hc1 h
  refine bR ?_
  refine sA rfl rfl rfl rfl rfl (ao_nil ?_)
  change BW _ _ _ _ _
  refine bw_ret ?_
  change ∃ xs, _ = some xs ∧ EndOk _ _ _ _
  obtain rfl := Option.some.inj h
  exact ⟨_, rfl, endOk0 (y := (BO false)) (Wk.refl _) rfl ⟨rfl, rfl⟩⟩
 ·intro hc1; replace h := ocond_f hc1 h
  refine bw_skip ?_
  change BW _ _ _ _ _
  refine bw_seq ?_
  refine bR ?_
  refine sA rfl rfl rfl rfl rfl (ao_nil ?_)
  change BW _ _ _ _ _
  refine bw_block ?_
  change BW _ _ _ _ _
  unfold mk_Entries_l1 at h
  refine bw_loop (σ := Nat) (fun i => [(0, (PV.sl none 66 12 (List.map ofEntry a0))), (1, (PV.sl none 66 12 (List.map ofEntry a1))), (5, (I64 (((i : Nat) : Int))))]) (fun i => []) 0 h ?_ ?_ ?_
  ·intro i; exact ⟨Nat.le_of_ble_eq_true rfl, ⟨(il_nil (ids_slM ids_Entry _)), ⟨(il_nil (ids_slM ids_Entry _)), ⟨(il_nil rfl), trivial⟩⟩⟩, trivial⟩
  ·exact ⟨.nil, (sC rfl (sC rfl (sC rfl sub_nil)))⟩
  ·rintro g1_f s2 h; replace h : mk_Entries_l1b r_mk_Same a0 a1 (fun y0 => g1_f y0) s2 = some r := h; unfold mk_Entries_l1b at h
   change BW _ _ _ ⟨[(0, (PV.sl none 66 12 (List.map ofEntry a0))), (1, (PV.sl none 66 12 (List.map ofEntry a1))), (5, (I64 (((s2 : Nat) : Int))))], [], _⟩ _
   refine bw_seq ?_
   refine bR ?_
   refine sM rfl rfl rfl rfl rfl ?_
   refine sM rfl rfl rfl rfl rfl ?_
   refine sS rfl rfl rfl (op1_lenM Try.underlying27 rfl rfl) ?_
   refine sS rfl rfl rfl ((op1_cmp rfl rfl rfl rfl).cast (y := (BO ((decide (((s2 : Nat) : Int) < (((a0).length : Nat) : Int)))))) rfl rfl) (ao_nil ?_)
   change BW _ _ _ _ _
   refine bw_len (t := 12) rfl fun hb4 => ?_
   try rw [List.length_map] at hb4
   refine bw_cond rfl ?_ ?_
   ·intro hc3; replace h := ocond_t hc3 h
    have hc3_ := of_decide_eq_true hc3
    refine bw_skip ?_
    change BW _ _ _ _ _
    refine bw_seq ?_
    refine bw_block ?_
    change BW _ _ _ _ _
    refine bw_seqJ (ι := Bool) (fun i => mk_Entries_j1 (fun y0 => g1_f y0) s2 i = some r) (fun i => [(0, (PV.sl none 66 12 (List.map ofEntry a0))), (1, (PV.sl none 66 12 (List.map ofEntry a1))), (5, (I64 (((s2 : Nat) : Int)))), (41, (BO i))]) (fun i => []) ?_ ?_ ?_
    ·intro i; exact ⟨Nat.le_of_ble_eq_true rfl, ⟨(il_nil (ids_slM ids_Entry _)), ⟨(il_nil (ids_slM ids_Entry _)), ⟨(il_nil rfl), ⟨(il_nil rfl), trivial⟩⟩⟩⟩, trivial⟩
    ·rintro s5 h; replace h : mk_Entries_j1 (fun y0 => g1_f y0) s2 s5 = some r := h; unfold mk_Entries_j1 at h
     change BW _ _ _ ⟨[(0, (PV.sl none 66 12 (List.map ofEntry a0))), (1, (PV.sl none 66 12 (List.map ofEntry a1))), (5, (I64 (((s2 : Nat) : Int)))), (41, (BO s5))], [], _⟩ _
     refine bw_cond rfl ?_ ?_
     ·intro hc6; replace h := ocond_t hc6 h
      refine bR ?_
      refine sA rfl rfl rfl rfl rfl (ao_nil ?_)
      change BW _ _ _ _ _
      refine bw_ret ?_
      change ∃ xs, _ = some xs ∧ EndOk _ _ _ _
      obtain rfl := Option.some.inj h
      exact ⟨_, rfl, endOk0 (y := (BO false)) (Wk.refl _) rfl ⟨rfl, rfl⟩⟩
     ·intro hc6; replace h := ocond_f hc6 h
      refine bw_skip ?_
      change BW _ _ _ _ _
      refine bw_region ?_
      refine sM rfl rfl rfl rfl rfl ?_
      refine sS rfl rfl rfl (op1_incN (k := s2) (c := 1) rfl rfl rfl (by omega)) ?_
      refine sA rfl rfl rfl rfl rfl (ao_nil ?_)
      exact ⟨rfl, (s2 + 1), h, ⟨.nil, (sC rfl (sC rfl (sC rfl sub_nil)))⟩⟩
    ·refine bw_tail 22 [] [] mo (by kernel_rfl) ?_
     refine ac_go rfl rfl rfl rfl (fun H hp => op1_move rfl rfl) ?_
     refine ac_go rfl rfl rfl rfl (fun H hp => op1_move rfl rfl) ?_
     obtain ⟨x7, hx7, h⟩ := obind h
     refine ac_go rfl rfl rfl rfl (fun H hp => op1_idxN (i := s2) Try.underlying27 inf_66 rfl rfl rfl hx7 (ofEntry_eq _)) ?_
     refine ac_go rfl rfl rfl rfl (fun H hp => op1_faP st_66 (i := 0) rfl rfl rfl) ?_
     refine ac_go rfl rfl rfl rfl (fun H hp => op1_ldP (y := (ofStr x7.1)) Try.underlying9 rfl rfl rfl rfl) ?_
     refine ac_go rfl rfl rfl rfl (fun H hp => op1_move rfl rfl) ?_
     refine ac_go rfl rfl rfl rfl (fun H hp => op1_move rfl rfl) ?_
     obtain ⟨x8, hx8, h⟩ := obind h
     refine ac_go rfl rfl rfl rfl (fun H hp => op1_idxN (i := s2) Try.underlying27 inf_66 rfl rfl rfl hx8 (ofEntry_eq _)) ?_
     refine ac_go rfl rfl rfl rfl (fun H hp => op1_faP st_66 (i := 0) rfl rfl rfl) ?_
     refine ac_go rfl rfl rfl rfl (fun H hp => op1_ldP (y := (ofStr x8.1)) Try.underlying9 rfl rfl rfl rfl) ?_
     refine ac_go rfl rfl rfl rfl (fun H hp => (op1_cmpT (a := x7.1) (b := x8.1) rfl rfl rfl rfl).cast (y := (BO ((!(x7.1 == x8.1))))) rfl rfl) ?_
     refine ac_go rfl rfl rfl rfl (fun H hp => op1_move rfl rfl) ?_
     refine ac_cases 28 rfl ?_ ?_
     ·intro hb9; replace h := ocond_t hb9 h
      refine ac_no rfl rfl rfl rfl rfl rfl rfl ?_
      refine ac_no rfl rfl rfl rfl rfl rfl rfl ?_
      refine ac_no rfl rfl rfl rfl rfl rfl rfl ?_
      refine ac_no rfl rfl rfl rfl rfl rfl rfl ?_
      refine ac_no rfl rfl rfl rfl rfl rfl rfl ?_
      refine ac_no rfl rfl rfl rfl rfl rfl rfl ?_
      refine ac_no rfl rfl rfl rfl rfl rfl rfl ?_
      refine ac_no rfl rfl rfl rfl rfl rfl rfl ?_
      refine ac_no rfl rfl rfl rfl rfl rfl rfl ?_
      refine ac_no rfl rfl rfl rfl rfl rfl rfl ?_
      refine ac_nil ?_
      change AO _ _ _ _ _
      refine ao_no rfl rfl rfl rfl rfl rfl ?_
      refine ao_no rfl rfl rfl rfl rfl rfl ?_
      refine sS rfl rfl rfl (op1_pickT rfl rfl rfl) (ao_nil ?_)
      exact ⟨rfl, true, h, ⟨.nil, (sC rfl (sC rfl (sC rfl (sC rfl sub_nil))))⟩⟩
     ·intro hb9; replace h := ocond_f hb9 h
      refine ac_yes rfl rfl rfl rfl rfl rfl rfl (fun H hp => op1_move rfl rfl) ?_
      refine ac_yes rfl rfl rfl rfl rfl rfl rfl (fun H hp => op1_move rfl rfl) ?_
      obtain ⟨x10, hx10, h⟩ := obind h
      refine ac_yes rfl rfl rfl rfl rfl rfl rfl (fun H hp => op1_idxN (i := s2) Try.underlying27 inf_66 rfl rfl rfl hx10 (ofEntry_eq _)) ?_
      refine ac_yes rfl rfl rfl rfl rfl rfl rfl (fun H hp => op1_faP st_66 (i := 1) rfl rfl rfl) ?_
      refine ac_yes rfl rfl rfl rfl rfl rfl rfl (fun H hp => (op1_ldPA inf_29 Try.underlying29 rfl rfl rfl rfl rfl)) ?_
      refine ac_yes rfl rfl rfl rfl rfl rfl rfl (fun H hp => op1_move rfl rfl) ?_
      refine ac_yes rfl rfl rfl rfl rfl rfl rfl (fun H hp => op1_move rfl rfl) ?_
      obtain ⟨x11, hx11, h⟩ := obind h
      refine ac_yes rfl rfl rfl rfl rfl rfl rfl (fun H hp => op1_idxN (i := s2) Try.underlying27 inf_66 rfl rfl rfl hx11 (ofEntry_eq _)) ?_
      refine ac_yes rfl rfl rfl rfl rfl rfl rfl (fun H hp => op1_faP st_66 (i := 1) rfl rfl rfl) ?_
      refine ac_yes rfl rfl rfl rfl rfl rfl rfl (fun H hp => (op1_ldPA inf_29 Try.underlying29 rfl rfl rfl rfl rfl)) ?_
      refine ac_nil ?_
      change AO _ _ _ _ _
      obtain ⟨x12, hx12, h⟩ := obind h
      refine ao_yes rfl rfl rfl rfl rfl rfl (op1_pcall rfl en_32 rfl (.cons (Wk.refl _) (.cons (Wk.refl _) .nil)) ⟨(ids_TermX (x10.2)), ⟨(ids_TermX (x11.2)), trivial⟩⟩ (c_mk_Same (x10.2) (x11.2) x12 hx12) rfl) ?_
      refine ao_yes rfl rfl rfl rfl rfl rfl (op1_not rfl rfl) ?_
      refine sS rfl rfl rfl (op1_pickF rfl rfl rfl) (ao_nil ?_)
      exact ⟨rfl, (!x12), h, ⟨.nil, (sC rfl (sC rfl (sC rfl (sC rfl sub_nil))))⟩⟩
   ·intro hc3; replace h := ocond_f hc3 h
    refine bw_exit ?_
    change BW _ _ _ _ _
    refine bR ?_
    refine sA rfl rfl rfl rfl rfl (ao_nil ?_)
    change BW _ _ _ _ _
    refine bw_ret ?_
    change ∃ xs, _ = some xs ∧ EndOk _ _ _ _
    obtain rfl := Option.some.inj h
    exact ⟨_, rfl, endOk0 (y := (BO true)) (Wk.refl _) rfl ⟨rfl, rfl⟩⟩
theorem t_mk_Lists (r_mk_Entries : (List (Str × Term)) → (List (Str × Term)) → Option Bool) (c_mk_Entries : ∀ (a0 : (List (Str × Term))) (a1 : (List (Str × Term))) r, r_mk_Entries a0 a1 = some r → PCalls Try.prog 49 [(PV.sl none 66 12 (List.map ofEntry a0)), (PV.sl none 66 12 (List.map ofEntry a1))] (BO r)) (r_mk_Lists : (List Term) → (List Term) → Option Bool) (c_mk_Lists : ∀ (a0 : (List Term)) (a1 : (List Term)) r, r_mk_Lists a0 a1 = some r → PCalls Try.prog 48 [(PV.sl none 29 11 (List.map ofTerm a0)), (PV.sl none 29 11 (List.map ofTerm a1))] (BO r)) (r_mk_Same : Term → Term → Option Bool) (c_mk_Same : ∀ (a0 : Term) (a1 : Term) r, r_mk_Same a0 a1 = some r → PCalls Try.prog 32 [(ofTermX a0), (ofTermX a1)] (BO r)) (a0 : (List Term)) (a1 : (List Term)) (r : Bool) (h : b_mk_Lists r_mk_Entries r_mk_Lists r_mk_Same a0 a1 = some r) : PCalls Try.prog 48 [(PV.sl none 29 11 (List.map ofTerm a0)), (PV.sl none 29 11 (List.map ofTerm a1))] (BO r) := by
 unfold b_mk_Lists at h
 refine acalls_of Try.func48 rfl Try.ntmps48 Try.results48 rfl (aw_of_bw ?_)
 change BW _ _ _ ⟨[(0, (PV.sl none 29 11 (List.map ofTerm a0))), (1, (PV.sl none 29 11 (List.map ofTerm a1)))], [], _⟩ _
 refine bR ?_
 refine sA rfl rfl rfl rfl rfl (ao_nil ?_)
 change BW _ _ _ _ _
 refine bw_seq ?_
 refine bR ?_
 refine sM rfl rfl rfl rfl rfl ?_
 refine sS rfl rfl rfl (op1_lenM Try.underlying26 rfl rfl) ?_
 refine sM rfl rfl rfl rfl rfl ?_
 refine sS rfl rfl rfl (op1_lenM Try.underlying26 rfl rfl) ?_
 refine sS rfl rfl rfl ((op1_cmp rfl rfl rfl rfl).cast (y := (BO (((((a0).length : Nat) : Int) != (((a1).length : Nat) : Int))))) rfl rfl) (ao_nil ?_)
 change BW _ _ _ _ _
 refine bw_cond rfl ?_ ?_
 ·intro hc1; replace h := ocond_t hc1 h
  refine bR ?_
  refine sA rfl rfl rfl rfl rfl (ao_nil ?_)
  change BW _ _ _ _ _
  refine bw_ret ?_
  change ∃ xs, _ = some xs ∧ EndOk _ _ _ _
  obtain rfl := Option.some.inj h
  exact ⟨_, rfl, endOk0 (y := (BO false)) (Wk.refl _) rfl ⟨rfl, rfl⟩⟩
 ·intro hc1; replace h := ocond_f hc1 h
  refine bw_skip ?_
  change BW _ _ _ _ _
  refine bw_seq ?_
  refine bR ?_
  refine sA rfl rfl rfl rfl rfl (ao_nil ?_)
  change BW _ _ _ _ _
  refine bw_block ?_
  change BW _ _ _ _ _
  unfold mk_Lists_l1 at h
  refine bw_loop (σ := Nat) (fun i => [(0, (PV.sl none 29 11 (List.map ofTerm a0))), (1, (PV.sl none 29 11 (List.map ofTerm a1))), (5, (I64 (((i : Nat) : Int))))]) (fun i => []) 0 h ?_ ?_ ?_
  ·intro i; exact ⟨Nat.le_of_ble_eq_true rfl, ⟨(il_nil (ids_slM ids_Term _)), ⟨(il_nil (ids_slM ids_Term _)), ⟨(il_nil rfl), trivial⟩⟩⟩, trivial⟩
  ·exact ⟨.nil, (sC rfl (sC rfl (sC rfl sub_nil)))⟩
  ·rintro g1_f s2 h; replace h : mk_Lists_l1b r_mk_Same a0 a1 (fun y0 => g1_f y0) s2 = some r := h; unfold mk_Lists_l1b at h
   change BW _ _ _ ⟨[(0, (PV.sl none 29 11 (List.map ofTerm a0))), (1, (PV.sl none 29 11 (List.map ofTerm a1))), (5, (I64 (((s2 : Nat) : Int))))], [], _⟩ _
   refine bw_seq ?_
   refine bR ?_
   refine sM rfl rfl rfl rfl rfl ?_
   refine sM rfl rfl rfl rfl rfl ?_
   refine sS rfl rfl rfl (op1_lenM Try.underlying26 rfl rfl) ?_
   refine sS rfl rfl rfl ((op1_cmp rfl rfl rfl rfl).cast (y := (BO ((decide (((s2 : Nat) : Int) < (((a0).length : Nat) : Int)))))) rfl rfl) (ao_nil ?_)
   change BW _ _ _ _ _
   refine bw_len (t := 12) rfl fun hb4 => ?_
   try rw [List.length_map] at hb4
   refine bw_cond rfl ?_ ?_
   ·intro hc3; replace h := ocond_t hc3 h
    have hc3_ := of_decide_eq_true hc3
    refine bw_skip ?_
    change BW _ _ _ _ _
    refine bw_seq ?_
    refine bw_block ?_
    change BW _ _ _ _ _
    refine bw_seq (bw_tail 8 [] [] mo (by kernel_rfl) ?_)
    refine ac_go rfl rfl rfl rfl (fun H hp => op1_move rfl rfl) ?_
    refine ac_go rfl rfl rfl rfl (fun H hp => op1_move rfl rfl) ?_
    obtain ⟨x5, hx5, h⟩ := obind h
    refine ac_go rfl rfl rfl rfl (fun H hp => op1_idxN (i := s2) Try.underlying26 inf_29 rfl rfl rfl hx5 (ofTerm_eq _)) ?_
    refine ac_go rfl rfl rfl rfl (fun H hp => op1_ldPW inf_29 Try.underlying29 rfl rfl rfl rfl rfl) ?_
    refine ac_go rfl rfl rfl rfl (fun H hp => op1_move rfl rfl) ?_
    refine ac_go rfl rfl rfl rfl (fun H hp => op1_move rfl rfl) ?_
    obtain ⟨x6, hx6, h⟩ := obind h
    refine ac_go rfl rfl rfl rfl (fun H hp => op1_idxN (i := s2) Try.underlying26 inf_29 rfl rfl rfl hx6 (ofTerm_eq _)) ?_
    refine ac_go rfl rfl rfl rfl (fun H hp => op1_ldPW inf_29 Try.underlying29 rfl rfl rfl rfl rfl) ?_
    refine ac_nil ?_
    change AO _ _ _ _ _
    obtain ⟨x7, hx7, h⟩ := obind h
    refine sS rfl rfl rfl (op1_pcall rfl en_32 rfl (.cons (Wk.refl _) (.cons (Wk.refl _) .nil)) ⟨(ids_TermX x5), ⟨(ids_TermX x6), trivial⟩⟩ (c_mk_Same x5 x6 x7 hx7) rfl) ?_
    refine sS rfl rfl rfl (op1_not rfl rfl) (ao_nil ?_)
    change BW _ _ _ _ _
    refine bw_cond rfl ?_ ?_
    ·intro hc8; replace h := ocond_t hc8 h
     refine bR ?_
     refine sA rfl rfl rfl rfl rfl (ao_nil ?_)
     change BW _ _ _ _ _
     refine bw_ret ?_
     change ∃ xs, _ = some xs ∧ EndOk _ _ _ _
     obtain rfl := Option.some.inj h
     exact ⟨_, rfl, endOk0 (y := (BO false)) (Wk.refl _) rfl ⟨rfl, rfl⟩⟩
    ·intro hc8; replace h := ocond_f hc8 h
     refine bw_skip ?_
     change BW _ _ _ _ _
     refine bw_region ?_
     refine sM rfl rfl rfl rfl rfl ?_
     refine sS rfl rfl rfl (op1_incN (k := s2) (c := 1) rfl rfl rfl (by omega)) ?_
     refine sA rfl rfl rfl rfl rfl (ao_nil ?_)
     exact ⟨rfl, (s2 + 1), h, ⟨.nil, (sC rfl (sC rfl (sC rfl sub_nil)))⟩⟩
   ·intro hc3; replace h := ocond_f hc3 h
    refine bw_exit ?_
    change BW _ _ _ _ _
    refine bR ?_
    refine sA rfl rfl rfl rfl rfl (ao_nil ?_)
    change BW _ _ _ _ _
    refine bw_ret ?_
    change ∃ xs, _ = some xs ∧ EndOk _ _ _ _
    obtain rfl := Option.some.inj h
    exact ⟨_, rfl, endOk0 (y := (BO true)) (Wk.refl _) rfl ⟨rfl, rfl⟩⟩
theorem t_mk_Same (r_mk_Entries : (List (Str × Term)) → (List (Str × Term)) → Option Bool) (c_mk_Entries : ∀ (a0 : (List (Str × Term))) (a1 : (List (Str × Term))) r, r_mk_Entries a0 a1 = some r → PCalls Try.prog 49 [(PV.sl none 66 12 (List.map ofEntry a0)), (PV.sl none 66 12 (List.map ofEntry a1))] (BO r)) (r_mk_Lists : (List Term) → (List Term) → Option Bool) (c_mk_Lists : ∀ (a0 : (List Term)) (a1 : (List Term)) r, r_mk_Lists a0 a1 = some r → PCalls Try.prog 48 [(PV.sl none 29 11 (List.map ofTerm a0)), (PV.sl none 29 11 (List.map ofTerm a1))] (BO r)) (r_mk_Same : Term → Term → Option Bool) (c_mk_Same : ∀ (a0 : Term) (a1 : Term) r, r_mk_Same a0 a1 = some r → PCalls Try.prog 32 [(ofTermX a0), (ofTermX a1)] (BO r)) (a0 : Term) (a1 : Term) (r : Bool) (h : b_mk_Same r_mk_Entries r_mk_Lists r_mk_Same a0 a1 = some r) : PCalls Try.prog 32 [(ofTermX a0), (ofTermX a1)] (BO r) := by
 unfold b_mk_Same at h
 refine acalls_of Try.func32 rfl Try.ntmps32 Try.results32 rfl (aw_of_bw ?_)
 change BW _ _ _ ⟨[(0, (ofTermX a0)), (1, (ofTermX a1))], [], _⟩ _
 refine bR ?_
 refine sS rfl rfl rfl (op1_box rfl rfl rfl) ?_
 refine sS rfl rfl rfl (op1_box rfl rfl rfl) ?_
 refine sA rfl rfl rfl rfl rfl (ao_nil ?_)
 change BW _ _ _ _ _
 refine bw_seq ?_
 refine bR ?_
 refine sS rfl rfl rfl (op1_faR st_29 (i := 0) rfl rfl rfl) ?_
 refine sS rfl rfl rfl ((op1_ldR Try.underlying3 rfl rfl rfl rfl rfl)) ?_
 refine sS rfl rfl rfl (op1_faR st_29 (i := 0) rfl rfl rfl) ?_
 refine sS rfl rfl rfl ((op1_ldR Try.underlying3 rfl rfl rfl rfl rfl)) ?_
 refine sS rfl rfl rfl ((op1_cmp rfl rfl rfl rfl).cast (y := (BO ((a0.kind != a1.kind)))) rfl rfl) (ao_nil ?_)
 change BW _ _ _ _ _
 refine bw_cond rfl ?_ ?_
 ·intro hc1; replace h := ocond_t hc1 h
  refine bR ?_
  refine sA rfl rfl rfl rfl rfl (ao_nil ?_)
  change BW _ _ _ _ _
  refine bw_ret ?_
  change ∃ xs, _ = some xs ∧ EndOk _ _ _ _
  obtain rfl := Option.some.inj h
  exact ⟨_, rfl, endOk0 (y := (BO false)) (Wk.refl _) rfl ⟨rfl, rfl⟩⟩
 ·intro hc1; replace h := ocond_f hc1 h
  refine bw_skip ?_
  change BW _ _ _ _ _
  refine bw_seq ?_
  refine bR ?_
  refine sS rfl rfl rfl (op1_faR st_29 (i := 0) rfl rfl rfl) ?_
  refine sS rfl rfl rfl ((op1_ldR Try.underlying3 rfl rfl rfl rfl rfl)) (ao_nil ?_)
  change BW _ _ _ _ _
  refine bw_block ?_
  change BW _ _ _ _ _
  refine bw_seqJ (ι := Bool) (fun i => mk_Same_j1 r_mk_Entries r_mk_Lists a0 a1 i = some r) (fun i => [(2, (PV.rf 0 0)), (3, (PV.rf 1 0)), (11, (I64 a0.kind)), (12, (BO i))]) (fun i => [.box 29 [(I64 a0.kind), (BO a0.bool), (I64 a0.int), (PV.v (.float .f64 a0.float)), (ofStr a0.text), (PV.sl none 5 1 (List.map ofB a0.bytes)), (PV.v (.int .u64 a0.ref)), (PV.sl none 29 11 (List.map ofTerm a0.list)), (PV.sl none 66 12 (List.map ofEntry a0.fields)), (ofStr a0.cls), (I64 a0.ver)], .box 29 [(I64 a1.kind), (BO a1.bool), (I64 a1.int), (PV.v (.float .f64 a1.float)), (ofStr a1.text), (PV.sl none 5 1 (List.map ofB a1.bytes)), (PV.v (.int .u64 a1.ref)), (PV.sl none 29 11 (List.map ofTerm a1.list)), (PV.sl none 66 12 (List.map ofEntry a1.fields)), (ofStr a1.cls), (I64 a1.ver)]]) ?_ ?_ ?_
  ·intro i; exact ⟨Nat.le_of_ble_eq_true rfl, ⟨(il_rf rfl), ⟨(il_rf rfl), ⟨(il_nil rfl), ⟨(il_nil rfl), trivial⟩⟩⟩⟩, ⟨⟨(il_nil rfl), ⟨(il_nil rfl), ⟨(il_nil rfl), ⟨(il_nil rfl), ⟨(il_nil rfl), ⟨(il_nil (ids_slM (fun _ => rfl) _)), ⟨(il_nil rfl), ⟨(il_nil (ids_slM ids_Term _)), ⟨(il_nil (ids_slM ids_Entry _)), ⟨(il_nil rfl), ⟨(il_nil rfl), trivial⟩⟩⟩⟩⟩⟩⟩⟩⟩⟩⟩, ⟨⟨(il_nil rfl), ⟨(il_nil rfl), ⟨(il_nil rfl), ⟨(il_nil rfl), ⟨(il_nil rfl), ⟨(il_nil (ids_slM (fun _ => rfl) _)), ⟨(il_nil rfl), ⟨(il_nil (ids_slM ids_Term _)), ⟨(il_nil (ids_slM ids_Entry _)), ⟨(il_nil rfl), ⟨(il_nil rfl), trivial⟩⟩⟩⟩⟩⟩⟩⟩⟩⟩⟩, trivial⟩⟩⟩
  ·rintro s2 h; replace h : mk_Same_j1 r_mk_Entries r_mk_Lists a0 a1 s2 = some r := h; unfold mk_Same_j1 at h
   change BW _ _ _ ⟨[(2, (PV.rf 0 0)), (3, (PV.rf 1 0)), (11, (I64 a0.kind)), (12, (BO s2))], [.box 29 [(I64 a0.kind), (BO a0.bool), (I64 a0.int), (PV.v (.float .f64 a0.float)), (ofStr a0.text), (PV.sl none 5 1 (List.map ofB a0.bytes)), (PV.v (.int .u64 a0.ref)), (PV.sl none 29 11 (List.map ofTerm a0.list)), (PV.sl none 66 12 (List.map ofEntry a0.fields)), (ofStr a0.cls), (I64 a0.ver)], .box 29 [(I64 a1.kind), (BO a1.bool), (I64 a1.int), (PV.v (.float .f64 a1.float)), (ofStr a1.text), (PV.sl none 5 1 (List.map ofB a1.bytes)), (PV.v (.int .u64 a1.ref)), (PV.sl none 29 11 (List.map ofTerm a1.list)), (PV.sl none 66 12 (List.map ofEntry a1.fields)), (ofStr a1.cls), (I64 a1.ver)]], _⟩ _
   refine bw_cond rfl ?_ ?_
   ·intro hc3; replace h := ocond_t hc3 h
    refine bR ?_
    refine sA rfl rfl rfl rfl rfl (ao_nil ?_)
    change BW _ _ _ _ _
    refine bw_ret ?_
    change ∃ xs, _ = some xs ∧ EndOk _ _ _ _
    obtain rfl := Option.some.inj h
    exact ⟨_, rfl, endOk0 (y := (BO true)) (Wk.refl _) rfl ⟨rfl, rfl⟩⟩
   ·intro hc3; replace h := ocond_f hc3 h
    refine bR ?_
    refine sS rfl rfl rfl ((op1_cmp rfl rfl rfl rfl).cast (y := (BO ((a0.kind == 2)))) rfl rfl) ?_
    refine sA rfl rfl rfl rfl rfl (ao_nil ?_)
    change BW _ _ _ _ _
    refine bw_cond rfl ?_ ?_
    ·intro hc4; replace h := ocond_t hc4 h
     refine bR ?_
     refine sS rfl rfl rfl (op1_faR st_29 (i := 1) rfl rfl rfl) ?_
     refine sS rfl rfl rfl ((op1_ldR Try.underlying4 rfl rfl rfl rfl rfl)) ?_
     refine sS rfl rfl rfl (op1_faR st_29 (i := 1) rfl rfl rfl) ?_
     refine sS rfl rfl rfl ((op1_ldR Try.underlying4 rfl rfl rfl rfl rfl)) ?_
     refine sS rfl rfl rfl (op1_eqB Try.underlying4 rfl rfl rfl) ?_
     refine sA rfl rfl rfl rfl rfl (ao_nil ?_)
     change BW _ _ _ _ _
     refine bw_ret ?_
     change ∃ xs, _ = some xs ∧ EndOk _ _ _ _
     obtain rfl := Option.some.inj h
     exact ⟨_, rfl, endOk0 (y := (BO ((a0.bool == a1.bool)))) (Wk.refl _) rfl ⟨rfl, rfl⟩⟩
    ·intro hc4; replace h := ocond_f hc4 h
     refine bR ?_
     refine sS rfl rfl rfl ((op1_cmp rfl rfl rfl rfl).cast (y := (BO ((a0.kind == 3)))) rfl rfl) ?_
     refine sA rfl rfl rfl rfl rfl (ao_nil ?_)
     change BW _ _ _ _ _
     refine bw_cond rfl ?_ ?_
     ·intro hc5; replace h := ocond_t hc5 h
      refine bR ?_
      refine sS rfl rfl rfl (op1_faR st_29 (i := 2) rfl rfl rfl) ?_
      refine sS rfl rfl rfl ((op1_ldR Try.underlying2 rfl rfl rfl rfl rfl)) ?_
      refine sS rfl rfl rfl (op1_faR st_29 (i := 2) rfl rfl rfl) ?_
      refine sS rfl rfl rfl ((op1_ldR Try.underlying2 rfl rfl rfl rfl rfl)) ?_
      refine sS rfl rfl rfl ((op1_cmp rfl rfl rfl rfl).cast (y := (BO ((a0.int == a1.int)))) rfl rfl) ?_
      refine sA rfl rfl rfl rfl rfl (ao_nil ?_)
      change BW _ _ _ _ _
      refine bw_ret ?_
      change ∃ xs, _ = some xs ∧ EndOk _ _ _ _
      obtain rfl := Option.some.inj h
      exact ⟨_, rfl, endOk0 (y := (BO ((a0.int == a1.int)))) (Wk.refl _) rfl ⟨rfl, rfl⟩⟩
     ·intro hc5; replace h := ocond_f hc5 h
      refine bR ?_
      refine sS rfl rfl rfl ((op1_cmp rfl rfl rfl rfl).cast (y := (BO ((a0.kind == 4)))) rfl rfl) ?_
      refine sA rfl rfl rfl rfl rfl (ao_nil ?_)
      change BW _ _ _ _ _
      refine bw_cond rfl ?_ ?_
      ·intro hc6; replace h := ocond_t hc6 h
       refine bw_seq (bw_tail 5 [] [0, 1] mo (by kernel_rfl) ?_)
       refine ac_go rfl rfl rfl rfl (fun H hp => op1_faR st_29 (i := 3) rfl rfl rfl) ?_
       refine ac_go rfl rfl rfl rfl (fun H hp => (op1_ldR Try.underlying22 rfl rfl rfl (hp.at rfl rfl) rfl)) ?_
       refine ac_go rfl rfl rfl rfl (fun H hp => op1_f64bits rfl rfl) ?_
       refine ac_go rfl rfl rfl rfl (fun H hp => op1_faR st_29 (i := 3) rfl rfl rfl) ?_
       refine ac_go rfl rfl rfl rfl (fun H hp => (op1_ldR Try.underlying22 rfl rfl rfl (hp.at rfl rfl) rfl)) ?_
       refine ac_nil ?_
       change AO _ _ _ _ _
       refine sS rfl rfl rfl (op1_f64bits rfl rfl) ?_
       refine sS rfl rfl rfl ((op1_cmp rfl rfl rfl rfl).cast (y := (BO ((((a0.float : Nat) : Int) == ((a1.float : Nat) : Int))))) rfl rfl) ?_
       refine sA rfl rfl rfl rfl rfl (ao_nil ?_)
       change BW _ _ _ _ _
       refine bw_ret ?_
       change ∃ xs, _ = some xs ∧ EndOk _ _ _ _
       obtain rfl := Option.some.inj h
       exact ⟨_, rfl, endOk0 (y := (BO ((((a0.float : Nat) : Int) == ((a1.float : Nat) : Int))))) (Wk.refl _) rfl ⟨rfl, rfl⟩⟩
      ·intro hc6; replace h := ocond_f hc6 h
       refine bR ?_
       refine sS rfl rfl rfl ((op1_cmp rfl rfl rfl rfl).cast (y := (BO ((a0.kind == 5)))) rfl rfl) ?_
       refine sA rfl rfl rfl rfl rfl (ao_nil ?_)
       change BW _ _ _ _ _
       refine bw_cond rfl ?_ ?_
       ·intro hc7; replace h := ocond_t hc7 h
        refine bR ?_
        refine sS rfl rfl rfl (op1_faR st_29 (i := 4) rfl rfl rfl) ?_
        refine sS rfl rfl rfl ((op1_ldR Try.underlying9 rfl rfl rfl rfl rfl)) ?_
        refine sS rfl rfl rfl (op1_faR st_29 (i := 4) rfl rfl rfl) ?_
        refine sS rfl rfl rfl ((op1_ldR Try.underlying9 rfl rfl rfl rfl rfl)) ?_
        refine sS rfl rfl rfl ((op1_cmpT (a := a0.text) (b := a1.text) rfl rfl rfl rfl).cast (y := (BO ((a0.text == a1.text)))) rfl rfl) ?_
        refine sA rfl rfl rfl rfl rfl (ao_nil ?_)
        change BW _ _ _ _ _
        refine bw_ret ?_
        change ∃ xs, _ = some xs ∧ EndOk _ _ _ _
        obtain rfl := Option.some.inj h
        exact ⟨_, rfl, endOk0 (y := (BO ((a0.text == a1.text)))) (Wk.refl _) rfl ⟨rfl, rfl⟩⟩
       ·intro hc7; replace h := ocond_f hc7 h
        refine bR ?_
        refine sS rfl rfl rfl ((op1_cmp rfl rfl rfl rfl).cast (y := (BO ((a0.kind == 6)))) rfl rfl) ?_
        refine sA rfl rfl rfl rfl rfl (ao_nil ?_)
        change BW _ _ _ _ _
        refine bw_cond rfl ?_ ?_
        ·intro hc8; replace h := ocond_t hc8 h
         refine bR ?_
         refine sS rfl rfl rfl (op1_faR st_29 (i := 5) rfl rfl rfl) ?_
         refine sS rfl rfl rfl ((op1_ldR Try.underlying23 rfl rfl rfl rfl rfl)) ?_
         refine sS rfl rfl rfl (op1_toT Try.underlying23 Try.underlying9 Try.underlying5 rfl rfl) ?_
         refine sS rfl rfl rfl (op1_faR st_29 (i := 5) rfl rfl rfl) ?_
         refine sS rfl rfl rfl ((op1_ldR Try.underlying23 rfl rfl rfl rfl rfl)) ?_
         refine sS rfl rfl rfl (op1_toT Try.underlying23 Try.underlying9 Try.underlying5 rfl rfl) ?_
         refine sS rfl rfl rfl ((op1_cmpT (a := a0.bytes) (b := a1.bytes) rfl rfl rfl rfl).cast (y := (BO ((a0.bytes == a1.bytes)))) rfl rfl) ?_
         refine sA rfl rfl rfl rfl rfl (ao_nil ?_)
         change BW _ _ _ _ _
         refine bw_ret ?_
         change ∃ xs, _ = some xs ∧ EndOk _ _ _ _
         obtain rfl := Option.some.inj h
         exact ⟨_, rfl, endOk0 (y := (BO ((a0.bytes == a1.bytes)))) (Wk.refl _) rfl ⟨rfl, rfl⟩⟩
        ·intro hc8; replace h := ocond_f hc8 h
         refine bR ?_
         refine sS rfl rfl rfl ((op1_cmp rfl rfl rfl rfl).cast (y := (BO ((a0.kind == 7)))) rfl rfl) ?_
         refine sA rfl rfl rfl rfl rfl (ao_nil ?_)
         change BW _ _ _ _ _
         refine bw_cond rfl ?_ ?_
         ·intro hc9; replace h := ocond_t hc9 h
          refine bR ?_
          refine sS rfl rfl rfl (op1_faR st_29 (i := 6) rfl rfl rfl) ?_
          refine sS rfl rfl rfl ((op1_ldR Try.underlying25 rfl rfl rfl rfl rfl)) ?_
          refine sS rfl rfl rfl (op1_faR st_29 (i := 6) rfl rfl rfl) ?_
          refine sS rfl rfl rfl ((op1_ldR Try.underlying25 rfl rfl rfl rfl rfl)) ?_
          refine sS rfl rfl rfl ((op1_cmp rfl rfl rfl rfl).cast (y := (BO ((a0.ref == a1.ref)))) rfl rfl) ?_
          refine sA rfl rfl rfl rfl rfl (ao_nil ?_)
          change BW _ _ _ _ _
          refine bw_ret ?_
          change ∃ xs, _ = some xs ∧ EndOk _ _ _ _
          obtain rfl := Option.some.inj h
          exact ⟨_, rfl, endOk0 (y := (BO ((a0.ref == a1.ref)))) (Wk.refl _) rfl ⟨rfl, rfl⟩⟩
         ·intro hc9; replace h := ocond_f hc9 h
          refine bR ?_
          refine sS rfl rfl rfl ((op1_cmp rfl rfl rfl rfl).cast (y := (BO ((a0.kind == 8)))) rfl rfl) ?_
          refine sA rfl rfl rfl rfl rfl (ao_nil ?_)
          change BW _ _ _ _ _
          refine bw_cond rfl ?_ ?_
          ·intro hc10; replace h := ocond_t hc10 h
           refine bR ?_
           refine sS rfl rfl rfl (op1_faR st_29 (i := 7) rfl rfl rfl) ?_
           refine sS rfl rfl rfl ((op1_ldR Try.underlying26 rfl rfl rfl rfl rfl)) ?_
           refine sS rfl rfl rfl (op1_faR st_29 (i := 7) rfl rfl rfl) ?_
           refine sS rfl rfl rfl ((op1_ldR Try.underlying26 rfl rfl rfl rfl rfl)) ?_
           obtain ⟨x11, hx11, h⟩ := obind h
           refine sS rfl rfl rfl (op1_pcall rfl en_48 rfl (.cons (Wk.refl _) (.cons (Wk.refl _) .nil)) ⟨(ids_slM ids_Term a0.list), ⟨(ids_slM ids_Term a1.list), trivial⟩⟩ (c_mk_Lists a0.list a1.list x11 hx11) rfl) ?_
           refine sA rfl rfl rfl rfl rfl (ao_nil ?_)
           change BW _ _ _ _ _
           refine bw_ret ?_
           change ∃ xs, _ = some xs ∧ EndOk _ _ _ _
           obtain rfl := Option.some.inj h
           exact ⟨_, rfl, endOk0 (y := (BO x11)) (Wk.refl _) rfl ⟨rfl, rfl⟩⟩
          ·intro hc10; replace h := ocond_f hc10 h
           refine bR ?_
           refine sS rfl rfl rfl ((op1_cmp rfl rfl rfl rfl).cast (y := (BO ((a0.kind == 9)))) rfl rfl) ?_
           refine sA rfl rfl rfl rfl rfl (ao_nil ?_)
           change BW _ _ _ _ _
           refine bw_cond rfl ?_ ?_
           ·intro hc12; replace h := ocond_t hc12 h
            refine bR ?_
            refine sS rfl rfl rfl (op1_faR st_29 (i := 8) rfl rfl rfl) ?_
            refine sS rfl rfl rfl ((op1_ldR Try.underlying27 rfl rfl rfl rfl rfl)) ?_
            refine sS rfl rfl rfl (op1_faR st_29 (i := 8) rfl rfl rfl) ?_
            refine sS rfl rfl rfl ((op1_ldR Try.underlying27 rfl rfl rfl rfl rfl)) ?_
            obtain ⟨x13, hx13, h⟩ := obind h
            refine sS rfl rfl rfl (op1_pcall rfl en_49 rfl (.cons (Wk.refl _) (.cons (Wk.refl _) .nil)) ⟨(ids_slM ids_Entry a0.fields), ⟨(ids_slM ids_Entry a1.fields), trivial⟩⟩ (c_mk_Entries a0.fields a1.fields x13 hx13) rfl) ?_
            refine sA rfl rfl rfl rfl rfl (ao_nil ?_)
            change BW _ _ _ _ _
            refine bw_ret ?_
            change ∃ xs, _ = some xs ∧ EndOk _ _ _ _
            obtain rfl := Option.some.inj h
            exact ⟨_, rfl, endOk0 (y := (BO x13)) (Wk.refl _) rfl ⟨rfl, rfl⟩⟩
           ·intro hc12; replace h := ocond_f hc12 h
            refine bR ?_
            refine sS rfl rfl rfl ((op1_cmp rfl rfl rfl rfl).cast (y := (BO ((a0.kind == 10)))) rfl rfl) ?_
            refine sA rfl rfl rfl rfl rfl (ao_nil ?_)
            change BW _ _ _ _ _
            refine bw_cond rfl ?_ ?_
            ·intro hc14; replace h := ocond_t hc14 h
             refine bR ?_
             refine sS rfl rfl rfl (op1_faR st_29 (i := 9) rfl rfl rfl) ?_
             refine sS rfl rfl rfl ((op1_ldR Try.underlying9 rfl rfl rfl rfl rfl)) ?_
             refine sS rfl rfl rfl (op1_faR st_29 (i := 9) rfl rfl rfl) ?_
             refine sS rfl rfl rfl ((op1_ldR Try.underlying9 rfl rfl rfl rfl rfl)) ?_
             refine sS rfl rfl rfl ((op1_cmpT (a := a0.cls) (b := a1.cls) rfl rfl rfl rfl).cast (y := (BO ((a0.cls == a1.cls)))) rfl rfl) ?_
             refine sM rfl rfl rfl rfl rfl ?_
             refine ao_cases (t := 82) rfl ?_ ?_
             ·intro hb15; replace h := ocond_t hb15 h
              refine ao_yes rfl rfl rfl rfl rfl rfl (op1_faR st_29 (i := 10) rfl rfl rfl) ?_
              refine ao_yes rfl rfl rfl rfl rfl rfl ((op1_ldR Try.underlying3 rfl rfl rfl rfl rfl)) ?_
              refine ao_yes rfl rfl rfl rfl rfl rfl (op1_faR st_29 (i := 10) rfl rfl rfl) ?_
              refine ao_yes rfl rfl rfl rfl rfl rfl ((op1_ldR Try.underlying3 rfl rfl rfl rfl rfl)) ?_
              refine ao_yes rfl rfl rfl rfl rfl rfl ((op1_cmp rfl rfl rfl rfl).cast (y := (BO ((a0.ver == a1.ver)))) rfl rfl) ?_
              refine sS rfl rfl rfl (op1_pickT rfl rfl rfl) ?_
              refine sM rfl rfl rfl rfl rfl ?_
              refine ao_cases (t := 89) rfl ?_ ?_
              ·intro hb16; replace h := ocond_t hb16 h
               refine ao_yes rfl rfl rfl rfl rfl rfl (op1_faR st_29 (i := 8) rfl rfl rfl) ?_
               refine ao_yes rfl rfl rfl rfl rfl rfl ((op1_ldR Try.underlying27 rfl rfl rfl rfl rfl)) ?_
               refine ao_yes rfl rfl rfl rfl rfl rfl (op1_faR st_29 (i := 8) rfl rfl rfl) ?_
               refine ao_yes rfl rfl rfl rfl rfl rfl ((op1_ldR Try.underlying27 rfl rfl rfl rfl rfl)) ?_
               obtain ⟨x17, hx17, h⟩ := obind h
               refine ao_yes rfl rfl rfl rfl rfl rfl (op1_pcall rfl en_49 rfl (.cons (Wk.refl _) (.cons (Wk.refl _) .nil)) ⟨(ids_slM ids_Entry a0.fields), ⟨(ids_slM ids_Entry a1.fields), trivial⟩⟩ (c_mk_Entries a0.fields a1.fields x17 hx17) rfl) ?_
               refine sS rfl rfl rfl (op1_pickT rfl rfl rfl) ?_
               refine sA rfl rfl rfl rfl rfl (ao_nil ?_)
               change BW _ _ _ _ _
               refine bw_ret ?_
               change ∃ xs, _ = some xs ∧ EndOk _ _ _ _
               obtain rfl := Option.some.inj h
               exact ⟨_, rfl, endOk0 (y := (BO x17)) (Wk.refl _) rfl ⟨rfl, rfl⟩⟩
              ·intro hb16; replace h := ocond_f hb16 h
               refine ao_no rfl rfl rfl rfl rfl rfl ?_
               refine ao_no rfl rfl rfl rfl rfl rfl ?_
               refine ao_no rfl rfl rfl rfl rfl rfl ?_
               refine ao_no rfl rfl rfl rfl rfl rfl ?_
               refine ao_no rfl rfl rfl rfl rfl rfl ?_
               refine sS rfl rfl rfl (op1_pickF rfl rfl rfl) ?_
               refine sA rfl rfl rfl rfl rfl (ao_nil ?_)
               change BW _ _ _ _ _
               refine bw_ret ?_
               change ∃ xs, _ = some xs ∧ EndOk _ _ _ _
               obtain rfl := Option.some.inj h
               exact ⟨_, rfl, endOk0 (y := (BO false)) (Wk.refl _) rfl ⟨rfl, rfl⟩⟩
             ·intro hb15; replace h := ocond_f hb15 h
              refine ao_no rfl rfl rfl rfl rfl rfl ?_
              refine ao_no rfl rfl rfl rfl rfl rfl ?_
              refine ao_no rfl rfl rfl rfl rfl rfl ?_
              refine ao_no rfl rfl rfl rfl rfl rfl ?_
              refine ao_no rfl rfl rfl rfl rfl rfl ?_
              refine sS rfl rfl rfl (op1_pickF rfl rfl rfl) ?_
              refine sM rfl rfl rfl rfl rfl ?_
              refine ao_no rfl rfl rfl rfl rfl rfl ?_
              refine ao_no rfl rfl rfl rfl rfl rfl ?_
              refine ao_no rfl rfl rfl rfl rfl rfl ?_
              refine ao_no rfl rfl rfl rfl rfl rfl ?_
              refine ao_no rfl rfl rfl rfl rfl rfl ?_
              refine sS rfl rfl rfl (op1_pickF rfl rfl rfl) ?_
              refine sA rfl rfl rfl rfl rfl (ao_nil ?_)
              change BW _ _ _ _ _
              refine bw_ret ?_
              change ∃ xs, _ = some xs ∧ EndOk _ _ _ _
              obtain rfl := Option.some.inj h
              exact ⟨_, rfl, endOk0 (y := (BO false)) (Wk.refl _) rfl ⟨rfl, rfl⟩⟩
            ·intro hc14; replace h := ocond_f hc14 h
             refine bw_skip ?_
             change BW _ _ _ _ _
             refine bR ?_
             refine sA rfl rfl rfl rfl rfl (ao_nil ?_)
             change BW _ _ _ _ _
             refine bw_ret ?_
             change ∃ xs, _ = some xs ∧ EndOk _ _ _ _
             obtain rfl := Option.some.inj h
             exact ⟨_, rfl, endOk0 (y := (BO false)) (Wk.refl _) rfl ⟨rfl, rfl⟩⟩
  ·refine bR ?_
   refine sS rfl rfl rfl ((op1_cmp rfl rfl rfl rfl).cast (y := (BO ((a0.kind == 1)))) rfl rfl) ?_
   refine sA rfl rfl rfl rfl rfl (ao_nil ?_)
   change BW _ _ _ _ _
   refine bw_cond rfl ?_ ?_
   ·intro hc18; replace h := ocond_t hc18 h
    refine bw_skip ?_
    exact ⟨rfl, (a0.kind == 1), h, ⟨(.cons .same (.cons .same .nil)), (sC rfl (sC rfl (sC rfl (sC rfl sub_nil))))⟩⟩
   ·intro hc18; replace h := ocond_f hc18 h
    refine bw_region ?_
    refine sS rfl rfl rfl ((op1_cmp rfl rfl rfl rfl).cast (y := (BO ((a0.kind == 11)))) rfl rfl) ?_
    refine sA rfl rfl rfl rfl rfl (ao_nil ?_)
    exact ⟨rfl, (a0.kind == 11), h, ⟨(.cons .same (.cons .same .nil)), (sC rfl (sC rfl (sC rfl (sC rfl sub_nil))))⟩⟩
theorem C_mk_Entries.sound : ∀ (i : C_mk_Entries) (r : i.R), fixO C_mk_Entries.F i = some r → C_mk_Entries.Q i r := by
 refine fixO_ind (Φ := C_mk_Entries.F) (Q := C_mk_Entries.Q) ?_
 intro g hg i r h
 cases i with
 | k_mk_Entries a0 a1 => exact t_mk_Entries (fun a0 a1 => g (.k_mk_Entries a0 a1)) (fun a0 a1 r hr => hg (.k_mk_Entries a0 a1) r hr) (fun a0 a1 => g (.k_mk_Lists a0 a1)) (fun a0 a1 r hr => hg (.k_mk_Lists a0 a1) r hr) (fun a0 a1 => g (.k_mk_Same a0 a1)) (fun a0 a1 r hr => hg (.k_mk_Same a0 a1) r hr) a0 a1 r h
 | k_mk_Lists a0 a1 => exact t_mk_Lists (fun a0 a1 => g (.k_mk_Entries a0 a1)) (fun a0 a1 r hr => hg (.k_mk_Entries a0 a1) r hr) (fun a0 a1 => g (.k_mk_Lists a0 a1)) (fun a0 a1 r hr => hg (.k_mk_Lists a0 a1) r hr) (fun a0 a1 => g (.k_mk_Same a0 a1)) (fun a0 a1 r hr => hg (.k_mk_Same a0 a1) r hr) a0 a1 r h
 | k_mk_Same a0 a1 => exact t_mk_Same (fun a0 a1 => g (.k_mk_Entries a0 a1)) (fun a0 a1 r hr => hg (.k_mk_Entries a0 a1) r hr) (fun a0 a1 => g (.k_mk_Lists a0 a1)) (fun a0 a1 r hr => hg (.k_mk_Lists a0 a1) r hr) (fun a0 a1 => g (.k_mk_Same a0 a1)) (fun a0 a1 r hr => hg (.k_mk_Same a0 a1) r hr) a0 a1 r h
theorem s_mk_Entries (a0 : (List (Str × Term))) (a1 : (List (Str × Term))) (r : Bool) (h : p_mk_Entries a0 a1 = some r) : PCalls Try.prog 49 [(PV.sl none 66 12 (List.map ofEntry a0)), (PV.sl none 66 12 (List.map ofEntry a1))] (BO r) := C_mk_Entries.sound (.k_mk_Entries a0 a1) r h
theorem s_mk_Lists (a0 : (List Term)) (a1 : (List Term)) (r : Bool) (h : p_mk_Lists a0 a1 = some r) : PCalls Try.prog 48 [(PV.sl none 29 11 (List.map ofTerm a0)), (PV.sl none 29 11 (List.map ofTerm a1))] (BO r) := C_mk_Entries.sound (.k_mk_Lists a0 a1) r h
theorem s_mk_Same (a0 : Term) (a1 : Term) (r : Bool) (h : p_mk_Same a0 a1 = some r) : PCalls Try.prog 32 [(ofTermX a0), (ofTermX a1)] (BO r) := C_mk_Entries.sound (.k_mk_Same a0 a1) r h
noncomputable def p_mk_Is (a0 : V) (a1 : Term) : Option Bool :=
 Option.bind (p_mk_Plain a0) fun x1 =>
 Option.bind (p_mk_Same x1 a1) fun x2 =>
 some x2
theorem s_mk_Is (a0 : V) (a1 : Term) (r : Bool) (h : p_mk_Is a0 a1 = some r) : PCalls Try.prog 19 [(ofV a0), (ofTermX a1)] (BO r) := by
 unfold p_mk_Is at h
 refine acalls_of Try.func19 rfl Try.ntmps19 Try.results19 rfl (aw_of_bw ?_)
 change BW _ _ _ ⟨[(0, (ofV a0)), (1, (ofTermX a1))], [], _⟩ _
 refine bR ?_
 refine sS rfl rfl rfl (op1_box rfl rfl rfl) ?_
 refine sA rfl rfl rfl rfl rfl (ao_nil ?_)
 change BW _ _ _ _ _
 refine bw_seq (bw_tail 3 [] [0] mo (by kernel_rfl) ?_)
 refine ac_go rfl rfl rfl rfl (fun H hp => op1_move rfl rfl) ?_
 obtain ⟨x1, hx1, h⟩ := obind h
 refine ac_go rfl rfl rfl rfl (fun H hp => op1_pcall rfl en_39 rfl (.cons (Wk.refl _) .nil) ⟨(ids_V a0), trivial⟩ (s_mk_Plain a0 x1 hx1) (ids_TermX x1)) ?_
 refine ac_go rfl rfl rfl rfl (fun H hp => (op1_ldRA inf_29 Try.underlying29 rfl rfl rfl (hp.at rfl rfl) rfl rfl)) ?_
 refine ac_nil ?_
 change AO _ _ _ _ _
 obtain ⟨x2, hx2, h⟩ := obind h
 refine sS rfl rfl rfl (op1_pcall rfl en_32 rfl (.cons (Wk.refl _) (.cons (Wk.refl _) .nil)) ⟨(ids_TermX x1), ⟨(ids_TermX a1), trivial⟩⟩ (s_mk_Same x1 a1 x2 hx2) rfl) ?_
 refine sA rfl rfl rfl rfl rfl (ao_nil ?_)
 change BW _ _ _ _ _
 refine bw_ret ?_
 change ∃ xs, _ = some xs ∧ EndOk _ _ _ _
 obtain rfl := Option.some.inj h
 exact ⟨_, rfl, endOk0 (y := (BO x2)) (Wk.refl _) rfl ⟨rfl, rfl⟩⟩
end Go.Proofs.Ythfdpaboekoncaa
