/- The law NatSums answers true at every input, within its row's conditions. This is part 4 of 6: what the session's printing program wrote for the functions reached, and the session's own lemmas. -/
import Derived.Test.YtkihjfpfocnneaaDoorSums1
import Derived.Test.YtkihjfpfocnneaaDoorSums2
import Derived.Test.YtkihjfpfocnneaaDoorSums3
/- The law, its walk: what was lent is told with the word behind it. -/
namespace Go.Proofs.YtkihjfpfocnneaaDoor.PNat
open Go.RowKit Go.Proofs.YtkihjfpfocnneaaDoorW.PrintWords Go.Proofs.YtkihjfpfocnneaaDoorW.PrintLast Go.Proofs.YtkihjfpfocnneaaDoorW.PrintMore
attribute [local go_sem] max2_int min2_int max_two min_two max_three min_three max_four min_four   -- for this text's walks alone
set_option linter.unusedVariables false
set_option linter.unusedSimpArgs false

/-! ### bobbinlaw2_NatSums: function 7 -/
mutual
def bobbinlaw2_NatSums.j0 : Nat → List Int → List Int → Bool → Option (Bool)
  | 0, _, _, _ => none
  | k + 1, x0, x1, x24 => if x24 = true then ((bobbinlaw2_awake.f k).bind fun t467 => (some t467)) else ((bobbinlaw2_lent.f x0).bind fun t468 => ((bobbinlaw2_lent.f x1).bind fun t471 => ((nat_Add.f k t468 t471).bind fun t474 => ((nat_Sub.f k t468 t471).bind fun bt477 => ((nat_Norm.f k t468).bind fun t481 => ((bobbinref2_Sub.f k x0 x1).bind fun bt484 => ((bobbinref2_Add.f k x0 x1).bind fun t488 => ((bobbinlaw2_same.f k t474 t488).bind fun t491 => (if t491 = true then ((bobbinlaw2_same.f k bt477.1 bt484.1).bind fun t492 => (if t492 = true then (if bt477.2 = bt484.2 then ((bobbinref2_Norm.f k x0).bind fun t493 => ((bobbinlaw2_same.f k t481 t493).bind fun t496 => (if t496 = true then ((nat_Compare.f k t468 t471).bind fun t497 => ((bobbinref2_Compare.f k x0 x1).bind fun t498 => (if t497 = t498 then ((nat_Bits.f k t468).bind fun t499 => ((bobbinref2_Bits.f k x0).bind fun t500 => (bobbinlaw2_NatSums.j1 k x0 x1 t468 t471 t474 bt477.1 t481 (t499 == t500)))) else (bobbinlaw2_NatSums.j1 k x0 x1 t468 t471 t474 bt477.1 t481 false)))) else (bobbinlaw2_NatSums.j1 k x0 x1 t468 t471 t474 bt477.1 t481 false)))) else (bobbinlaw2_NatSums.j1 k x0 x1 t468 t471 t474 bt477.1 t481 false)) else (bobbinlaw2_NatSums.j1 k x0 x1 t468 t471 t474 bt477.1 t481 false))) else (bobbinlaw2_NatSums.j1 k x0 x1 t468 t471 t474 bt477.1 t481 false))))))))))
def bobbinlaw2_NatSums.j1 : Nat → List Int → List Int → List Int → List Int → List Int → List Int → List Int → Bool → Option (Bool)
  | 0, _, _, _, _, _, _, _, _ => none
  | k + 1, x0, x1, x5, x6, x7, x8, x10, x13 => bobbinlaw2_NatSums.l0 k x0 x1 x5 x6 x7 x8 x10 x13 0
def bobbinlaw2_NatSums.l0 : Nat → List Int → List Int → List Int → List Int → List Int → List Int → List Int → Bool → Int → Option (Bool)
  | 0, _, _, _, _, _, _, _, _, _ => none
  | k + 1, x0, x1, x5, x6, x7, x8, x10, x13, x14 => if x14 < (x7.length : Int) then (if 0 ≤ x14 then (bobbinlaw2_NatSums.l0 k x0 x1 x5 x6 (x7.set (x14 : Int).toNat 3) x8 x10 x13 (wrap64 (x14 + 1))) else (none)) else (bobbinlaw2_NatSums.l1 k x0 x1 x5 x6 x8 x10 x13 0)
def bobbinlaw2_NatSums.l1 : Nat → List Int → List Int → List Int → List Int → List Int → List Int → Bool → Int → Option (Bool)
  | 0, _, _, _, _, _, _, _, _ => none
  | k + 1, x0, x1, x5, x6, x8, x10, x13, x15 => if x15 < (x10.length : Int) then (if 0 ≤ x15 then (bobbinlaw2_NatSums.l1 k x0 x1 x5 x6 x8 (x10.set (x15 : Int).toNat 3) x13 (wrap64 (x15 + 1))) else (none)) else (bobbinlaw2_NatSums.l2 k x0 x1 x5 x6 x8 x13 0)
def bobbinlaw2_NatSums.l2 : Nat → List Int → List Int → List Int → List Int → List Int → Bool → Int → Option (Bool)
  | 0, _, _, _, _, _, _, _ => none
  | k + 1, x0, x1, x5, x6, x8, x13, x16 => if x16 < (x8.length : Int) then (if 0 ≤ x16 then (bobbinlaw2_NatSums.l2 k x0 x1 x5 x6 (x8.set (x16 : Int).toNat 3) x13 (wrap64 (x16 + 1))) else (none)) else (if x13 = true then ((bobbinlaw2_back.f k x5 x0).bind fun t504 => (if t504 = true then ((bobbinlaw2_back.f k x6 x1).bind fun t505 => (if t505 = true then ((bobbinlaw2_awake.f k).bind fun t506 => (some t506)) else (some false))) else (some false))) else (some false))
end
def bobbinlaw2_NatSums.f (k : Nat) (l0 : List Int) (l1 : List Int) : Option (Bool) := if (l0.length : Int) > 130 then (bobbinlaw2_NatSums.j0 k l0 l1 true) else (bobbinlaw2_NatSums.j0 k l0 l1 (decide ((l1.length : Int) > 130)))
theorem bobbinlaw2_NatSums.mono_l : ∀ k, (∀ y0 y1 y2, LeO (bobbinlaw2_NatSums.j0 k y0 y1 y2) (bobbinlaw2_NatSums.j0 (k + 1) y0 y1 y2)) ∧ (∀ y0 y1 y2 y3 y4 y5 y6 y7, LeO (bobbinlaw2_NatSums.j1 k y0 y1 y2 y3 y4 y5 y6 y7) (bobbinlaw2_NatSums.j1 (k + 1) y0 y1 y2 y3 y4 y5 y6 y7)) ∧ (∀ y0 y1 y2 y3 y4 y5 y6 y7 y8, LeO (bobbinlaw2_NatSums.l0 k y0 y1 y2 y3 y4 y5 y6 y7 y8) (bobbinlaw2_NatSums.l0 (k + 1) y0 y1 y2 y3 y4 y5 y6 y7 y8)) ∧ (∀ y0 y1 y2 y3 y4 y5 y6 y7, LeO (bobbinlaw2_NatSums.l1 k y0 y1 y2 y3 y4 y5 y6 y7) (bobbinlaw2_NatSums.l1 (k + 1) y0 y1 y2 y3 y4 y5 y6 y7)) ∧ (∀ y0 y1 y2 y3 y4 y5 y6, LeO (bobbinlaw2_NatSums.l2 k y0 y1 y2 y3 y4 y5 y6) (bobbinlaw2_NatSums.l2 (k + 1) y0 y1 y2 y3 y4 y5 y6))
  | 0 => ⟨fun _ _ _ r h => by simp [bobbinlaw2_NatSums.j0] at h, fun _ _ _ _ _ _ _ _ r h => by simp [bobbinlaw2_NatSums.j1] at h, fun _ _ _ _ _ _ _ _ _ r h => by simp [bobbinlaw2_NatSums.l0] at h, fun _ _ _ _ _ _ _ _ r h => by simp [bobbinlaw2_NatSums.l1] at h, fun _ _ _ _ _ _ _ r h => by simp [bobbinlaw2_NatSums.l2] at h⟩
  | k + 1 => by
    obtain ⟨ih0, ih1, ih2, ih3, ih4⟩ := bobbinlaw2_NatSums.mono_l k
    refine ⟨?_, ?_, ?_, ?_, ?_⟩
    · intro y0 y1 y2
      unfold bobbinlaw2_NatSums.j0
      repeat' first
      | (with_reducible exact ih0 _ _ _)
      | (with_reducible exact ih1 _ _ _ _ _ _ _ _)
      | (with_reducible exact ih2 _ _ _ _ _ _ _ _ _)
      | (with_reducible exact ih3 _ _ _ _ _ _ _ _)
      | (with_reducible exact ih4 _ _ _ _ _ _ _)
      | (with_reducible exact bobbinlaw2_awake.mono _)
      | (with_reducible exact bobbinlaw2_back.mono _ _ _)
      | (with_reducible exact bobbinlaw2_same.mono _ _ _)
      | (with_reducible exact bobbinref2_Add.mono _ _ _)
      | (with_reducible exact bobbinref2_Bits.mono _ _)
      | (with_reducible exact bobbinref2_Compare.mono _ _ _)
      | (with_reducible exact bobbinref2_Norm.mono _ _)
      | (with_reducible exact bobbinref2_Sub.mono _ _ _)
      | (with_reducible exact nat_Add.mono _ _ _)
      | (with_reducible exact nat_Bits.mono _ _)
      | (with_reducible exact nat_Compare.mono _ _ _)
      | (with_reducible exact nat_Norm.mono _ _)
      | (with_reducible exact nat_Sub.mono _ _ _)
      | (with_reducible exact LeO.refl _)
      | (with_reducible exact LeO.none _)
      | (with_reducible refine LeO.ite ?_ ?_)
      | (with_reducible refine LeO.bind ?_ (fun _ => ?_))
      | exact ih0 _ _ _
      | exact ih1 _ _ _ _ _ _ _ _
      | exact ih2 _ _ _ _ _ _ _ _ _
      | exact ih3 _ _ _ _ _ _ _ _
      | exact ih4 _ _ _ _ _ _ _
      | exact bobbinlaw2_awake.mono _
      | exact bobbinlaw2_back.mono _ _ _
      | exact bobbinlaw2_same.mono _ _ _
      | exact bobbinref2_Add.mono _ _ _
      | exact bobbinref2_Bits.mono _ _
      | exact bobbinref2_Compare.mono _ _ _
      | exact bobbinref2_Norm.mono _ _
      | exact bobbinref2_Sub.mono _ _ _
      | exact nat_Add.mono _ _ _
      | exact nat_Bits.mono _ _
      | exact nat_Compare.mono _ _ _
      | exact nat_Norm.mono _ _
      | exact nat_Sub.mono _ _ _
      | exact LeO.none _
      | refine LeO.ite ?_ ?_
      | refine LeO.bind ?_ (fun _ => ?_)
    · intro y0 y1 y2 y3 y4 y5 y6 y7
      unfold bobbinlaw2_NatSums.j1
      repeat' first
      | (with_reducible exact ih0 _ _ _)
      | (with_reducible exact ih1 _ _ _ _ _ _ _ _)
      | (with_reducible exact ih2 _ _ _ _ _ _ _ _ _)
      | (with_reducible exact ih3 _ _ _ _ _ _ _ _)
      | (with_reducible exact ih4 _ _ _ _ _ _ _)
      | (with_reducible exact bobbinlaw2_awake.mono _)
      | (with_reducible exact bobbinlaw2_back.mono _ _ _)
      | (with_reducible exact bobbinlaw2_same.mono _ _ _)
      | (with_reducible exact bobbinref2_Add.mono _ _ _)
      | (with_reducible exact bobbinref2_Bits.mono _ _)
      | (with_reducible exact bobbinref2_Compare.mono _ _ _)
      | (with_reducible exact bobbinref2_Norm.mono _ _)
      | (with_reducible exact bobbinref2_Sub.mono _ _ _)
      | (with_reducible exact nat_Add.mono _ _ _)
      | (with_reducible exact nat_Bits.mono _ _)
      | (with_reducible exact nat_Compare.mono _ _ _)
      | (with_reducible exact nat_Norm.mono _ _)
      | (with_reducible exact nat_Sub.mono _ _ _)
      | (with_reducible exact LeO.refl _)
      | (with_reducible exact LeO.none _)
      | (with_reducible refine LeO.ite ?_ ?_)
      | (with_reducible refine LeO.bind ?_ (fun _ => ?_))
      | exact ih0 _ _ _
      | exact ih1 _ _ _ _ _ _ _ _
      | exact ih2 _ _ _ _ _ _ _ _ _
      | exact ih3 _ _ _ _ _ _ _ _
      | exact ih4 _ _ _ _ _ _ _
      | exact bobbinlaw2_awake.mono _
      | exact bobbinlaw2_back.mono _ _ _
      | exact bobbinlaw2_same.mono _ _ _
      | exact bobbinref2_Add.mono _ _ _
      | exact bobbinref2_Bits.mono _ _
      | exact bobbinref2_Compare.mono _ _ _
      | exact bobbinref2_Norm.mono _ _
      | exact bobbinref2_Sub.mono _ _ _
      | exact nat_Add.mono _ _ _
      | exact nat_Bits.mono _ _
      | exact nat_Compare.mono _ _ _
      | exact nat_Norm.mono _ _
      | exact nat_Sub.mono _ _ _
      | exact LeO.none _
      | refine LeO.ite ?_ ?_
      | refine LeO.bind ?_ (fun _ => ?_)
    · intro y0 y1 y2 y3 y4 y5 y6 y7 y8
      unfold bobbinlaw2_NatSums.l0
      repeat' first
      | (with_reducible exact ih0 _ _ _)
      | (with_reducible exact ih1 _ _ _ _ _ _ _ _)
      | (with_reducible exact ih2 _ _ _ _ _ _ _ _ _)
      | (with_reducible exact ih3 _ _ _ _ _ _ _ _)
      | (with_reducible exact ih4 _ _ _ _ _ _ _)
      | (with_reducible exact bobbinlaw2_awake.mono _)
      | (with_reducible exact bobbinlaw2_back.mono _ _ _)
      | (with_reducible exact bobbinlaw2_same.mono _ _ _)
      | (with_reducible exact bobbinref2_Add.mono _ _ _)
      | (with_reducible exact bobbinref2_Bits.mono _ _)
      | (with_reducible exact bobbinref2_Compare.mono _ _ _)
      | (with_reducible exact bobbinref2_Norm.mono _ _)
      | (with_reducible exact bobbinref2_Sub.mono _ _ _)
      | (with_reducible exact nat_Add.mono _ _ _)
      | (with_reducible exact nat_Bits.mono _ _)
      | (with_reducible exact nat_Compare.mono _ _ _)
      | (with_reducible exact nat_Norm.mono _ _)
      | (with_reducible exact nat_Sub.mono _ _ _)
      | (with_reducible exact LeO.refl _)
      | (with_reducible exact LeO.none _)
      | (with_reducible refine LeO.ite ?_ ?_)
      | (with_reducible refine LeO.bind ?_ (fun _ => ?_))
      | exact ih0 _ _ _
      | exact ih1 _ _ _ _ _ _ _ _
      | exact ih2 _ _ _ _ _ _ _ _ _
      | exact ih3 _ _ _ _ _ _ _ _
      | exact ih4 _ _ _ _ _ _ _
      | exact bobbinlaw2_awake.mono _
      | exact bobbinlaw2_back.mono _ _ _
      | exact bobbinlaw2_same.mono _ _ _
      | exact bobbinref2_Add.mono _ _ _
      | exact bobbinref2_Bits.mono _ _
      | exact bobbinref2_Compare.mono _ _ _
      | exact bobbinref2_Norm.mono _ _
      | exact bobbinref2_Sub.mono _ _ _
      | exact nat_Add.mono _ _ _
      | exact nat_Bits.mono _ _
      | exact nat_Compare.mono _ _ _
      | exact nat_Norm.mono _ _
      | exact nat_Sub.mono _ _ _
      | exact LeO.none _
      | refine LeO.ite ?_ ?_
      | refine LeO.bind ?_ (fun _ => ?_)
    · intro y0 y1 y2 y3 y4 y5 y6 y7
      unfold bobbinlaw2_NatSums.l1
      repeat' first
      | (with_reducible exact ih0 _ _ _)
      | (with_reducible exact ih1 _ _ _ _ _ _ _ _)
      | (with_reducible exact ih2 _ _ _ _ _ _ _ _ _)
      | (with_reducible exact ih3 _ _ _ _ _ _ _ _)
      | (with_reducible exact ih4 _ _ _ _ _ _ _)
      | (with_reducible exact bobbinlaw2_awake.mono _)
      | (with_reducible exact bobbinlaw2_back.mono _ _ _)
      | (with_reducible exact bobbinlaw2_same.mono _ _ _)
      | (with_reducible exact bobbinref2_Add.mono _ _ _)
      | (with_reducible exact bobbinref2_Bits.mono _ _)
      | (with_reducible exact bobbinref2_Compare.mono _ _ _)
      | (with_reducible exact bobbinref2_Norm.mono _ _)
      | (with_reducible exact bobbinref2_Sub.mono _ _ _)
      | (with_reducible exact nat_Add.mono _ _ _)
      | (with_reducible exact nat_Bits.mono _ _)
      | (with_reducible exact nat_Compare.mono _ _ _)
      | (with_reducible exact nat_Norm.mono _ _)
      | (with_reducible exact nat_Sub.mono _ _ _)
      | (with_reducible exact LeO.refl _)
      | (with_reducible exact LeO.none _)
      | (with_reducible refine LeO.ite ?_ ?_)
      | (with_reducible refine LeO.bind ?_ (fun _ => ?_))
      | exact ih0 _ _ _
      | exact ih1 _ _ _ _ _ _ _ _
      | exact ih2 _ _ _ _ _ _ _ _ _
      | exact ih3 _ _ _ _ _ _ _ _
      | exact ih4 _ _ _ _ _ _ _
      | exact bobbinlaw2_awake.mono _
      | exact bobbinlaw2_back.mono _ _ _
      | exact bobbinlaw2_same.mono _ _ _
      | exact bobbinref2_Add.mono _ _ _
      | exact bobbinref2_Bits.mono _ _
      | exact bobbinref2_Compare.mono _ _ _
      | exact bobbinref2_Norm.mono _ _
      | exact bobbinref2_Sub.mono _ _ _
      | exact nat_Add.mono _ _ _
      | exact nat_Bits.mono _ _
      | exact nat_Compare.mono _ _ _
      | exact nat_Norm.mono _ _
      | exact nat_Sub.mono _ _ _
      | exact LeO.none _
      | refine LeO.ite ?_ ?_
      | refine LeO.bind ?_ (fun _ => ?_)
    · intro y0 y1 y2 y3 y4 y5 y6
      unfold bobbinlaw2_NatSums.l2
      repeat' first
      | (with_reducible exact ih0 _ _ _)
      | (with_reducible exact ih1 _ _ _ _ _ _ _ _)
      | (with_reducible exact ih2 _ _ _ _ _ _ _ _ _)
      | (with_reducible exact ih3 _ _ _ _ _ _ _ _)
      | (with_reducible exact ih4 _ _ _ _ _ _ _)
      | (with_reducible exact bobbinlaw2_awake.mono _)
      | (with_reducible exact bobbinlaw2_back.mono _ _ _)
      | (with_reducible exact bobbinlaw2_same.mono _ _ _)
      | (with_reducible exact bobbinref2_Add.mono _ _ _)
      | (with_reducible exact bobbinref2_Bits.mono _ _)
      | (with_reducible exact bobbinref2_Compare.mono _ _ _)
      | (with_reducible exact bobbinref2_Norm.mono _ _)
      | (with_reducible exact bobbinref2_Sub.mono _ _ _)
      | (with_reducible exact nat_Add.mono _ _ _)
      | (with_reducible exact nat_Bits.mono _ _)
      | (with_reducible exact nat_Compare.mono _ _ _)
      | (with_reducible exact nat_Norm.mono _ _)
      | (with_reducible exact nat_Sub.mono _ _ _)
      | (with_reducible exact LeO.refl _)
      | (with_reducible exact LeO.none _)
      | (with_reducible refine LeO.ite ?_ ?_)
      | (with_reducible refine LeO.bind ?_ (fun _ => ?_))
      | exact ih0 _ _ _
      | exact ih1 _ _ _ _ _ _ _ _
      | exact ih2 _ _ _ _ _ _ _ _ _
      | exact ih3 _ _ _ _ _ _ _ _
      | exact ih4 _ _ _ _ _ _ _
      | exact bobbinlaw2_awake.mono _
      | exact bobbinlaw2_back.mono _ _ _
      | exact bobbinlaw2_same.mono _ _ _
      | exact bobbinref2_Add.mono _ _ _
      | exact bobbinref2_Bits.mono _ _
      | exact bobbinref2_Compare.mono _ _ _
      | exact bobbinref2_Norm.mono _ _
      | exact bobbinref2_Sub.mono _ _ _
      | exact nat_Add.mono _ _ _
      | exact nat_Bits.mono _ _
      | exact nat_Compare.mono _ _ _
      | exact nat_Norm.mono _ _
      | exact nat_Sub.mono _ _ _
      | exact LeO.none _
      | refine LeO.ite ?_ ?_
      | refine LeO.bind ?_ (fun _ => ?_)
theorem bobbinlaw2_NatSums.mono : ∀ a0 a1 k, LeO (bobbinlaw2_NatSums.f k a0 a1) (bobbinlaw2_NatSums.f (k + 1) a0 a1) := by
  intro a0 a1 k
  obtain ⟨ih0, ih1, ih2, ih3, ih4⟩ := bobbinlaw2_NatSums.mono_l k
  unfold bobbinlaw2_NatSums.f
  repeat' first
      | (with_reducible exact ih0 _ _ _)
      | (with_reducible exact ih1 _ _ _ _ _ _ _ _)
      | (with_reducible exact ih2 _ _ _ _ _ _ _ _ _)
      | (with_reducible exact ih3 _ _ _ _ _ _ _ _)
      | (with_reducible exact ih4 _ _ _ _ _ _ _)
      | (with_reducible exact bobbinlaw2_awake.mono _)
      | (with_reducible exact bobbinlaw2_back.mono _ _ _)
      | (with_reducible exact bobbinlaw2_same.mono _ _ _)
      | (with_reducible exact bobbinref2_Add.mono _ _ _)
      | (with_reducible exact bobbinref2_Bits.mono _ _)
      | (with_reducible exact bobbinref2_Compare.mono _ _ _)
      | (with_reducible exact bobbinref2_Norm.mono _ _)
      | (with_reducible exact bobbinref2_Sub.mono _ _ _)
      | (with_reducible exact nat_Add.mono _ _ _)
      | (with_reducible exact nat_Bits.mono _ _)
      | (with_reducible exact nat_Compare.mono _ _ _)
      | (with_reducible exact nat_Norm.mono _ _)
      | (with_reducible exact nat_Sub.mono _ _ _)
      | (with_reducible exact LeO.refl _)
      | (with_reducible exact LeO.none _)
      | (with_reducible refine LeO.ite ?_ ?_)
      | (with_reducible refine LeO.bind ?_ (fun _ => ?_))
      | exact ih0 _ _ _
      | exact ih1 _ _ _ _ _ _ _ _
      | exact ih2 _ _ _ _ _ _ _ _ _
      | exact ih3 _ _ _ _ _ _ _ _
      | exact ih4 _ _ _ _ _ _ _
      | exact bobbinlaw2_awake.mono _
      | exact bobbinlaw2_back.mono _ _ _
      | exact bobbinlaw2_same.mono _ _ _
      | exact bobbinref2_Add.mono _ _ _
      | exact bobbinref2_Bits.mono _ _
      | exact bobbinref2_Compare.mono _ _ _
      | exact bobbinref2_Norm.mono _ _
      | exact bobbinref2_Sub.mono _ _ _
      | exact nat_Add.mono _ _ _
      | exact nat_Bits.mono _ _
      | exact nat_Compare.mono _ _ _
      | exact nat_Norm.mono _ _
      | exact nat_Sub.mono _ _ _
      | exact LeO.none _
      | refine LeO.ite ?_ ?_
      | refine LeO.bind ?_ (fun _ => ?_)
set_option maxHeartbeats 8000000 in
set_option maxRecDepth 100000 in
theorem bobbinlaw2_NatSums.calls (k : Nat) (A0 : Option Addr) (c0 : Nat) (l0 : List Int) (A1 : Option Addr) (c1 : Nat) (l1 : List Int) (r : Bool) (w : World) (hr0 : Kd.C (Kd.int .u32) w A0 l0.length l0) (hc0 : l0.length ≤ c0) (hr1 : Kd.C (Kd.int .u32) w A1 l1.length l1) (hc1 : l1.length ≤ c1) (h : bobbinlaw2_NatSums.f k l0 l1 = some r) :
    Calls Tryd.prog 7 #[.slice A0 l0.length c0, .slice A1 l1.length c1] w fun e w' => e = .returned (.bool r) ∧ Below w.heap.size w w' := by
  have HR0 := Aside0.mk hr0
  have HC0 := Aside0.mk hc0
  clear hr0 hc0
  have HR1 := Aside0.mk hr1
  have HC1 := Aside0.mk hc1
  clear hr1 hc1
  have HB := Aside0.mk (Below.refl w.heap.size w)
  have H : (if (l0.length : Int) > 130 then (bobbinlaw2_NatSums.j0 k l0 l1 true) else (bobbinlaw2_NatSums.j0 k l0 l1 (decide ((l1.length : Int) > 130)))) = some r := h
  clear h
  have HC3 := Aside0.mk H
  clear H
  go_enter Tryd.func7, Tryd.ntmps7
  go_upto_region 1 with (fail)
  go_cut [24] (fun v24 wc => ∃ (kq : Nat) (x24_2 : Bool), v24 = .bool x24_2 ∧ Aside0 (bobbinlaw2_NatSums.j0 kq l0 l1 x24_2 = some r) ∧ Aside0 (kq ≤ k) ∧ Aside0 (Below w.heap.size w wc))
  case first =>
    have H := HC3.out
    clear HC3
    by_cases c4 : (l0.length : Int) > 130
    · rw [if_pos c4] at H
      have c4b0 : decide (130 < (l0.length : Int)) = true := decide_eq_true c4
      have c4b1 : decide (130 < l0.length) = true := decide_eq_true (by omega)
      clear c4
      (first | rw [c4b0] | (simp only [i64_w, i32_w]; rw [c4b0]) | rw [c4b1] | skip)
      have H' := Aside0.mk H
      clear H
      go_wp2
      go_meet
      case rel => exact ⟨_, (true), (by first | rfl | (simp; done) | (simp [*]; done)), H', ⟨by first | omega | exact Nat.le_refl _⟩, ⟨by repeat (first | (with_reducible first | exact HB.out | apply below_alloc | apply pw_below_drewN | apply below_drew1) | exact HB.out)⟩⟩
    · rw [if_neg c4] at H
      have c4b0 : decide (130 < (l0.length : Int)) = false := decide_eq_false c4
      have c4b1 : decide (130 < l0.length) = false := decide_eq_false (by omega)
      clear c4
      (first | rw [c4b0] | (simp only [i64_w, i32_w]; rw [c4b0]) | rw [c4b1] | skip)
      have H' := Aside0.mk H
      clear H
      go_wp2
      go_meet
      case rel => exact ⟨_, (decide ((l1.length : Int) > 130)), (by first | rfl | (simp; done) | (simp [*]; done)), H', ⟨by first | omega | exact Nat.le_refl _⟩, ⟨by repeat (first | (with_reducible first | exact HB.out | apply below_alloc | apply pw_below_drewN | apply below_drew1) | exact HB.out)⟩⟩
  case rest =>
    clear HC3
    try clear c1
    try clear p2
    try clear c4
    try clear c4b0
    try clear c4b1
    obtain ⟨kq, x24_2, rfl, HA, HJ2, HB⟩ := hcut
    cases kq with
    | zero => exact absurd HA.out (by simp [bobbinlaw2_NatSums.j0])
    | succ kj2 =>
      have H := HA.out
      clear HA
      simp only [bobbinlaw2_NatSums.j0] at H
      by_cases c5 : x24_2 = true
      · subst c5
        have H1 : ((bobbinlaw2_awake.f kj2).bind fun t467 => (some t467)) = some r := by rw [if_pos rfl] at H; exact H
        clear H
        have H := H1
        clear H1
        replace H := Option.bind_eq_some_iff.mp H
        obtain ⟨t467, A60, H⟩ := H
        replace H : (some t467) = some r := H
        have A6 := Aside0.mk A60
        clear A60
        obtain rfl := Option.some.inj H
        go_wp2_with (first | ((with_reducible refine gate_callee (f := 9) rfl ?_); refine goesL_ (some 25) rfl rfl Tryd.func9 (by kernel_rfl) rfl #[] rfl (by (try simp only [List.map_toArray, List.map_cons, List.map_nil]); first | done | rfl | (simp only [List.length_drop, List.length_take]; rfl)) ?_; (with_reducible refine (bobbinlaw2_awake.calls kj2  t467 _ A6.out).mono ?_); rintro e w7 ⟨rfl, hb⟩; refine ⟨_, rfl, ?_⟩; have n0_ := Aside0.mk (below_step (by repeat (first | (with_reducible first | exact HB.out | apply below_alloc | apply pw_below_drewN | apply below_drew1) | exact HB.out)) hb); clear HB; have HB := n0_; clear n0_; (try clear hb); (try clear hb2); (try clear hk); (try clear hi)))
        go_ret
        exact ⟨by first | rfl | (simp [errW_none, errW_some] <;> rfl) | (simp [*, errW_none, errW_some] <;> rfl), by repeat (first | (with_reducible first | exact HB.out | apply below_alloc | apply pw_below_drewN | apply below_drew1) | exact HB.out)⟩
      · replace c5 := Bool.eq_false_iff.mpr c5
        subst c5
        have H1 : ((bobbinlaw2_lent.f l0).bind fun t468 => ((bobbinlaw2_lent.f l1).bind fun t471 => ((nat_Add.f kj2 t468 t471).bind fun t474 => ((nat_Sub.f kj2 t468 t471).bind fun bt477 => ((nat_Norm.f kj2 t468).bind fun t481 => ((bobbinref2_Sub.f kj2 l0 l1).bind fun bt484 => ((bobbinref2_Add.f kj2 l0 l1).bind fun t488 => ((bobbinlaw2_same.f kj2 t474 t488).bind fun t491 => (if t491 = true then ((bobbinlaw2_same.f kj2 bt477.1 bt484.1).bind fun t492 => (if t492 = true then (if bt477.2 = bt484.2 then ((bobbinref2_Norm.f kj2 l0).bind fun t493 => ((bobbinlaw2_same.f kj2 t481 t493).bind fun t496 => (if t496 = true then ((nat_Compare.f kj2 t468 t471).bind fun t497 => ((bobbinref2_Compare.f kj2 l0 l1).bind fun t498 => (if t497 = t498 then ((nat_Bits.f kj2 t468).bind fun t499 => ((bobbinref2_Bits.f kj2 l0).bind fun t500 => (bobbinlaw2_NatSums.j1 kj2 l0 l1 t468 t471 t474 bt477.1 t481 (t499 == t500)))) else (bobbinlaw2_NatSums.j1 kj2 l0 l1 t468 t471 t474 bt477.1 t481 false)))) else (bobbinlaw2_NatSums.j1 kj2 l0 l1 t468 t471 t474 bt477.1 t481 false)))) else (bobbinlaw2_NatSums.j1 kj2 l0 l1 t468 t471 t474 bt477.1 t481 false)) else (bobbinlaw2_NatSums.j1 kj2 l0 l1 t468 t471 t474 bt477.1 t481 false))) else (bobbinlaw2_NatSums.j1 kj2 l0 l1 t468 t471 t474 bt477.1 t481 false)))))))))) = some r := by rw [if_neg (show ¬ (false = true) by decide)] at H; exact H
        clear H
        have H := H1
        clear H1
        replace H := Option.bind_eq_some_iff.mp H
        obtain ⟨t468, A80, H⟩ := H
        replace H : ((bobbinlaw2_lent.f l1).bind fun t471 => ((nat_Add.f kj2 t468 t471).bind fun t474 => ((nat_Sub.f kj2 t468 t471).bind fun bt477 => ((nat_Norm.f kj2 t468).bind fun t481 => ((bobbinref2_Sub.f kj2 l0 l1).bind fun bt484 => ((bobbinref2_Add.f kj2 l0 l1).bind fun t488 => ((bobbinlaw2_same.f kj2 t474 t488).bind fun t491 => (if t491 = true then ((bobbinlaw2_same.f kj2 bt477.1 bt484.1).bind fun t492 => (if t492 = true then (if bt477.2 = bt484.2 then ((bobbinref2_Norm.f kj2 l0).bind fun t493 => ((bobbinlaw2_same.f kj2 t481 t493).bind fun t496 => (if t496 = true then ((nat_Compare.f kj2 t468 t471).bind fun t497 => ((bobbinref2_Compare.f kj2 l0 l1).bind fun t498 => (if t497 = t498 then ((nat_Bits.f kj2 t468).bind fun t499 => ((bobbinref2_Bits.f kj2 l0).bind fun t500 => (bobbinlaw2_NatSums.j1 kj2 l0 l1 t468 t471 t474 bt477.1 t481 (t499 == t500)))) else (bobbinlaw2_NatSums.j1 kj2 l0 l1 t468 t471 t474 bt477.1 t481 false)))) else (bobbinlaw2_NatSums.j1 kj2 l0 l1 t468 t471 t474 bt477.1 t481 false)))) else (bobbinlaw2_NatSums.j1 kj2 l0 l1 t468 t471 t474 bt477.1 t481 false)) else (bobbinlaw2_NatSums.j1 kj2 l0 l1 t468 t471 t474 bt477.1 t481 false))) else (bobbinlaw2_NatSums.j1 kj2 l0 l1 t468 t471 t474 bt477.1 t481 false))))))))) = some r := H
        have A8 := Aside0.mk A80
        clear A80
        replace H := Option.bind_eq_some_iff.mp H
        obtain ⟨t471, A90, H⟩ := H
        replace H : ((nat_Add.f kj2 t468 t471).bind fun t474 => ((nat_Sub.f kj2 t468 t471).bind fun bt477 => ((nat_Norm.f kj2 t468).bind fun t481 => ((bobbinref2_Sub.f kj2 l0 l1).bind fun bt484 => ((bobbinref2_Add.f kj2 l0 l1).bind fun t488 => ((bobbinlaw2_same.f kj2 t474 t488).bind fun t491 => (if t491 = true then ((bobbinlaw2_same.f kj2 bt477.1 bt484.1).bind fun t492 => (if t492 = true then (if bt477.2 = bt484.2 then ((bobbinref2_Norm.f kj2 l0).bind fun t493 => ((bobbinlaw2_same.f kj2 t481 t493).bind fun t496 => (if t496 = true then ((nat_Compare.f kj2 t468 t471).bind fun t497 => ((bobbinref2_Compare.f kj2 l0 l1).bind fun t498 => (if t497 = t498 then ((nat_Bits.f kj2 t468).bind fun t499 => ((bobbinref2_Bits.f kj2 l0).bind fun t500 => (bobbinlaw2_NatSums.j1 kj2 l0 l1 t468 t471 t474 bt477.1 t481 (t499 == t500)))) else (bobbinlaw2_NatSums.j1 kj2 l0 l1 t468 t471 t474 bt477.1 t481 false)))) else (bobbinlaw2_NatSums.j1 kj2 l0 l1 t468 t471 t474 bt477.1 t481 false)))) else (bobbinlaw2_NatSums.j1 kj2 l0 l1 t468 t471 t474 bt477.1 t481 false)) else (bobbinlaw2_NatSums.j1 kj2 l0 l1 t468 t471 t474 bt477.1 t481 false))) else (bobbinlaw2_NatSums.j1 kj2 l0 l1 t468 t471 t474 bt477.1 t481 false)))))))) = some r := H
        have A9 := Aside0.mk A90
        clear A90
        have e_t468 := hand_lent_some A8.out
        subst e_t468
        have e_t471 := hand_lent_some A9.out
        subst e_t471
        replace H := Option.bind_eq_some_iff.mp H
        obtain ⟨t474, A100, H⟩ := H
        replace H : ((nat_Sub.f kj2 l0 l1).bind fun bt477 => ((nat_Norm.f kj2 l0).bind fun t481 => ((bobbinref2_Sub.f kj2 l0 l1).bind fun bt484 => ((bobbinref2_Add.f kj2 l0 l1).bind fun t488 => ((bobbinlaw2_same.f kj2 t474 t488).bind fun t491 => (if t491 = true then ((bobbinlaw2_same.f kj2 bt477.1 bt484.1).bind fun t492 => (if t492 = true then (if bt477.2 = bt484.2 then ((bobbinref2_Norm.f kj2 l0).bind fun t493 => ((bobbinlaw2_same.f kj2 t481 t493).bind fun t496 => (if t496 = true then ((nat_Compare.f kj2 l0 l1).bind fun t497 => ((bobbinref2_Compare.f kj2 l0 l1).bind fun t498 => (if t497 = t498 then ((nat_Bits.f kj2 l0).bind fun t499 => ((bobbinref2_Bits.f kj2 l0).bind fun t500 => (bobbinlaw2_NatSums.j1 kj2 l0 l1 l0 l1 t474 bt477.1 t481 (t499 == t500)))) else (bobbinlaw2_NatSums.j1 kj2 l0 l1 l0 l1 t474 bt477.1 t481 false)))) else (bobbinlaw2_NatSums.j1 kj2 l0 l1 l0 l1 t474 bt477.1 t481 false)))) else (bobbinlaw2_NatSums.j1 kj2 l0 l1 l0 l1 t474 bt477.1 t481 false)) else (bobbinlaw2_NatSums.j1 kj2 l0 l1 l0 l1 t474 bt477.1 t481 false))) else (bobbinlaw2_NatSums.j1 kj2 l0 l1 l0 l1 t474 bt477.1 t481 false))))))) = some r := H
        have A10 := Aside0.mk A100
        clear A100
        replace H := Option.bind_eq_some_iff.mp H
        obtain ⟨⟨t477, t478⟩, A110, H⟩ := H
        replace H : ((nat_Norm.f kj2 l0).bind fun t481 => ((bobbinref2_Sub.f kj2 l0 l1).bind fun bt484 => ((bobbinref2_Add.f kj2 l0 l1).bind fun t488 => ((bobbinlaw2_same.f kj2 t474 t488).bind fun t491 => (if t491 = true then ((bobbinlaw2_same.f kj2 t477 bt484.1).bind fun t492 => (if t492 = true then (if t478 = bt484.2 then ((bobbinref2_Norm.f kj2 l0).bind fun t493 => ((bobbinlaw2_same.f kj2 t481 t493).bind fun t496 => (if t496 = true then ((nat_Compare.f kj2 l0 l1).bind fun t497 => ((bobbinref2_Compare.f kj2 l0 l1).bind fun t498 => (if t497 = t498 then ((nat_Bits.f kj2 l0).bind fun t499 => ((bobbinref2_Bits.f kj2 l0).bind fun t500 => (bobbinlaw2_NatSums.j1 kj2 l0 l1 l0 l1 t474 t477 t481 (t499 == t500)))) else (bobbinlaw2_NatSums.j1 kj2 l0 l1 l0 l1 t474 t477 t481 false)))) else (bobbinlaw2_NatSums.j1 kj2 l0 l1 l0 l1 t474 t477 t481 false)))) else (bobbinlaw2_NatSums.j1 kj2 l0 l1 l0 l1 t474 t477 t481 false)) else (bobbinlaw2_NatSums.j1 kj2 l0 l1 l0 l1 t474 t477 t481 false))) else (bobbinlaw2_NatSums.j1 kj2 l0 l1 l0 l1 t474 t477 t481 false)))))) = some r := H
        have A11 := Aside0.mk A110
        clear A110
        replace H := Option.bind_eq_some_iff.mp H
        obtain ⟨t481, A120, H⟩ := H
        replace H : ((bobbinref2_Sub.f kj2 l0 l1).bind fun bt484 => ((bobbinref2_Add.f kj2 l0 l1).bind fun t488 => ((bobbinlaw2_same.f kj2 t474 t488).bind fun t491 => (if t491 = true then ((bobbinlaw2_same.f kj2 t477 bt484.1).bind fun t492 => (if t492 = true then (if t478 = bt484.2 then ((bobbinref2_Norm.f kj2 l0).bind fun t493 => ((bobbinlaw2_same.f kj2 t481 t493).bind fun t496 => (if t496 = true then ((nat_Compare.f kj2 l0 l1).bind fun t497 => ((bobbinref2_Compare.f kj2 l0 l1).bind fun t498 => (if t497 = t498 then ((nat_Bits.f kj2 l0).bind fun t499 => ((bobbinref2_Bits.f kj2 l0).bind fun t500 => (bobbinlaw2_NatSums.j1 kj2 l0 l1 l0 l1 t474 t477 t481 (t499 == t500)))) else (bobbinlaw2_NatSums.j1 kj2 l0 l1 l0 l1 t474 t477 t481 false)))) else (bobbinlaw2_NatSums.j1 kj2 l0 l1 l0 l1 t474 t477 t481 false)))) else (bobbinlaw2_NatSums.j1 kj2 l0 l1 l0 l1 t474 t477 t481 false)) else (bobbinlaw2_NatSums.j1 kj2 l0 l1 l0 l1 t474 t477 t481 false))) else (bobbinlaw2_NatSums.j1 kj2 l0 l1 l0 l1 t474 t477 t481 false))))) = some r := H
        have A12 := Aside0.mk A120
        clear A120
        replace H := Option.bind_eq_some_iff.mp H
        obtain ⟨⟨t484, t485⟩, A130, H⟩ := H
        replace H : ((bobbinref2_Add.f kj2 l0 l1).bind fun t488 => ((bobbinlaw2_same.f kj2 t474 t488).bind fun t491 => (if t491 = true then ((bobbinlaw2_same.f kj2 t477 t484).bind fun t492 => (if t492 = true then (if t478 = t485 then ((bobbinref2_Norm.f kj2 l0).bind fun t493 => ((bobbinlaw2_same.f kj2 t481 t493).bind fun t496 => (if t496 = true then ((nat_Compare.f kj2 l0 l1).bind fun t497 => ((bobbinref2_Compare.f kj2 l0 l1).bind fun t498 => (if t497 = t498 then ((nat_Bits.f kj2 l0).bind fun t499 => ((bobbinref2_Bits.f kj2 l0).bind fun t500 => (bobbinlaw2_NatSums.j1 kj2 l0 l1 l0 l1 t474 t477 t481 (t499 == t500)))) else (bobbinlaw2_NatSums.j1 kj2 l0 l1 l0 l1 t474 t477 t481 false)))) else (bobbinlaw2_NatSums.j1 kj2 l0 l1 l0 l1 t474 t477 t481 false)))) else (bobbinlaw2_NatSums.j1 kj2 l0 l1 l0 l1 t474 t477 t481 false)) else (bobbinlaw2_NatSums.j1 kj2 l0 l1 l0 l1 t474 t477 t481 false))) else (bobbinlaw2_NatSums.j1 kj2 l0 l1 l0 l1 t474 t477 t481 false)))) = some r := H
        have A13 := Aside0.mk A130
        clear A130
        have HC14 := Aside0.mk H
        clear H
        go_upto_region 9 with (first | ((with_reducible refine gate_callee (f := 15) rfl ?_); refine goesL_ (some 27) rfl rfl Tryd.func15 (by kernel_rfl) rfl #[.slice A0 l0.length c0] rfl (by (try simp only [List.map_toArray, List.map_cons, List.map_nil]); first | done | rfl | (simp only [List.length_drop, List.length_take]; rfl)) ?_; (with_reducible refine (hand_lent _ _ l0 l0 _ ?side1 ?side2 A8.out).mono ?_); (case side1 => repeat (first | exact (Kd.C_below HR0.out HB.out) | (with_reducible refine Kd.C_alloc ?_ _) | (with_reducible refine Kd.C_drewN ?_ _) | (with_reducible refine Kd.C_drew ?_))); (case side2 => exact HC0.out); rintro e w15 ⟨Ao17, co17, rfl, et0_, hcap0_, ho0, hb⟩; clear et0_ hcap0_; refine ⟨_, rfl, ?_⟩; have n0_ := Aside0.mk (Kd.R_lower ho0 (below_size (by repeat (first | (with_reducible first | exact HB.out | apply below_alloc | apply pw_below_drewN | apply below_drew1) | exact HB.out)))); have n1_ := Aside0.mk (below_step (by repeat (first | (with_reducible first | exact HB.out | apply below_alloc | apply pw_below_drewN | apply below_drew1) | exact HB.out)) hb); clear HB; have HO470 := n0_; have HB := n1_; clear n0_ n1_; (try clear hb); (try clear hb2); (try clear hk); (try clear hi); (try clear ho0)) | ((with_reducible refine gate_callee (f := 15) rfl ?_); refine goesL_ (some 29) rfl rfl Tryd.func15 (by kernel_rfl) rfl #[.slice A1 l1.length c1] rfl (by (try simp only [List.map_toArray, List.map_cons, List.map_nil]); first | done | rfl | (simp only [List.length_drop, List.length_take]; rfl)) ?_; (with_reducible refine (hand_lent _ _ l1 l1 _ ?side1 ?side2 A9.out).mono ?_); (case side1 => repeat (first | exact (Kd.C_below HR1.out HB.out) | (with_reducible refine Kd.C_alloc ?_ _) | (with_reducible refine Kd.C_drewN ?_ _) | (with_reducible refine Kd.C_drew ?_))); (case side2 => exact HC1.out); rintro e w16 ⟨Ao18, co18, rfl, et0_, hcap0_, ho0, hb⟩; clear et0_ hcap0_; refine ⟨_, rfl, ?_⟩; have n0_ := Aside0.mk (Kd.R_elder' (by (with_reducible repeat (first | apply Kd.R_alloc | apply Kd.R_drewN | apply Kd.R_drew)); exact HO470.out) (Kd.R_base ho0) hb); have n1_ := Aside0.mk (Kd.R_lower (Kd.R_new' ho0 (Kd.R_lt (by (with_reducible repeat (first | apply Kd.R_alloc | apply Kd.R_drewN | apply Kd.R_drew)); exact HO470.out))) (below_size (by repeat (first | (with_reducible first | exact HB.out | apply below_alloc | apply pw_below_drewN | apply below_drew1) | exact HB.out)))); have n2_ := Aside0.mk (below_step (by repeat (first | (with_reducible first | exact HB.out | apply below_alloc | apply pw_below_drewN | apply below_drew1) | exact HB.out)) hb); clear HO470; clear HB; have HO470 := n0_; have HO473 := n1_; have HB := n2_; clear n0_ n1_ n2_; (try clear hb); (try clear hb2); (try clear hk); (try clear hi); (try clear ho0)) | ((with_reducible refine gate_callee (f := 21) rfl ?_); refine goesL_ (some 32) rfl rfl Tryd.func21 (by kernel_rfl) rfl #[.slice Ao17 l0.length co17, .slice Ao18 l1.length co18] rfl (by (try simp only [List.map_toArray, List.map_cons, List.map_nil]); first | done | rfl | (simp only [List.length_drop, List.length_take]; rfl)) ?_; (with_reducible refine (nat_Add.calls kj2 _ _ l0 _ _ l1 t474 _ ?side1 ?side2 ?side3 ?side4 A10.out).mono ?_); (case side1 => repeat (first | exact (Kd.R_reads' (hand_take HO470.out)).2.2 | (with_reducible refine Kd.C_alloc ?_ _) | (with_reducible refine Kd.C_drewN ?_ _) | (with_reducible refine Kd.C_drew ?_))); (case side2 => exact (Kd.R_reads' (hand_take HO470.out)).2.1); (case side3 => repeat (first | exact (Kd.R_reads' (hand_take HO473.out)).2.2 | (with_reducible refine Kd.C_alloc ?_ _) | (with_reducible refine Kd.C_drewN ?_ _) | (with_reducible refine Kd.C_drew ?_))); (case side4 => exact (Kd.R_reads' (hand_take HO473.out)).2.1); rintro e w19 ⟨v475, rfl, ho0, hb⟩; refine ⟨_, rfl, ?_⟩; have n0_ := Aside0.mk (Kd.R_elder' (by (with_reducible repeat (first | apply Kd.R_alloc | apply Kd.R_drewN | apply Kd.R_drew)); exact HO470.out) (Kd.R_base ho0) hb); have n1_ := Aside0.mk (Kd.R_elder' (by (with_reducible repeat (first | apply Kd.R_alloc | apply Kd.R_drewN | apply Kd.R_drew)); exact HO473.out) (Kd.R_base ho0) hb); have n2_ := Aside0.mk (Kd.R_lower (Kd.R_new' (Kd.R_new' ho0 (Kd.R_lt (by (with_reducible repeat (first | apply Kd.R_alloc | apply Kd.R_drewN | apply Kd.R_drew)); exact HO470.out))) (Kd.R_lt (by (with_reducible repeat (first | apply Kd.R_alloc | apply Kd.R_drewN | apply Kd.R_drew)); exact HO473.out))) (below_size (by repeat (first | (with_reducible first | exact HB.out | apply below_alloc | apply pw_below_drewN | apply below_drew1) | exact HB.out)))); have n3_ := Aside0.mk (below_step (by repeat (first | (with_reducible first | exact HB.out | apply below_alloc | apply pw_below_drewN | apply below_drew1) | exact HB.out)) hb); clear HO470; clear HO473; clear HB; have HO470 := n0_; have HO473 := n1_; have HO476 := n2_; have HB := n3_; clear n0_ n1_ n2_ n3_; (try clear hb); (try clear hb2); (try clear hk); (try clear hi); (try clear ho0)) | ((with_reducible refine gate_callee (f := 22) rfl ?_); refine goesL_ (some 36) rfl rfl Tryd.func22 (by kernel_rfl) rfl #[.slice Ao17 l0.length co17, .slice Ao18 l1.length co18] rfl (by (try simp only [List.map_toArray, List.map_cons, List.map_nil]); first | done | rfl | (simp only [List.length_drop, List.length_take]; rfl)) ?_; (with_reducible refine (nat_Sub.calls kj2 _ _ l0 _ _ l1 t477 t478 _ ?side1 ?side2 ?side3 ?side4 A11.out).mono ?_); (case side1 => repeat (first | exact (Kd.R_reads' (hand_take HO470.out)).2.2 | (with_reducible refine Kd.C_alloc ?_ _) | (with_reducible refine Kd.C_drewN ?_ _) | (with_reducible refine Kd.C_drew ?_))); (case side2 => exact (Kd.R_reads' (hand_take HO470.out)).2.1); (case side3 => repeat (first | exact (Kd.R_reads' (hand_take HO473.out)).2.2 | (with_reducible refine Kd.C_alloc ?_ _) | (with_reducible refine Kd.C_drewN ?_ _) | (with_reducible refine Kd.C_drew ?_))); (case side4 => exact (Kd.R_reads' (hand_take HO473.out)).2.1); rintro e w20 ⟨v479, rfl, ho0, hb⟩; refine ⟨_, rfl, ?_⟩; have n0_ := Aside0.mk (Kd.R_elder' (by (with_reducible repeat (first | apply Kd.R_alloc | apply Kd.R_drewN | apply Kd.R_drew)); exact HO470.out) (Kd.R_base ho0) hb); have n1_ := Aside0.mk (Kd.R_elder' (by (with_reducible repeat (first | apply Kd.R_alloc | apply Kd.R_drewN | apply Kd.R_drew)); exact HO473.out) (Kd.R_base ho0) hb); have n2_ := Aside0.mk (Kd.R_elder' (by (with_reducible repeat (first | apply Kd.R_alloc | apply Kd.R_drewN | apply Kd.R_drew)); exact HO476.out) (Kd.R_base ho0) hb); have n3_ := Aside0.mk (Kd.R_lower (Kd.R_new' (Kd.R_new' (Kd.R_new' ho0 (Kd.R_lt (by (with_reducible repeat (first | apply Kd.R_alloc | apply Kd.R_drewN | apply Kd.R_drew)); exact HO470.out))) (Kd.R_lt (by (with_reducible repeat (first | apply Kd.R_alloc | apply Kd.R_drewN | apply Kd.R_drew)); exact HO473.out))) (Kd.R_lt (by (with_reducible repeat (first | apply Kd.R_alloc | apply Kd.R_drewN | apply Kd.R_drew)); exact HO476.out))) (below_size (by repeat (first | (with_reducible first | exact HB.out | apply below_alloc | apply pw_below_drewN | apply below_drew1) | exact HB.out)))); have n4_ := Aside0.mk (below_step (by repeat (first | (with_reducible first | exact HB.out | apply below_alloc | apply pw_below_drewN | apply below_drew1) | exact HB.out)) hb); clear HO470; clear HO473; clear HO476; clear HB; have HO470 := n0_; have HO473 := n1_; have HO476 := n2_; have HO480 := n3_; have HB := n4_; clear n0_ n1_ n2_ n3_ n4_; (try clear hb); (try clear hb2); (try clear hk); (try clear hi); (try clear ho0)) | ((with_reducible refine gate_callee (f := 23) rfl ?_); refine goesL_ (some 40) rfl rfl Tryd.func23 (by kernel_rfl) rfl #[.slice Ao17 l0.length co17] rfl (by (try simp only [List.map_toArray, List.map_cons, List.map_nil]); first | done | rfl | (simp only [List.length_drop, List.length_take]; rfl)) ?_; (with_reducible refine (nat_Norm.calls kj2 _ _ l0 t481 _ ?side1 ?side2 A12.out).mono ?_); (case side1 => repeat (first | exact (Kd.R_reads' (hand_take HO470.out)).2.2 | (with_reducible refine Kd.C_alloc ?_ _) | (with_reducible refine Kd.C_drewN ?_ _) | (with_reducible refine Kd.C_drew ?_))); (case side2 => exact (Kd.R_reads' (hand_take HO470.out)).2.1); rintro e w21 ⟨v482, rfl, ho0, hb⟩; refine ⟨_, rfl, ?_⟩; have n0_ := Aside0.mk (Kd.R_elder' (by (with_reducible repeat (first | apply Kd.R_alloc | apply Kd.R_drewN | apply Kd.R_drew)); exact HO470.out) (Kd.R_base ho0) hb); have n1_ := Aside0.mk (Kd.R_elder' (by (with_reducible repeat (first | apply Kd.R_alloc | apply Kd.R_drewN | apply Kd.R_drew)); exact HO473.out) (Kd.R_base ho0) hb); have n2_ := Aside0.mk (Kd.R_elder' (by (with_reducible repeat (first | apply Kd.R_alloc | apply Kd.R_drewN | apply Kd.R_drew)); exact HO476.out) (Kd.R_base ho0) hb); have n3_ := Aside0.mk (Kd.R_elder' (by (with_reducible repeat (first | apply Kd.R_alloc | apply Kd.R_drewN | apply Kd.R_drew)); exact HO480.out) (Kd.R_base ho0) hb); have n4_ := Aside0.mk (Kd.R_lower (Kd.R_new' (Kd.R_new' (Kd.R_new' (Kd.R_new' ho0 (Kd.R_lt (by (with_reducible repeat (first | apply Kd.R_alloc | apply Kd.R_drewN | apply Kd.R_drew)); exact HO470.out))) (Kd.R_lt (by (with_reducible repeat (first | apply Kd.R_alloc | apply Kd.R_drewN | apply Kd.R_drew)); exact HO473.out))) (Kd.R_lt (by (with_reducible repeat (first | apply Kd.R_alloc | apply Kd.R_drewN | apply Kd.R_drew)); exact HO476.out))) (Kd.R_lt (by (with_reducible repeat (first | apply Kd.R_alloc | apply Kd.R_drewN | apply Kd.R_drew)); exact HO480.out))) (below_size (by repeat (first | (with_reducible first | exact HB.out | apply below_alloc | apply pw_below_drewN | apply below_drew1) | exact HB.out)))); have n5_ := Aside0.mk (below_step (by repeat (first | (with_reducible first | exact HB.out | apply below_alloc | apply pw_below_drewN | apply below_drew1) | exact HB.out)) hb); clear HO470; clear HO473; clear HO476; clear HO480; clear HB; have HO470 := n0_; have HO473 := n1_; have HO476 := n2_; have HO480 := n3_; have HO483 := n4_; have HB := n5_; clear n0_ n1_ n2_ n3_ n4_ n5_; (try clear hb); (try clear hb2); (try clear hk); (try clear hi); (try clear ho0)) | ((with_reducible refine gate_callee (f := 24) rfl ?_); refine goesL_ (some 44) rfl rfl Tryd.func24 (by kernel_rfl) rfl #[.slice A0 l0.length c0, .slice A1 l1.length c1] rfl (by (try simp only [List.map_toArray, List.map_cons, List.map_nil]); first | done | rfl | (simp only [List.length_drop, List.length_take]; rfl)) ?_; (with_reducible refine (bobbinref2_Sub.calls kj2 _ _ l0 _ _ l1 t484 t485 _ ?side1 ?side2 ?side3 ?side4 A13.out).mono ?_); (case side1 => repeat (first | exact (Kd.C_below HR0.out HB.out) | (with_reducible refine Kd.C_alloc ?_ _) | (with_reducible refine Kd.C_drewN ?_ _) | (with_reducible refine Kd.C_drew ?_))); (case side2 => exact HC0.out); (case side3 => repeat (first | exact (Kd.C_below HR1.out HB.out) | (with_reducible refine Kd.C_alloc ?_ _) | (with_reducible refine Kd.C_drewN ?_ _) | (with_reducible refine Kd.C_drew ?_))); (case side4 => exact HC1.out); rintro e w22 ⟨v486, rfl, ho0, hb⟩; refine ⟨_, rfl, ?_⟩; have n0_ := Aside0.mk (Kd.R_elder' (by (with_reducible repeat (first | apply Kd.R_alloc | apply Kd.R_drewN | apply Kd.R_drew)); exact HO470.out) (Kd.R_base ho0) hb); have n1_ := Aside0.mk (Kd.R_elder' (by (with_reducible repeat (first | apply Kd.R_alloc | apply Kd.R_drewN | apply Kd.R_drew)); exact HO473.out) (Kd.R_base ho0) hb); have n2_ := Aside0.mk (Kd.R_elder' (by (with_reducible repeat (first | apply Kd.R_alloc | apply Kd.R_drewN | apply Kd.R_drew)); exact HO476.out) (Kd.R_base ho0) hb); have n3_ := Aside0.mk (Kd.R_elder' (by (with_reducible repeat (first | apply Kd.R_alloc | apply Kd.R_drewN | apply Kd.R_drew)); exact HO480.out) (Kd.R_base ho0) hb); have n4_ := Aside0.mk (Kd.R_elder' (by (with_reducible repeat (first | apply Kd.R_alloc | apply Kd.R_drewN | apply Kd.R_drew)); exact HO483.out) (Kd.R_base ho0) hb); have n5_ := Aside0.mk (Kd.R_lower (Kd.R_new' (Kd.R_new' (Kd.R_new' (Kd.R_new' (Kd.R_new' ho0 (Kd.R_lt (by (with_reducible repeat (first | apply Kd.R_alloc | apply Kd.R_drewN | apply Kd.R_drew)); exact HO470.out))) (Kd.R_lt (by (with_reducible repeat (first | apply Kd.R_alloc | apply Kd.R_drewN | apply Kd.R_drew)); exact HO473.out))) (Kd.R_lt (by (with_reducible repeat (first | apply Kd.R_alloc | apply Kd.R_drewN | apply Kd.R_drew)); exact HO476.out))) (Kd.R_lt (by (with_reducible repeat (first | apply Kd.R_alloc | apply Kd.R_drewN | apply Kd.R_drew)); exact HO480.out))) (Kd.R_lt (by (with_reducible repeat (first | apply Kd.R_alloc | apply Kd.R_drewN | apply Kd.R_drew)); exact HO483.out))) (below_size (by repeat (first | (with_reducible first | exact HB.out | apply below_alloc | apply pw_below_drewN | apply below_drew1) | exact HB.out)))); have n6_ := Aside0.mk (below_step (by repeat (first | (with_reducible first | exact HB.out | apply below_alloc | apply pw_below_drewN | apply below_drew1) | exact HB.out)) hb); clear HO470; clear HO473; clear HO476; clear HO480; clear HO483; clear HB; have HO470 := n0_; have HO473 := n1_; have HO476 := n2_; have HO480 := n3_; have HO483 := n4_; have HO487 := n5_; have HB := n6_; clear n0_ n1_ n2_ n3_ n4_ n5_ n6_; (try clear hb); (try clear hb2); (try clear hk); (try clear hi); (try clear ho0)))
        (try simp only [Act.put, List.setIfInBounds_toArray, List.set_cons_zero, List.set_cons_succ])
        go_cut [13] (fun v13 wc => ∃ (kq : Nat) (x13_13 : Bool), v13 = .bool x13_13 ∧ Aside0 (bobbinlaw2_NatSums.j1 kq l0 l1 l0 l1 t474 t477 t481 x13_13 = some r) ∧ Aside0 (kq ≤ kj2) ∧ Aside0 (Kd.R (Kd.int .u32) 38 wc w.heap.size (fun k_ => some k_ ≠ ((.slice Ao18 (l1.length + 1) co18) : Value).ownBlock ∧ some k_ ≠ (v475 : Value).ownBlock ∧ some k_ ≠ (v479 : Value).ownBlock ∧ some k_ ≠ (v482 : Value).ownBlock) (.slice Ao17 (l0.length + 1) co17) (l0 ++ [77])) ∧ Aside0 (Kd.R (Kd.int .u32) 38 wc w.heap.size (fun k_ => some k_ ≠ ((.slice Ao17 (l0.length + 1) co17) : Value).ownBlock ∧ some k_ ≠ (v475 : Value).ownBlock ∧ some k_ ≠ (v479 : Value).ownBlock ∧ some k_ ≠ (v482 : Value).ownBlock) (.slice Ao18 (l1.length + 1) co18) (l1 ++ [77])) ∧ Aside0 (Kd.R (Kd.int .u32) 38 wc w.heap.size (fun k_ => some k_ ≠ ((.slice Ao17 (l0.length + 1) co17) : Value).ownBlock ∧ some k_ ≠ ((.slice Ao18 (l1.length + 1) co18) : Value).ownBlock ∧ some k_ ≠ (v479 : Value).ownBlock ∧ some k_ ≠ (v482 : Value).ownBlock) v475 t474) ∧ Aside0 (Kd.R (Kd.int .u32) 38 wc w.heap.size (fun k_ => some k_ ≠ ((.slice Ao17 (l0.length + 1) co17) : Value).ownBlock ∧ some k_ ≠ ((.slice Ao18 (l1.length + 1) co18) : Value).ownBlock ∧ some k_ ≠ (v475 : Value).ownBlock ∧ some k_ ≠ (v482 : Value).ownBlock) v479 t477) ∧ Aside0 (Kd.R (Kd.int .u32) 38 wc w.heap.size (fun k_ => some k_ ≠ ((.slice Ao17 (l0.length + 1) co17) : Value).ownBlock ∧ some k_ ≠ ((.slice Ao18 (l1.length + 1) co18) : Value).ownBlock ∧ some k_ ≠ (v475 : Value).ownBlock ∧ some k_ ≠ (v479 : Value).ownBlock) v482 t481) ∧ Aside0 (Below w.heap.size w wc))
        case first =>
          have H := HC14.out
          clear HC14
          replace H := Option.bind_eq_some_iff.mp H
          obtain ⟨t488, A230, H⟩ := H
          replace H : ((bobbinlaw2_same.f kj2 t474 t488).bind fun t491 => (if t491 = true then ((bobbinlaw2_same.f kj2 t477 t484).bind fun t492 => (if t492 = true then (if t478 = t485 then ((bobbinref2_Norm.f kj2 l0).bind fun t493 => ((bobbinlaw2_same.f kj2 t481 t493).bind fun t496 => (if t496 = true then ((nat_Compare.f kj2 l0 l1).bind fun t497 => ((bobbinref2_Compare.f kj2 l0 l1).bind fun t498 => (if t497 = t498 then ((nat_Bits.f kj2 l0).bind fun t499 => ((bobbinref2_Bits.f kj2 l0).bind fun t500 => (bobbinlaw2_NatSums.j1 kj2 l0 l1 l0 l1 t474 t477 t481 (t499 == t500)))) else (bobbinlaw2_NatSums.j1 kj2 l0 l1 l0 l1 t474 t477 t481 false)))) else (bobbinlaw2_NatSums.j1 kj2 l0 l1 l0 l1 t474 t477 t481 false)))) else (bobbinlaw2_NatSums.j1 kj2 l0 l1 l0 l1 t474 t477 t481 false)) else (bobbinlaw2_NatSums.j1 kj2 l0 l1 l0 l1 t474 t477 t481 false))) else (bobbinlaw2_NatSums.j1 kj2 l0 l1 l0 l1 t474 t477 t481 false))) = some r := H
          have A23 := Aside0.mk A230
          clear A230
          replace H := Option.bind_eq_some_iff.mp H
          obtain ⟨t491, A240, H⟩ := H
          replace H : (if t491 = true then ((bobbinlaw2_same.f kj2 t477 t484).bind fun t492 => (if t492 = true then (if t478 = t485 then ((bobbinref2_Norm.f kj2 l0).bind fun t493 => ((bobbinlaw2_same.f kj2 t481 t493).bind fun t496 => (if t496 = true then ((nat_Compare.f kj2 l0 l1).bind fun t497 => ((bobbinref2_Compare.f kj2 l0 l1).bind fun t498 => (if t497 = t498 then ((nat_Bits.f kj2 l0).bind fun t499 => ((bobbinref2_Bits.f kj2 l0).bind fun t500 => (bobbinlaw2_NatSums.j1 kj2 l0 l1 l0 l1 t474 t477 t481 (t499 == t500)))) else (bobbinlaw2_NatSums.j1 kj2 l0 l1 l0 l1 t474 t477 t481 false)))) else (bobbinlaw2_NatSums.j1 kj2 l0 l1 l0 l1 t474 t477 t481 false)))) else (bobbinlaw2_NatSums.j1 kj2 l0 l1 l0 l1 t474 t477 t481 false)) else (bobbinlaw2_NatSums.j1 kj2 l0 l1 l0 l1 t474 t477 t481 false))) else (bobbinlaw2_NatSums.j1 kj2 l0 l1 l0 l1 t474 t477 t481 false)) = some r := H
          have A24 := Aside0.mk A240
          clear A240
          by_cases c25 : t491 = true
          · subst c25
            have H1 : ((bobbinlaw2_same.f kj2 t477 t484).bind fun t492 => (if t492 = true then (if t478 = t485 then ((bobbinref2_Norm.f kj2 l0).bind fun t493 => ((bobbinlaw2_same.f kj2 t481 t493).bind fun t496 => (if t496 = true then ((nat_Compare.f kj2 l0 l1).bind fun t497 => ((bobbinref2_Compare.f kj2 l0 l1).bind fun t498 => (if t497 = t498 then ((nat_Bits.f kj2 l0).bind fun t499 => ((bobbinref2_Bits.f kj2 l0).bind fun t500 => (bobbinlaw2_NatSums.j1 kj2 l0 l1 l0 l1 t474 t477 t481 (t499 == t500)))) else (bobbinlaw2_NatSums.j1 kj2 l0 l1 l0 l1 t474 t477 t481 false)))) else (bobbinlaw2_NatSums.j1 kj2 l0 l1 l0 l1 t474 t477 t481 false)))) else (bobbinlaw2_NatSums.j1 kj2 l0 l1 l0 l1 t474 t477 t481 false)) else (bobbinlaw2_NatSums.j1 kj2 l0 l1 l0 l1 t474 t477 t481 false))) = some r := by rw [if_pos rfl] at H; exact H
            clear H
            have H := H1
            clear H1
            replace H := Option.bind_eq_some_iff.mp H
            obtain ⟨t492, A260, H⟩ := H
            replace H : (if t492 = true then (if t478 = t485 then ((bobbinref2_Norm.f kj2 l0).bind fun t493 => ((bobbinlaw2_same.f kj2 t481 t493).bind fun t496 => (if t496 = true then ((nat_Compare.f kj2 l0 l1).bind fun t497 => ((bobbinref2_Compare.f kj2 l0 l1).bind fun t498 => (if t497 = t498 then ((nat_Bits.f kj2 l0).bind fun t499 => ((bobbinref2_Bits.f kj2 l0).bind fun t500 => (bobbinlaw2_NatSums.j1 kj2 l0 l1 l0 l1 t474 t477 t481 (t499 == t500)))) else (bobbinlaw2_NatSums.j1 kj2 l0 l1 l0 l1 t474 t477 t481 false)))) else (bobbinlaw2_NatSums.j1 kj2 l0 l1 l0 l1 t474 t477 t481 false)))) else (bobbinlaw2_NatSums.j1 kj2 l0 l1 l0 l1 t474 t477 t481 false)) else (bobbinlaw2_NatSums.j1 kj2 l0 l1 l0 l1 t474 t477 t481 false)) = some r := H
            have A26 := Aside0.mk A260
            clear A260
            by_cases c27 : t492 = true
            · subst c27
              have H1 : (if t478 = t485 then ((bobbinref2_Norm.f kj2 l0).bind fun t493 => ((bobbinlaw2_same.f kj2 t481 t493).bind fun t496 => (if t496 = true then ((nat_Compare.f kj2 l0 l1).bind fun t497 => ((bobbinref2_Compare.f kj2 l0 l1).bind fun t498 => (if t497 = t498 then ((nat_Bits.f kj2 l0).bind fun t499 => ((bobbinref2_Bits.f kj2 l0).bind fun t500 => (bobbinlaw2_NatSums.j1 kj2 l0 l1 l0 l1 t474 t477 t481 (t499 == t500)))) else (bobbinlaw2_NatSums.j1 kj2 l0 l1 l0 l1 t474 t477 t481 false)))) else (bobbinlaw2_NatSums.j1 kj2 l0 l1 l0 l1 t474 t477 t481 false)))) else (bobbinlaw2_NatSums.j1 kj2 l0 l1 l0 l1 t474 t477 t481 false)) = some r := by rw [if_pos rfl] at H; exact H
              clear H
              have H := H1
              clear H1
              by_cases c28 : t478 = t485
              · rw [if_pos c28] at H
                have c28b0 : (t478 == t485) = true := beq_iff_eq.mpr c28
                have c28b1 : (t478 != t485) = false := bne_eq_false_iff_eq.mpr c28
                clear c28
                (first | rw [c28b0] | (simp only [i64_w, i32_w]; rw [c28b0]) | rw [c28b1] | skip)
                replace H := Option.bind_eq_some_iff.mp H
                obtain ⟨t493, A290, H⟩ := H
                replace H : ((bobbinlaw2_same.f kj2 t481 t493).bind fun t496 => (if t496 = true then ((nat_Compare.f kj2 l0 l1).bind fun t497 => ((bobbinref2_Compare.f kj2 l0 l1).bind fun t498 => (if t497 = t498 then ((nat_Bits.f kj2 l0).bind fun t499 => ((bobbinref2_Bits.f kj2 l0).bind fun t500 => (bobbinlaw2_NatSums.j1 kj2 l0 l1 l0 l1 t474 t477 t481 (t499 == t500)))) else (bobbinlaw2_NatSums.j1 kj2 l0 l1 l0 l1 t474 t477 t481 false)))) else (bobbinlaw2_NatSums.j1 kj2 l0 l1 l0 l1 t474 t477 t481 false))) = some r := H
                have A29 := Aside0.mk A290
                clear A290
                replace H := Option.bind_eq_some_iff.mp H
                obtain ⟨t496, A300, H⟩ := H
                replace H : (if t496 = true then ((nat_Compare.f kj2 l0 l1).bind fun t497 => ((bobbinref2_Compare.f kj2 l0 l1).bind fun t498 => (if t497 = t498 then ((nat_Bits.f kj2 l0).bind fun t499 => ((bobbinref2_Bits.f kj2 l0).bind fun t500 => (bobbinlaw2_NatSums.j1 kj2 l0 l1 l0 l1 t474 t477 t481 (t499 == t500)))) else (bobbinlaw2_NatSums.j1 kj2 l0 l1 l0 l1 t474 t477 t481 false)))) else (bobbinlaw2_NatSums.j1 kj2 l0 l1 l0 l1 t474 t477 t481 false)) = some r := H
                have A30 := Aside0.mk A300
                clear A300
                by_cases c31 : t496 = true
                · subst c31
                  have H1 : ((nat_Compare.f kj2 l0 l1).bind fun t497 => ((bobbinref2_Compare.f kj2 l0 l1).bind fun t498 => (if t497 = t498 then ((nat_Bits.f kj2 l0).bind fun t499 => ((bobbinref2_Bits.f kj2 l0).bind fun t500 => (bobbinlaw2_NatSums.j1 kj2 l0 l1 l0 l1 t474 t477 t481 (t499 == t500)))) else (bobbinlaw2_NatSums.j1 kj2 l0 l1 l0 l1 t474 t477 t481 false)))) = some r := by rw [if_pos rfl] at H; exact H
                  clear H
                  have H := H1
                  clear H1
                  replace H := Option.bind_eq_some_iff.mp H
                  obtain ⟨t497, A320, H⟩ := H
                  replace H : ((bobbinref2_Compare.f kj2 l0 l1).bind fun t498 => (if t497 = t498 then ((nat_Bits.f kj2 l0).bind fun t499 => ((bobbinref2_Bits.f kj2 l0).bind fun t500 => (bobbinlaw2_NatSums.j1 kj2 l0 l1 l0 l1 t474 t477 t481 (t499 == t500)))) else (bobbinlaw2_NatSums.j1 kj2 l0 l1 l0 l1 t474 t477 t481 false))) = some r := H
                  have A32 := Aside0.mk A320
                  clear A320
                  replace H := Option.bind_eq_some_iff.mp H
                  obtain ⟨t498, A330, H⟩ := H
                  replace H : (if t497 = t498 then ((nat_Bits.f kj2 l0).bind fun t499 => ((bobbinref2_Bits.f kj2 l0).bind fun t500 => (bobbinlaw2_NatSums.j1 kj2 l0 l1 l0 l1 t474 t477 t481 (t499 == t500)))) else (bobbinlaw2_NatSums.j1 kj2 l0 l1 l0 l1 t474 t477 t481 false)) = some r := H
                  have A33 := Aside0.mk A330
                  clear A330
                  by_cases c34 : t497 = t498
                  · rw [if_pos c34] at H
                    have c34b0 : (t497 == t498) = true := beq_iff_eq.mpr c34
                    have c34b1 : (t497 != t498) = false := bne_eq_false_iff_eq.mpr c34
                    clear c34
                    replace H := Option.bind_eq_some_iff.mp H
                    obtain ⟨t499, A350, H⟩ := H
                    replace H : ((bobbinref2_Bits.f kj2 l0).bind fun t500 => (bobbinlaw2_NatSums.j1 kj2 l0 l1 l0 l1 t474 t477 t481 (t499 == t500))) = some r := H
                    have A35 := Aside0.mk A350
                    clear A350
                    replace H := Option.bind_eq_some_iff.mp H
                    obtain ⟨t500, A360, H⟩ := H
                    replace H : (bobbinlaw2_NatSums.j1 kj2 l0 l1 l0 l1 t474 t477 t481 (t499 == t500)) = some r := H
                    have A36 := Aside0.mk A360
                    clear A360
                    have H' := Aside0.mk H
                    clear H
                    go_wp2_with (first | ((with_reducible refine gate_callee (f := 25) rfl ?_); refine goesL_ (some 50) rfl rfl Tryd.func25 (by kernel_rfl) rfl #[.slice A0 l0.length c0, .slice A1 l1.length c1] rfl (by (try simp only [List.map_toArray, List.map_cons, List.map_nil]); first | done | rfl | (simp only [List.length_drop, List.length_take]; rfl)) ?_; (with_reducible refine (bobbinref2_Add.calls kj2 _ _ l0 _ _ l1 t488 _ ?side1 ?side2 ?side3 ?side4 A23.out).mono ?_); (case side1 => repeat (first | exact (Kd.C_below HR0.out HB.out) | (with_reducible refine Kd.C_alloc ?_ _) | (with_reducible refine Kd.C_drewN ?_ _) | (with_reducible refine Kd.C_drew ?_))); (case side2 => exact HC0.out); (case side3 => repeat (first | exact (Kd.C_below HR1.out HB.out) | (with_reducible refine Kd.C_alloc ?_ _) | (with_reducible refine Kd.C_drewN ?_ _) | (with_reducible refine Kd.C_drew ?_))); (case side4 => exact HC1.out); rintro e w37 ⟨v489, rfl, ho0, hb⟩; refine ⟨_, rfl, ?_⟩; have n0_ := Aside0.mk (Kd.R_elder' (by (with_reducible repeat (first | apply Kd.R_alloc | apply Kd.R_drewN | apply Kd.R_drew)); exact HO470.out) (Kd.R_base ho0) hb); have n1_ := Aside0.mk (Kd.R_elder' (by (with_reducible repeat (first | apply Kd.R_alloc | apply Kd.R_drewN | apply Kd.R_drew)); exact HO473.out) (Kd.R_base ho0) hb); have n2_ := Aside0.mk (Kd.R_elder' (by (with_reducible repeat (first | apply Kd.R_alloc | apply Kd.R_drewN | apply Kd.R_drew)); exact HO476.out) (Kd.R_base ho0) hb); have n3_ := Aside0.mk (Kd.R_elder' (by (with_reducible repeat (first | apply Kd.R_alloc | apply Kd.R_drewN | apply Kd.R_drew)); exact HO480.out) (Kd.R_base ho0) hb); have n4_ := Aside0.mk (Kd.R_elder' (by (with_reducible repeat (first | apply Kd.R_alloc | apply Kd.R_drewN | apply Kd.R_drew)); exact HO483.out) (Kd.R_base ho0) hb); have n5_ := Aside0.mk (Kd.R_elder' (by (with_reducible repeat (first | apply Kd.R_alloc | apply Kd.R_drewN | apply Kd.R_drew)); exact HO487.out) (Kd.R_base ho0) hb); have n6_ := Aside0.mk (Kd.R_lower (Kd.R_new' (Kd.R_new' (Kd.R_new' (Kd.R_new' (Kd.R_new' (Kd.R_new' ho0 (Kd.R_lt (by (with_reducible repeat (first | apply Kd.R_alloc | apply Kd.R_drewN | apply Kd.R_drew)); exact HO470.out))) (Kd.R_lt (by (with_reducible repeat (first | apply Kd.R_alloc | apply Kd.R_drewN | apply Kd.R_drew)); exact HO473.out))) (Kd.R_lt (by (with_reducible repeat (first | apply Kd.R_alloc | apply Kd.R_drewN | apply Kd.R_drew)); exact HO476.out))) (Kd.R_lt (by (with_reducible repeat (first | apply Kd.R_alloc | apply Kd.R_drewN | apply Kd.R_drew)); exact HO480.out))) (Kd.R_lt (by (with_reducible repeat (first | apply Kd.R_alloc | apply Kd.R_drewN | apply Kd.R_drew)); exact HO483.out))) (Kd.R_lt (by (with_reducible repeat (first | apply Kd.R_alloc | apply Kd.R_drewN | apply Kd.R_drew)); exact HO487.out))) (below_size (by repeat (first | (with_reducible first | exact HB.out | apply below_alloc | apply pw_below_drewN | apply below_drew1) | exact HB.out)))); have n7_ := Aside0.mk (below_step (by repeat (first | (with_reducible first | exact HB.out | apply below_alloc | apply pw_below_drewN | apply below_drew1) | exact HB.out)) hb); clear HO470; clear HO473; clear HO476; clear HO480; clear HO483; clear HO487; clear HB; have HO470 := n0_; have HO473 := n1_; have HO476 := n2_; have HO480 := n3_; have HO483 := n4_; have HO487 := n5_; have HO490 := n6_; have HB := n7_; clear n0_ n1_ n2_ n3_ n4_ n5_ n6_ n7_; (try clear hb); (try clear hb2); (try clear hk); (try clear hi); (try clear ho0); obtain ⟨Ao38, co38, eo38⟩ := Kd.R_slice HO476.out; subst eo38; obtain ⟨Ao39, co39, eo39⟩ := Kd.R_slice HO490.out; subst eo39) | ((with_reducible refine gate_callee (f := 12) rfl ?_); refine goesL_ (some 51) rfl rfl Tryd.func12 (by kernel_rfl) rfl #[.slice Ao38 t474.length co38, .slice Ao39 t488.length co39] rfl (by (try simp only [List.map_toArray, List.map_cons, List.map_nil]); first | done | rfl | (simp only [List.length_drop, List.length_take]; rfl)) ?_; (with_reducible refine (bobbinlaw2_same.calls kj2 _ _ t474 _ _ t488 true _ ?side1 ?side2 ?side3 ?side4 A24.out).mono ?_); (case side1 => repeat (first | exact (Kd.R_reads' HO476.out).2.2 | (with_reducible refine Kd.C_alloc ?_ _) | (with_reducible refine Kd.C_drewN ?_ _) | (with_reducible refine Kd.C_drew ?_))); (case side2 => exact (Kd.R_reads' HO476.out).2.1); (case side3 => repeat (first | exact (Kd.R_reads' HO490.out).2.2 | (with_reducible refine Kd.C_alloc ?_ _) | (with_reducible refine Kd.C_drewN ?_ _) | (with_reducible refine Kd.C_drew ?_))); (case side4 => exact (Kd.R_reads' HO490.out).2.1); rintro e w' ⟨rfl, ⟨nd, rfl⟩⟩; refine ⟨_, rfl, ?_⟩; obtain ⟨Ao40, co40, eo40⟩ := Kd.R_slice HO480.out; subst eo40; obtain ⟨Ao41, co41, eo41⟩ := Kd.R_slice HO487.out; subst eo41) | (go_at_call 12; (with_reducible refine (bobbinlaw2_same.calls kj2 _ _ t477 _ _ t484 true _ ?side1 ?side2 ?side3 ?side4 A26.out).mono ?_); (case side1 => repeat (first | exact (Kd.R_reads' HO480.out).2.2 | (with_reducible refine Kd.C_alloc ?_ _) | (with_reducible refine Kd.C_drewN ?_ _) | (with_reducible refine Kd.C_drew ?_))); (case side2 => exact (Kd.R_reads' HO480.out).2.1); (case side3 => repeat (first | exact (Kd.R_reads' HO487.out).2.2 | (with_reducible refine Kd.C_alloc ?_ _) | (with_reducible refine Kd.C_drewN ?_ _) | (with_reducible refine Kd.C_drew ?_))); (case side4 => exact (Kd.R_reads' HO487.out).2.1); rintro e w' ⟨rfl, ⟨nd, rfl⟩⟩) | (go_at_call 26; (with_reducible refine (bobbinref2_Norm.calls kj2 _ _ l0 t493 _ ?side1 ?side2 A29.out).mono ?_); (case side1 => repeat (first | exact (Kd.C_below HR0.out (by repeat (first | (with_reducible first | exact HB.out | apply below_alloc | apply pw_below_drewN | apply below_drew1) | exact HB.out))) | (with_reducible refine Kd.C_alloc ?_ _) | (with_reducible refine Kd.C_drewN ?_ _) | (with_reducible refine Kd.C_drew ?_))); (case side2 => exact HC0.out); rintro e w42 ⟨v494, rfl, ho0, hb⟩; have n0_ := Aside0.mk (Kd.R_elder' (by (with_reducible repeat (first | apply Kd.R_alloc | apply Kd.R_drewN | apply Kd.R_drew)); exact HO470.out) (Kd.R_base ho0) hb); have n1_ := Aside0.mk (Kd.R_elder' (by (with_reducible repeat (first | apply Kd.R_alloc | apply Kd.R_drewN | apply Kd.R_drew)); exact HO473.out) (Kd.R_base ho0) hb); have n2_ := Aside0.mk (Kd.R_elder' (by (with_reducible repeat (first | apply Kd.R_alloc | apply Kd.R_drewN | apply Kd.R_drew)); exact HO476.out) (Kd.R_base ho0) hb); have n3_ := Aside0.mk (Kd.R_elder' (by (with_reducible repeat (first | apply Kd.R_alloc | apply Kd.R_drewN | apply Kd.R_drew)); exact HO480.out) (Kd.R_base ho0) hb); have n4_ := Aside0.mk (Kd.R_elder' (by (with_reducible repeat (first | apply Kd.R_alloc | apply Kd.R_drewN | apply Kd.R_drew)); exact HO483.out) (Kd.R_base ho0) hb); have n5_ := Aside0.mk (Kd.R_elder' (by (with_reducible repeat (first | apply Kd.R_alloc | apply Kd.R_drewN | apply Kd.R_drew)); exact HO487.out) (Kd.R_base ho0) hb); have n6_ := Aside0.mk (Kd.R_elder' (by (with_reducible repeat (first | apply Kd.R_alloc | apply Kd.R_drewN | apply Kd.R_drew)); exact HO490.out) (Kd.R_base ho0) hb); have n7_ := Aside0.mk (Kd.R_lower (Kd.R_new' (Kd.R_new' (Kd.R_new' (Kd.R_new' (Kd.R_new' (Kd.R_new' (Kd.R_new' ho0 (Kd.R_lt (by (with_reducible repeat (first | apply Kd.R_alloc | apply Kd.R_drewN | apply Kd.R_drew)); exact HO470.out))) (Kd.R_lt (by (with_reducible repeat (first | apply Kd.R_alloc | apply Kd.R_drewN | apply Kd.R_drew)); exact HO473.out))) (Kd.R_lt (by (with_reducible repeat (first | apply Kd.R_alloc | apply Kd.R_drewN | apply Kd.R_drew)); exact HO476.out))) (Kd.R_lt (by (with_reducible repeat (first | apply Kd.R_alloc | apply Kd.R_drewN | apply Kd.R_drew)); exact HO480.out))) (Kd.R_lt (by (with_reducible repeat (first | apply Kd.R_alloc | apply Kd.R_drewN | apply Kd.R_drew)); exact HO483.out))) (Kd.R_lt (by (with_reducible repeat (first | apply Kd.R_alloc | apply Kd.R_drewN | apply Kd.R_drew)); exact HO487.out))) (Kd.R_lt (by (with_reducible repeat (first | apply Kd.R_alloc | apply Kd.R_drewN | apply Kd.R_drew)); exact HO490.out))) (below_size (by repeat (first | (with_reducible first | exact HB.out | apply below_alloc | apply pw_below_drewN | apply below_drew1) | exact HB.out)))); have n8_ := Aside0.mk (below_step (by repeat (first | (with_reducible first | exact HB.out | apply below_alloc | apply pw_below_drewN | apply below_drew1) | exact HB.out)) hb); clear HO470; clear HO473; clear HO476; clear HO480; clear HO483; clear HO487; clear HO490; clear HB; have HO470 := n0_; have HO473 := n1_; have HO476 := n2_; have HO480 := n3_; have HO483 := n4_; have HO487 := n5_; have HO490 := n6_; have HO495 := n7_; have HB := n8_; clear n0_ n1_ n2_ n3_ n4_ n5_ n6_ n7_ n8_; (try clear hb); (try clear hb2); (try clear hk); (try clear hi); (try clear ho0); obtain ⟨Ao43, co43, eo43⟩ := Kd.R_slice HO483.out; subst eo43; obtain ⟨Ao44, co44, eo44⟩ := Kd.R_slice HO495.out; subst eo44) | (go_at_call 12; (with_reducible refine (bobbinlaw2_same.calls kj2 _ _ t481 _ _ t493 true _ ?side1 ?side2 ?side3 ?side4 A30.out).mono ?_); (case side1 => repeat (first | exact (Kd.R_reads' HO483.out).2.2 | (with_reducible refine Kd.C_alloc ?_ _) | (with_reducible refine Kd.C_drewN ?_ _) | (with_reducible refine Kd.C_drew ?_))); (case side2 => exact (Kd.R_reads' HO483.out).2.1); (case side3 => repeat (first | exact (Kd.R_reads' HO495.out).2.2 | (with_reducible refine Kd.C_alloc ?_ _) | (with_reducible refine Kd.C_drewN ?_ _) | (with_reducible refine Kd.C_drew ?_))); (case side4 => exact (Kd.R_reads' HO495.out).2.1); rintro e w' ⟨rfl, ⟨nd, rfl⟩⟩) | (go_at_call 27; (with_reducible refine (nat_Compare.calls kj2 _ _ l0 _ _ l1 t497 _ ?side1 ?side2 ?side3 ?side4 A32.out).mono ?_); (case side1 => repeat (first | exact (Kd.R_reads' (hand_take HO470.out)).2.2 | (with_reducible refine Kd.C_alloc ?_ _) | (with_reducible refine Kd.C_drewN ?_ _) | (with_reducible refine Kd.C_drew ?_))); (case side2 => exact (Kd.R_reads' (hand_take HO470.out)).2.1); (case side3 => repeat (first | exact (Kd.R_reads' (hand_take HO473.out)).2.2 | (with_reducible refine Kd.C_alloc ?_ _) | (with_reducible refine Kd.C_drewN ?_ _) | (with_reducible refine Kd.C_drew ?_))); (case side4 => exact (Kd.R_reads' (hand_take HO473.out)).2.1); rintro e w45 ⟨rfl, hb⟩; have n0_ := Aside0.mk (Kd.R_below (by (with_reducible repeat (first | apply Kd.R_alloc | apply Kd.R_drewN | apply Kd.R_drew)); exact HO470.out) hb); have n1_ := Aside0.mk (Kd.R_below (by (with_reducible repeat (first | apply Kd.R_alloc | apply Kd.R_drewN | apply Kd.R_drew)); exact HO473.out) hb); have n2_ := Aside0.mk (Kd.R_below (by (with_reducible repeat (first | apply Kd.R_alloc | apply Kd.R_drewN | apply Kd.R_drew)); exact HO476.out) hb); have n3_ := Aside0.mk (Kd.R_below (by (with_reducible repeat (first | apply Kd.R_alloc | apply Kd.R_drewN | apply Kd.R_drew)); exact HO480.out) hb); have n4_ := Aside0.mk (Kd.R_below (by (with_reducible repeat (first | apply Kd.R_alloc | apply Kd.R_drewN | apply Kd.R_drew)); exact HO483.out) hb); have n5_ := Aside0.mk (Kd.R_below (by (with_reducible repeat (first | apply Kd.R_alloc | apply Kd.R_drewN | apply Kd.R_drew)); exact HO487.out) hb); have n6_ := Aside0.mk (Kd.R_below (by (with_reducible repeat (first | apply Kd.R_alloc | apply Kd.R_drewN | apply Kd.R_drew)); exact HO490.out) hb); have n7_ := Aside0.mk (Kd.R_below (by (with_reducible repeat (first | apply Kd.R_alloc | apply Kd.R_drewN | apply Kd.R_drew)); exact HO495.out) hb); have n8_ := Aside0.mk (below_step (by repeat (first | (with_reducible first | exact HB.out | apply below_alloc | apply pw_below_drewN | apply below_drew1) | exact HB.out)) hb); clear HO470; clear HO473; clear HO476; clear HO480; clear HO483; clear HO487; clear HO490; clear HO495; clear HB; have HO470 := n0_; have HO473 := n1_; have HO476 := n2_; have HO480 := n3_; have HO483 := n4_; have HO487 := n5_; have HO490 := n6_; have HO495 := n7_; have HB := n8_; clear n0_ n1_ n2_ n3_ n4_ n5_ n6_ n7_ n8_; (try clear hb); (try clear hb2); (try clear hk); (try clear hi)) | (go_at_call 28; (with_reducible refine (bobbinref2_Compare.calls kj2 _ _ l0 _ _ l1 t498 _ ?side1 ?side2 ?side3 ?side4 A33.out).mono ?_); (case side1 => repeat (first | exact (Kd.C_below HR0.out HB.out) | (with_reducible refine Kd.C_alloc ?_ _) | (with_reducible refine Kd.C_drewN ?_ _) | (with_reducible refine Kd.C_drew ?_))); (case side2 => exact HC0.out); (case side3 => repeat (first | exact (Kd.C_below HR1.out HB.out) | (with_reducible refine Kd.C_alloc ?_ _) | (with_reducible refine Kd.C_drewN ?_ _) | (with_reducible refine Kd.C_drew ?_))); (case side4 => exact HC1.out); rintro e w46 ⟨rfl, hb⟩; have n0_ := Aside0.mk (Kd.R_below (by (with_reducible repeat (first | apply Kd.R_alloc | apply Kd.R_drewN | apply Kd.R_drew)); exact HO470.out) hb); have n1_ := Aside0.mk (Kd.R_below (by (with_reducible repeat (first | apply Kd.R_alloc | apply Kd.R_drewN | apply Kd.R_drew)); exact HO473.out) hb); have n2_ := Aside0.mk (Kd.R_below (by (with_reducible repeat (first | apply Kd.R_alloc | apply Kd.R_drewN | apply Kd.R_drew)); exact HO476.out) hb); have n3_ := Aside0.mk (Kd.R_below (by (with_reducible repeat (first | apply Kd.R_alloc | apply Kd.R_drewN | apply Kd.R_drew)); exact HO480.out) hb); have n4_ := Aside0.mk (Kd.R_below (by (with_reducible repeat (first | apply Kd.R_alloc | apply Kd.R_drewN | apply Kd.R_drew)); exact HO483.out) hb); have n5_ := Aside0.mk (Kd.R_below (by (with_reducible repeat (first | apply Kd.R_alloc | apply Kd.R_drewN | apply Kd.R_drew)); exact HO487.out) hb); have n6_ := Aside0.mk (Kd.R_below (by (with_reducible repeat (first | apply Kd.R_alloc | apply Kd.R_drewN | apply Kd.R_drew)); exact HO490.out) hb); have n7_ := Aside0.mk (Kd.R_below (by (with_reducible repeat (first | apply Kd.R_alloc | apply Kd.R_drewN | apply Kd.R_drew)); exact HO495.out) hb); have n8_ := Aside0.mk (below_step (by repeat (first | (with_reducible first | exact HB.out | apply below_alloc | apply pw_below_drewN | apply below_drew1) | exact HB.out)) hb); clear HO470; clear HO473; clear HO476; clear HO480; clear HO483; clear HO487; clear HO490; clear HO495; clear HB; have HO470 := n0_; have HO473 := n1_; have HO476 := n2_; have HO480 := n3_; have HO483 := n4_; have HO487 := n5_; have HO490 := n6_; have HO495 := n7_; have HB := n8_; clear n0_ n1_ n2_ n3_ n4_ n5_ n6_ n7_ n8_; (try clear hb); (try clear hb2); (try clear hk); (try clear hi)) | (go_at_call 29; (with_reducible refine (nat_Bits.calls kj2 _ _ l0 t499 _ ?side1 ?side2 A35.out).mono ?_); (case side1 => repeat (first | exact (Kd.R_reads' (hand_take HO470.out)).2.2 | (with_reducible refine Kd.C_alloc ?_ _) | (with_reducible refine Kd.C_drewN ?_ _) | (with_reducible refine Kd.C_drew ?_))); (case side2 => exact (Kd.R_reads' (hand_take HO470.out)).2.1); rintro e w47 ⟨rfl, hb⟩; have n0_ := Aside0.mk (Kd.R_below (by (with_reducible repeat (first | apply Kd.R_alloc | apply Kd.R_drewN | apply Kd.R_drew)); exact HO470.out) hb); have n1_ := Aside0.mk (Kd.R_below (by (with_reducible repeat (first | apply Kd.R_alloc | apply Kd.R_drewN | apply Kd.R_drew)); exact HO473.out) hb); have n2_ := Aside0.mk (Kd.R_below (by (with_reducible repeat (first | apply Kd.R_alloc | apply Kd.R_drewN | apply Kd.R_drew)); exact HO476.out) hb); have n3_ := Aside0.mk (Kd.R_below (by (with_reducible repeat (first | apply Kd.R_alloc | apply Kd.R_drewN | apply Kd.R_drew)); exact HO480.out) hb); have n4_ := Aside0.mk (Kd.R_below (by (with_reducible repeat (first | apply Kd.R_alloc | apply Kd.R_drewN | apply Kd.R_drew)); exact HO483.out) hb); have n5_ := Aside0.mk (Kd.R_below (by (with_reducible repeat (first | apply Kd.R_alloc | apply Kd.R_drewN | apply Kd.R_drew)); exact HO487.out) hb); have n6_ := Aside0.mk (Kd.R_below (by (with_reducible repeat (first | apply Kd.R_alloc | apply Kd.R_drewN | apply Kd.R_drew)); exact HO490.out) hb); have n7_ := Aside0.mk (Kd.R_below (by (with_reducible repeat (first | apply Kd.R_alloc | apply Kd.R_drewN | apply Kd.R_drew)); exact HO495.out) hb); have n8_ := Aside0.mk (below_step (by repeat (first | (with_reducible first | exact HB.out | apply below_alloc | apply pw_below_drewN | apply below_drew1) | exact HB.out)) hb); clear HO470; clear HO473; clear HO476; clear HO480; clear HO483; clear HO487; clear HO490; clear HO495; clear HB; have HO470 := n0_; have HO473 := n1_; have HO476 := n2_; have HO480 := n3_; have HO483 := n4_; have HO487 := n5_; have HO490 := n6_; have HO495 := n7_; have HB := n8_; clear n0_ n1_ n2_ n3_ n4_ n5_ n6_ n7_ n8_; (try clear hb); (try clear hb2); (try clear hk); (try clear hi)) | (go_at_call 30; (with_reducible refine (bobbinref2_Bits.calls kj2 _ _ l0 t500 _ ?side1 ?side2 A36.out).mono ?_); (case side1 => repeat (first | exact (Kd.C_below HR0.out HB.out) | (with_reducible refine Kd.C_alloc ?_ _) | (with_reducible refine Kd.C_drewN ?_ _) | (with_reducible refine Kd.C_drew ?_))); (case side2 => exact HC0.out); rintro e w48 ⟨rfl, hb⟩; have n0_ := Aside0.mk (Kd.R_below (by (with_reducible repeat (first | apply Kd.R_alloc | apply Kd.R_drewN | apply Kd.R_drew)); exact HO470.out) hb); have n1_ := Aside0.mk (Kd.R_below (by (with_reducible repeat (first | apply Kd.R_alloc | apply Kd.R_drewN | apply Kd.R_drew)); exact HO473.out) hb); have n2_ := Aside0.mk (Kd.R_below (by (with_reducible repeat (first | apply Kd.R_alloc | apply Kd.R_drewN | apply Kd.R_drew)); exact HO476.out) hb); have n3_ := Aside0.mk (Kd.R_below (by (with_reducible repeat (first | apply Kd.R_alloc | apply Kd.R_drewN | apply Kd.R_drew)); exact HO480.out) hb); have n4_ := Aside0.mk (Kd.R_below (by (with_reducible repeat (first | apply Kd.R_alloc | apply Kd.R_drewN | apply Kd.R_drew)); exact HO483.out) hb); have n5_ := Aside0.mk (Kd.R_below (by (with_reducible repeat (first | apply Kd.R_alloc | apply Kd.R_drewN | apply Kd.R_drew)); exact HO487.out) hb); have n6_ := Aside0.mk (Kd.R_below (by (with_reducible repeat (first | apply Kd.R_alloc | apply Kd.R_drewN | apply Kd.R_drew)); exact HO490.out) hb); have n7_ := Aside0.mk (Kd.R_below (by (with_reducible repeat (first | apply Kd.R_alloc | apply Kd.R_drewN | apply Kd.R_drew)); exact HO495.out) hb); have n8_ := Aside0.mk (below_step (by repeat (first | (with_reducible first | exact HB.out | apply below_alloc | apply pw_below_drewN | apply below_drew1) | exact HB.out)) hb); clear HO470; clear HO473; clear HO476; clear HO480; clear HO483; clear HO487; clear HO490; clear HO495; clear HB; have HO470 := n0_; have HO473 := n1_; have HO476 := n2_; have HO480 := n3_; have HO483 := n4_; have HO487 := n5_; have HO490 := n6_; have HO495 := n7_; have HB := n8_; clear n0_ n1_ n2_ n3_ n4_ n5_ n6_ n7_ n8_; (try clear hb); (try clear hb2); (try clear hk); (try clear hi)))
                    go_meet
                    case rel => exact ⟨_, ((t499 == t500)), (by first | rfl | (simp; done) | (simp [*]; done)), H', ⟨by have := HJ2.out; first | omega | exact Nat.le_refl _⟩, ⟨by (with_reducible repeat (first | apply Kd.R_alloc | apply Kd.R_drewN | apply Kd.R_drew)); exact Kd.R_mono HO470.out (fun _ hk => ⟨hk.1.1.1.1.1.1.2, ⟨hk.1.1.1.1.1.2, ⟨hk.1.1.1.1.2, hk.1.1.1.2⟩⟩⟩)⟩, ⟨by (with_reducible repeat (first | apply Kd.R_alloc | apply Kd.R_drewN | apply Kd.R_drew)); exact Kd.R_mono HO473.out (fun _ hk => ⟨hk.1.1.1.1.1.1.2, ⟨hk.1.1.1.1.1.2, ⟨hk.1.1.1.1.2, hk.1.1.1.2⟩⟩⟩)⟩, ⟨by (with_reducible repeat (first | apply Kd.R_alloc | apply Kd.R_drewN | apply Kd.R_drew)); exact Kd.R_mono HO476.out (fun _ hk => ⟨hk.1.1.1.1.1.1.2, ⟨hk.1.1.1.1.1.2, ⟨hk.1.1.1.1.2, hk.1.1.1.2⟩⟩⟩)⟩, ⟨by (with_reducible repeat (first | apply Kd.R_alloc | apply Kd.R_drewN | apply Kd.R_drew)); exact Kd.R_mono HO480.out (fun _ hk => ⟨hk.1.1.1.1.1.1.2, ⟨hk.1.1.1.1.1.2, ⟨hk.1.1.1.1.2, hk.1.1.1.2⟩⟩⟩)⟩, ⟨by (with_reducible repeat (first | apply Kd.R_alloc | apply Kd.R_drewN | apply Kd.R_drew)); exact Kd.R_mono HO483.out (fun _ hk => ⟨hk.1.1.1.1.1.1.2, ⟨hk.1.1.1.1.1.2, ⟨hk.1.1.1.1.2, hk.1.1.1.2⟩⟩⟩)⟩, ⟨by repeat (first | (with_reducible first | exact HB.out | apply below_alloc | apply pw_below_drewN | apply below_drew1) | exact HB.out)⟩⟩
                  · rw [if_neg c34] at H
                    have c34b0 : (t497 == t498) = false := beq_eq_false_iff_ne.mpr c34
                    have c34b1 : (t497 != t498) = true := bne_iff_ne.mpr c34
                    have H' := Aside0.mk H
                    clear H
                    go_wp2_with (first | ((with_reducible refine gate_callee (f := 25) rfl ?_); refine goesL_ (some 50) rfl rfl Tryd.func25 (by kernel_rfl) rfl #[.slice A0 l0.length c0, .slice A1 l1.length c1] rfl (by (try simp only [List.map_toArray, List.map_cons, List.map_nil]); first | done | rfl | (simp only [List.length_drop, List.length_take]; rfl)) ?_; (with_reducible refine (bobbinref2_Add.calls kj2 _ _ l0 _ _ l1 t488 _ ?side1 ?side2 ?side3 ?side4 A23.out).mono ?_); (case side1 => repeat (first | exact (Kd.C_below HR0.out HB.out) | (with_reducible refine Kd.C_alloc ?_ _) | (with_reducible refine Kd.C_drewN ?_ _) | (with_reducible refine Kd.C_drew ?_))); (case side2 => exact HC0.out); (case side3 => repeat (first | exact (Kd.C_below HR1.out HB.out) | (with_reducible refine Kd.C_alloc ?_ _) | (with_reducible refine Kd.C_drewN ?_ _) | (with_reducible refine Kd.C_drew ?_))); (case side4 => exact HC1.out); rintro e w49 ⟨v489, rfl, ho0, hb⟩; refine ⟨_, rfl, ?_⟩; have n0_ := Aside0.mk (Kd.R_elder' (by (with_reducible repeat (first | apply Kd.R_alloc | apply Kd.R_drewN | apply Kd.R_drew)); exact HO470.out) (Kd.R_base ho0) hb); have n1_ := Aside0.mk (Kd.R_elder' (by (with_reducible repeat (first | apply Kd.R_alloc | apply Kd.R_drewN | apply Kd.R_drew)); exact HO473.out) (Kd.R_base ho0) hb); have n2_ := Aside0.mk (Kd.R_elder' (by (with_reducible repeat (first | apply Kd.R_alloc | apply Kd.R_drewN | apply Kd.R_drew)); exact HO476.out) (Kd.R_base ho0) hb); have n3_ := Aside0.mk (Kd.R_elder' (by (with_reducible repeat (first | apply Kd.R_alloc | apply Kd.R_drewN | apply Kd.R_drew)); exact HO480.out) (Kd.R_base ho0) hb); have n4_ := Aside0.mk (Kd.R_elder' (by (with_reducible repeat (first | apply Kd.R_alloc | apply Kd.R_drewN | apply Kd.R_drew)); exact HO483.out) (Kd.R_base ho0) hb); have n5_ := Aside0.mk (Kd.R_elder' (by (with_reducible repeat (first | apply Kd.R_alloc | apply Kd.R_drewN | apply Kd.R_drew)); exact HO487.out) (Kd.R_base ho0) hb); have n6_ := Aside0.mk (Kd.R_lower (Kd.R_new' (Kd.R_new' (Kd.R_new' (Kd.R_new' (Kd.R_new' (Kd.R_new' ho0 (Kd.R_lt (by (with_reducible repeat (first | apply Kd.R_alloc | apply Kd.R_drewN | apply Kd.R_drew)); exact HO470.out))) (Kd.R_lt (by (with_reducible repeat (first | apply Kd.R_alloc | apply Kd.R_drewN | apply Kd.R_drew)); exact HO473.out))) (Kd.R_lt (by (with_reducible repeat (first | apply Kd.R_alloc | apply Kd.R_drewN | apply Kd.R_drew)); exact HO476.out))) (Kd.R_lt (by (with_reducible repeat (first | apply Kd.R_alloc | apply Kd.R_drewN | apply Kd.R_drew)); exact HO480.out))) (Kd.R_lt (by (with_reducible repeat (first | apply Kd.R_alloc | apply Kd.R_drewN | apply Kd.R_drew)); exact HO483.out))) (Kd.R_lt (by (with_reducible repeat (first | apply Kd.R_alloc | apply Kd.R_drewN | apply Kd.R_drew)); exact HO487.out))) (below_size (by repeat (first | (with_reducible first | exact HB.out | apply below_alloc | apply pw_below_drewN | apply below_drew1) | exact HB.out)))); have n7_ := Aside0.mk (below_step (by repeat (first | (with_reducible first | exact HB.out | apply below_alloc | apply pw_below_drewN | apply below_drew1) | exact HB.out)) hb); clear HO470; clear HO473; clear HO476; clear HO480; clear HO483; clear HO487; clear HB; have HO470 := n0_; have HO473 := n1_; have HO476 := n2_; have HO480 := n3_; have HO483 := n4_; have HO487 := n5_; have HO490 := n6_; have HB := n7_; clear n0_ n1_ n2_ n3_ n4_ n5_ n6_ n7_; (try clear hb); (try clear hb2); (try clear hk); (try clear hi); (try clear ho0); obtain ⟨Ao50, co50, eo50⟩ := Kd.R_slice HO476.out; subst eo50; obtain ⟨Ao51, co51, eo51⟩ := Kd.R_slice HO490.out; subst eo51) | ((with_reducible refine gate_callee (f := 12) rfl ?_); refine goesL_ (some 51) rfl rfl Tryd.func12 (by kernel_rfl) rfl #[.slice Ao50 t474.length co50, .slice Ao51 t488.length co51] rfl (by (try simp only [List.map_toArray, List.map_cons, List.map_nil]); first | done | rfl | (simp only [List.length_drop, List.length_take]; rfl)) ?_; (with_reducible refine (bobbinlaw2_same.calls kj2 _ _ t474 _ _ t488 true _ ?side1 ?side2 ?side3 ?side4 A24.out).mono ?_); (case side1 => repeat (first | exact (Kd.R_reads' HO476.out).2.2 | (with_reducible refine Kd.C_alloc ?_ _) | (with_reducible refine Kd.C_drewN ?_ _) | (with_reducible refine Kd.C_drew ?_))); (case side2 => exact (Kd.R_reads' HO476.out).2.1); (case side3 => repeat (first | exact (Kd.R_reads' HO490.out).2.2 | (with_reducible refine Kd.C_alloc ?_ _) | (with_reducible refine Kd.C_drewN ?_ _) | (with_reducible refine Kd.C_drew ?_))); (case side4 => exact (Kd.R_reads' HO490.out).2.1); rintro e w' ⟨rfl, ⟨nd, rfl⟩⟩; refine ⟨_, rfl, ?_⟩; obtain ⟨Ao52, co52, eo52⟩ := Kd.R_slice HO480.out; subst eo52; obtain ⟨Ao53, co53, eo53⟩ := Kd.R_slice HO487.out; subst eo53) | (go_at_call 12; (with_reducible refine (bobbinlaw2_same.calls kj2 _ _ t477 _ _ t484 true _ ?side1 ?side2 ?side3 ?side4 A26.out).mono ?_); (case side1 => repeat (first | exact (Kd.R_reads' HO480.out).2.2 | (with_reducible refine Kd.C_alloc ?_ _) | (with_reducible refine Kd.C_drewN ?_ _) | (with_reducible refine Kd.C_drew ?_))); (case side2 => exact (Kd.R_reads' HO480.out).2.1); (case side3 => repeat (first | exact (Kd.R_reads' HO487.out).2.2 | (with_reducible refine Kd.C_alloc ?_ _) | (with_reducible refine Kd.C_drewN ?_ _) | (with_reducible refine Kd.C_drew ?_))); (case side4 => exact (Kd.R_reads' HO487.out).2.1); rintro e w' ⟨rfl, ⟨nd, rfl⟩⟩) | (go_at_call 26; (with_reducible refine (bobbinref2_Norm.calls kj2 _ _ l0 t493 _ ?side1 ?side2 A29.out).mono ?_); (case side1 => repeat (first | exact (Kd.C_below HR0.out (by repeat (first | (with_reducible first | exact HB.out | apply below_alloc | apply pw_below_drewN | apply below_drew1) | exact HB.out))) | (with_reducible refine Kd.C_alloc ?_ _) | (with_reducible refine Kd.C_drewN ?_ _) | (with_reducible refine Kd.C_drew ?_))); (case side2 => exact HC0.out); rintro e w54 ⟨v494, rfl, ho0, hb⟩; have n0_ := Aside0.mk (Kd.R_elder' (by (with_reducible repeat (first | apply Kd.R_alloc | apply Kd.R_drewN | apply Kd.R_drew)); exact HO470.out) (Kd.R_base ho0) hb); have n1_ := Aside0.mk (Kd.R_elder' (by (with_reducible repeat (first | apply Kd.R_alloc | apply Kd.R_drewN | apply Kd.R_drew)); exact HO473.out) (Kd.R_base ho0) hb); have n2_ := Aside0.mk (Kd.R_elder' (by (with_reducible repeat (first | apply Kd.R_alloc | apply Kd.R_drewN | apply Kd.R_drew)); exact HO476.out) (Kd.R_base ho0) hb); have n3_ := Aside0.mk (Kd.R_elder' (by (with_reducible repeat (first | apply Kd.R_alloc | apply Kd.R_drewN | apply Kd.R_drew)); exact HO480.out) (Kd.R_base ho0) hb); have n4_ := Aside0.mk (Kd.R_elder' (by (with_reducible repeat (first | apply Kd.R_alloc | apply Kd.R_drewN | apply Kd.R_drew)); exact HO483.out) (Kd.R_base ho0) hb); have n5_ := Aside0.mk (Kd.R_elder' (by (with_reducible repeat (first | apply Kd.R_alloc | apply Kd.R_drewN | apply Kd.R_drew)); exact HO487.out) (Kd.R_base ho0) hb); have n6_ := Aside0.mk (Kd.R_elder' (by (with_reducible repeat (first | apply Kd.R_alloc | apply Kd.R_drewN | apply Kd.R_drew)); exact HO490.out) (Kd.R_base ho0) hb); have n7_ := Aside0.mk (Kd.R_lower (Kd.R_new' (Kd.R_new' (Kd.R_new' (Kd.R_new' (Kd.R_new' (Kd.R_new' (Kd.R_new' ho0 (Kd.R_lt (by (with_reducible repeat (first | apply Kd.R_alloc | apply Kd.R_drewN | apply Kd.R_drew)); exact HO470.out))) (Kd.R_lt (by (with_reducible repeat (first | apply Kd.R_alloc | apply Kd.R_drewN | apply Kd.R_drew)); exact HO473.out))) (Kd.R_lt (by (with_reducible repeat (first | apply Kd.R_alloc | apply Kd.R_drewN | apply Kd.R_drew)); exact HO476.out))) (Kd.R_lt (by (with_reducible repeat (first | apply Kd.R_alloc | apply Kd.R_drewN | apply Kd.R_drew)); exact HO480.out))) (Kd.R_lt (by (with_reducible repeat (first | apply Kd.R_alloc | apply Kd.R_drewN | apply Kd.R_drew)); exact HO483.out))) (Kd.R_lt (by (with_reducible repeat (first | apply Kd.R_alloc | apply Kd.R_drewN | apply Kd.R_drew)); exact HO487.out))) (Kd.R_lt (by (with_reducible repeat (first | apply Kd.R_alloc | apply Kd.R_drewN | apply Kd.R_drew)); exact HO490.out))) (below_size (by repeat (first | (with_reducible first | exact HB.out | apply below_alloc | apply pw_below_drewN | apply below_drew1) | exact HB.out)))); have n8_ := Aside0.mk (below_step (by repeat (first | (with_reducible first | exact HB.out | apply below_alloc | apply pw_below_drewN | apply below_drew1) | exact HB.out)) hb); clear HO470; clear HO473; clear HO476; clear HO480; clear HO483; clear HO487; clear HO490; clear HB; have HO470 := n0_; have HO473 := n1_; have HO476 := n2_; have HO480 := n3_; have HO483 := n4_; have HO487 := n5_; have HO490 := n6_; have HO495 := n7_; have HB := n8_; clear n0_ n1_ n2_ n3_ n4_ n5_ n6_ n7_ n8_; (try clear hb); (try clear hb2); (try clear hk); (try clear hi); (try clear ho0); obtain ⟨Ao55, co55, eo55⟩ := Kd.R_slice HO483.out; subst eo55; obtain ⟨Ao56, co56, eo56⟩ := Kd.R_slice HO495.out; subst eo56) | (go_at_call 12; (with_reducible refine (bobbinlaw2_same.calls kj2 _ _ t481 _ _ t493 true _ ?side1 ?side2 ?side3 ?side4 A30.out).mono ?_); (case side1 => repeat (first | exact (Kd.R_reads' HO483.out).2.2 | (with_reducible refine Kd.C_alloc ?_ _) | (with_reducible refine Kd.C_drewN ?_ _) | (with_reducible refine Kd.C_drew ?_))); (case side2 => exact (Kd.R_reads' HO483.out).2.1); (case side3 => repeat (first | exact (Kd.R_reads' HO495.out).2.2 | (with_reducible refine Kd.C_alloc ?_ _) | (with_reducible refine Kd.C_drewN ?_ _) | (with_reducible refine Kd.C_drew ?_))); (case side4 => exact (Kd.R_reads' HO495.out).2.1); rintro e w' ⟨rfl, ⟨nd, rfl⟩⟩) | (go_at_call 27; (with_reducible refine (nat_Compare.calls kj2 _ _ l0 _ _ l1 t497 _ ?side1 ?side2 ?side3 ?side4 A32.out).mono ?_); (case side1 => repeat (first | exact (Kd.R_reads' (hand_take HO470.out)).2.2 | (with_reducible refine Kd.C_alloc ?_ _) | (with_reducible refine Kd.C_drewN ?_ _) | (with_reducible refine Kd.C_drew ?_))); (case side2 => exact (Kd.R_reads' (hand_take HO470.out)).2.1); (case side3 => repeat (first | exact (Kd.R_reads' (hand_take HO473.out)).2.2 | (with_reducible refine Kd.C_alloc ?_ _) | (with_reducible refine Kd.C_drewN ?_ _) | (with_reducible refine Kd.C_drew ?_))); (case side4 => exact (Kd.R_reads' (hand_take HO473.out)).2.1); rintro e w57 ⟨rfl, hb⟩; have n0_ := Aside0.mk (Kd.R_below (by (with_reducible repeat (first | apply Kd.R_alloc | apply Kd.R_drewN | apply Kd.R_drew)); exact HO470.out) hb); have n1_ := Aside0.mk (Kd.R_below (by (with_reducible repeat (first | apply Kd.R_alloc | apply Kd.R_drewN | apply Kd.R_drew)); exact HO473.out) hb); have n2_ := Aside0.mk (Kd.R_below (by (with_reducible repeat (first | apply Kd.R_alloc | apply Kd.R_drewN | apply Kd.R_drew)); exact HO476.out) hb); have n3_ := Aside0.mk (Kd.R_below (by (with_reducible repeat (first | apply Kd.R_alloc | apply Kd.R_drewN | apply Kd.R_drew)); exact HO480.out) hb); have n4_ := Aside0.mk (Kd.R_below (by (with_reducible repeat (first | apply Kd.R_alloc | apply Kd.R_drewN | apply Kd.R_drew)); exact HO483.out) hb); have n5_ := Aside0.mk (Kd.R_below (by (with_reducible repeat (first | apply Kd.R_alloc | apply Kd.R_drewN | apply Kd.R_drew)); exact HO487.out) hb); have n6_ := Aside0.mk (Kd.R_below (by (with_reducible repeat (first | apply Kd.R_alloc | apply Kd.R_drewN | apply Kd.R_drew)); exact HO490.out) hb); have n7_ := Aside0.mk (Kd.R_below (by (with_reducible repeat (first | apply Kd.R_alloc | apply Kd.R_drewN | apply Kd.R_drew)); exact HO495.out) hb); have n8_ := Aside0.mk (below_step (by repeat (first | (with_reducible first | exact HB.out | apply below_alloc | apply pw_below_drewN | apply below_drew1) | exact HB.out)) hb); clear HO470; clear HO473; clear HO476; clear HO480; clear HO483; clear HO487; clear HO490; clear HO495; clear HB; have HO470 := n0_; have HO473 := n1_; have HO476 := n2_; have HO480 := n3_; have HO483 := n4_; have HO487 := n5_; have HO490 := n6_; have HO495 := n7_; have HB := n8_; clear n0_ n1_ n2_ n3_ n4_ n5_ n6_ n7_ n8_; (try clear hb); (try clear hb2); (try clear hk); (try clear hi)) | (go_at_call 28; (with_reducible refine (bobbinref2_Compare.calls kj2 _ _ l0 _ _ l1 t498 _ ?side1 ?side2 ?side3 ?side4 A33.out).mono ?_); (case side1 => repeat (first | exact (Kd.C_below HR0.out HB.out) | (with_reducible refine Kd.C_alloc ?_ _) | (with_reducible refine Kd.C_drewN ?_ _) | (with_reducible refine Kd.C_drew ?_))); (case side2 => exact HC0.out); (case side3 => repeat (first | exact (Kd.C_below HR1.out HB.out) | (with_reducible refine Kd.C_alloc ?_ _) | (with_reducible refine Kd.C_drewN ?_ _) | (with_reducible refine Kd.C_drew ?_))); (case side4 => exact HC1.out); rintro e w58 ⟨rfl, hb⟩; have n0_ := Aside0.mk (Kd.R_below (by (with_reducible repeat (first | apply Kd.R_alloc | apply Kd.R_drewN | apply Kd.R_drew)); exact HO470.out) hb); have n1_ := Aside0.mk (Kd.R_below (by (with_reducible repeat (first | apply Kd.R_alloc | apply Kd.R_drewN | apply Kd.R_drew)); exact HO473.out) hb); have n2_ := Aside0.mk (Kd.R_below (by (with_reducible repeat (first | apply Kd.R_alloc | apply Kd.R_drewN | apply Kd.R_drew)); exact HO476.out) hb); have n3_ := Aside0.mk (Kd.R_below (by (with_reducible repeat (first | apply Kd.R_alloc | apply Kd.R_drewN | apply Kd.R_drew)); exact HO480.out) hb); have n4_ := Aside0.mk (Kd.R_below (by (with_reducible repeat (first | apply Kd.R_alloc | apply Kd.R_drewN | apply Kd.R_drew)); exact HO483.out) hb); have n5_ := Aside0.mk (Kd.R_below (by (with_reducible repeat (first | apply Kd.R_alloc | apply Kd.R_drewN | apply Kd.R_drew)); exact HO487.out) hb); have n6_ := Aside0.mk (Kd.R_below (by (with_reducible repeat (first | apply Kd.R_alloc | apply Kd.R_drewN | apply Kd.R_drew)); exact HO490.out) hb); have n7_ := Aside0.mk (Kd.R_below (by (with_reducible repeat (first | apply Kd.R_alloc | apply Kd.R_drewN | apply Kd.R_drew)); exact HO495.out) hb); have n8_ := Aside0.mk (below_step (by repeat (first | (with_reducible first | exact HB.out | apply below_alloc | apply pw_below_drewN | apply below_drew1) | exact HB.out)) hb); clear HO470; clear HO473; clear HO476; clear HO480; clear HO483; clear HO487; clear HO490; clear HO495; clear HB; have HO470 := n0_; have HO473 := n1_; have HO476 := n2_; have HO480 := n3_; have HO483 := n4_; have HO487 := n5_; have HO490 := n6_; have HO495 := n7_; have HB := n8_; clear n0_ n1_ n2_ n3_ n4_ n5_ n6_ n7_ n8_; (try clear hb); (try clear hb2); (try clear hk); (try clear hi)))
                    go_meet
                    case rel => exact ⟨_, (false), (by first | rfl | (simp; done) | (simp [*]; done)), H', ⟨by have := HJ2.out; first | omega | exact Nat.le_refl _⟩, ⟨by (with_reducible repeat (first | apply Kd.R_alloc | apply Kd.R_drewN | apply Kd.R_drew)); exact Kd.R_mono HO470.out (fun _ hk => ⟨hk.1.1.1.1.1.1.2, ⟨hk.1.1.1.1.1.2, ⟨hk.1.1.1.1.2, hk.1.1.1.2⟩⟩⟩)⟩, ⟨by (with_reducible repeat (first | apply Kd.R_alloc | apply Kd.R_drewN | apply Kd.R_drew)); exact Kd.R_mono HO473.out (fun _ hk => ⟨hk.1.1.1.1.1.1.2, ⟨hk.1.1.1.1.1.2, ⟨hk.1.1.1.1.2, hk.1.1.1.2⟩⟩⟩)⟩, ⟨by (with_reducible repeat (first | apply Kd.R_alloc | apply Kd.R_drewN | apply Kd.R_drew)); exact Kd.R_mono HO476.out (fun _ hk => ⟨hk.1.1.1.1.1.1.2, ⟨hk.1.1.1.1.1.2, ⟨hk.1.1.1.1.2, hk.1.1.1.2⟩⟩⟩)⟩, ⟨by (with_reducible repeat (first | apply Kd.R_alloc | apply Kd.R_drewN | apply Kd.R_drew)); exact Kd.R_mono HO480.out (fun _ hk => ⟨hk.1.1.1.1.1.1.2, ⟨hk.1.1.1.1.1.2, ⟨hk.1.1.1.1.2, hk.1.1.1.2⟩⟩⟩)⟩, ⟨by (with_reducible repeat (first | apply Kd.R_alloc | apply Kd.R_drewN | apply Kd.R_drew)); exact Kd.R_mono HO483.out (fun _ hk => ⟨hk.1.1.1.1.1.1.2, ⟨hk.1.1.1.1.1.2, ⟨hk.1.1.1.1.2, hk.1.1.1.2⟩⟩⟩)⟩, ⟨by repeat (first | (with_reducible first | exact HB.out | apply below_alloc | apply pw_below_drewN | apply below_drew1) | exact HB.out)⟩⟩
                · replace c31 := Bool.eq_false_iff.mpr c31
                  subst c31
                  have H1 : (bobbinlaw2_NatSums.j1 kj2 l0 l1 l0 l1 t474 t477 t481 false) = some r := by rw [if_neg (show ¬ (false = true) by decide)] at H; exact H
                  clear H
                  have H := H1
                  clear H1
                  have H' := Aside0.mk H
                  clear H
                  go_wp2_with (first | ((with_reducible refine gate_callee (f := 25) rfl ?_); refine goesL_ (some 50) rfl rfl Tryd.func25 (by kernel_rfl) rfl #[.slice A0 l0.length c0, .slice A1 l1.length c1] rfl (by (try simp only [List.map_toArray, List.map_cons, List.map_nil]); first | done | rfl | (simp only [List.length_drop, List.length_take]; rfl)) ?_; (with_reducible refine (bobbinref2_Add.calls kj2 _ _ l0 _ _ l1 t488 _ ?side1 ?side2 ?side3 ?side4 A23.out).mono ?_); (case side1 => repeat (first | exact (Kd.C_below HR0.out HB.out) | (with_reducible refine Kd.C_alloc ?_ _) | (with_reducible refine Kd.C_drewN ?_ _) | (with_reducible refine Kd.C_drew ?_))); (case side2 => exact HC0.out); (case side3 => repeat (first | exact (Kd.C_below HR1.out HB.out) | (with_reducible refine Kd.C_alloc ?_ _) | (with_reducible refine Kd.C_drewN ?_ _) | (with_reducible refine Kd.C_drew ?_))); (case side4 => exact HC1.out); rintro e w59 ⟨v489, rfl, ho0, hb⟩; refine ⟨_, rfl, ?_⟩; have n0_ := Aside0.mk (Kd.R_elder' (by (with_reducible repeat (first | apply Kd.R_alloc | apply Kd.R_drewN | apply Kd.R_drew)); exact HO470.out) (Kd.R_base ho0) hb); have n1_ := Aside0.mk (Kd.R_elder' (by (with_reducible repeat (first | apply Kd.R_alloc | apply Kd.R_drewN | apply Kd.R_drew)); exact HO473.out) (Kd.R_base ho0) hb); have n2_ := Aside0.mk (Kd.R_elder' (by (with_reducible repeat (first | apply Kd.R_alloc | apply Kd.R_drewN | apply Kd.R_drew)); exact HO476.out) (Kd.R_base ho0) hb); have n3_ := Aside0.mk (Kd.R_elder' (by (with_reducible repeat (first | apply Kd.R_alloc | apply Kd.R_drewN | apply Kd.R_drew)); exact HO480.out) (Kd.R_base ho0) hb); have n4_ := Aside0.mk (Kd.R_elder' (by (with_reducible repeat (first | apply Kd.R_alloc | apply Kd.R_drewN | apply Kd.R_drew)); exact HO483.out) (Kd.R_base ho0) hb); have n5_ := Aside0.mk (Kd.R_elder' (by (with_reducible repeat (first | apply Kd.R_alloc | apply Kd.R_drewN | apply Kd.R_drew)); exact HO487.out) (Kd.R_base ho0) hb); have n6_ := Aside0.mk (Kd.R_lower (Kd.R_new' (Kd.R_new' (Kd.R_new' (Kd.R_new' (Kd.R_new' (Kd.R_new' ho0 (Kd.R_lt (by (with_reducible repeat (first | apply Kd.R_alloc | apply Kd.R_drewN | apply Kd.R_drew)); exact HO470.out))) (Kd.R_lt (by (with_reducible repeat (first | apply Kd.R_alloc | apply Kd.R_drewN | apply Kd.R_drew)); exact HO473.out))) (Kd.R_lt (by (with_reducible repeat (first | apply Kd.R_alloc | apply Kd.R_drewN | apply Kd.R_drew)); exact HO476.out))) (Kd.R_lt (by (with_reducible repeat (first | apply Kd.R_alloc | apply Kd.R_drewN | apply Kd.R_drew)); exact HO480.out))) (Kd.R_lt (by (with_reducible repeat (first | apply Kd.R_alloc | apply Kd.R_drewN | apply Kd.R_drew)); exact HO483.out))) (Kd.R_lt (by (with_reducible repeat (first | apply Kd.R_alloc | apply Kd.R_drewN | apply Kd.R_drew)); exact HO487.out))) (below_size (by repeat (first | (with_reducible first | exact HB.out | apply below_alloc | apply pw_below_drewN | apply below_drew1) | exact HB.out)))); have n7_ := Aside0.mk (below_step (by repeat (first | (with_reducible first | exact HB.out | apply below_alloc | apply pw_below_drewN | apply below_drew1) | exact HB.out)) hb); clear HO470; clear HO473; clear HO476; clear HO480; clear HO483; clear HO487; clear HB; have HO470 := n0_; have HO473 := n1_; have HO476 := n2_; have HO480 := n3_; have HO483 := n4_; have HO487 := n5_; have HO490 := n6_; have HB := n7_; clear n0_ n1_ n2_ n3_ n4_ n5_ n6_ n7_; (try clear hb); (try clear hb2); (try clear hk); (try clear hi); (try clear ho0); obtain ⟨Ao60, co60, eo60⟩ := Kd.R_slice HO476.out; subst eo60; obtain ⟨Ao61, co61, eo61⟩ := Kd.R_slice HO490.out; subst eo61) | ((with_reducible refine gate_callee (f := 12) rfl ?_); refine goesL_ (some 51) rfl rfl Tryd.func12 (by kernel_rfl) rfl #[.slice Ao60 t474.length co60, .slice Ao61 t488.length co61] rfl (by (try simp only [List.map_toArray, List.map_cons, List.map_nil]); first | done | rfl | (simp only [List.length_drop, List.length_take]; rfl)) ?_; (with_reducible refine (bobbinlaw2_same.calls kj2 _ _ t474 _ _ t488 true _ ?side1 ?side2 ?side3 ?side4 A24.out).mono ?_); (case side1 => repeat (first | exact (Kd.R_reads' HO476.out).2.2 | (with_reducible refine Kd.C_alloc ?_ _) | (with_reducible refine Kd.C_drewN ?_ _) | (with_reducible refine Kd.C_drew ?_))); (case side2 => exact (Kd.R_reads' HO476.out).2.1); (case side3 => repeat (first | exact (Kd.R_reads' HO490.out).2.2 | (with_reducible refine Kd.C_alloc ?_ _) | (with_reducible refine Kd.C_drewN ?_ _) | (with_reducible refine Kd.C_drew ?_))); (case side4 => exact (Kd.R_reads' HO490.out).2.1); rintro e w' ⟨rfl, ⟨nd, rfl⟩⟩; refine ⟨_, rfl, ?_⟩; obtain ⟨Ao62, co62, eo62⟩ := Kd.R_slice HO480.out; subst eo62; obtain ⟨Ao63, co63, eo63⟩ := Kd.R_slice HO487.out; subst eo63) | (go_at_call 12; (with_reducible refine (bobbinlaw2_same.calls kj2 _ _ t477 _ _ t484 true _ ?side1 ?side2 ?side3 ?side4 A26.out).mono ?_); (case side1 => repeat (first | exact (Kd.R_reads' HO480.out).2.2 | (with_reducible refine Kd.C_alloc ?_ _) | (with_reducible refine Kd.C_drewN ?_ _) | (with_reducible refine Kd.C_drew ?_))); (case side2 => exact (Kd.R_reads' HO480.out).2.1); (case side3 => repeat (first | exact (Kd.R_reads' HO487.out).2.2 | (with_reducible refine Kd.C_alloc ?_ _) | (with_reducible refine Kd.C_drewN ?_ _) | (with_reducible refine Kd.C_drew ?_))); (case side4 => exact (Kd.R_reads' HO487.out).2.1); rintro e w' ⟨rfl, ⟨nd, rfl⟩⟩) | (go_at_call 26; (with_reducible refine (bobbinref2_Norm.calls kj2 _ _ l0 t493 _ ?side1 ?side2 A29.out).mono ?_); (case side1 => repeat (first | exact (Kd.C_below HR0.out (by repeat (first | (with_reducible first | exact HB.out | apply below_alloc | apply pw_below_drewN | apply below_drew1) | exact HB.out))) | (with_reducible refine Kd.C_alloc ?_ _) | (with_reducible refine Kd.C_drewN ?_ _) | (with_reducible refine Kd.C_drew ?_))); (case side2 => exact HC0.out); rintro e w64 ⟨v494, rfl, ho0, hb⟩; have n0_ := Aside0.mk (Kd.R_elder' (by (with_reducible repeat (first | apply Kd.R_alloc | apply Kd.R_drewN | apply Kd.R_drew)); exact HO470.out) (Kd.R_base ho0) hb); have n1_ := Aside0.mk (Kd.R_elder' (by (with_reducible repeat (first | apply Kd.R_alloc | apply Kd.R_drewN | apply Kd.R_drew)); exact HO473.out) (Kd.R_base ho0) hb); have n2_ := Aside0.mk (Kd.R_elder' (by (with_reducible repeat (first | apply Kd.R_alloc | apply Kd.R_drewN | apply Kd.R_drew)); exact HO476.out) (Kd.R_base ho0) hb); have n3_ := Aside0.mk (Kd.R_elder' (by (with_reducible repeat (first | apply Kd.R_alloc | apply Kd.R_drewN | apply Kd.R_drew)); exact HO480.out) (Kd.R_base ho0) hb); have n4_ := Aside0.mk (Kd.R_elder' (by (with_reducible repeat (first | apply Kd.R_alloc | apply Kd.R_drewN | apply Kd.R_drew)); exact HO483.out) (Kd.R_base ho0) hb); have n5_ := Aside0.mk (Kd.R_elder' (by (with_reducible repeat (first | apply Kd.R_alloc | apply Kd.R_drewN | apply Kd.R_drew)); exact HO487.out) (Kd.R_base ho0) hb); have n6_ := Aside0.mk (Kd.R_elder' (by (with_reducible repeat (first | apply Kd.R_alloc | apply Kd.R_drewN | apply Kd.R_drew)); exact HO490.out) (Kd.R_base ho0) hb); have n7_ := Aside0.mk (Kd.R_lower (Kd.R_new' (Kd.R_new' (Kd.R_new' (Kd.R_new' (Kd.R_new' (Kd.R_new' (Kd.R_new' ho0 (Kd.R_lt (by (with_reducible repeat (first | apply Kd.R_alloc | apply Kd.R_drewN | apply Kd.R_drew)); exact HO470.out))) (Kd.R_lt (by (with_reducible repeat (first | apply Kd.R_alloc | apply Kd.R_drewN | apply Kd.R_drew)); exact HO473.out))) (Kd.R_lt (by (with_reducible repeat (first | apply Kd.R_alloc | apply Kd.R_drewN | apply Kd.R_drew)); exact HO476.out))) (Kd.R_lt (by (with_reducible repeat (first | apply Kd.R_alloc | apply Kd.R_drewN | apply Kd.R_drew)); exact HO480.out))) (Kd.R_lt (by (with_reducible repeat (first | apply Kd.R_alloc | apply Kd.R_drewN | apply Kd.R_drew)); exact HO483.out))) (Kd.R_lt (by (with_reducible repeat (first | apply Kd.R_alloc | apply Kd.R_drewN | apply Kd.R_drew)); exact HO487.out))) (Kd.R_lt (by (with_reducible repeat (first | apply Kd.R_alloc | apply Kd.R_drewN | apply Kd.R_drew)); exact HO490.out))) (below_size (by repeat (first | (with_reducible first | exact HB.out | apply below_alloc | apply pw_below_drewN | apply below_drew1) | exact HB.out)))); have n8_ := Aside0.mk (below_step (by repeat (first | (with_reducible first | exact HB.out | apply below_alloc | apply pw_below_drewN | apply below_drew1) | exact HB.out)) hb); clear HO470; clear HO473; clear HO476; clear HO480; clear HO483; clear HO487; clear HO490; clear HB; have HO470 := n0_; have HO473 := n1_; have HO476 := n2_; have HO480 := n3_; have HO483 := n4_; have HO487 := n5_; have HO490 := n6_; have HO495 := n7_; have HB := n8_; clear n0_ n1_ n2_ n3_ n4_ n5_ n6_ n7_ n8_; (try clear hb); (try clear hb2); (try clear hk); (try clear hi); (try clear ho0); obtain ⟨Ao65, co65, eo65⟩ := Kd.R_slice HO483.out; subst eo65; obtain ⟨Ao66, co66, eo66⟩ := Kd.R_slice HO495.out; subst eo66) | (go_at_call 12; (with_reducible refine (bobbinlaw2_same.calls kj2 _ _ t481 _ _ t493 false _ ?side1 ?side2 ?side3 ?side4 A30.out).mono ?_); (case side1 => repeat (first | exact (Kd.R_reads' HO483.out).2.2 | (with_reducible refine Kd.C_alloc ?_ _) | (with_reducible refine Kd.C_drewN ?_ _) | (with_reducible refine Kd.C_drew ?_))); (case side2 => exact (Kd.R_reads' HO483.out).2.1); (case side3 => repeat (first | exact (Kd.R_reads' HO495.out).2.2 | (with_reducible refine Kd.C_alloc ?_ _) | (with_reducible refine Kd.C_drewN ?_ _) | (with_reducible refine Kd.C_drew ?_))); (case side4 => exact (Kd.R_reads' HO495.out).2.1); rintro e w' ⟨rfl, ⟨nd, rfl⟩⟩))
                  go_meet
                  case rel => exact ⟨_, (false), (by first | rfl | (simp; done) | (simp [*]; done)), H', ⟨by have := HJ2.out; first | omega | exact Nat.le_refl _⟩, ⟨by (with_reducible repeat (first | apply Kd.R_alloc | apply Kd.R_drewN | apply Kd.R_drew)); exact Kd.R_mono HO470.out (fun _ hk => ⟨hk.1.1.1.1.1.1.2, ⟨hk.1.1.1.1.1.2, ⟨hk.1.1.1.1.2, hk.1.1.1.2⟩⟩⟩)⟩, ⟨by (with_reducible repeat (first | apply Kd.R_alloc | apply Kd.R_drewN | apply Kd.R_drew)); exact Kd.R_mono HO473.out (fun _ hk => ⟨hk.1.1.1.1.1.1.2, ⟨hk.1.1.1.1.1.2, ⟨hk.1.1.1.1.2, hk.1.1.1.2⟩⟩⟩)⟩, ⟨by (with_reducible repeat (first | apply Kd.R_alloc | apply Kd.R_drewN | apply Kd.R_drew)); exact Kd.R_mono HO476.out (fun _ hk => ⟨hk.1.1.1.1.1.1.2, ⟨hk.1.1.1.1.1.2, ⟨hk.1.1.1.1.2, hk.1.1.1.2⟩⟩⟩)⟩, ⟨by (with_reducible repeat (first | apply Kd.R_alloc | apply Kd.R_drewN | apply Kd.R_drew)); exact Kd.R_mono HO480.out (fun _ hk => ⟨hk.1.1.1.1.1.1.2, ⟨hk.1.1.1.1.1.2, ⟨hk.1.1.1.1.2, hk.1.1.1.2⟩⟩⟩)⟩, ⟨by (with_reducible repeat (first | apply Kd.R_alloc | apply Kd.R_drewN | apply Kd.R_drew)); exact Kd.R_mono HO483.out (fun _ hk => ⟨hk.1.1.1.1.1.1.2, ⟨hk.1.1.1.1.1.2, ⟨hk.1.1.1.1.2, hk.1.1.1.2⟩⟩⟩)⟩, ⟨by repeat (first | (with_reducible first | exact HB.out | apply below_alloc | apply pw_below_drewN | apply below_drew1) | exact HB.out)⟩⟩
              · rw [if_neg c28] at H
                have c28b0 : (t478 == t485) = false := beq_eq_false_iff_ne.mpr c28
                have c28b1 : (t478 != t485) = true := bne_iff_ne.mpr c28
                (first | rw [c28b0] | (simp only [i64_w, i32_w]; rw [c28b0]) | rw [c28b1] | skip)
                have H' := Aside0.mk H
                clear H
                go_wp2_with (first | ((with_reducible refine gate_callee (f := 25) rfl ?_); refine goesL_ (some 50) rfl rfl Tryd.func25 (by kernel_rfl) rfl #[.slice A0 l0.length c0, .slice A1 l1.length c1] rfl (by (try simp only [List.map_toArray, List.map_cons, List.map_nil]); first | done | rfl | (simp only [List.length_drop, List.length_take]; rfl)) ?_; (with_reducible refine (bobbinref2_Add.calls kj2 _ _ l0 _ _ l1 t488 _ ?side1 ?side2 ?side3 ?side4 A23.out).mono ?_); (case side1 => repeat (first | exact (Kd.C_below HR0.out HB.out) | (with_reducible refine Kd.C_alloc ?_ _) | (with_reducible refine Kd.C_drewN ?_ _) | (with_reducible refine Kd.C_drew ?_))); (case side2 => exact HC0.out); (case side3 => repeat (first | exact (Kd.C_below HR1.out HB.out) | (with_reducible refine Kd.C_alloc ?_ _) | (with_reducible refine Kd.C_drewN ?_ _) | (with_reducible refine Kd.C_drew ?_))); (case side4 => exact HC1.out); rintro e w67 ⟨v489, rfl, ho0, hb⟩; refine ⟨_, rfl, ?_⟩; have n0_ := Aside0.mk (Kd.R_elder' (by (with_reducible repeat (first | apply Kd.R_alloc | apply Kd.R_drewN | apply Kd.R_drew)); exact HO470.out) (Kd.R_base ho0) hb); have n1_ := Aside0.mk (Kd.R_elder' (by (with_reducible repeat (first | apply Kd.R_alloc | apply Kd.R_drewN | apply Kd.R_drew)); exact HO473.out) (Kd.R_base ho0) hb); have n2_ := Aside0.mk (Kd.R_elder' (by (with_reducible repeat (first | apply Kd.R_alloc | apply Kd.R_drewN | apply Kd.R_drew)); exact HO476.out) (Kd.R_base ho0) hb); have n3_ := Aside0.mk (Kd.R_elder' (by (with_reducible repeat (first | apply Kd.R_alloc | apply Kd.R_drewN | apply Kd.R_drew)); exact HO480.out) (Kd.R_base ho0) hb); have n4_ := Aside0.mk (Kd.R_elder' (by (with_reducible repeat (first | apply Kd.R_alloc | apply Kd.R_drewN | apply Kd.R_drew)); exact HO483.out) (Kd.R_base ho0) hb); have n5_ := Aside0.mk (Kd.R_elder' (by (with_reducible repeat (first | apply Kd.R_alloc | apply Kd.R_drewN | apply Kd.R_drew)); exact HO487.out) (Kd.R_base ho0) hb); have n6_ := Aside0.mk (Kd.R_lower (Kd.R_new' (Kd.R_new' (Kd.R_new' (Kd.R_new' (Kd.R_new' (Kd.R_new' ho0 (Kd.R_lt (by (with_reducible repeat (first | apply Kd.R_alloc | apply Kd.R_drewN | apply Kd.R_drew)); exact HO470.out))) (Kd.R_lt (by (with_reducible repeat (first | apply Kd.R_alloc | apply Kd.R_drewN | apply Kd.R_drew)); exact HO473.out))) (Kd.R_lt (by (with_reducible repeat (first | apply Kd.R_alloc | apply Kd.R_drewN | apply Kd.R_drew)); exact HO476.out))) (Kd.R_lt (by (with_reducible repeat (first | apply Kd.R_alloc | apply Kd.R_drewN | apply Kd.R_drew)); exact HO480.out))) (Kd.R_lt (by (with_reducible repeat (first | apply Kd.R_alloc | apply Kd.R_drewN | apply Kd.R_drew)); exact HO483.out))) (Kd.R_lt (by (with_reducible repeat (first | apply Kd.R_alloc | apply Kd.R_drewN | apply Kd.R_drew)); exact HO487.out))) (below_size (by repeat (first | (with_reducible first | exact HB.out | apply below_alloc | apply pw_below_drewN | apply below_drew1) | exact HB.out)))); have n7_ := Aside0.mk (below_step (by repeat (first | (with_reducible first | exact HB.out | apply below_alloc | apply pw_below_drewN | apply below_drew1) | exact HB.out)) hb); clear HO470; clear HO473; clear HO476; clear HO480; clear HO483; clear HO487; clear HB; have HO470 := n0_; have HO473 := n1_; have HO476 := n2_; have HO480 := n3_; have HO483 := n4_; have HO487 := n5_; have HO490 := n6_; have HB := n7_; clear n0_ n1_ n2_ n3_ n4_ n5_ n6_ n7_; (try clear hb); (try clear hb2); (try clear hk); (try clear hi); (try clear ho0); obtain ⟨Ao68, co68, eo68⟩ := Kd.R_slice HO476.out; subst eo68; obtain ⟨Ao69, co69, eo69⟩ := Kd.R_slice HO490.out; subst eo69) | ((with_reducible refine gate_callee (f := 12) rfl ?_); refine goesL_ (some 51) rfl rfl Tryd.func12 (by kernel_rfl) rfl #[.slice Ao68 t474.length co68, .slice Ao69 t488.length co69] rfl (by (try simp only [List.map_toArray, List.map_cons, List.map_nil]); first | done | rfl | (simp only [List.length_drop, List.length_take]; rfl)) ?_; (with_reducible refine (bobbinlaw2_same.calls kj2 _ _ t474 _ _ t488 true _ ?side1 ?side2 ?side3 ?side4 A24.out).mono ?_); (case side1 => repeat (first | exact (Kd.R_reads' HO476.out).2.2 | (with_reducible refine Kd.C_alloc ?_ _) | (with_reducible refine Kd.C_drewN ?_ _) | (with_reducible refine Kd.C_drew ?_))); (case side2 => exact (Kd.R_reads' HO476.out).2.1); (case side3 => repeat (first | exact (Kd.R_reads' HO490.out).2.2 | (with_reducible refine Kd.C_alloc ?_ _) | (with_reducible refine Kd.C_drewN ?_ _) | (with_reducible refine Kd.C_drew ?_))); (case side4 => exact (Kd.R_reads' HO490.out).2.1); rintro e w' ⟨rfl, ⟨nd, rfl⟩⟩; refine ⟨_, rfl, ?_⟩; obtain ⟨Ao70, co70, eo70⟩ := Kd.R_slice HO480.out; subst eo70; obtain ⟨Ao71, co71, eo71⟩ := Kd.R_slice HO487.out; subst eo71) | (go_at_call 12; (with_reducible refine (bobbinlaw2_same.calls kj2 _ _ t477 _ _ t484 true _ ?side1 ?side2 ?side3 ?side4 A26.out).mono ?_); (case side1 => repeat (first | exact (Kd.R_reads' HO480.out).2.2 | (with_reducible refine Kd.C_alloc ?_ _) | (with_reducible refine Kd.C_drewN ?_ _) | (with_reducible refine Kd.C_drew ?_))); (case side2 => exact (Kd.R_reads' HO480.out).2.1); (case side3 => repeat (first | exact (Kd.R_reads' HO487.out).2.2 | (with_reducible refine Kd.C_alloc ?_ _) | (with_reducible refine Kd.C_drewN ?_ _) | (with_reducible refine Kd.C_drew ?_))); (case side4 => exact (Kd.R_reads' HO487.out).2.1); rintro e w' ⟨rfl, ⟨nd, rfl⟩⟩))
                go_meet
                case rel => exact ⟨_, (false), (by first | rfl | (simp; done) | (simp [*]; done)), H', ⟨by have := HJ2.out; first | omega | exact Nat.le_refl _⟩, ⟨by (with_reducible repeat (first | apply Kd.R_alloc | apply Kd.R_drewN | apply Kd.R_drew)); exact Kd.R_mono HO470.out (fun _ hk => ⟨hk.1.1.1.1.1.2, ⟨hk.1.1.1.1.2, ⟨hk.1.1.1.2, hk.1.1.2⟩⟩⟩)⟩, ⟨by (with_reducible repeat (first | apply Kd.R_alloc | apply Kd.R_drewN | apply Kd.R_drew)); exact Kd.R_mono HO473.out (fun _ hk => ⟨hk.1.1.1.1.1.2, ⟨hk.1.1.1.1.2, ⟨hk.1.1.1.2, hk.1.1.2⟩⟩⟩)⟩, ⟨by (with_reducible repeat (first | apply Kd.R_alloc | apply Kd.R_drewN | apply Kd.R_drew)); exact Kd.R_mono HO476.out (fun _ hk => ⟨hk.1.1.1.1.1.2, ⟨hk.1.1.1.1.2, ⟨hk.1.1.1.2, hk.1.1.2⟩⟩⟩)⟩, ⟨by (with_reducible repeat (first | apply Kd.R_alloc | apply Kd.R_drewN | apply Kd.R_drew)); exact Kd.R_mono HO480.out (fun _ hk => ⟨hk.1.1.1.1.1.2, ⟨hk.1.1.1.1.2, ⟨hk.1.1.1.2, hk.1.1.2⟩⟩⟩)⟩, ⟨by (with_reducible repeat (first | apply Kd.R_alloc | apply Kd.R_drewN | apply Kd.R_drew)); exact Kd.R_mono HO483.out (fun _ hk => ⟨hk.1.1.1.1.1.2, ⟨hk.1.1.1.1.2, ⟨hk.1.1.1.2, hk.1.1.2⟩⟩⟩)⟩, ⟨by repeat (first | (with_reducible first | exact HB.out | apply below_alloc | apply pw_below_drewN | apply below_drew1) | exact HB.out)⟩⟩
            · replace c27 := Bool.eq_false_iff.mpr c27
              subst c27
              have H1 : (bobbinlaw2_NatSums.j1 kj2 l0 l1 l0 l1 t474 t477 t481 false) = some r := by rw [if_neg (show ¬ (false = true) by decide)] at H; exact H
              clear H
              have H := H1
              clear H1
              have H' := Aside0.mk H
              clear H
              go_wp2_with (first | ((with_reducible refine gate_callee (f := 25) rfl ?_); refine goesL_ (some 50) rfl rfl Tryd.func25 (by kernel_rfl) rfl #[.slice A0 l0.length c0, .slice A1 l1.length c1] rfl (by (try simp only [List.map_toArray, List.map_cons, List.map_nil]); first | done | rfl | (simp only [List.length_drop, List.length_take]; rfl)) ?_; (with_reducible refine (bobbinref2_Add.calls kj2 _ _ l0 _ _ l1 t488 _ ?side1 ?side2 ?side3 ?side4 A23.out).mono ?_); (case side1 => repeat (first | exact (Kd.C_below HR0.out HB.out) | (with_reducible refine Kd.C_alloc ?_ _) | (with_reducible refine Kd.C_drewN ?_ _) | (with_reducible refine Kd.C_drew ?_))); (case side2 => exact HC0.out); (case side3 => repeat (first | exact (Kd.C_below HR1.out HB.out) | (with_reducible refine Kd.C_alloc ?_ _) | (with_reducible refine Kd.C_drewN ?_ _) | (with_reducible refine Kd.C_drew ?_))); (case side4 => exact HC1.out); rintro e w72 ⟨v489, rfl, ho0, hb⟩; refine ⟨_, rfl, ?_⟩; have n0_ := Aside0.mk (Kd.R_elder' (by (with_reducible repeat (first | apply Kd.R_alloc | apply Kd.R_drewN | apply Kd.R_drew)); exact HO470.out) (Kd.R_base ho0) hb); have n1_ := Aside0.mk (Kd.R_elder' (by (with_reducible repeat (first | apply Kd.R_alloc | apply Kd.R_drewN | apply Kd.R_drew)); exact HO473.out) (Kd.R_base ho0) hb); have n2_ := Aside0.mk (Kd.R_elder' (by (with_reducible repeat (first | apply Kd.R_alloc | apply Kd.R_drewN | apply Kd.R_drew)); exact HO476.out) (Kd.R_base ho0) hb); have n3_ := Aside0.mk (Kd.R_elder' (by (with_reducible repeat (first | apply Kd.R_alloc | apply Kd.R_drewN | apply Kd.R_drew)); exact HO480.out) (Kd.R_base ho0) hb); have n4_ := Aside0.mk (Kd.R_elder' (by (with_reducible repeat (first | apply Kd.R_alloc | apply Kd.R_drewN | apply Kd.R_drew)); exact HO483.out) (Kd.R_base ho0) hb); have n5_ := Aside0.mk (Kd.R_elder' (by (with_reducible repeat (first | apply Kd.R_alloc | apply Kd.R_drewN | apply Kd.R_drew)); exact HO487.out) (Kd.R_base ho0) hb); have n6_ := Aside0.mk (Kd.R_lower (Kd.R_new' (Kd.R_new' (Kd.R_new' (Kd.R_new' (Kd.R_new' (Kd.R_new' ho0 (Kd.R_lt (by (with_reducible repeat (first | apply Kd.R_alloc | apply Kd.R_drewN | apply Kd.R_drew)); exact HO470.out))) (Kd.R_lt (by (with_reducible repeat (first | apply Kd.R_alloc | apply Kd.R_drewN | apply Kd.R_drew)); exact HO473.out))) (Kd.R_lt (by (with_reducible repeat (first | apply Kd.R_alloc | apply Kd.R_drewN | apply Kd.R_drew)); exact HO476.out))) (Kd.R_lt (by (with_reducible repeat (first | apply Kd.R_alloc | apply Kd.R_drewN | apply Kd.R_drew)); exact HO480.out))) (Kd.R_lt (by (with_reducible repeat (first | apply Kd.R_alloc | apply Kd.R_drewN | apply Kd.R_drew)); exact HO483.out))) (Kd.R_lt (by (with_reducible repeat (first | apply Kd.R_alloc | apply Kd.R_drewN | apply Kd.R_drew)); exact HO487.out))) (below_size (by repeat (first | (with_reducible first | exact HB.out | apply below_alloc | apply pw_below_drewN | apply below_drew1) | exact HB.out)))); have n7_ := Aside0.mk (below_step (by repeat (first | (with_reducible first | exact HB.out | apply below_alloc | apply pw_below_drewN | apply below_drew1) | exact HB.out)) hb); clear HO470; clear HO473; clear HO476; clear HO480; clear HO483; clear HO487; clear HB; have HO470 := n0_; have HO473 := n1_; have HO476 := n2_; have HO480 := n3_; have HO483 := n4_; have HO487 := n5_; have HO490 := n6_; have HB := n7_; clear n0_ n1_ n2_ n3_ n4_ n5_ n6_ n7_; (try clear hb); (try clear hb2); (try clear hk); (try clear hi); (try clear ho0); obtain ⟨Ao73, co73, eo73⟩ := Kd.R_slice HO476.out; subst eo73; obtain ⟨Ao74, co74, eo74⟩ := Kd.R_slice HO490.out; subst eo74) | ((with_reducible refine gate_callee (f := 12) rfl ?_); refine goesL_ (some 51) rfl rfl Tryd.func12 (by kernel_rfl) rfl #[.slice Ao73 t474.length co73, .slice Ao74 t488.length co74] rfl (by (try simp only [List.map_toArray, List.map_cons, List.map_nil]); first | done | rfl | (simp only [List.length_drop, List.length_take]; rfl)) ?_; (with_reducible refine (bobbinlaw2_same.calls kj2 _ _ t474 _ _ t488 true _ ?side1 ?side2 ?side3 ?side4 A24.out).mono ?_); (case side1 => repeat (first | exact (Kd.R_reads' HO476.out).2.2 | (with_reducible refine Kd.C_alloc ?_ _) | (with_reducible refine Kd.C_drewN ?_ _) | (with_reducible refine Kd.C_drew ?_))); (case side2 => exact (Kd.R_reads' HO476.out).2.1); (case side3 => repeat (first | exact (Kd.R_reads' HO490.out).2.2 | (with_reducible refine Kd.C_alloc ?_ _) | (with_reducible refine Kd.C_drewN ?_ _) | (with_reducible refine Kd.C_drew ?_))); (case side4 => exact (Kd.R_reads' HO490.out).2.1); rintro e w' ⟨rfl, ⟨nd, rfl⟩⟩; refine ⟨_, rfl, ?_⟩; obtain ⟨Ao75, co75, eo75⟩ := Kd.R_slice HO480.out; subst eo75; obtain ⟨Ao76, co76, eo76⟩ := Kd.R_slice HO487.out; subst eo76) | (go_at_call 12; (with_reducible refine (bobbinlaw2_same.calls kj2 _ _ t477 _ _ t484 false _ ?side1 ?side2 ?side3 ?side4 A26.out).mono ?_); (case side1 => repeat (first | exact (Kd.R_reads' HO480.out).2.2 | (with_reducible refine Kd.C_alloc ?_ _) | (with_reducible refine Kd.C_drewN ?_ _) | (with_reducible refine Kd.C_drew ?_))); (case side2 => exact (Kd.R_reads' HO480.out).2.1); (case side3 => repeat (first | exact (Kd.R_reads' HO487.out).2.2 | (with_reducible refine Kd.C_alloc ?_ _) | (with_reducible refine Kd.C_drewN ?_ _) | (with_reducible refine Kd.C_drew ?_))); (case side4 => exact (Kd.R_reads' HO487.out).2.1); rintro e w' ⟨rfl, ⟨nd, rfl⟩⟩))
              go_meet
              case rel => exact ⟨_, (false), (by first | rfl | (simp; done) | (simp [*]; done)), H', ⟨by have := HJ2.out; first | omega | exact Nat.le_refl _⟩, ⟨by (with_reducible repeat (first | apply Kd.R_alloc | apply Kd.R_drewN | apply Kd.R_drew)); exact Kd.R_mono HO470.out (fun _ hk => ⟨hk.1.1.1.1.1.2, ⟨hk.1.1.1.1.2, ⟨hk.1.1.1.2, hk.1.1.2⟩⟩⟩)⟩, ⟨by (with_reducible repeat (first | apply Kd.R_alloc | apply Kd.R_drewN | apply Kd.R_drew)); exact Kd.R_mono HO473.out (fun _ hk => ⟨hk.1.1.1.1.1.2, ⟨hk.1.1.1.1.2, ⟨hk.1.1.1.2, hk.1.1.2⟩⟩⟩)⟩, ⟨by (with_reducible repeat (first | apply Kd.R_alloc | apply Kd.R_drewN | apply Kd.R_drew)); exact Kd.R_mono HO476.out (fun _ hk => ⟨hk.1.1.1.1.1.2, ⟨hk.1.1.1.1.2, ⟨hk.1.1.1.2, hk.1.1.2⟩⟩⟩)⟩, ⟨by (with_reducible repeat (first | apply Kd.R_alloc | apply Kd.R_drewN | apply Kd.R_drew)); exact Kd.R_mono HO480.out (fun _ hk => ⟨hk.1.1.1.1.1.2, ⟨hk.1.1.1.1.2, ⟨hk.1.1.1.2, hk.1.1.2⟩⟩⟩)⟩, ⟨by (with_reducible repeat (first | apply Kd.R_alloc | apply Kd.R_drewN | apply Kd.R_drew)); exact Kd.R_mono HO483.out (fun _ hk => ⟨hk.1.1.1.1.1.2, ⟨hk.1.1.1.1.2, ⟨hk.1.1.1.2, hk.1.1.2⟩⟩⟩)⟩, ⟨by repeat (first | (with_reducible first | exact HB.out | apply below_alloc | apply pw_below_drewN | apply below_drew1) | exact HB.out)⟩⟩
          · replace c25 := Bool.eq_false_iff.mpr c25
            subst c25
            have H1 : (bobbinlaw2_NatSums.j1 kj2 l0 l1 l0 l1 t474 t477 t481 false) = some r := by rw [if_neg (show ¬ (false = true) by decide)] at H; exact H
            clear H
            have H := H1
            clear H1
            have H' := Aside0.mk H
            clear H
            go_wp2_with (first | ((with_reducible refine gate_callee (f := 25) rfl ?_); refine goesL_ (some 50) rfl rfl Tryd.func25 (by kernel_rfl) rfl #[.slice A0 l0.length c0, .slice A1 l1.length c1] rfl (by (try simp only [List.map_toArray, List.map_cons, List.map_nil]); first | done | rfl | (simp only [List.length_drop, List.length_take]; rfl)) ?_; (with_reducible refine (bobbinref2_Add.calls kj2 _ _ l0 _ _ l1 t488 _ ?side1 ?side2 ?side3 ?side4 A23.out).mono ?_); (case side1 => repeat (first | exact (Kd.C_below HR0.out HB.out) | (with_reducible refine Kd.C_alloc ?_ _) | (with_reducible refine Kd.C_drewN ?_ _) | (with_reducible refine Kd.C_drew ?_))); (case side2 => exact HC0.out); (case side3 => repeat (first | exact (Kd.C_below HR1.out HB.out) | (with_reducible refine Kd.C_alloc ?_ _) | (with_reducible refine Kd.C_drewN ?_ _) | (with_reducible refine Kd.C_drew ?_))); (case side4 => exact HC1.out); rintro e w77 ⟨v489, rfl, ho0, hb⟩; refine ⟨_, rfl, ?_⟩; have n0_ := Aside0.mk (Kd.R_elder' (by (with_reducible repeat (first | apply Kd.R_alloc | apply Kd.R_drewN | apply Kd.R_drew)); exact HO470.out) (Kd.R_base ho0) hb); have n1_ := Aside0.mk (Kd.R_elder' (by (with_reducible repeat (first | apply Kd.R_alloc | apply Kd.R_drewN | apply Kd.R_drew)); exact HO473.out) (Kd.R_base ho0) hb); have n2_ := Aside0.mk (Kd.R_elder' (by (with_reducible repeat (first | apply Kd.R_alloc | apply Kd.R_drewN | apply Kd.R_drew)); exact HO476.out) (Kd.R_base ho0) hb); have n3_ := Aside0.mk (Kd.R_elder' (by (with_reducible repeat (first | apply Kd.R_alloc | apply Kd.R_drewN | apply Kd.R_drew)); exact HO480.out) (Kd.R_base ho0) hb); have n4_ := Aside0.mk (Kd.R_elder' (by (with_reducible repeat (first | apply Kd.R_alloc | apply Kd.R_drewN | apply Kd.R_drew)); exact HO483.out) (Kd.R_base ho0) hb); have n5_ := Aside0.mk (Kd.R_elder' (by (with_reducible repeat (first | apply Kd.R_alloc | apply Kd.R_drewN | apply Kd.R_drew)); exact HO487.out) (Kd.R_base ho0) hb); have n6_ := Aside0.mk (Kd.R_lower (Kd.R_new' (Kd.R_new' (Kd.R_new' (Kd.R_new' (Kd.R_new' (Kd.R_new' ho0 (Kd.R_lt (by (with_reducible repeat (first | apply Kd.R_alloc | apply Kd.R_drewN | apply Kd.R_drew)); exact HO470.out))) (Kd.R_lt (by (with_reducible repeat (first | apply Kd.R_alloc | apply Kd.R_drewN | apply Kd.R_drew)); exact HO473.out))) (Kd.R_lt (by (with_reducible repeat (first | apply Kd.R_alloc | apply Kd.R_drewN | apply Kd.R_drew)); exact HO476.out))) (Kd.R_lt (by (with_reducible repeat (first | apply Kd.R_alloc | apply Kd.R_drewN | apply Kd.R_drew)); exact HO480.out))) (Kd.R_lt (by (with_reducible repeat (first | apply Kd.R_alloc | apply Kd.R_drewN | apply Kd.R_drew)); exact HO483.out))) (Kd.R_lt (by (with_reducible repeat (first | apply Kd.R_alloc | apply Kd.R_drewN | apply Kd.R_drew)); exact HO487.out))) (below_size (by repeat (first | (with_reducible first | exact HB.out | apply below_alloc | apply pw_below_drewN | apply below_drew1) | exact HB.out)))); have n7_ := Aside0.mk (below_step (by repeat (first | (with_reducible first | exact HB.out | apply below_alloc | apply pw_below_drewN | apply below_drew1) | exact HB.out)) hb); clear HO470; clear HO473; clear HO476; clear HO480; clear HO483; clear HO487; clear HB; have HO470 := n0_; have HO473 := n1_; have HO476 := n2_; have HO480 := n3_; have HO483 := n4_; have HO487 := n5_; have HO490 := n6_; have HB := n7_; clear n0_ n1_ n2_ n3_ n4_ n5_ n6_ n7_; (try clear hb); (try clear hb2); (try clear hk); (try clear hi); (try clear ho0); obtain ⟨Ao78, co78, eo78⟩ := Kd.R_slice HO476.out; subst eo78; obtain ⟨Ao79, co79, eo79⟩ := Kd.R_slice HO490.out; subst eo79) | ((with_reducible refine gate_callee (f := 12) rfl ?_); refine goesL_ (some 51) rfl rfl Tryd.func12 (by kernel_rfl) rfl #[.slice Ao78 t474.length co78, .slice Ao79 t488.length co79] rfl (by (try simp only [List.map_toArray, List.map_cons, List.map_nil]); first | done | rfl | (simp only [List.length_drop, List.length_take]; rfl)) ?_; (with_reducible refine (bobbinlaw2_same.calls kj2 _ _ t474 _ _ t488 false _ ?side1 ?side2 ?side3 ?side4 A24.out).mono ?_); (case side1 => repeat (first | exact (Kd.R_reads' HO476.out).2.2 | (with_reducible refine Kd.C_alloc ?_ _) | (with_reducible refine Kd.C_drewN ?_ _) | (with_reducible refine Kd.C_drew ?_))); (case side2 => exact (Kd.R_reads' HO476.out).2.1); (case side3 => repeat (first | exact (Kd.R_reads' HO490.out).2.2 | (with_reducible refine Kd.C_alloc ?_ _) | (with_reducible refine Kd.C_drewN ?_ _) | (with_reducible refine Kd.C_drew ?_))); (case side4 => exact (Kd.R_reads' HO490.out).2.1); rintro e w' ⟨rfl, ⟨nd, rfl⟩⟩; refine ⟨_, rfl, ?_⟩))
            go_meet
            case rel => exact ⟨_, (false), (by first | rfl | (simp; done) | (simp [*]; done)), H', ⟨by have := HJ2.out; first | omega | exact Nat.le_refl _⟩, ⟨by (with_reducible repeat (first | apply Kd.R_alloc | apply Kd.R_drewN | apply Kd.R_drew)); exact Kd.R_mono HO470.out (fun _ hk => ⟨hk.1.1.1.1.1.2, ⟨hk.1.1.1.1.2, ⟨hk.1.1.1.2, hk.1.1.2⟩⟩⟩)⟩, ⟨by (with_reducible repeat (first | apply Kd.R_alloc | apply Kd.R_drewN | apply Kd.R_drew)); exact Kd.R_mono HO473.out (fun _ hk => ⟨hk.1.1.1.1.1.2, ⟨hk.1.1.1.1.2, ⟨hk.1.1.1.2, hk.1.1.2⟩⟩⟩)⟩, ⟨by (with_reducible repeat (first | apply Kd.R_alloc | apply Kd.R_drewN | apply Kd.R_drew)); exact Kd.R_mono HO476.out (fun _ hk => ⟨hk.1.1.1.1.1.2, ⟨hk.1.1.1.1.2, ⟨hk.1.1.1.2, hk.1.1.2⟩⟩⟩)⟩, ⟨by (with_reducible repeat (first | apply Kd.R_alloc | apply Kd.R_drewN | apply Kd.R_drew)); exact Kd.R_mono HO480.out (fun _ hk => ⟨hk.1.1.1.1.1.2, ⟨hk.1.1.1.1.2, ⟨hk.1.1.1.2, hk.1.1.2⟩⟩⟩)⟩, ⟨by (with_reducible repeat (first | apply Kd.R_alloc | apply Kd.R_drewN | apply Kd.R_drew)); exact Kd.R_mono HO483.out (fun _ hk => ⟨hk.1.1.1.1.1.2, ⟨hk.1.1.1.1.2, ⟨hk.1.1.1.2, hk.1.1.2⟩⟩⟩)⟩, ⟨by repeat (first | (with_reducible first | exact HB.out | apply below_alloc | apply pw_below_drewN | apply below_drew1) | exact HB.out)⟩⟩
        case rest =>
          clear HC14
          try clear c1
          try clear c2
          try clear p2
          try clear c3
          try clear c4
          try clear c4b0
          try clear c4b1
          try clear c5
          try clear c7
          try clear c9
          try clear c12
          try clear c15
          try clear c21
          try clear c22
          try clear c23
          try clear c24
          try clear c25
          try clear c27
          try clear c28
          try clear c28b0
          try clear c28b1
          try clear c31
          try clear c34
          try clear c34b0
          try clear c34b1
          try clear p2
          obtain ⟨kq, x13_13, rfl, HA, HJ13, HO_5, HO_6, HO_7, HO_8, HO_10, HB⟩ := hcut
          cases kq with
          | zero => exact absurd HA.out (by simp [bobbinlaw2_NatSums.j1])
          | succ kj13 =>
            have H := HA.out
            clear HA
            simp only [bobbinlaw2_NatSums.j1] at H
            have H' := Aside0.mk H
            clear H
            go_wp2
            go_loopg [14] kj13 (fun kq v14 w' => ∃ (x7_3 : List Int) (x14_3 : Int), v14 = .int .i64 x14_3 ∧ Aside0 (bobbinlaw2_NatSums.l0 kq l0 l1 l0 l1 x7_3 t477 t481 x13_13 x14_3 = some r) ∧ Aside0 (kq ≤ kj13) ∧ Aside0 (Kd.R (Kd.int .u32) 38 w' w.heap.size (fun k_ => some k_ ≠ ((.slice Ao18 (l1.length + 1) co18) : Value).ownBlock ∧ some k_ ≠ (v475 : Value).ownBlock ∧ some k_ ≠ (v479 : Value).ownBlock ∧ some k_ ≠ (v482 : Value).ownBlock) (.slice Ao17 (l0.length + 1) co17) (l0 ++ [77])) ∧ Aside0 (Kd.R (Kd.int .u32) 38 w' w.heap.size (fun k_ => some k_ ≠ ((.slice Ao17 (l0.length + 1) co17) : Value).ownBlock ∧ some k_ ≠ (v475 : Value).ownBlock ∧ some k_ ≠ (v479 : Value).ownBlock ∧ some k_ ≠ (v482 : Value).ownBlock) (.slice Ao18 (l1.length + 1) co18) (l1 ++ [77])) ∧ Aside0 (Kd.R (Kd.int .u32) 38 w' w.heap.size (fun k_ => some k_ ≠ ((.slice Ao17 (l0.length + 1) co17) : Value).ownBlock ∧ some k_ ≠ ((.slice Ao18 (l1.length + 1) co18) : Value).ownBlock ∧ some k_ ≠ (v479 : Value).ownBlock ∧ some k_ ≠ (v482 : Value).ownBlock) v475 x7_3) ∧ Aside0 (Kd.R (Kd.int .u32) 38 w' w.heap.size (fun k_ => some k_ ≠ ((.slice Ao17 (l0.length + 1) co17) : Value).ownBlock ∧ some k_ ≠ ((.slice Ao18 (l1.length + 1) co18) : Value).ownBlock ∧ some k_ ≠ (v475 : Value).ownBlock ∧ some k_ ≠ (v482 : Value).ownBlock) v479 t477) ∧ Aside0 (Kd.R (Kd.int .u32) 38 w' w.heap.size (fun k_ => some k_ ≠ ((.slice Ao17 (l0.length + 1) co17) : Value).ownBlock ∧ some k_ ≠ ((.slice Ao18 (l1.length + 1) co18) : Value).ownBlock ∧ some k_ ≠ (v475 : Value).ownBlock ∧ some k_ ≠ (v479 : Value).ownBlock) v482 t481) ∧ Aside0 (Below w.heap.size w w'))
            case atStart => exact ⟨(t474), (0), (by first | rfl | (simp; done) | (simp [*]; done)), H', ⟨Nat.le_refl _⟩, ⟨by (with_reducible repeat (first | apply Kd.R_alloc | apply Kd.R_drewN | apply Kd.R_drew)); exact HO_5.out⟩, ⟨by (with_reducible repeat (first | apply Kd.R_alloc | apply Kd.R_drewN | apply Kd.R_drew)); exact HO_6.out⟩, ⟨by (with_reducible repeat (first | apply Kd.R_alloc | apply Kd.R_drewN | apply Kd.R_drew)); exact HO_7.out⟩, ⟨by (with_reducible repeat (first | apply Kd.R_alloc | apply Kd.R_drewN | apply Kd.R_drew)); exact HO_8.out⟩, ⟨by (with_reducible repeat (first | apply Kd.R_alloc | apply Kd.R_drewN | apply Kd.R_drew)); exact HO_10.out⟩, ⟨by repeat (first | (with_reducible first | exact HB.out | apply below_alloc | apply pw_below_drewN | apply below_drew1) | exact HB.out)⟩⟩
            case round =>
              clear H'
              try clear c1
              try clear c2
              try clear p2
              try clear c3
              try clear c4
              try clear c4b0
              try clear c4b1
              try clear c5
              try clear c7
              try clear c9
              try clear c12
              try clear c15
              try clear c21
              try clear c22
              try clear c23
              try clear c24
              try clear c25
              try clear c27
              try clear c28
              try clear c28b0
              try clear c28b1
              try clear c31
              try clear c34
              try clear c34b0
              try clear c34b1
              try clear p2
              obtain ⟨x7_3, x14_3, rfl, HA, HK3, HO_5, HO_6, HO_7, HO_8, HO_10, HB⟩ := hrel
              cases gk with
              | zero => exact absurd HA.out (by simp [bobbinlaw2_NatSums.l0])
              | succ k3 =>
                have H := HA.out
                clear HA
                simp only [bobbinlaw2_NatSums.l0] at H
                by_cases c80 : x14_3 < (x7_3.length : Int)
                · rw [if_pos c80] at H
                  have c80b0 : decide (x14_3 < (x7_3.length : Int)) = true := decide_eq_true c80
                  clear c80
                  by_cases c81 : 0 ≤ x14_3
                  · rw [if_pos c81] at H
                    have c81b0 : decide (0 ≤ x14_3) = true := decide_eq_true c81
                    clear c81
                    obtain ⟨y501, hy501⟩ : ∃ y_ : List Int, y_ = (x7_3.set (x14_3 : Int).toNat 3) := ⟨_, rfl⟩
                    replace H : (bobbinlaw2_NatSums.l0 k3 l0 l1 l0 l1 y501 t477 t481 x13_13 (wrap64 (x14_3 + 1))) = some r := by first | (rw [hy501]; with_reducible exact H) | (have H2_ := (Option.bind_some _ _).symm.trans H; rw [hy501]; with_reducible exact H2_) | (have H2_ := (Option.bind_some _ _).symm.trans H; with_reducible exact H2_) | with_reducible exact H | (rw [hy501]; exact H) | exact H
                    have Ny501 := Aside0.mk hy501
                    clear hy501
                    have H' := Aside0.mk H
                    clear H
                    obtain ⟨Ao83, co83, eo83⟩ := Kd.R_slice HO_7.out
                    subst eo83
                    have p82 : 0 ≤ (x14_3 : Int) := of_decide_eq_true (by first | (with_reducible assumption) | assumption)
                    have q82 : (x14_3 : Int) < ((x7_3.length : Int) : Int) := of_decide_eq_true (by first | (with_reducible assumption) | assumption)
                    obtain ⟨go82, co82, eo82, gb82, gl82, cl82, HG82⟩ := Kd.R_form HO_7.out (by omega)
                    (first | cases eo82 | (injection eo82 with ea_ en_ ec_; (first | subst ea_ | (injection ea_ with ea_; subst ea_)); subst ec_; clear en_))
                    have GB82 := Aside0.mk gb82
                    have GG82 := Aside0.mk HG82
                    clear gb82 gl82 HG82
                    obtain ⟨hx82_0, hf82_0⟩ := Kd.R_celln 0 HO_7.out (x14_3 : Int) p82 q82
                    (try simp only [Int.toNat_natCast] at hx82_0)
                    (try simp only [Int.toNat_natCast] at hf82_0)
                    replace p82 := eq_true p82
                    replace q82 := eq_true q82
                    have HP84 := Kd.R_putg HO_7.out (x14_3 : Int) 3
                    go_wp2_with (first | ((with_reducible refine gate_store (t := 38) (p := 92) rfl ?_); refine store_event (t := 38) (p := 92) (v := ?vo_w85) (w1 := (wr.setCell ⟨go82, (x14_3 : Int).toNat, none⟩ (.int .u32 3))) ?hg ?ho ?hn ?hr ?_; (case ho => rfl); (case hg => rfl); (case hn => rfl); (case hr => first | (go_simp; done) | (go_simp; rfl) | (obtain ⟨hx_, hf_⟩ := Kd.R_celln 0 HO_7.out (x14_3 : Int) (of_decide_eq_true (by first | (with_reducible assumption) | assumption)) (of_decide_eq_true (by first | (with_reducible assumption) | assumption)); (try simp only [Int.toNat_natCast] at hx_); (try simp only [Int.toNat_natCast] at hf_); first | (go_simp; done) | (go_simp; rfl))); intro w85 hw; have hg : wr.grownBy w85 (some go82) := (by rw [hw]; exact HP84.2); have hp_ : Kd.R (Kd.int .u32) 38 w85 w.heap.size (fun k_ => some k_ ≠ (.slice Ao17 (l0.length + 1) co17 : Value).ownBlock ∧ some k_ ≠ (.slice Ao18 (l1.length + 1) co18 : Value).ownBlock ∧ some k_ ≠ (v479 : Value).ownBlock ∧ some k_ ≠ (v482 : Value).ownBlock) (.slice (some ⟨go82, 0, none⟩) x7_3.length co83) y501 := (by rw [hw, Ny501.out]; exact HP84.1); clear HP84; have n0_ := Aside0.mk (Kd.R_after (v := (.slice (some ⟨go82, 0, none⟩) x7_3.length co83)) (v1 := (.slice (some ⟨go82, 0, none⟩) x7_3.length co83)) (ok := (fun k_ => some k_ ≠ (.slice Ao18 (l1.length + 1) co18 : Value).ownBlock ∧ some k_ ≠ (v479 : Value).ownBlock ∧ some k_ ≠ (v482 : Value).ownBlock)) (by (with_reducible repeat (first | apply Kd.R_alloc | apply Kd.R_drewN | apply Kd.R_drew)); exact Kd.R_mono HO_5.out (fun _ hk => ⟨⟨hk.1, ⟨hk.2.2.1, hk.2.2.2⟩⟩, hk.2.1⟩)) hg (.inl rfl)); have n1_ := Aside0.mk (Kd.R_after (v := (.slice (some ⟨go82, 0, none⟩) x7_3.length co83)) (v1 := (.slice (some ⟨go82, 0, none⟩) x7_3.length co83)) (ok := (fun k_ => some k_ ≠ (.slice Ao17 (l0.length + 1) co17 : Value).ownBlock ∧ some k_ ≠ (v479 : Value).ownBlock ∧ some k_ ≠ (v482 : Value).ownBlock)) (by (with_reducible repeat (first | apply Kd.R_alloc | apply Kd.R_drewN | apply Kd.R_drew)); exact Kd.R_mono HO_6.out (fun _ hk => ⟨⟨hk.1, ⟨hk.2.2.1, hk.2.2.2⟩⟩, hk.2.1⟩)) hg (.inl rfl)); have n2_ := Aside0.mk (hp_); have n3_ := Aside0.mk (Kd.R_after (v := (.slice (some ⟨go82, 0, none⟩) x7_3.length co83)) (v1 := (.slice (some ⟨go82, 0, none⟩) x7_3.length co83)) (ok := (fun k_ => some k_ ≠ (.slice Ao17 (l0.length + 1) co17 : Value).ownBlock ∧ some k_ ≠ (.slice Ao18 (l1.length + 1) co18 : Value).ownBlock ∧ some k_ ≠ (v482 : Value).ownBlock)) (by (with_reducible repeat (first | apply Kd.R_alloc | apply Kd.R_drewN | apply Kd.R_drew)); exact Kd.R_mono HO_8.out (fun _ hk => ⟨⟨hk.1, ⟨hk.2.1, hk.2.2.2⟩⟩, hk.2.2.1⟩)) hg (.inl rfl)); have n4_ := Aside0.mk (Kd.R_after (v := (.slice (some ⟨go82, 0, none⟩) x7_3.length co83)) (v1 := (.slice (some ⟨go82, 0, none⟩) x7_3.length co83)) (ok := (fun k_ => some k_ ≠ (.slice Ao17 (l0.length + 1) co17 : Value).ownBlock ∧ some k_ ≠ (.slice Ao18 (l1.length + 1) co18 : Value).ownBlock ∧ some k_ ≠ (v479 : Value).ownBlock)) (by (with_reducible repeat (first | apply Kd.R_alloc | apply Kd.R_drewN | apply Kd.R_drew)); exact Kd.R_mono HO_10.out (fun _ hk => ⟨⟨hk.1, ⟨hk.2.1, hk.2.2.2⟩⟩, hk.2.2.1⟩)) hg (.inl rfl)); have n5_ := Aside0.mk ((by rw [hw]; exact below_set (HB.out) GB82.out : Below w.heap.size w w85)); clear HO_5; clear HO_6; clear HO_7; clear HO_8; clear HO_10; clear HB; have HO_5 := n0_; have HO_6 := n1_; have HO_7 := n2_; have HO_8 := n3_; have HO_10 := n4_; have HB := n5_; clear n0_ n1_ n2_ n3_ n4_ n5_; clear hg hw hp_))
                    go_roundg k3
                    case measure => have := HJ2.out; have := HJ13.out; have := HK3.out; omega
                    case rel => exact ⟨(y501), (wrap64 (x14_3 + 1)), (by first | rfl | (simp; done) | (simp [*]; done)), H', ⟨by have := HJ2.out; have := HJ13.out; have := HK3.out; omega⟩, ⟨by (with_reducible repeat (first | apply Kd.R_alloc | apply Kd.R_drewN | apply Kd.R_drew)); exact Kd.R_mono HO_5.out (fun _ hk => ⟨hk.1.1, ⟨hk.2, ⟨hk.1.2.1, hk.1.2.2⟩⟩⟩)⟩, ⟨by (with_reducible repeat (first | apply Kd.R_alloc | apply Kd.R_drewN | apply Kd.R_drew)); exact Kd.R_mono HO_6.out (fun _ hk => ⟨hk.1.1, ⟨hk.2, ⟨hk.1.2.1, hk.1.2.2⟩⟩⟩)⟩, ⟨by (with_reducible repeat (first | apply Kd.R_alloc | apply Kd.R_drewN | apply Kd.R_drew)); exact HO_7.out⟩, ⟨by (with_reducible repeat (first | apply Kd.R_alloc | apply Kd.R_drewN | apply Kd.R_drew)); exact Kd.R_mono HO_8.out (fun _ hk => ⟨hk.1.1, ⟨hk.1.2.1, ⟨hk.2, hk.1.2.2⟩⟩⟩)⟩, ⟨by (with_reducible repeat (first | apply Kd.R_alloc | apply Kd.R_drewN | apply Kd.R_drew)); exact Kd.R_mono HO_10.out (fun _ hk => ⟨hk.1.1, ⟨hk.1.2.1, ⟨hk.2, hk.1.2.2⟩⟩⟩)⟩, ⟨by repeat (first | (with_reducible first | exact HB.out | apply below_alloc | apply pw_below_drewN | apply below_drew1) | exact HB.out)⟩⟩
                  · rw [if_neg c81] at H
                    exact absurd H (by simp)
                · rw [if_neg c80] at H
                  have c80b0 : decide (x14_3 < (x7_3.length : Int)) = false := decide_eq_false c80
                  clear c80
                  have H' := Aside0.mk H
                  clear H
                  obtain ⟨Ao86, co86, eo86⟩ := Kd.R_slice HO_7.out
                  subst eo86
                  go_wp2
                  go_loopg [15] k3 (fun kq v15 w' => ∃ (x10_4 : List Int) (x15_4 : Int), v15 = .int .i64 x15_4 ∧ Aside0 (bobbinlaw2_NatSums.l1 kq l0 l1 l0 l1 t477 x10_4 x13_13 x15_4 = some r) ∧ Aside0 (kq ≤ k3) ∧ Aside0 (Kd.R (Kd.int .u32) 38 w' w.heap.size (fun k_ => some k_ ≠ ((.slice Ao18 (l1.length + 1) co18) : Value).ownBlock ∧ some k_ ≠ (v479 : Value).ownBlock ∧ some k_ ≠ (v482 : Value).ownBlock) (.slice Ao17 (l0.length + 1) co17) (l0 ++ [77])) ∧ Aside0 (Kd.R (Kd.int .u32) 38 w' w.heap.size (fun k_ => some k_ ≠ ((.slice Ao17 (l0.length + 1) co17) : Value).ownBlock ∧ some k_ ≠ (v479 : Value).ownBlock ∧ some k_ ≠ (v482 : Value).ownBlock) (.slice Ao18 (l1.length + 1) co18) (l1 ++ [77])) ∧ Aside0 (Kd.R (Kd.int .u32) 38 w' w.heap.size (fun k_ => some k_ ≠ ((.slice Ao17 (l0.length + 1) co17) : Value).ownBlock ∧ some k_ ≠ ((.slice Ao18 (l1.length + 1) co18) : Value).ownBlock ∧ some k_ ≠ (v482 : Value).ownBlock) v479 t477) ∧ Aside0 (Kd.R (Kd.int .u32) 38 w' w.heap.size (fun k_ => some k_ ≠ ((.slice Ao17 (l0.length + 1) co17) : Value).ownBlock ∧ some k_ ≠ ((.slice Ao18 (l1.length + 1) co18) : Value).ownBlock ∧ some k_ ≠ (v479 : Value).ownBlock) v482 x10_4) ∧ Aside0 (Below w.heap.size w w'))
                  case atStart => exact ⟨(t481), (0), (by first | rfl | (simp; done) | (simp [*]; done)), H', ⟨Nat.le_refl _⟩, ⟨by (with_reducible repeat (first | apply Kd.R_alloc | apply Kd.R_drewN | apply Kd.R_drew)); exact Kd.R_mono HO_5.out (fun _ hk => ⟨hk.1, ⟨hk.2.2.1, hk.2.2.2⟩⟩)⟩, ⟨by (with_reducible repeat (first | apply Kd.R_alloc | apply Kd.R_drewN | apply Kd.R_drew)); exact Kd.R_mono HO_6.out (fun _ hk => ⟨hk.1, ⟨hk.2.2.1, hk.2.2.2⟩⟩)⟩, ⟨by (with_reducible repeat (first | apply Kd.R_alloc | apply Kd.R_drewN | apply Kd.R_drew)); exact Kd.R_mono HO_8.out (fun _ hk => ⟨hk.1, ⟨hk.2.1, hk.2.2.2⟩⟩)⟩, ⟨by (with_reducible repeat (first | apply Kd.R_alloc | apply Kd.R_drewN | apply Kd.R_drew)); exact Kd.R_mono HO_10.out (fun _ hk => ⟨hk.1, ⟨hk.2.1, hk.2.2.2⟩⟩)⟩, ⟨by repeat (first | (with_reducible first | exact HB.out | apply below_alloc | apply pw_below_drewN | apply below_drew1) | exact HB.out)⟩⟩
                  case round =>
                    clear H'
                    try clear c1
                    try clear c2
                    try clear p2
                    try clear c3
                    try clear c4
                    try clear c4b0
                    try clear c4b1
                    try clear c5
                    try clear p6
                    try clear c7
                    try clear c8
                    try clear p8
                    try clear q8
                    try clear hx8
                    try clear hf8
                    try clear c9
                    try clear c12
                    try clear c15
                    try clear c21
                    try clear c22
                    try clear c23
                    try clear c24
                    try clear c25
                    try clear c27
                    try clear c28
                    try clear c28b0
                    try clear c28b1
                    try clear c31
                    try clear c34
                    try clear c34b0
                    try clear c34b1
                    try clear p64
                    try clear c80
                    try clear c80b0
                    try clear c81
                    try clear c81b0
                    try clear p82
                    try clear q82
                    try clear hx82
                    try clear hf82
                    try clear hx82_0
                    try clear p2
                    try clear p82
                    try clear q82
                    obtain ⟨x10_4, x15_4, rfl, HA, HK4, HO_5, HO_6, HO_8, HO_10, HB⟩ := hrel
                    cases gk with
                    | zero => exact absurd HA.out (by simp [bobbinlaw2_NatSums.l1])
                    | succ k4 =>
                      have H := HA.out
                      clear HA
                      simp only [bobbinlaw2_NatSums.l1] at H
                      by_cases c87 : x15_4 < (x10_4.length : Int)
                      · rw [if_pos c87] at H
                        have c87b0 : decide (x15_4 < (x10_4.length : Int)) = true := decide_eq_true c87
                        clear c87
                        by_cases c88 : 0 ≤ x15_4
                        · rw [if_pos c88] at H
                          have c88b0 : decide (0 ≤ x15_4) = true := decide_eq_true c88
                          clear c88
                          obtain ⟨y502, hy502⟩ : ∃ y_ : List Int, y_ = (x10_4.set (x15_4 : Int).toNat 3) := ⟨_, rfl⟩
                          replace H : (bobbinlaw2_NatSums.l1 k4 l0 l1 l0 l1 t477 y502 x13_13 (wrap64 (x15_4 + 1))) = some r := by first | (rw [hy502]; with_reducible exact H) | (have H2_ := (Option.bind_some _ _).symm.trans H; rw [hy502]; with_reducible exact H2_) | (have H2_ := (Option.bind_some _ _).symm.trans H; with_reducible exact H2_) | with_reducible exact H | (rw [hy502]; exact H) | exact H
                          have Ny502 := Aside0.mk hy502
                          clear hy502
                          have H' := Aside0.mk H
                          clear H
                          obtain ⟨Ao90, co90, eo90⟩ := Kd.R_slice HO_10.out
                          subst eo90
                          have p89 : 0 ≤ (x15_4 : Int) := of_decide_eq_true (by first | (with_reducible assumption) | assumption)
                          have q89 : (x15_4 : Int) < ((x10_4.length : Int) : Int) := of_decide_eq_true (by first | (with_reducible assumption) | assumption)
                          obtain ⟨go89, co89, eo89, gb89, gl89, cl89, HG89⟩ := Kd.R_form HO_10.out (by omega)
                          (first | cases eo89 | (injection eo89 with ea_ en_ ec_; (first | subst ea_ | (injection ea_ with ea_; subst ea_)); subst ec_; clear en_))
                          have GB89 := Aside0.mk gb89
                          have GG89 := Aside0.mk HG89
                          clear gb89 gl89 HG89
                          obtain ⟨hx89_0, hf89_0⟩ := Kd.R_celln 0 HO_10.out (x15_4 : Int) p89 q89
                          (try simp only [Int.toNat_natCast] at hx89_0)
                          (try simp only [Int.toNat_natCast] at hf89_0)
                          replace p89 := eq_true p89
                          replace q89 := eq_true q89
                          have HP91 := Kd.R_putg HO_10.out (x15_4 : Int) 3
                          go_wp2_with (first | ((with_reducible refine gate_store (t := 38) (p := 101) rfl ?_); refine store_event (t := 38) (p := 101) (v := ?vo_w92) (w1 := (wr.setCell ⟨go89, (x15_4 : Int).toNat, none⟩ (.int .u32 3))) ?hg ?ho ?hn ?hr ?_; (case ho => rfl); (case hg => rfl); (case hn => rfl); (case hr => first | (go_simp; done) | (go_simp; rfl) | (obtain ⟨hx_, hf_⟩ := Kd.R_celln 0 HO_10.out (x15_4 : Int) (of_decide_eq_true (by first | (with_reducible assumption) | assumption)) (of_decide_eq_true (by first | (with_reducible assumption) | assumption)); (try simp only [Int.toNat_natCast] at hx_); (try simp only [Int.toNat_natCast] at hf_); first | (go_simp; done) | (go_simp; rfl))); intro w92 hw; have hg : wr.grownBy w92 (some go89) := (by rw [hw]; exact HP91.2); have hp_ : Kd.R (Kd.int .u32) 38 w92 w.heap.size (fun k_ => some k_ ≠ (.slice Ao17 (l0.length + 1) co17 : Value).ownBlock ∧ some k_ ≠ (.slice Ao18 (l1.length + 1) co18 : Value).ownBlock ∧ some k_ ≠ (v479 : Value).ownBlock) (.slice (some ⟨go89, 0, none⟩) x10_4.length co90) y502 := (by rw [hw, Ny502.out]; exact HP91.1); clear HP91; have n0_ := Aside0.mk (Kd.R_after (v := (.slice (some ⟨go89, 0, none⟩) x10_4.length co90)) (v1 := (.slice (some ⟨go89, 0, none⟩) x10_4.length co90)) (ok := (fun k_ => some k_ ≠ (.slice Ao18 (l1.length + 1) co18 : Value).ownBlock ∧ some k_ ≠ (v479 : Value).ownBlock)) (by (with_reducible repeat (first | apply Kd.R_alloc | apply Kd.R_drewN | apply Kd.R_drew)); exact Kd.R_mono HO_5.out (fun _ hk => ⟨⟨hk.1, hk.2.1⟩, hk.2.2⟩)) hg (.inl rfl)); have n1_ := Aside0.mk (Kd.R_after (v := (.slice (some ⟨go89, 0, none⟩) x10_4.length co90)) (v1 := (.slice (some ⟨go89, 0, none⟩) x10_4.length co90)) (ok := (fun k_ => some k_ ≠ (.slice Ao17 (l0.length + 1) co17 : Value).ownBlock ∧ some k_ ≠ (v479 : Value).ownBlock)) (by (with_reducible repeat (first | apply Kd.R_alloc | apply Kd.R_drewN | apply Kd.R_drew)); exact Kd.R_mono HO_6.out (fun _ hk => ⟨⟨hk.1, hk.2.1⟩, hk.2.2⟩)) hg (.inl rfl)); have n2_ := Aside0.mk (Kd.R_after (v := (.slice (some ⟨go89, 0, none⟩) x10_4.length co90)) (v1 := (.slice (some ⟨go89, 0, none⟩) x10_4.length co90)) (ok := (fun k_ => some k_ ≠ (.slice Ao17 (l0.length + 1) co17 : Value).ownBlock ∧ some k_ ≠ (.slice Ao18 (l1.length + 1) co18 : Value).ownBlock)) (by (with_reducible repeat (first | apply Kd.R_alloc | apply Kd.R_drewN | apply Kd.R_drew)); exact Kd.R_mono HO_8.out (fun _ hk => ⟨⟨hk.1, hk.2.1⟩, hk.2.2⟩)) hg (.inl rfl)); have n3_ := Aside0.mk (hp_); have n4_ := Aside0.mk ((by rw [hw]; exact below_set (HB.out) GB89.out : Below w.heap.size w w92)); clear HO_5; clear HO_6; clear HO_8; clear HO_10; clear HB; have HO_5 := n0_; have HO_6 := n1_; have HO_8 := n2_; have HO_10 := n3_; have HB := n4_; clear n0_ n1_ n2_ n3_ n4_; clear hg hw hp_))
                          go_roundg k4
                          case measure => have := HJ2.out; have := HJ13.out; have := HK3.out; have := HK4.out; omega
                          case rel => exact ⟨(y502), (wrap64 (x15_4 + 1)), (by first | rfl | (simp; done) | (simp [*]; done)), H', ⟨by have := HJ2.out; have := HJ13.out; have := HK3.out; have := HK4.out; omega⟩, ⟨by (with_reducible repeat (first | apply Kd.R_alloc | apply Kd.R_drewN | apply Kd.R_drew)); exact Kd.R_mono HO_5.out (fun _ hk => ⟨hk.1.1, ⟨hk.1.2, hk.2⟩⟩)⟩, ⟨by (with_reducible repeat (first | apply Kd.R_alloc | apply Kd.R_drewN | apply Kd.R_drew)); exact Kd.R_mono HO_6.out (fun _ hk => ⟨hk.1.1, ⟨hk.1.2, hk.2⟩⟩)⟩, ⟨by (with_reducible repeat (first | apply Kd.R_alloc | apply Kd.R_drewN | apply Kd.R_drew)); exact Kd.R_mono HO_8.out (fun _ hk => ⟨hk.1.1, ⟨hk.1.2, hk.2⟩⟩)⟩, ⟨by (with_reducible repeat (first | apply Kd.R_alloc | apply Kd.R_drewN | apply Kd.R_drew)); exact HO_10.out⟩, ⟨by repeat (first | (with_reducible first | exact HB.out | apply below_alloc | apply pw_below_drewN | apply below_drew1) | exact HB.out)⟩⟩
                        · rw [if_neg c88] at H
                          exact absurd H (by simp)
                      · rw [if_neg c87] at H
                        have c87b0 : decide (x15_4 < (x10_4.length : Int)) = false := decide_eq_false c87
                        clear c87
                        have H' := Aside0.mk H
                        clear H
                        obtain ⟨Ao93, co93, eo93⟩ := Kd.R_slice HO_10.out
                        subst eo93
                        go_wp2
                        go_loopg [16] k4 (fun kq v16 w' => ∃ (x8_5 : List Int) (x16_5 : Int), v16 = .int .i64 x16_5 ∧ Aside0 (bobbinlaw2_NatSums.l2 kq l0 l1 l0 l1 x8_5 x13_13 x16_5 = some r) ∧ Aside0 (kq ≤ k4) ∧ Aside0 (Kd.R (Kd.int .u32) 38 w' w.heap.size (fun k_ => some k_ ≠ ((.slice Ao18 (l1.length + 1) co18) : Value).ownBlock ∧ some k_ ≠ (v479 : Value).ownBlock) (.slice Ao17 (l0.length + 1) co17) (l0 ++ [77])) ∧ Aside0 (Kd.R (Kd.int .u32) 38 w' w.heap.size (fun k_ => some k_ ≠ ((.slice Ao17 (l0.length + 1) co17) : Value).ownBlock ∧ some k_ ≠ (v479 : Value).ownBlock) (.slice Ao18 (l1.length + 1) co18) (l1 ++ [77])) ∧ Aside0 (Kd.R (Kd.int .u32) 38 w' w.heap.size (fun k_ => some k_ ≠ ((.slice Ao17 (l0.length + 1) co17) : Value).ownBlock ∧ some k_ ≠ ((.slice Ao18 (l1.length + 1) co18) : Value).ownBlock) v479 x8_5) ∧ Aside0 (Below w.heap.size w w'))
                        case atStart => exact ⟨(t477), (0), (by first | rfl | (simp; done) | (simp [*]; done)), H', ⟨Nat.le_refl _⟩, ⟨by (with_reducible repeat (first | apply Kd.R_alloc | apply Kd.R_drewN | apply Kd.R_drew)); exact Kd.R_mono HO_5.out (fun _ hk => ⟨hk.1, hk.2.1⟩)⟩, ⟨by (with_reducible repeat (first | apply Kd.R_alloc | apply Kd.R_drewN | apply Kd.R_drew)); exact Kd.R_mono HO_6.out (fun _ hk => ⟨hk.1, hk.2.1⟩)⟩, ⟨by (with_reducible repeat (first | apply Kd.R_alloc | apply Kd.R_drewN | apply Kd.R_drew)); exact Kd.R_mono HO_8.out (fun _ hk => ⟨hk.1, hk.2.1⟩)⟩, ⟨by repeat (first | (with_reducible first | exact HB.out | apply below_alloc | apply pw_below_drewN | apply below_drew1) | exact HB.out)⟩⟩
                        case round =>
                          clear H'
                          try clear c1
                          try clear c2
                          try clear p2
                          try clear c3
                          try clear c4
                          try clear c4b0
                          try clear c4b1
                          try clear c5
                          try clear p6
                          try clear c7
                          try clear c8
                          try clear p8
                          try clear q8
                          try clear hx8
                          try clear hf8
                          try clear c9
                          try clear c12
                          try clear c15
                          try clear c21
                          try clear c22
                          try clear c23
                          try clear c24
                          try clear c25
                          try clear c27
                          try clear c28
                          try clear c28b0
                          try clear c28b1
                          try clear c31
                          try clear c34
                          try clear c34b0
                          try clear c34b1
                          try clear p64
                          try clear c80
                          try clear c80b0
                          try clear c81
                          try clear c81b0
                          try clear p82
                          try clear q82
                          try clear hx82
                          try clear hf82
                          try clear c87
                          try clear c87b0
                          try clear c88
                          try clear c88b0
                          try clear p89
                          try clear q89
                          try clear hx89
                          try clear hf89
                          try clear hx82_0
                          try clear hx89_0
                          try clear p2
                          try clear p6
                          try clear p64
                          try clear p8
                          try clear p82
                          try clear p89
                          try clear q8
                          try clear q82
                          try clear q89
                          obtain ⟨x8_5, x16_5, rfl, HA, HK5, HO_5, HO_6, HO_8, HB⟩ := hrel
                          cases gk with
                          | zero => exact absurd HA.out (by simp [bobbinlaw2_NatSums.l2])
                          | succ k5 =>
                            have H := HA.out
                            clear HA
                            simp only [bobbinlaw2_NatSums.l2] at H
                            by_cases c94 : x16_5 < (x8_5.length : Int)
                            · rw [if_pos c94] at H
                              have c94b0 : decide (x16_5 < (x8_5.length : Int)) = true := decide_eq_true c94
                              clear c94
                              by_cases c95 : 0 ≤ x16_5
                              · rw [if_pos c95] at H
                                have c95b0 : decide (0 ≤ x16_5) = true := decide_eq_true c95
                                clear c95
                                obtain ⟨y503, hy503⟩ : ∃ y_ : List Int, y_ = (x8_5.set (x16_5 : Int).toNat 3) := ⟨_, rfl⟩
                                replace H : (bobbinlaw2_NatSums.l2 k5 l0 l1 l0 l1 y503 x13_13 (wrap64 (x16_5 + 1))) = some r := by first | (rw [hy503]; with_reducible exact H) | (have H2_ := (Option.bind_some _ _).symm.trans H; rw [hy503]; with_reducible exact H2_) | (have H2_ := (Option.bind_some _ _).symm.trans H; with_reducible exact H2_) | with_reducible exact H | (rw [hy503]; exact H) | exact H
                                have Ny503 := Aside0.mk hy503
                                clear hy503
                                have H' := Aside0.mk H
                                clear H
                                obtain ⟨Ao97, co97, eo97⟩ := Kd.R_slice HO_8.out
                                subst eo97
                                have p96 : 0 ≤ (x16_5 : Int) := of_decide_eq_true (by first | (with_reducible assumption) | assumption)
                                have q96 : (x16_5 : Int) < ((x8_5.length : Int) : Int) := of_decide_eq_true (by first | (with_reducible assumption) | assumption)
                                obtain ⟨go96, co96, eo96, gb96, gl96, cl96, HG96⟩ := Kd.R_form HO_8.out (by omega)
                                (first | cases eo96 | (injection eo96 with ea_ en_ ec_; (first | subst ea_ | (injection ea_ with ea_; subst ea_)); subst ec_; clear en_))
                                have GB96 := Aside0.mk gb96
                                have GG96 := Aside0.mk HG96
                                clear gb96 gl96 HG96
                                obtain ⟨hx96_0, hf96_0⟩ := Kd.R_celln 0 HO_8.out (x16_5 : Int) p96 q96
                                (try simp only [Int.toNat_natCast] at hx96_0)
                                (try simp only [Int.toNat_natCast] at hf96_0)
                                replace p96 := eq_true p96
                                replace q96 := eq_true q96
                                have HP98 := Kd.R_putg HO_8.out (x16_5 : Int) 3
                                go_wp2_with (first | ((with_reducible refine gate_store (t := 38) (p := 110) rfl ?_); refine store_event (t := 38) (p := 110) (v := ?vo_w99) (w1 := (wr.setCell ⟨go96, (x16_5 : Int).toNat, none⟩ (.int .u32 3))) ?hg ?ho ?hn ?hr ?_; (case ho => rfl); (case hg => rfl); (case hn => rfl); (case hr => first | (go_simp; done) | (go_simp; rfl) | (obtain ⟨hx_, hf_⟩ := Kd.R_celln 0 HO_8.out (x16_5 : Int) (of_decide_eq_true (by first | (with_reducible assumption) | assumption)) (of_decide_eq_true (by first | (with_reducible assumption) | assumption)); (try simp only [Int.toNat_natCast] at hx_); (try simp only [Int.toNat_natCast] at hf_); first | (go_simp; done) | (go_simp; rfl))); intro w99 hw; have hg : wr.grownBy w99 (some go96) := (by rw [hw]; exact HP98.2); have hp_ : Kd.R (Kd.int .u32) 38 w99 w.heap.size (fun k_ => some k_ ≠ (.slice Ao17 (l0.length + 1) co17 : Value).ownBlock ∧ some k_ ≠ (.slice Ao18 (l1.length + 1) co18 : Value).ownBlock) (.slice (some ⟨go96, 0, none⟩) x8_5.length co97) y503 := (by rw [hw, Ny503.out]; exact HP98.1); clear HP98; have n0_ := Aside0.mk (Kd.R_after (v := (.slice (some ⟨go96, 0, none⟩) x8_5.length co97)) (v1 := (.slice (some ⟨go96, 0, none⟩) x8_5.length co97)) (ok := (fun k_ => some k_ ≠ (.slice Ao18 (l1.length + 1) co18 : Value).ownBlock)) (by (with_reducible repeat (first | apply Kd.R_alloc | apply Kd.R_drewN | apply Kd.R_drew)); exact HO_5.out) hg (.inl rfl)); have n1_ := Aside0.mk (Kd.R_after (v := (.slice (some ⟨go96, 0, none⟩) x8_5.length co97)) (v1 := (.slice (some ⟨go96, 0, none⟩) x8_5.length co97)) (ok := (fun k_ => some k_ ≠ (.slice Ao17 (l0.length + 1) co17 : Value).ownBlock)) (by (with_reducible repeat (first | apply Kd.R_alloc | apply Kd.R_drewN | apply Kd.R_drew)); exact HO_6.out) hg (.inl rfl)); have n2_ := Aside0.mk (hp_); have n3_ := Aside0.mk ((by rw [hw]; exact below_set (HB.out) GB96.out : Below w.heap.size w w99)); clear HO_5; clear HO_6; clear HO_8; clear HB; have HO_5 := n0_; have HO_6 := n1_; have HO_8 := n2_; have HB := n3_; clear n0_ n1_ n2_ n3_; clear hg hw hp_))
                                go_roundg k5
                                case measure => have := HJ2.out; have := HJ13.out; have := HK3.out; have := HK4.out; have := HK5.out; omega
                                case rel => exact ⟨(y503), (wrap64 (x16_5 + 1)), (by first | rfl | (simp; done) | (simp [*]; done)), H', ⟨by have := HJ2.out; have := HJ13.out; have := HK3.out; have := HK4.out; have := HK5.out; omega⟩, ⟨by (with_reducible repeat (first | apply Kd.R_alloc | apply Kd.R_drewN | apply Kd.R_drew)); exact HO_5.out⟩, ⟨by (with_reducible repeat (first | apply Kd.R_alloc | apply Kd.R_drewN | apply Kd.R_drew)); exact HO_6.out⟩, ⟨by (with_reducible repeat (first | apply Kd.R_alloc | apply Kd.R_drewN | apply Kd.R_drew)); exact HO_8.out⟩, ⟨by repeat (first | (with_reducible first | exact HB.out | apply below_alloc | apply pw_below_drewN | apply below_drew1) | exact HB.out)⟩⟩
                              · rw [if_neg c95] at H
                                exact absurd H (by simp)
                            · rw [if_neg c94] at H
                              have c94b0 : decide (x16_5 < (x8_5.length : Int)) = false := decide_eq_false c94
                              clear c94
                              by_cases c100 : x13_13 = true
                              · subst c100
                                have H1 : ((bobbinlaw2_back.f k5 l0 l0).bind fun t504 => (if t504 = true then ((bobbinlaw2_back.f k5 l1 l1).bind fun t505 => (if t505 = true then ((bobbinlaw2_awake.f k5).bind fun t506 => (some t506)) else (some false))) else (some false))) = some r := by rw [if_pos rfl] at H; exact H
                                clear H
                                have H := H1
                                clear H1
                                replace H := Option.bind_eq_some_iff.mp H
                                obtain ⟨t504, A1010, H⟩ := H
                                replace H : (if t504 = true then ((bobbinlaw2_back.f k5 l1 l1).bind fun t505 => (if t505 = true then ((bobbinlaw2_awake.f k5).bind fun t506 => (some t506)) else (some false))) else (some false)) = some r := H
                                have A101 := Aside0.mk A1010
                                clear A1010
                                by_cases c102 : t504 = true
                                · subst c102
                                  have H1 : ((bobbinlaw2_back.f k5 l1 l1).bind fun t505 => (if t505 = true then ((bobbinlaw2_awake.f k5).bind fun t506 => (some t506)) else (some false))) = some r := by rw [if_pos rfl] at H; exact H
                                  clear H
                                  have H := H1
                                  clear H1
                                  replace H := Option.bind_eq_some_iff.mp H
                                  obtain ⟨t505, A1030, H⟩ := H
                                  replace H : (if t505 = true then ((bobbinlaw2_awake.f k5).bind fun t506 => (some t506)) else (some false)) = some r := H
                                  have A103 := Aside0.mk A1030
                                  clear A1030
                                  by_cases c104 : t505 = true
                                  · subst c104
                                    have H1 : ((bobbinlaw2_awake.f k5).bind fun t506 => (some t506)) = some r := by rw [if_pos rfl] at H; exact H
                                    clear H
                                    have H := H1
                                    clear H1
                                    replace H := Option.bind_eq_some_iff.mp H
                                    obtain ⟨t506, A1050, H⟩ := H
                                    replace H : (some t506) = some r := H
                                    have A105 := Aside0.mk A1050
                                    clear A1050
                                    obtain rfl := Option.some.inj H
                                    obtain ⟨Ao106, co106, eo106⟩ := Kd.R_slice HO_8.out
                                    subst eo106
                                    go_wp2_with (first | (go_at_call 18; (with_reducible refine (hand_back k5 _ _ l0 _ _ _ ?side0 ?side1 ?side2 ?side3 ?side4 A101.out).mono ?_); (case side0 => repeat (first | exact (Kd.R_reads' HO_5.out).2.2 | (with_reducible refine Kd.C_alloc ?_ _) | (with_reducible refine Kd.C_drewN ?_ _) | (with_reducible refine Kd.C_drew ?_))); (case side1 => repeat (first | exact (Kd.R_reads' (hand_take HO_5.out)).2.2 | (with_reducible refine Kd.C_alloc ?_ _) | (with_reducible refine Kd.C_drewN ?_ _) | (with_reducible refine Kd.C_drew ?_))); (case side2 => exact (Kd.R_reads' HO_5.out).2.1); (case side3 => repeat (first | exact (Kd.C_below HR0.out HB.out) | (with_reducible refine Kd.C_alloc ?_ _) | (with_reducible refine Kd.C_drewN ?_ _) | (with_reducible refine Kd.C_drew ?_))); (case side4 => exact HC0.out); rintro e w' ⟨rfl, ⟨nd, rfl⟩⟩) | (go_at_call 18; (with_reducible refine (hand_back k5 _ _ l1 _ _ _ ?side0 ?side1 ?side2 ?side3 ?side4 A103.out).mono ?_); (case side0 => repeat (first | exact (Kd.R_reads' HO_6.out).2.2 | (with_reducible refine Kd.C_alloc ?_ _) | (with_reducible refine Kd.C_drewN ?_ _) | (with_reducible refine Kd.C_drew ?_))); (case side1 => repeat (first | exact (Kd.R_reads' (hand_take HO_6.out)).2.2 | (with_reducible refine Kd.C_alloc ?_ _) | (with_reducible refine Kd.C_drewN ?_ _) | (with_reducible refine Kd.C_drew ?_))); (case side2 => exact (Kd.R_reads' HO_6.out).2.1); (case side3 => repeat (first | exact (Kd.C_below HR1.out (by repeat (first | (with_reducible first | exact HB.out | apply below_alloc | apply pw_below_drewN | apply below_drew1) | exact HB.out))) | (with_reducible refine Kd.C_alloc ?_ _) | (with_reducible refine Kd.C_drewN ?_ _) | (with_reducible refine Kd.C_drew ?_))); (case side4 => exact HC1.out); rintro e w' ⟨rfl, ⟨nd, rfl⟩⟩) | (go_at_call 9; (with_reducible refine (bobbinlaw2_awake.calls k5  t506 _ A105.out).mono ?_); rintro e w107 ⟨rfl, hb⟩; have n0_ := Aside0.mk (Kd.R_below (by (with_reducible repeat (first | apply Kd.R_alloc | apply Kd.R_drewN | apply Kd.R_drew)); exact HO_5.out) hb); have n1_ := Aside0.mk (Kd.R_below (by (with_reducible repeat (first | apply Kd.R_alloc | apply Kd.R_drewN | apply Kd.R_drew)); exact HO_6.out) hb); have n2_ := Aside0.mk (Kd.R_below (by (with_reducible repeat (first | apply Kd.R_alloc | apply Kd.R_drewN | apply Kd.R_drew)); exact HO_8.out) hb); have n3_ := Aside0.mk (below_step (by repeat (first | (with_reducible first | exact HB.out | apply below_alloc | apply pw_below_drewN | apply below_drew1) | exact HB.out)) hb); clear HO_5; clear HO_6; clear HO_8; clear HB; have HO_5 := n0_; have HO_6 := n1_; have HO_8 := n2_; have HB := n3_; clear n0_ n1_ n2_ n3_; (try clear hb); (try clear hb2); (try clear hk); (try clear hi)))
                                    go_ret
                                    exact ⟨by first | rfl | (simp [errW_none, errW_some] <;> rfl) | (simp [*, errW_none, errW_some] <;> rfl), by repeat (first | (with_reducible first | exact HB.out | apply below_alloc | apply pw_below_drewN | apply below_drew1) | exact HB.out)⟩
                                  · exact absurd (same_true A103.out) c104
                                · exact absurd (same_true A101.out) c102
                              · replace c100 := Bool.eq_false_iff.mpr c100
                                subst c100
                                have H1 : (some false) = some r := by rw [if_neg (show ¬ (false = true) by decide)] at H; exact H
                                clear H
                                have H := H1
                                clear H1
                                obtain rfl := Option.some.inj H
                                obtain ⟨Ao110, co110, eo110⟩ := Kd.R_slice HO_8.out
                                subst eo110
                                go_wp2
                                go_ret
                                exact ⟨by first | rfl | (simp [errW_none, errW_some] <;> rfl) | (simp [*, errW_none, errW_some] <;> rfl), by repeat (first | (with_reducible first | exact HB.out | apply below_alloc | apply pw_below_drewN | apply below_drew1) | exact HB.out)⟩

/-- THE ONE PURE STATEMENT of bobbinlaw2_NatSums -/
def bobbinlaw2_NatSums.Pure : Prop := ∀ (l0 : List Int) (l1 : List Int), l0.length ≤ maxLen → l0.length * 4 ≤ 140737488351232 → (∀ x ∈ l0, (Lit.int .u32 x).wf = true) → l1.length ≤ maxLen → l1.length * 4 ≤ 140737488351232 → (∀ x ∈ l1, (Lit.int .u32 x).wf = true) → ∃ k, bobbinlaw2_NatSums.f k l0 l1 = some true
theorem bobbinlaw2_NatSums.walk (P : bobbinlaw2_NatSums.Pure) (a0 : Option Addr) (len0 cap0 : Nat) (z0 : List Int) (a1 : Option Addr) (len1 cap1 : Nat) (z1 : List Int) (w : World) (w0 : (a0 = none ∧ len0 = 0 ∧ cap0 = 0 ∧ z0 = []) ∨ ∃ x, a0 = some x ∧ len0 ≤ cap0 ∧ cap0 ≤ maxLen ∧ z0.length = cap0 ∧ (∀ i, i < z0.length → w.cell? (x.add i) = some (.int .u32 (z0.getD i 0))) ∧ ∀ n ∈ z0, (Lit.int .u32 n).wf = true) (y0 : len0 * 4 ≤ 140737488351232) (w1 : (a1 = none ∧ len1 = 0 ∧ cap1 = 0 ∧ z1 = []) ∨ ∃ x, a1 = some x ∧ len1 ≤ cap1 ∧ cap1 ≤ maxLen ∧ z1.length = cap1 ∧ (∀ i, i < z1.length → w.cell? (x.add i) = some (.int .u32 (z1.getD i 0))) ∧ ∀ n ∈ z1, (Lit.int .u32 n).wf = true) (y1 : len1 * 4 ≤ 140737488351232) :
    Calls Tryd.prog 7 #[.slice a0 len0 cap0, .slice a1 len1 cap1] w fun e w' => e = .returned (.bool true) ∧ Below w.heap.size w w' := by
  obtain ⟨l0, rfl, hr0, hm0, hw0, hc0⟩ := ReadsInt.ofRowC w0
  obtain ⟨l1, rfl, hr1, hm1, hw1, hc1⟩ := ReadsInt.ofRowC w1
  obtain ⟨k, h⟩ := P l0 l1 hm0 y0 hw0 hm1 y1 hw1
  refine (bobbinlaw2_NatSums.calls k _ _ l0 _ _ l1 true w (Kd.C_of_reads (d := (0 : Int)) (h1 := fun _ => rfl) hr0) hc0 (Kd.C_of_reads (d := (0 : Int)) (h1 := fun _ => rfl) hr1) hc1 h).mono ?_
  rintro e w' ⟨rfl, hd⟩
  exact ⟨rfl, hd⟩

end Go.Proofs.YtkihjfpfocnneaaDoor.PNat
