/- The law NatBack answers true at every input, within its row's conditions. This is part 5 of 6: what the session's printing program wrote for the functions reached, and the session's own lemmas. -/
import Derived.ArgAppend
import Derived.Below
import Derived.BigQuiet
import Derived.Deep.AppendLies
import Derived.Deep.CutBlock
import Derived.Deep.DeepCutAuto
import Derived.Deep.Draws
import Derived.Deep.LoopGhost
import Derived.Deep.OwnRows
import Derived.Deep.QuietTactic
import Derived.Deep.RegionHeld3
import Derived.KernelRfl
import Derived.Laws.BitsAllLaws
import Derived.Laws.BitsLemmas
import Derived.Laws.BytesArg
import Derived.Laws.IdiomCopy
import Derived.Laws.MakeOwn
import Derived.Laws.OwnMore
import Derived.Laws.Rows
import Derived.Laws.Slices
import Derived.Laws.StructEq
import Derived.Lib.AppendStr
import Derived.Lib.ConvBytes
import Derived.Lib.IndexBytes
import Derived.Lib.ItoaNum
import Derived.Lib.Strings
import Derived.Maps.AppendAt
import Derived.OrdersHeld
import Derived.OwnWalk
import Derived.RowKit
import Derived.RowKit3
import Derived.Tactics
import Derived.WalkKit
import Derived.WalkSpells
import Derived.WideLaws
import Derived.Test.YtkihjfpfocnneaaDoorBack1
import Derived.Test.YtkihjfpfocnneaaDoorBack2
import Derived.Test.YtkihjfpfocnneaaDoorBack3
import Derived.Test.YtkihjfpfocnneaaDoorBack4
import Derived.Test.YtkihjfpfocnneaaDoorProg
import Derived.Test.YtkihjfpfocnneaaDoorWApart
import Derived.Test.YtkihjfpfocnneaaDoorWArr
import Derived.Test.YtkihjfpfocnneaaDoorWFoot
import Derived.Test.YtkihjfpfocnneaaDoorWGuard
import Derived.Test.YtkihjfpfocnneaaDoorWInv
import Derived.Test.YtkihjfpfocnneaaDoorWKept
import Derived.Test.YtkihjfpfocnneaaDoorWLast
import Derived.Test.YtkihjfpfocnneaaDoorWMore
import Derived.Test.YtkihjfpfocnneaaDoorWN
import Derived.Test.YtkihjfpfocnneaaDoorWNEv
import Derived.Test.YtkihjfpfocnneaaDoorWQPut
import Derived.Test.YtkihjfpfocnneaaDoorWRepsOne
import Derived.Test.YtkihjfpfocnneaaDoorWShare
import Derived.Test.YtkihjfpfocnneaaDoorWTab
import Derived.Test.YtkihjfpfocnneaaDoorWWords
import Derived.Test.YtkihjfpfocnneaaDoorWZeros
namespace Go.Proofs.YtkihjfpfocnneaaDoor.PNat
open Go.RowKit Go.Proofs.YtkihjfpfocnneaaDoorW.PrintWords Go.Proofs.YtkihjfpfocnneaaDoorW.PrintLast Go.Proofs.YtkihjfpfocnneaaDoorW.PrintMore
attribute [local go_sem] max2_int min2_int max_two min_two max_three min_three max_four min_four   -- for this text's walks alone
set_option linter.unusedVariables false
set_option linter.unusedSimpArgs false

mutual
def bobbinlaw2_NatBack.j0 : Nat → List Int → List Int → Int → Bool → Option (Bool)
  | 0, _, _, _, _ => none
  | k + 1, x0, x1, x2, x32 => if x32 = true then ((bobbinlaw2_awake.f k).bind fun t596 => (some t596)) else ((nat_Text.f x0).bind fun t597 => ((nat_Parse.f k t597).bind fun bt598 => ((nat_Shift.f k x0 x2).bind fun bt602 => ((nat_Shift.f k bt602.1 (wrap64 (-x2))).bind fun bt606 => (if bt598.2 = 0 then (if bt602.2 = 0 then (if bt606.2 = 0 then ((nat_Compare.f k bt598.1 x0).bind fun t610 => (if t610 = 0 then ((nat_Compare.f k bt606.1 x0).bind fun t611 => (if t611 = 0 then (if (x0.length : Int) > 0 then ((nat_Bits.f k x0).bind fun t612 => (if t612 > 0 then ((nat_Bits.f k bt602.1).bind fun t613 => ((nat_Bits.f k x0).bind fun t614 => (bobbinlaw2_NatBack.j1 k x0 x1 (t613 != (wrap64 (t614 + x2)))))) else (bobbinlaw2_NatBack.j1 k x0 x1 false))) else (bobbinlaw2_NatBack.j1 k x0 x1 false)) else (bobbinlaw2_NatBack.j1 k x0 x1 true))) else (bobbinlaw2_NatBack.j1 k x0 x1 true))) else (bobbinlaw2_NatBack.j1 k x0 x1 true)) else (bobbinlaw2_NatBack.j1 k x0 x1 true)) else (bobbinlaw2_NatBack.j1 k x0 x1 true))))))
def bobbinlaw2_NatBack.j1 : Nat → List Int → List Int → Bool → Option (Bool)
  | 0, _, _, _ => none
  | k + 1, x0, x1, x93 => if x93 = true then (some false) else ((nat_Compare.f k x1 ([] : List Int)).bind fun t615 => (if t615 = 0 then ((bobbinlaw2_awake.f k).bind fun t616 => (some t616)) else ((nat_Divide.f k x0 x1).bind fun bt617 => ((nat_Mul.f k bt617.1 x1).bind fun bt624 => ((nat_Add.f k x0 x1).bind fun t628 => ((nat_Sub.f k t628 x1).bind fun bt631 => (if bt617.2.2 = 0 then (if bt624.2 = 0 then (if bt631.2 = 0 then ((nat_Add.f k bt624.1 bt617.2.1).bind fun t635 => ((nat_Compare.f k t635 x0).bind fun t638 => (if t638 = 0 then ((nat_Compare.f k bt617.2.1 x1).bind fun t639 => (if t639 < 0 then ((nat_Compare.f k bt631.1 x0).bind fun t640 => (if t640 = 0 then ((bobbinlaw2_awake.f k).bind fun t641 => (some t641)) else (some false))) else (some false))) else (some false)))) else (some false)) else (some false)) else (some false))))))))
end
def bobbinlaw2_NatBack.f (k : Nat) (l0 : List Int) (l1 : List Int) (a2 : Int) : Option (Bool) := if (l0.length : Int) > 60 then (bobbinlaw2_NatBack.j0 k l0 l1 a2 true) else (if (l1.length : Int) > 60 then (bobbinlaw2_NatBack.j0 k l0 l1 a2 true) else (if a2 < 0 then (bobbinlaw2_NatBack.j0 k l0 l1 a2 true) else (bobbinlaw2_NatBack.j0 k l0 l1 a2 (decide (a2 > 1000)))))
set_option maxHeartbeats 8000000 in
set_option maxRecDepth 100000 in
theorem bobbinlaw2_NatBack.calls (k : Nat) (A0 : Option Addr) (c0 : Nat) (l0 : List Int) (A1 : Option Addr) (c1 : Nat) (l1 : List Int) (a2 : Int) (r : Bool) (w : World) (hr0 : Kd.C (Kd.int .u32) w A0 l0.length l0) (hc0 : l0.length ≤ c0) (hr1 : Kd.C (Kd.int .u32) w A1 l1.length l1) (hc1 : l1.length ≤ c1) (h : bobbinlaw2_NatBack.f k l0 l1 a2 = some r) :
    Calls Tryd.prog 8 #[.slice A0 l0.length c0, .slice A1 l1.length c1, .int .i64 a2] w fun e w' => e = .returned (.bool r) ∧ Below w.heap.size w w' := by
  have HR0 := Aside0.mk hr0
  have HC0 := Aside0.mk hc0
  clear hr0 hc0
  have HR1 := Aside0.mk hr1
  have HC1 := Aside0.mk hc1
  clear hr1 hc1
  have HB := Aside0.mk (Below.refl w.heap.size w)
  have H : (if (l0.length : Int) > 60 then (bobbinlaw2_NatBack.j0 k l0 l1 a2 true) else (if (l1.length : Int) > 60 then (bobbinlaw2_NatBack.j0 k l0 l1 a2 true) else (if a2 < 0 then (bobbinlaw2_NatBack.j0 k l0 l1 a2 true) else (bobbinlaw2_NatBack.j0 k l0 l1 a2 (decide (a2 > 1000)))))) = some r := h
  clear h
  have HC4 := Aside0.mk H
  clear H
  go_enter Tryd.func8, Tryd.ntmps8
  go_upto_region 1 with (fail)
  go_cut [32] (fun v32 wc => ∃ (kq : Nat) (x32_3 : Bool), v32 = .bool x32_3 ∧ Aside0 (bobbinlaw2_NatBack.j0 kq l0 l1 a2 x32_3 = some r) ∧ Aside0 (kq ≤ k) ∧ Aside0 (Below w.heap.size w wc))
  case first =>
    have H := HC4.out
    clear HC4
    by_cases c5 : (l0.length : Int) > 60
    · rw [if_pos c5] at H
      have c5b0 : decide (60 < (l0.length : Int)) = true := decide_eq_true c5
      have c5b1 : decide (60 < l0.length) = true := decide_eq_true (by omega)
      clear c5
      (first | rw [c5b0] | (simp only [i64_w, i32_w]; rw [c5b0]) | rw [c5b1] | skip)
      have H' := Aside0.mk H
      clear H
      go_wp2
      go_meet
      case rel => exact ⟨_, (true), aq, H', ⟨by first | omega | exact Nat.le_refl _⟩, ⟨bq HB.out⟩⟩
    · rw [if_neg c5] at H
      have c5b0 : decide (60 < (l0.length : Int)) = false := decide_eq_false c5
      have c5b1 : decide (60 < l0.length) = false := decide_eq_false (by omega)
      clear c5
      (first | rw [c5b0] | (simp only [i64_w, i32_w]; rw [c5b0]) | rw [c5b1] | skip)
      by_cases c6 : (l1.length : Int) > 60
      · rw [if_pos c6] at H
        have c6b0 : decide (60 < (l1.length : Int)) = true := decide_eq_true c6
        have c6b1 : decide (60 < l1.length) = true := decide_eq_true (by omega)
        clear c6
        have H' := Aside0.mk H
        clear H
        go_wp2
        go_meet
        case rel => exact ⟨_, (true), aq, H', ⟨by first | omega | exact Nat.le_refl _⟩, ⟨bq HB.out⟩⟩
      · rw [if_neg c6] at H
        have c6b0 : decide (60 < (l1.length : Int)) = false := decide_eq_false c6
        have c6b1 : decide (60 < l1.length) = false := decide_eq_false (by omega)
        clear c6
        by_cases c7 : a2 < 0
        · rw [if_pos c7] at H
          have c7b0 : decide (a2 < 0) = true := decide_eq_true c7
          clear c7
          have H' := Aside0.mk H
          clear H
          go_wp2
          go_meet
          case rel => exact ⟨_, (true), aq, H', ⟨by first | omega | exact Nat.le_refl _⟩, ⟨bq HB.out⟩⟩
        · rw [if_neg c7] at H
          have c7b0 : decide (a2 < 0) = false := decide_eq_false c7
          clear c7
          have H' := Aside0.mk H
          clear H
          go_wp2
          go_meet
          case rel => exact ⟨_, (decide (a2 > 1000)), aq, H', ⟨by first | omega | exact Nat.le_refl _⟩, ⟨bq HB.out⟩⟩
  case rest =>
    clear HC4
    try clear c1
    try clear p2
    try clear c5
    try clear c5b0
    try clear c5b1
    try clear c6
    try clear c6b0
    try clear c6b1
    try clear c7
    try clear c7b0
    obtain ⟨kq, x32_3, rfl, HA, HJ3, HB⟩ := hcut
    cases kq with
    | zero => exact absurd HA.out (by simp [bobbinlaw2_NatBack.j0])
    | succ kj3 =>
      have H := HA.out
      clear HA
      simp only [bobbinlaw2_NatBack.j0] at H
      by_cases c8 : x32_3 = true
      · subst c8
        have H1 : ((bobbinlaw2_awake.f kj3).bind fun t596 => (some t596)) = some r := by rw [if_pos rfl] at H; exact H
        clear H
        have H := H1
        clear H1
        replace H := Option.bind_eq_some_iff.mp H
        obtain ⟨t596, A90, H⟩ := H
        replace H : (some t596) = some r := H
        have A9 := Aside0.mk A90
        clear A90
        obtain rfl := Option.some.inj H
        go_wp2_with (first | ((with_reducible refine gate_callee (f := 9) rfl ?_); refine goesL_ (some 33) rfl rfl Tryd.func9 (by kernel_rfl) rfl #[] rfl gq ?_; (with_reducible refine (bobbinlaw2_awake.calls kj3  t596 _ A9.out).mono ?_); rintro e w10 ⟨rfl, hb⟩; refine ⟨_, rfl, ?_⟩; have n0_ := Aside0.mk (below_step (bq HB.out) hb); clear HB; have HB := n0_; clear n0_; (try clear hb); (try clear hi)))
        go_ret
        exact ⟨eq_, bq HB.out⟩
      · replace c8 := Bool.eq_false_iff.mpr c8
        subst c8
        have H1 : ((nat_Text.f l0).bind fun t597 => ((nat_Parse.f kj3 t597).bind fun bt598 => ((nat_Shift.f kj3 l0 a2).bind fun bt602 => ((nat_Shift.f kj3 bt602.1 (wrap64 (-a2))).bind fun bt606 => (if bt598.2 = 0 then (if bt602.2 = 0 then (if bt606.2 = 0 then ((nat_Compare.f kj3 bt598.1 l0).bind fun t610 => (if t610 = 0 then ((nat_Compare.f kj3 bt606.1 l0).bind fun t611 => (if t611 = 0 then (if (l0.length : Int) > 0 then ((nat_Bits.f kj3 l0).bind fun t612 => (if t612 > 0 then ((nat_Bits.f kj3 bt602.1).bind fun t613 => ((nat_Bits.f kj3 l0).bind fun t614 => (bobbinlaw2_NatBack.j1 kj3 l0 l1 (t613 != (wrap64 (t614 + a2)))))) else (bobbinlaw2_NatBack.j1 kj3 l0 l1 false))) else (bobbinlaw2_NatBack.j1 kj3 l0 l1 false)) else (bobbinlaw2_NatBack.j1 kj3 l0 l1 true))) else (bobbinlaw2_NatBack.j1 kj3 l0 l1 true))) else (bobbinlaw2_NatBack.j1 kj3 l0 l1 true)) else (bobbinlaw2_NatBack.j1 kj3 l0 l1 true)) else (bobbinlaw2_NatBack.j1 kj3 l0 l1 true)))))) = some r := by rw [if_neg (show ¬ (false = true) by decide)] at H; exact H
        clear H
        have H := H1
        clear H1
        replace H := Option.bind_eq_some_iff.mp H
        obtain ⟨t597, A110, H⟩ := H
        replace H : ((nat_Parse.f kj3 t597).bind fun bt598 => ((nat_Shift.f kj3 l0 a2).bind fun bt602 => ((nat_Shift.f kj3 bt602.1 (wrap64 (-a2))).bind fun bt606 => (if bt598.2 = 0 then (if bt602.2 = 0 then (if bt606.2 = 0 then ((nat_Compare.f kj3 bt598.1 l0).bind fun t610 => (if t610 = 0 then ((nat_Compare.f kj3 bt606.1 l0).bind fun t611 => (if t611 = 0 then (if (l0.length : Int) > 0 then ((nat_Bits.f kj3 l0).bind fun t612 => (if t612 > 0 then ((nat_Bits.f kj3 bt602.1).bind fun t613 => ((nat_Bits.f kj3 l0).bind fun t614 => (bobbinlaw2_NatBack.j1 kj3 l0 l1 (t613 != (wrap64 (t614 + a2)))))) else (bobbinlaw2_NatBack.j1 kj3 l0 l1 false))) else (bobbinlaw2_NatBack.j1 kj3 l0 l1 false)) else (bobbinlaw2_NatBack.j1 kj3 l0 l1 true))) else (bobbinlaw2_NatBack.j1 kj3 l0 l1 true))) else (bobbinlaw2_NatBack.j1 kj3 l0 l1 true)) else (bobbinlaw2_NatBack.j1 kj3 l0 l1 true)) else (bobbinlaw2_NatBack.j1 kj3 l0 l1 true))))) = some r := H
        have A11 := Aside0.mk A110
        clear A110
        replace H := Option.bind_eq_some_iff.mp H
        obtain ⟨⟨t598, t601⟩, A120, H⟩ := H
        replace H : ((nat_Shift.f kj3 l0 a2).bind fun bt602 => ((nat_Shift.f kj3 bt602.1 (wrap64 (-a2))).bind fun bt606 => (if t601 = 0 then (if bt602.2 = 0 then (if bt606.2 = 0 then ((nat_Compare.f kj3 t598 l0).bind fun t610 => (if t610 = 0 then ((nat_Compare.f kj3 bt606.1 l0).bind fun t611 => (if t611 = 0 then (if (l0.length : Int) > 0 then ((nat_Bits.f kj3 l0).bind fun t612 => (if t612 > 0 then ((nat_Bits.f kj3 bt602.1).bind fun t613 => ((nat_Bits.f kj3 l0).bind fun t614 => (bobbinlaw2_NatBack.j1 kj3 l0 l1 (t613 != (wrap64 (t614 + a2)))))) else (bobbinlaw2_NatBack.j1 kj3 l0 l1 false))) else (bobbinlaw2_NatBack.j1 kj3 l0 l1 false)) else (bobbinlaw2_NatBack.j1 kj3 l0 l1 true))) else (bobbinlaw2_NatBack.j1 kj3 l0 l1 true))) else (bobbinlaw2_NatBack.j1 kj3 l0 l1 true)) else (bobbinlaw2_NatBack.j1 kj3 l0 l1 true)) else (bobbinlaw2_NatBack.j1 kj3 l0 l1 true)))) = some r := H
        have A12 := Aside0.mk A120
        clear A120
        replace H := Option.bind_eq_some_iff.mp H
        obtain ⟨⟨t602, t605⟩, A130, H⟩ := H
        replace H : ((nat_Shift.f kj3 t602 (wrap64 (-a2))).bind fun bt606 => (if t601 = 0 then (if t605 = 0 then (if bt606.2 = 0 then ((nat_Compare.f kj3 t598 l0).bind fun t610 => (if t610 = 0 then ((nat_Compare.f kj3 bt606.1 l0).bind fun t611 => (if t611 = 0 then (if (l0.length : Int) > 0 then ((nat_Bits.f kj3 l0).bind fun t612 => (if t612 > 0 then ((nat_Bits.f kj3 t602).bind fun t613 => ((nat_Bits.f kj3 l0).bind fun t614 => (bobbinlaw2_NatBack.j1 kj3 l0 l1 (t613 != (wrap64 (t614 + a2)))))) else (bobbinlaw2_NatBack.j1 kj3 l0 l1 false))) else (bobbinlaw2_NatBack.j1 kj3 l0 l1 false)) else (bobbinlaw2_NatBack.j1 kj3 l0 l1 true))) else (bobbinlaw2_NatBack.j1 kj3 l0 l1 true))) else (bobbinlaw2_NatBack.j1 kj3 l0 l1 true)) else (bobbinlaw2_NatBack.j1 kj3 l0 l1 true)) else (bobbinlaw2_NatBack.j1 kj3 l0 l1 true))) = some r := H
        have A13 := Aside0.mk A130
        clear A130
        replace H := Option.bind_eq_some_iff.mp H
        obtain ⟨⟨t606, t609⟩, A140, H⟩ := H
        replace H : (if t601 = 0 then (if t605 = 0 then (if t609 = 0 then ((nat_Compare.f kj3 t598 l0).bind fun t610 => (if t610 = 0 then ((nat_Compare.f kj3 t606 l0).bind fun t611 => (if t611 = 0 then (if (l0.length : Int) > 0 then ((nat_Bits.f kj3 l0).bind fun t612 => (if t612 > 0 then ((nat_Bits.f kj3 t602).bind fun t613 => ((nat_Bits.f kj3 l0).bind fun t614 => (bobbinlaw2_NatBack.j1 kj3 l0 l1 (t613 != (wrap64 (t614 + a2)))))) else (bobbinlaw2_NatBack.j1 kj3 l0 l1 false))) else (bobbinlaw2_NatBack.j1 kj3 l0 l1 false)) else (bobbinlaw2_NatBack.j1 kj3 l0 l1 true))) else (bobbinlaw2_NatBack.j1 kj3 l0 l1 true))) else (bobbinlaw2_NatBack.j1 kj3 l0 l1 true)) else (bobbinlaw2_NatBack.j1 kj3 l0 l1 true)) else (bobbinlaw2_NatBack.j1 kj3 l0 l1 true)) = some r := H
        have A14 := Aside0.mk A140
        clear A140
        have HC15 := Aside0.mk H
        clear H
        go_upto_region 6 with (first | ((with_reducible refine gate_callee (f := 13) rfl ?_); refine goesL_ (some 36) rfl rfl Tryd.func13 (by kernel_rfl) rfl #[.slice A0 l0.length c0] rfl gq ?_; (with_reducible refine (nat_Text.calls _ _ l0 t597 _ ?side1 ?side2 A11.out).mono ?_); (case side1 => repeat (first | exact (Kd.C_below HR0.out HB.out) | (with_reducible refine Kd.C_alloc ?_ _) | (with_reducible refine Kd.C_drewN ?_ _) | (with_reducible refine Kd.C_drew ?_))); (case side2 => exact HC0.out); rintro e w16 ⟨rfl, hb⟩; refine ⟨_, rfl, ?_⟩; have n0_ := Aside0.mk (below_step (bq HB.out) hb); clear HB; have HB := n0_; clear n0_; (try clear hb); (try clear hi)) | ((with_reducible refine gate_callee (f := 10) rfl ?_); refine goesL_ (some 37) rfl rfl Tryd.func10 (by kernel_rfl) rfl #[.string t597] rfl gq ?_; (with_reducible refine (nat_Parse.calls kj3 t597 t598 t601 _ A12.out).mono ?_); rintro e w17 ⟨v599, rfl, ho0, hb⟩; refine ⟨_, rfl, ?_⟩; have n0_ := Aside0.mk (Kd.V_lower (Kd.V_mono (ok' := fun k_ => True) ho0 (fun k_ hk_ => trivial)) (below_size (bq HB.out))); have n1_ := Aside0.mk (below_step (bq HB.out) hb); clear HB; have HO600 := n0_; have HB := n1_; clear n0_ n1_; (try clear hb); (try clear ho0)) | ((with_reducible refine gate_callee (f := 19) rfl ?_); refine goesL_ (some 43) rfl rfl Tryd.func19 (by kernel_rfl) rfl #[.slice A0 l0.length c0, .int .i64 a2] rfl gq ?_; (with_reducible refine (nat_Shift.calls kj3 (fun k_ => k_ < w.heap.size) _ _ l0 a2 t602 t605 _ ?side1 A13.out).mono ?_); (case side1 => exact Kd.V_mk HC0.out (Kd.F_below (Kd.C_F (Kd.heap_int .u32) HR0.out) (bq HB.out))); rintro e w18 ⟨v603, rfl, ho0, hb⟩; refine ⟨_, rfl, ?_⟩; have n0_ := Aside0.mk (Kd.V_below (vq HO600.out) hb); have n1_ := Aside0.mk (Kd.V_lower (Kd.V_mono (ok' := fun k_ => True) ho0 (fun k_ hk_ => trivial)) (below_size (bq HB.out))); have n2_ := Aside0.mk (below_step (bq HB.out) hb); clear HO600; clear HB; have HO600 := n0_; have HO604 := n1_; have HB := n2_; clear n0_ n1_ n2_; (try clear hb); (try clear ho0); obtain ⟨Ao19, co19, eo19⟩ := Kd.V_slice HO604.out; subst eo19) | ((with_reducible refine gate_callee (f := 19) rfl ?_); refine goesL_ (some 50) rfl rfl Tryd.func19 (by kernel_rfl) rfl #[.slice Ao19 t602.length co19, .int .i64 (wrap64 (-a2))] rfl gq ?_; (with_reducible refine (nat_Shift.calls kj3 (fun k_ => True) _ _ t602 (wrap64 (-a2)) t606 t609 _ ?side1 A14.out).mono ?_); (case side1 => exact HO604.out); rintro e w20 ⟨v607, rfl, ho0, hb⟩; refine ⟨_, rfl, ?_⟩; have n0_ := Aside0.mk (Kd.V_below (vq HO600.out) hb); have n1_ := Aside0.mk (Kd.V_below (vq HO604.out) hb); have n2_ := Aside0.mk (Kd.V_lower (Kd.V_mono (ok' := fun k_ => True) ho0 (fun k_ hk_ => trivial)) (below_size (bq HB.out))); have n3_ := Aside0.mk (below_step (bq HB.out) hb); clear HO600; clear HO604; clear HB; have HO600 := n0_; have HO604 := n1_; have HO608 := n2_; have HB := n3_; clear n0_ n1_ n2_ n3_; (try clear hb); (try clear ho0)))
        (try simp only [Act.put, List.setIfInBounds_toArray, List.set_cons_zero, List.set_cons_succ])
        go_cut [93] (fun v93 wc => ∃ (kq : Nat) (x93_14 : Bool), v93 = .bool x93_14 ∧ Aside0 (bobbinlaw2_NatBack.j1 kq l0 l1 x93_14 = some r) ∧ Aside0 (kq ≤ kj3) ∧ Aside0 (Below w.heap.size w wc))
        case first =>
          have H := HC15.out
          clear HC15
          by_cases c21 : t601 = 0
          · rw [if_pos c21] at H
            have c21b0 : (t601 == 0) = true := beq_iff_eq.mpr c21
            have c21b1 : (t601 != 0) = false := bne_eq_false_iff_eq.mpr c21
            clear c21
            (first | rw [c21b0] | (simp only [i64_w, i32_w]; rw [c21b0]) | rw [c21b1] | skip)
            by_cases c22 : t605 = 0
            · rw [if_pos c22] at H
              have c22b0 : (t605 == 0) = true := beq_iff_eq.mpr c22
              have c22b1 : (t605 != 0) = false := bne_eq_false_iff_eq.mpr c22
              clear c22
              by_cases c23 : t609 = 0
              · rw [if_pos c23] at H
                have c23b0 : (t609 == 0) = true := beq_iff_eq.mpr c23
                have c23b1 : (t609 != 0) = false := bne_eq_false_iff_eq.mpr c23
                clear c23
                replace H := Option.bind_eq_some_iff.mp H
                obtain ⟨t610, A240, H⟩ := H
                replace H : (if t610 = 0 then ((nat_Compare.f kj3 t606 l0).bind fun t611 => (if t611 = 0 then (if (l0.length : Int) > 0 then ((nat_Bits.f kj3 l0).bind fun t612 => (if t612 > 0 then ((nat_Bits.f kj3 t602).bind fun t613 => ((nat_Bits.f kj3 l0).bind fun t614 => (bobbinlaw2_NatBack.j1 kj3 l0 l1 (t613 != (wrap64 (t614 + a2)))))) else (bobbinlaw2_NatBack.j1 kj3 l0 l1 false))) else (bobbinlaw2_NatBack.j1 kj3 l0 l1 false)) else (bobbinlaw2_NatBack.j1 kj3 l0 l1 true))) else (bobbinlaw2_NatBack.j1 kj3 l0 l1 true)) = some r := H
                have A24 := Aside0.mk A240
                clear A240
                by_cases c25 : t610 = 0
                · rw [if_pos c25] at H
                  have c25b0 : (t610 == 0) = true := beq_iff_eq.mpr c25
                  have c25b1 : (t610 != 0) = false := bne_eq_false_iff_eq.mpr c25
                  clear c25
                  replace H := Option.bind_eq_some_iff.mp H
                  obtain ⟨t611, A260, H⟩ := H
                  replace H : (if t611 = 0 then (if (l0.length : Int) > 0 then ((nat_Bits.f kj3 l0).bind fun t612 => (if t612 > 0 then ((nat_Bits.f kj3 t602).bind fun t613 => ((nat_Bits.f kj3 l0).bind fun t614 => (bobbinlaw2_NatBack.j1 kj3 l0 l1 (t613 != (wrap64 (t614 + a2)))))) else (bobbinlaw2_NatBack.j1 kj3 l0 l1 false))) else (bobbinlaw2_NatBack.j1 kj3 l0 l1 false)) else (bobbinlaw2_NatBack.j1 kj3 l0 l1 true)) = some r := H
                  have A26 := Aside0.mk A260
                  clear A260
                  by_cases c27 : t611 = 0
                  · rw [if_pos c27] at H
                    have c27b0 : (t611 == 0) = true := beq_iff_eq.mpr c27
                    have c27b1 : (t611 != 0) = false := bne_eq_false_iff_eq.mpr c27
                    clear c27
                    by_cases c28 : (l0.length : Int) > 0
                    · rw [if_pos c28] at H
                      have c28b0 : decide (0 < (l0.length : Int)) = true := decide_eq_true c28
                      have c28b1 : decide (0 < l0.length) = true := decide_eq_true (by omega)
                      clear c28
                      replace H := Option.bind_eq_some_iff.mp H
                      obtain ⟨t612, A290, H⟩ := H
                      replace H : (if t612 > 0 then ((nat_Bits.f kj3 t602).bind fun t613 => ((nat_Bits.f kj3 l0).bind fun t614 => (bobbinlaw2_NatBack.j1 kj3 l0 l1 (t613 != (wrap64 (t614 + a2)))))) else (bobbinlaw2_NatBack.j1 kj3 l0 l1 false)) = some r := H
                      have A29 := Aside0.mk A290
                      clear A290
                      by_cases c30 : t612 > 0
                      · rw [if_pos c30] at H
                        have c30b0 : decide (0 < t612) = true := decide_eq_true c30
                        clear c30
                        replace H := Option.bind_eq_some_iff.mp H
                        obtain ⟨t613, A310, H⟩ := H
                        replace H : ((nat_Bits.f kj3 l0).bind fun t614 => (bobbinlaw2_NatBack.j1 kj3 l0 l1 (t613 != (wrap64 (t614 + a2))))) = some r := H
                        have A31 := Aside0.mk A310
                        clear A310
                        replace H := Option.bind_eq_some_iff.mp H
                        obtain ⟨t614, A320, H⟩ := H
                        replace H : (bobbinlaw2_NatBack.j1 kj3 l0 l1 (t613 != (wrap64 (t614 + a2)))) = some r := H
                        have A32 := Aside0.mk A320
                        clear A320
                        have H' := Aside0.mk H
                        clear H
                        obtain ⟨Ao33, co33, eo33⟩ := Kd.V_slice HO600.out
                        subst eo33
                        go_wp2_with (first | (go_at_call 27; (with_reducible refine (nat_Compare.calls kj3 _ _ t598 _ _ l0 t610 _ ?side1 ?side2 ?side3 ?side4 A24.out).mono ?_); (case side1 => repeat (first | exact (Kd.V_reads' HO600.out).2.2 | (with_reducible refine Kd.C_alloc ?_ _) | (with_reducible refine Kd.C_drewN ?_ _) | (with_reducible refine Kd.C_drew ?_))); (case side2 => exact (Kd.V_reads' HO600.out).2.1); (case side3 => repeat (first | exact (Kd.C_below HR0.out HB.out) | (with_reducible refine Kd.C_alloc ?_ _) | (with_reducible refine Kd.C_drewN ?_ _) | (with_reducible refine Kd.C_drew ?_))); (case side4 => exact HC0.out); rintro e w34 ⟨rfl, hb⟩; have n0_ := Aside0.mk (Kd.V_below (vq HO600.out) hb); have n1_ := Aside0.mk (Kd.V_below (vq HO604.out) hb); have n2_ := Aside0.mk (Kd.V_below (vq HO608.out) hb); have n3_ := Aside0.mk (below_step (bq HB.out) hb); clear HO600; clear HO604; clear HO608; clear HB; have HO600 := n0_; have HO604 := n1_; have HO608 := n2_; have HB := n3_; clear n0_ n1_ n2_ n3_; (try clear hb); obtain ⟨Ao35, co35, eo35⟩ := Kd.V_slice HO608.out; subst eo35) | (go_at_call 27; (with_reducible refine (nat_Compare.calls kj3 _ _ t606 _ _ l0 t611 _ ?side1 ?side2 ?side3 ?side4 A26.out).mono ?_); (case side1 => repeat (first | exact (Kd.V_reads' HO608.out).2.2 | (with_reducible refine Kd.C_alloc ?_ _) | (with_reducible refine Kd.C_drewN ?_ _) | (with_reducible refine Kd.C_drew ?_))); (case side2 => exact (Kd.V_reads' HO608.out).2.1); (case side3 => repeat (first | exact (Kd.C_below HR0.out HB.out) | (with_reducible refine Kd.C_alloc ?_ _) | (with_reducible refine Kd.C_drewN ?_ _) | (with_reducible refine Kd.C_drew ?_))); (case side4 => exact HC0.out); rintro e w36 ⟨rfl, hb⟩; have n0_ := Aside0.mk (Kd.V_below (vq HO600.out) hb); have n1_ := Aside0.mk (Kd.V_below (vq HO604.out) hb); have n2_ := Aside0.mk (Kd.V_below (vq HO608.out) hb); have n3_ := Aside0.mk (below_step (bq HB.out) hb); clear HO600; clear HO604; clear HO608; clear HB; have HO600 := n0_; have HO604 := n1_; have HO608 := n2_; have HB := n3_; clear n0_ n1_ n2_ n3_; (try clear hb); (try clear hi)) | (go_at_call 29; (with_reducible refine (nat_Bits.calls kj3 _ _ l0 t612 _ ?side1 ?side2 A29.out).mono ?_); (case side1 => repeat (first | exact (Kd.C_below HR0.out HB.out) | (with_reducible refine Kd.C_alloc ?_ _) | (with_reducible refine Kd.C_drewN ?_ _) | (with_reducible refine Kd.C_drew ?_))); (case side2 => exact HC0.out); rintro e w37 ⟨rfl, hb⟩; have n0_ := Aside0.mk (Kd.V_below (vq HO600.out) hb); have n1_ := Aside0.mk (Kd.V_below (vq HO604.out) hb); have n2_ := Aside0.mk (Kd.V_below (vq HO608.out) hb); have n3_ := Aside0.mk (below_step (bq HB.out) hb); clear HO600; clear HO604; clear HO608; clear HB; have HO600 := n0_; have HO604 := n1_; have HO608 := n2_; have HB := n3_; clear n0_ n1_ n2_ n3_; (try clear hb); (try clear hi)) | (go_at_call 29; (with_reducible refine (nat_Bits.calls kj3 _ _ t602 t613 _ ?side1 ?side2 A31.out).mono ?_); (case side1 => repeat (first | exact (Kd.V_reads' HO604.out).2.2 | (with_reducible refine Kd.C_alloc ?_ _) | (with_reducible refine Kd.C_drewN ?_ _) | (with_reducible refine Kd.C_drew ?_))); (case side2 => exact (Kd.V_reads' HO604.out).2.1); rintro e w38 ⟨rfl, hb⟩; have n0_ := Aside0.mk (Kd.V_below (vq HO600.out) hb); have n1_ := Aside0.mk (Kd.V_below (vq HO604.out) hb); have n2_ := Aside0.mk (Kd.V_below (vq HO608.out) hb); have n3_ := Aside0.mk (below_step (bq HB.out) hb); clear HO600; clear HO604; clear HO608; clear HB; have HO600 := n0_; have HO604 := n1_; have HO608 := n2_; have HB := n3_; clear n0_ n1_ n2_ n3_; (try clear hb); (try clear hi)) | (go_at_call 29; (with_reducible refine (nat_Bits.calls kj3 _ _ l0 t614 _ ?side1 ?side2 A32.out).mono ?_); (case side1 => repeat (first | exact (Kd.C_below HR0.out HB.out) | (with_reducible refine Kd.C_alloc ?_ _) | (with_reducible refine Kd.C_drewN ?_ _) | (with_reducible refine Kd.C_drew ?_))); (case side2 => exact HC0.out); rintro e w39 ⟨rfl, hb⟩; have n0_ := Aside0.mk (Kd.V_below (vq HO600.out) hb); have n1_ := Aside0.mk (Kd.V_below (vq HO604.out) hb); have n2_ := Aside0.mk (Kd.V_below (vq HO608.out) hb); have n3_ := Aside0.mk (below_step (bq HB.out) hb); clear HO600; clear HO604; clear HO608; clear HB; have HO600 := n0_; have HO604 := n1_; have HO608 := n2_; have HB := n3_; clear n0_ n1_ n2_ n3_; (try clear hb); (try clear hi)))
                        go_meet
                        case rel => exact ⟨_, ((t613 != (wrap64 (t614 + a2)))), (by rw [show t612 = t614 from Option.some.inj (A29.out.symm.trans A32.out)]; first | done | rfl | (simp only [i64_w]; done) | (simp; done) | (simp [i64_w]; done)), H', ⟨by have := HJ3.out; first | omega | exact Nat.le_refl _⟩, ⟨bq HB.out⟩⟩
                      · rw [if_neg c30] at H
                        have c30b0 : decide (0 < t612) = false := decide_eq_false c30
                        clear c30
                        have H' := Aside0.mk H
                        clear H
                        obtain ⟨Ao40, co40, eo40⟩ := Kd.V_slice HO600.out
                        subst eo40
                        go_wp2_with (first | (go_at_call 27; (with_reducible refine (nat_Compare.calls kj3 _ _ t598 _ _ l0 t610 _ ?side1 ?side2 ?side3 ?side4 A24.out).mono ?_); (case side1 => repeat (first | exact (Kd.V_reads' HO600.out).2.2 | (with_reducible refine Kd.C_alloc ?_ _) | (with_reducible refine Kd.C_drewN ?_ _) | (with_reducible refine Kd.C_drew ?_))); (case side2 => exact (Kd.V_reads' HO600.out).2.1); (case side3 => repeat (first | exact (Kd.C_below HR0.out HB.out) | (with_reducible refine Kd.C_alloc ?_ _) | (with_reducible refine Kd.C_drewN ?_ _) | (with_reducible refine Kd.C_drew ?_))); (case side4 => exact HC0.out); rintro e w41 ⟨rfl, hb⟩; have n0_ := Aside0.mk (Kd.V_below (vq HO600.out) hb); have n1_ := Aside0.mk (Kd.V_below (vq HO604.out) hb); have n2_ := Aside0.mk (Kd.V_below (vq HO608.out) hb); have n3_ := Aside0.mk (below_step (bq HB.out) hb); clear HO600; clear HO604; clear HO608; clear HB; have HO600 := n0_; have HO604 := n1_; have HO608 := n2_; have HB := n3_; clear n0_ n1_ n2_ n3_; (try clear hb); obtain ⟨Ao42, co42, eo42⟩ := Kd.V_slice HO608.out; subst eo42) | (go_at_call 27; (with_reducible refine (nat_Compare.calls kj3 _ _ t606 _ _ l0 t611 _ ?side1 ?side2 ?side3 ?side4 A26.out).mono ?_); (case side1 => repeat (first | exact (Kd.V_reads' HO608.out).2.2 | (with_reducible refine Kd.C_alloc ?_ _) | (with_reducible refine Kd.C_drewN ?_ _) | (with_reducible refine Kd.C_drew ?_))); (case side2 => exact (Kd.V_reads' HO608.out).2.1); (case side3 => repeat (first | exact (Kd.C_below HR0.out HB.out) | (with_reducible refine Kd.C_alloc ?_ _) | (with_reducible refine Kd.C_drewN ?_ _) | (with_reducible refine Kd.C_drew ?_))); (case side4 => exact HC0.out); rintro e w43 ⟨rfl, hb⟩; have n0_ := Aside0.mk (Kd.V_below (vq HO600.out) hb); have n1_ := Aside0.mk (Kd.V_below (vq HO604.out) hb); have n2_ := Aside0.mk (Kd.V_below (vq HO608.out) hb); have n3_ := Aside0.mk (below_step (bq HB.out) hb); clear HO600; clear HO604; clear HO608; clear HB; have HO600 := n0_; have HO604 := n1_; have HO608 := n2_; have HB := n3_; clear n0_ n1_ n2_ n3_; (try clear hb); (try clear hi)) | (go_at_call 29; (with_reducible refine (nat_Bits.calls kj3 _ _ l0 t612 _ ?side1 ?side2 A29.out).mono ?_); (case side1 => repeat (first | exact (Kd.C_below HR0.out HB.out) | (with_reducible refine Kd.C_alloc ?_ _) | (with_reducible refine Kd.C_drewN ?_ _) | (with_reducible refine Kd.C_drew ?_))); (case side2 => exact HC0.out); rintro e w44 ⟨rfl, hb⟩; have n0_ := Aside0.mk (Kd.V_below (vq HO600.out) hb); have n1_ := Aside0.mk (Kd.V_below (vq HO604.out) hb); have n2_ := Aside0.mk (Kd.V_below (vq HO608.out) hb); have n3_ := Aside0.mk (below_step (bq HB.out) hb); clear HO600; clear HO604; clear HO608; clear HB; have HO600 := n0_; have HO604 := n1_; have HO608 := n2_; have HB := n3_; clear n0_ n1_ n2_ n3_; (try clear hb); (try clear hi)))
                        go_meet
                        case rel => exact ⟨_, (false), aq, H', ⟨by have := HJ3.out; first | omega | exact Nat.le_refl _⟩, ⟨bq HB.out⟩⟩
                    · rw [if_neg c28] at H
                      have c28b0 : decide (0 < (l0.length : Int)) = false := decide_eq_false c28
                      have c28b1 : decide (0 < l0.length) = false := decide_eq_false (by omega)
                      clear c28
                      have H' := Aside0.mk H
                      clear H
                      obtain ⟨Ao45, co45, eo45⟩ := Kd.V_slice HO600.out
                      subst eo45
                      go_wp2_with (first | (go_at_call 27; (with_reducible refine (nat_Compare.calls kj3 _ _ t598 _ _ l0 t610 _ ?side1 ?side2 ?side3 ?side4 A24.out).mono ?_); (case side1 => repeat (first | exact (Kd.V_reads' HO600.out).2.2 | (with_reducible refine Kd.C_alloc ?_ _) | (with_reducible refine Kd.C_drewN ?_ _) | (with_reducible refine Kd.C_drew ?_))); (case side2 => exact (Kd.V_reads' HO600.out).2.1); (case side3 => repeat (first | exact (Kd.C_below HR0.out HB.out) | (with_reducible refine Kd.C_alloc ?_ _) | (with_reducible refine Kd.C_drewN ?_ _) | (with_reducible refine Kd.C_drew ?_))); (case side4 => exact HC0.out); rintro e w46 ⟨rfl, hb⟩; have n0_ := Aside0.mk (Kd.V_below (vq HO600.out) hb); have n1_ := Aside0.mk (Kd.V_below (vq HO604.out) hb); have n2_ := Aside0.mk (Kd.V_below (vq HO608.out) hb); have n3_ := Aside0.mk (below_step (bq HB.out) hb); clear HO600; clear HO604; clear HO608; clear HB; have HO600 := n0_; have HO604 := n1_; have HO608 := n2_; have HB := n3_; clear n0_ n1_ n2_ n3_; (try clear hb); obtain ⟨Ao47, co47, eo47⟩ := Kd.V_slice HO608.out; subst eo47) | (go_at_call 27; (with_reducible refine (nat_Compare.calls kj3 _ _ t606 _ _ l0 t611 _ ?side1 ?side2 ?side3 ?side4 A26.out).mono ?_); (case side1 => repeat (first | exact (Kd.V_reads' HO608.out).2.2 | (with_reducible refine Kd.C_alloc ?_ _) | (with_reducible refine Kd.C_drewN ?_ _) | (with_reducible refine Kd.C_drew ?_))); (case side2 => exact (Kd.V_reads' HO608.out).2.1); (case side3 => repeat (first | exact (Kd.C_below HR0.out HB.out) | (with_reducible refine Kd.C_alloc ?_ _) | (with_reducible refine Kd.C_drewN ?_ _) | (with_reducible refine Kd.C_drew ?_))); (case side4 => exact HC0.out); rintro e w48 ⟨rfl, hb⟩; have n0_ := Aside0.mk (Kd.V_below (vq HO600.out) hb); have n1_ := Aside0.mk (Kd.V_below (vq HO604.out) hb); have n2_ := Aside0.mk (Kd.V_below (vq HO608.out) hb); have n3_ := Aside0.mk (below_step (bq HB.out) hb); clear HO600; clear HO604; clear HO608; clear HB; have HO600 := n0_; have HO604 := n1_; have HO608 := n2_; have HB := n3_; clear n0_ n1_ n2_ n3_; (try clear hb); (try clear hi)))
                      go_meet
                      case rel => exact ⟨_, (false), aq, H', ⟨by have := HJ3.out; first | omega | exact Nat.le_refl _⟩, ⟨bq HB.out⟩⟩
                  · rw [if_neg c27] at H
                    have c27b0 : (t611 == 0) = false := beq_eq_false_iff_ne.mpr c27
                    have c27b1 : (t611 != 0) = true := bne_iff_ne.mpr c27
                    have H' := Aside0.mk H
                    clear H
                    obtain ⟨Ao49, co49, eo49⟩ := Kd.V_slice HO600.out
                    subst eo49
                    go_wp2_with (first | (go_at_call 27; (with_reducible refine (nat_Compare.calls kj3 _ _ t598 _ _ l0 t610 _ ?side1 ?side2 ?side3 ?side4 A24.out).mono ?_); (case side1 => repeat (first | exact (Kd.V_reads' HO600.out).2.2 | (with_reducible refine Kd.C_alloc ?_ _) | (with_reducible refine Kd.C_drewN ?_ _) | (with_reducible refine Kd.C_drew ?_))); (case side2 => exact (Kd.V_reads' HO600.out).2.1); (case side3 => repeat (first | exact (Kd.C_below HR0.out HB.out) | (with_reducible refine Kd.C_alloc ?_ _) | (with_reducible refine Kd.C_drewN ?_ _) | (with_reducible refine Kd.C_drew ?_))); (case side4 => exact HC0.out); rintro e w50 ⟨rfl, hb⟩; have n0_ := Aside0.mk (Kd.V_below (vq HO600.out) hb); have n1_ := Aside0.mk (Kd.V_below (vq HO604.out) hb); have n2_ := Aside0.mk (Kd.V_below (vq HO608.out) hb); have n3_ := Aside0.mk (below_step (bq HB.out) hb); clear HO600; clear HO604; clear HO608; clear HB; have HO600 := n0_; have HO604 := n1_; have HO608 := n2_; have HB := n3_; clear n0_ n1_ n2_ n3_; (try clear hb); obtain ⟨Ao51, co51, eo51⟩ := Kd.V_slice HO608.out; subst eo51) | (go_at_call 27; (with_reducible refine (nat_Compare.calls kj3 _ _ t606 _ _ l0 t611 _ ?side1 ?side2 ?side3 ?side4 A26.out).mono ?_); (case side1 => repeat (first | exact (Kd.V_reads' HO608.out).2.2 | (with_reducible refine Kd.C_alloc ?_ _) | (with_reducible refine Kd.C_drewN ?_ _) | (with_reducible refine Kd.C_drew ?_))); (case side2 => exact (Kd.V_reads' HO608.out).2.1); (case side3 => repeat (first | exact (Kd.C_below HR0.out HB.out) | (with_reducible refine Kd.C_alloc ?_ _) | (with_reducible refine Kd.C_drewN ?_ _) | (with_reducible refine Kd.C_drew ?_))); (case side4 => exact HC0.out); rintro e w52 ⟨rfl, hb⟩; have n0_ := Aside0.mk (Kd.V_below (vq HO600.out) hb); have n1_ := Aside0.mk (Kd.V_below (vq HO604.out) hb); have n2_ := Aside0.mk (Kd.V_below (vq HO608.out) hb); have n3_ := Aside0.mk (below_step (bq HB.out) hb); clear HO600; clear HO604; clear HO608; clear HB; have HO600 := n0_; have HO604 := n1_; have HO608 := n2_; have HB := n3_; clear n0_ n1_ n2_ n3_; (try clear hb); (try clear hi)))
                    go_meet
                    case rel => exact ⟨_, (true), aq, H', ⟨by have := HJ3.out; first | omega | exact Nat.le_refl _⟩, ⟨bq HB.out⟩⟩
                · rw [if_neg c25] at H
                  have c25b0 : (t610 == 0) = false := beq_eq_false_iff_ne.mpr c25
                  have c25b1 : (t610 != 0) = true := bne_iff_ne.mpr c25
                  have H' := Aside0.mk H
                  clear H
                  obtain ⟨Ao53, co53, eo53⟩ := Kd.V_slice HO600.out
                  subst eo53
                  go_wp2_with (first | (go_at_call 27; (with_reducible refine (nat_Compare.calls kj3 _ _ t598 _ _ l0 t610 _ ?side1 ?side2 ?side3 ?side4 A24.out).mono ?_); (case side1 => repeat (first | exact (Kd.V_reads' HO600.out).2.2 | (with_reducible refine Kd.C_alloc ?_ _) | (with_reducible refine Kd.C_drewN ?_ _) | (with_reducible refine Kd.C_drew ?_))); (case side2 => exact (Kd.V_reads' HO600.out).2.1); (case side3 => repeat (first | exact (Kd.C_below HR0.out HB.out) | (with_reducible refine Kd.C_alloc ?_ _) | (with_reducible refine Kd.C_drewN ?_ _) | (with_reducible refine Kd.C_drew ?_))); (case side4 => exact HC0.out); rintro e w54 ⟨rfl, hb⟩; have n0_ := Aside0.mk (Kd.V_below (vq HO600.out) hb); have n1_ := Aside0.mk (Kd.V_below (vq HO604.out) hb); have n2_ := Aside0.mk (Kd.V_below (vq HO608.out) hb); have n3_ := Aside0.mk (below_step (bq HB.out) hb); clear HO600; clear HO604; clear HO608; clear HB; have HO600 := n0_; have HO604 := n1_; have HO608 := n2_; have HB := n3_; clear n0_ n1_ n2_ n3_; (try clear hb); (try clear hi)))
                  go_meet
                  case rel => exact ⟨_, (true), aq, H', ⟨by have := HJ3.out; first | omega | exact Nat.le_refl _⟩, ⟨bq HB.out⟩⟩
              · rw [if_neg c23] at H
                have c23b0 : (t609 == 0) = false := beq_eq_false_iff_ne.mpr c23
                have c23b1 : (t609 != 0) = true := bne_iff_ne.mpr c23
                have H' := Aside0.mk H
                clear H
                go_wp2
                go_meet
                case rel => exact ⟨_, (true), aq, H', ⟨by have := HJ3.out; first | omega | exact Nat.le_refl _⟩, ⟨bq HB.out⟩⟩
            · rw [if_neg c22] at H
              have c22b0 : (t605 == 0) = false := beq_eq_false_iff_ne.mpr c22
              have c22b1 : (t605 != 0) = true := bne_iff_ne.mpr c22
              have H' := Aside0.mk H
              clear H
              go_wp2
              go_meet
              case rel => exact ⟨_, (true), aq, H', ⟨by have := HJ3.out; first | omega | exact Nat.le_refl _⟩, ⟨bq HB.out⟩⟩
          · rw [if_neg c21] at H
            have c21b0 : (t601 == 0) = false := beq_eq_false_iff_ne.mpr c21
            have c21b1 : (t601 != 0) = true := bne_iff_ne.mpr c21
            (first | rw [c21b0] | (simp only [i64_w, i32_w]; rw [c21b0]) | rw [c21b1] | skip)
            have H' := Aside0.mk H
            clear H
            go_wp2
            go_meet
            case rel => exact ⟨_, (true), aq, H', ⟨by have := HJ3.out; first | omega | exact Nat.le_refl _⟩, ⟨bq HB.out⟩⟩
        case rest =>
          clear HC15
          try clear c1
          try clear c2
          try clear p2
          try clear c3
          try clear c5
          try clear c5b0
          try clear c5b1
          try clear c6
          try clear c6b0
          try clear c6b1
          try clear p6
          try clear c7
          try clear c7b0
          try clear c8
          try clear c9
          try clear c10
          try clear c13
          try clear c19
          try clear c21
          try clear c21b0
          try clear c21b1
          try clear c22
          try clear c22b0
          try clear c22b1
          try clear c23
          try clear c23b0
          try clear c23b1
          try clear c25
          try clear c25b0
          try clear c25b1
          try clear c27
          try clear c27b0
          try clear c27b1
          try clear c28
          try clear c28b0
          try clear c28b1
          try clear c30
          try clear c30b0
          try clear p2
          obtain ⟨kq, x93_14, rfl, HA, HJ14, HB⟩ := hcut
          cases kq with
          | zero => exact absurd HA.out (by simp [bobbinlaw2_NatBack.j1])
          | succ kj14 =>
            have H := HA.out
            clear HA
            simp only [bobbinlaw2_NatBack.j1] at H
            by_cases c55 : x93_14 = true
            · subst c55
              have H1 : (some false) = some r := by rw [if_pos rfl] at H; exact H
              clear H
              have H := H1
              clear H1
              obtain rfl := Option.some.inj H
              go_wp2
              go_ret
              exact ⟨eq_, bq HB.out⟩
            · replace c55 := Bool.eq_false_iff.mpr c55
              subst c55
              have H1 : ((nat_Compare.f kj14 l1 ([] : List Int)).bind fun t615 => (if t615 = 0 then ((bobbinlaw2_awake.f kj14).bind fun t616 => (some t616)) else ((nat_Divide.f kj14 l0 l1).bind fun bt617 => ((nat_Mul.f kj14 bt617.1 l1).bind fun bt624 => ((nat_Add.f kj14 l0 l1).bind fun t628 => ((nat_Sub.f kj14 t628 l1).bind fun bt631 => (if bt617.2.2 = 0 then (if bt624.2 = 0 then (if bt631.2 = 0 then ((nat_Add.f kj14 bt624.1 bt617.2.1).bind fun t635 => ((nat_Compare.f kj14 t635 l0).bind fun t638 => (if t638 = 0 then ((nat_Compare.f kj14 bt617.2.1 l1).bind fun t639 => (if t639 < 0 then ((nat_Compare.f kj14 bt631.1 l0).bind fun t640 => (if t640 = 0 then ((bobbinlaw2_awake.f kj14).bind fun t641 => (some t641)) else (some false))) else (some false))) else (some false)))) else (some false)) else (some false)) else (some false)))))))) = some r := by rw [if_neg (show ¬ (false = true) by decide)] at H; exact H
              clear H
              have H := H1
              clear H1
              replace H := Option.bind_eq_some_iff.mp H
              obtain ⟨t615, A560, H⟩ := H
              replace H : (if t615 = 0 then ((bobbinlaw2_awake.f kj14).bind fun t616 => (some t616)) else ((nat_Divide.f kj14 l0 l1).bind fun bt617 => ((nat_Mul.f kj14 bt617.1 l1).bind fun bt624 => ((nat_Add.f kj14 l0 l1).bind fun t628 => ((nat_Sub.f kj14 t628 l1).bind fun bt631 => (if bt617.2.2 = 0 then (if bt624.2 = 0 then (if bt631.2 = 0 then ((nat_Add.f kj14 bt624.1 bt617.2.1).bind fun t635 => ((nat_Compare.f kj14 t635 l0).bind fun t638 => (if t638 = 0 then ((nat_Compare.f kj14 bt617.2.1 l1).bind fun t639 => (if t639 < 0 then ((nat_Compare.f kj14 bt631.1 l0).bind fun t640 => (if t640 = 0 then ((bobbinlaw2_awake.f kj14).bind fun t641 => (some t641)) else (some false))) else (some false))) else (some false)))) else (some false)) else (some false)) else (some false))))))) = some r := H
              have A56 := Aside0.mk A560
              clear A560
              by_cases c57 : t615 = 0
              · rw [if_pos c57] at H
                have c57b0 : (t615 == 0) = true := beq_iff_eq.mpr c57
                have c57b1 : (t615 != 0) = false := bne_eq_false_iff_eq.mpr c57
                clear c57
                replace H := Option.bind_eq_some_iff.mp H
                obtain ⟨t616, A580, H⟩ := H
                replace H : (some t616) = some r := H
                have A58 := Aside0.mk A580
                clear A580
                obtain rfl := Option.some.inj H
                go_wp2_with (first | ((with_reducible refine gate_callee (f := 27) rfl ?_); refine goesL_ (some 95) rfl rfl Tryd.func27 (by kernel_rfl) rfl #[.slice A1 l1.length c1, .slice none 0 0] rfl gq ?_; (refine (nat_Compare.calls kj14 _ _ l1 _ _ ([] : List Int) t615 _ ?side1 ?side2 ?side3 ?side4 A56.out).mono ?_); (case side1 => repeat (first | exact (Kd.C_below HR1.out HB.out) | (with_reducible refine Kd.C_alloc ?_ _) | (with_reducible refine Kd.C_drewN ?_ _) | (with_reducible refine Kd.C_drew ?_))); (case side2 => exact HC1.out); (case side3 => exact Kd.C_nil _ _); (case side4 => exact Nat.le_refl _); rintro e w59 ⟨rfl, hb⟩; refine ⟨_, rfl, ?_⟩; have n0_ := Aside0.mk (below_step (bq HB.out) hb); clear HB; have HB := n0_; clear n0_; (try clear hb); (try clear hi)) | ((with_reducible refine gate_callee (f := 9) rfl ?_); refine goesL_ (some 97) rfl rfl Tryd.func9 (by kernel_rfl) rfl #[] rfl gq ?_; (with_reducible refine (bobbinlaw2_awake.calls kj14  t616 _ A58.out).mono ?_); rintro e w60 ⟨rfl, hb⟩; refine ⟨_, rfl, ?_⟩; have n0_ := Aside0.mk (below_step (bq HB.out) hb); clear HB; have HB := n0_; clear n0_; (try clear hb); (try clear hi)))
                go_ret
                exact ⟨eq_, bq HB.out⟩
              · rw [if_neg c57] at H
                have c57b0 : (t615 == 0) = false := beq_eq_false_iff_ne.mpr c57
                have c57b1 : (t615 != 0) = true := bne_iff_ne.mpr c57
                replace H := Option.bind_eq_some_iff.mp H
                obtain ⟨⟨t617, t620, t623⟩, A610, H⟩ := H
                replace H : ((nat_Mul.f kj14 t617 l1).bind fun bt624 => ((nat_Add.f kj14 l0 l1).bind fun t628 => ((nat_Sub.f kj14 t628 l1).bind fun bt631 => (if t623 = 0 then (if bt624.2 = 0 then (if bt631.2 = 0 then ((nat_Add.f kj14 bt624.1 t620).bind fun t635 => ((nat_Compare.f kj14 t635 l0).bind fun t638 => (if t638 = 0 then ((nat_Compare.f kj14 t620 l1).bind fun t639 => (if t639 < 0 then ((nat_Compare.f kj14 bt631.1 l0).bind fun t640 => (if t640 = 0 then ((bobbinlaw2_awake.f kj14).bind fun t641 => (some t641)) else (some false))) else (some false))) else (some false)))) else (some false)) else (some false)) else (some false))))) = some r := H
                have A61 := Aside0.mk A610
                clear A610
                replace H := Option.bind_eq_some_iff.mp H
                obtain ⟨⟨t624, t627⟩, A620, H⟩ := H
                replace H : ((nat_Add.f kj14 l0 l1).bind fun t628 => ((nat_Sub.f kj14 t628 l1).bind fun bt631 => (if t623 = 0 then (if t627 = 0 then (if bt631.2 = 0 then ((nat_Add.f kj14 t624 t620).bind fun t635 => ((nat_Compare.f kj14 t635 l0).bind fun t638 => (if t638 = 0 then ((nat_Compare.f kj14 t620 l1).bind fun t639 => (if t639 < 0 then ((nat_Compare.f kj14 bt631.1 l0).bind fun t640 => (if t640 = 0 then ((bobbinlaw2_awake.f kj14).bind fun t641 => (some t641)) else (some false))) else (some false))) else (some false)))) else (some false)) else (some false)) else (some false)))) = some r := H
                have A62 := Aside0.mk A620
                clear A620
                replace H := Option.bind_eq_some_iff.mp H
                obtain ⟨t628, A630, H⟩ := H
                replace H : ((nat_Sub.f kj14 t628 l1).bind fun bt631 => (if t623 = 0 then (if t627 = 0 then (if bt631.2 = 0 then ((nat_Add.f kj14 t624 t620).bind fun t635 => ((nat_Compare.f kj14 t635 l0).bind fun t638 => (if t638 = 0 then ((nat_Compare.f kj14 t620 l1).bind fun t639 => (if t639 < 0 then ((nat_Compare.f kj14 bt631.1 l0).bind fun t640 => (if t640 = 0 then ((bobbinlaw2_awake.f kj14).bind fun t641 => (some t641)) else (some false))) else (some false))) else (some false)))) else (some false)) else (some false)) else (some false))) = some r := H
                have A63 := Aside0.mk A630
                clear A630
                replace H := Option.bind_eq_some_iff.mp H
                obtain ⟨⟨t631, t632⟩, A640, H⟩ := H
                replace H : (if t623 = 0 then (if t627 = 0 then (if t632 = 0 then ((nat_Add.f kj14 t624 t620).bind fun t635 => ((nat_Compare.f kj14 t635 l0).bind fun t638 => (if t638 = 0 then ((nat_Compare.f kj14 t620 l1).bind fun t639 => (if t639 < 0 then ((nat_Compare.f kj14 t631 l0).bind fun t640 => (if t640 = 0 then ((bobbinlaw2_awake.f kj14).bind fun t641 => (some t641)) else (some false))) else (some false))) else (some false)))) else (some false)) else (some false)) else (some false)) = some r := H
                have A64 := Aside0.mk A640
                clear A640
                by_cases c65 : t623 = 0
                · rw [if_pos c65] at H
                  have c65b0 : (t623 == 0) = true := beq_iff_eq.mpr c65
                  have c65b1 : (t623 != 0) = false := bne_eq_false_iff_eq.mpr c65
                  clear c65
                  by_cases c66 : t627 = 0
                  · rw [if_pos c66] at H
                    have c66b0 : (t627 == 0) = true := beq_iff_eq.mpr c66
                    have c66b1 : (t627 != 0) = false := bne_eq_false_iff_eq.mpr c66
                    clear c66
                    by_cases c67 : t632 = 0
                    · rw [if_pos c67] at H
                      have c67b0 : (t632 == 0) = true := beq_iff_eq.mpr c67
                      have c67b1 : (t632 != 0) = false := bne_eq_false_iff_eq.mpr c67
                      clear c67
                      replace H := Option.bind_eq_some_iff.mp H
                      obtain ⟨t635, A680, H⟩ := H
                      replace H : ((nat_Compare.f kj14 t635 l0).bind fun t638 => (if t638 = 0 then ((nat_Compare.f kj14 t620 l1).bind fun t639 => (if t639 < 0 then ((nat_Compare.f kj14 t631 l0).bind fun t640 => (if t640 = 0 then ((bobbinlaw2_awake.f kj14).bind fun t641 => (some t641)) else (some false))) else (some false))) else (some false))) = some r := H
                      have A68 := Aside0.mk A680
                      clear A680
                      replace H := Option.bind_eq_some_iff.mp H
                      obtain ⟨t638, A690, H⟩ := H
                      replace H : (if t638 = 0 then ((nat_Compare.f kj14 t620 l1).bind fun t639 => (if t639 < 0 then ((nat_Compare.f kj14 t631 l0).bind fun t640 => (if t640 = 0 then ((bobbinlaw2_awake.f kj14).bind fun t641 => (some t641)) else (some false))) else (some false))) else (some false)) = some r := H
                      have A69 := Aside0.mk A690
                      clear A690
                      by_cases c70 : t638 = 0
                      · rw [if_pos c70] at H
                        have c70b0 : (t638 == 0) = true := beq_iff_eq.mpr c70
                        have c70b1 : (t638 != 0) = false := bne_eq_false_iff_eq.mpr c70
                        clear c70
                        replace H := Option.bind_eq_some_iff.mp H
                        obtain ⟨t639, A710, H⟩ := H
                        replace H : (if t639 < 0 then ((nat_Compare.f kj14 t631 l0).bind fun t640 => (if t640 = 0 then ((bobbinlaw2_awake.f kj14).bind fun t641 => (some t641)) else (some false))) else (some false)) = some r := H
                        have A71 := Aside0.mk A710
                        clear A710
                        by_cases c72 : t639 < 0
                        · rw [if_pos c72] at H
                          have c72b0 : decide (t639 < 0) = true := decide_eq_true c72
                          clear c72
                          replace H := Option.bind_eq_some_iff.mp H
                          obtain ⟨t640, A730, H⟩ := H
                          replace H : (if t640 = 0 then ((bobbinlaw2_awake.f kj14).bind fun t641 => (some t641)) else (some false)) = some r := H
                          have A73 := Aside0.mk A730
                          clear A730
                          by_cases c74 : t640 = 0
                          · rw [if_pos c74] at H
                            have c74b0 : (t640 == 0) = true := beq_iff_eq.mpr c74
                            have c74b1 : (t640 != 0) = false := bne_eq_false_iff_eq.mpr c74
                            clear c74
                            replace H := Option.bind_eq_some_iff.mp H
                            obtain ⟨t641, A750, H⟩ := H
                            replace H : (some t641) = some r := H
                            have A75 := Aside0.mk A750
                            clear A750
                            obtain rfl := Option.some.inj H
                            go_wp2_with (first | ((with_reducible refine gate_callee (f := 27) rfl ?_); refine goesL_ (some 95) rfl rfl Tryd.func27 (by kernel_rfl) rfl #[.slice A1 l1.length c1, .slice none 0 0] rfl gq ?_; (refine (nat_Compare.calls kj14 _ _ l1 _ _ ([] : List Int) t615 _ ?side1 ?side2 ?side3 ?side4 A56.out).mono ?_); (case side1 => repeat (first | exact (Kd.C_below HR1.out HB.out) | (with_reducible refine Kd.C_alloc ?_ _) | (with_reducible refine Kd.C_drewN ?_ _) | (with_reducible refine Kd.C_drew ?_))); (case side2 => exact HC1.out); (case side3 => exact Kd.C_nil _ _); (case side4 => exact Nat.le_refl _); rintro e w76 ⟨rfl, hb⟩; refine ⟨_, rfl, ?_⟩; have n0_ := Aside0.mk (below_step (bq HB.out) hb); clear HB; have HB := n0_; clear n0_; (try clear hb); (try clear hi)) | ((with_reducible refine gate_callee (f := 31) rfl ?_); refine goesL_ (some 101) rfl rfl Tryd.func31 (by kernel_rfl) rfl #[.slice A0 l0.length c0, .slice A1 l1.length c1] rfl gq ?_; (with_reducible refine (nat_Divide.calls kj14 (fun k_ => k_ < w.heap.size) _ _ l0 (fun k_ => k_ < w.heap.size) _ _ l1 t617 t620 t623 _ ?side1 ?side2 A61.out).mono ?_); (case side1 => exact Kd.V_mk HC0.out (Kd.F_below (Kd.C_F (Kd.heap_int .u32) HR0.out) (bq HB.out))); (case side2 => exact Kd.V_mk HC1.out (Kd.F_below (Kd.C_F (Kd.heap_int .u32) HR1.out) (bq HB.out))); rintro e w77 ⟨v618, v621, rfl, ho0, ho1, hb⟩; refine ⟨_, rfl, ?_⟩; have n0_ := Aside0.mk (Kd.V_lower (Kd.V_mono (ok' := fun k_ => True) ho0 (fun k_ hk_ => trivial)) (below_size (bq HB.out))); have n1_ := Aside0.mk (Kd.V_lower (Kd.V_mono (ok' := fun k_ => True) ho1 (fun k_ hk_ => trivial)) (below_size (bq HB.out))); have n2_ := Aside0.mk (below_step (bq HB.out) hb); clear HB; have HO619 := n0_; have HO622 := n1_; have HB := n2_; clear n0_ n1_ n2_; (try clear hb); (try clear ho0); (try clear ho1); obtain ⟨Ao78, co78, eo78⟩ := Kd.V_slice HO619.out; subst eo78) | ((with_reducible refine gate_callee (f := 16) rfl ?_); refine goesL_ (some 108) rfl rfl Tryd.func16 (by kernel_rfl) rfl #[.slice Ao78 t617.length co78, .slice A1 l1.length c1] rfl gq ?_; (with_reducible refine (nat_Mul.calls kj14 (fun k_ => True) _ _ t617 (fun k_ => k_ < w.heap.size) _ _ l1 t624 t627 _ ?side1 ?side2 A62.out).mono ?_); (case side1 => exact HO619.out); (case side2 => exact Kd.V_mk HC1.out (Kd.F_below (Kd.C_F (Kd.heap_int .u32) HR1.out) (bq HB.out))); rintro e w79 ⟨v625, rfl, ho0, hb⟩; refine ⟨_, rfl, ?_⟩; have n0_ := Aside0.mk (Kd.V_below (vq HO619.out) hb); have n1_ := Aside0.mk (Kd.V_below (vq HO622.out) hb); have n2_ := Aside0.mk (Kd.V_lower (Kd.V_mono (ok' := fun k_ => True) ho0 (fun k_ hk_ => trivial)) (below_size (bq HB.out))); have n3_ := Aside0.mk (below_step (bq HB.out) hb); clear HO619; clear HO622; clear HB; have HO619 := n0_; have HO622 := n1_; have HO626 := n2_; have HB := n3_; clear n0_ n1_ n2_ n3_; (try clear hb); (try clear ho0)) | ((with_reducible refine gate_callee (f := 21) rfl ?_); refine goesL_ (some 114) rfl rfl Tryd.func21 (by kernel_rfl) rfl #[.slice A0 l0.length c0, .slice A1 l1.length c1] rfl gq ?_; (with_reducible refine (nat_Add.calls kj14 _ _ l0 _ _ l1 t628 _ ?side1 ?side2 ?side3 ?side4 A63.out).mono ?_); (case side1 => repeat (first | exact (Kd.C_below HR0.out HB.out) | (with_reducible refine Kd.C_alloc ?_ _) | (with_reducible refine Kd.C_drewN ?_ _) | (with_reducible refine Kd.C_drew ?_))); (case side2 => exact HC0.out); (case side3 => repeat (first | exact (Kd.C_below HR1.out HB.out) | (with_reducible refine Kd.C_alloc ?_ _) | (with_reducible refine Kd.C_drewN ?_ _) | (with_reducible refine Kd.C_drew ?_))); (case side4 => exact HC1.out); rintro e w80 ⟨v629, rfl, ho0, hb⟩; refine ⟨_, rfl, ?_⟩; have n0_ := Aside0.mk (Kd.V_elder' (vq HO619.out) (Kd.R_base ho0) hb); have n1_ := Aside0.mk (Kd.V_elder' (vq HO622.out) (Kd.R_base ho0) hb); have n2_ := Aside0.mk (Kd.V_elder' (vq HO626.out) (Kd.R_base ho0) hb); have n3_ := Aside0.mk (Kd.R_lower ho0 (below_size (bq HB.out))); have n4_ := Aside0.mk (below_step (bq HB.out) hb); clear HO619; clear HO622; clear HO626; clear HB; have HO619 := n0_; have HO622 := n1_; have HO626 := n2_; have HO630 := n3_; have HB := n4_; clear n0_ n1_ n2_ n3_ n4_; (try clear hb); (try clear ho0); obtain ⟨Ao81, co81, eo81⟩ := Kd.R_slice HO630.out; subst eo81) | ((with_reducible refine gate_callee (f := 22) rfl ?_); refine goesL_ (some 116) rfl rfl Tryd.func22 (by kernel_rfl) rfl #[.slice Ao81 t628.length co81, .slice A1 l1.length c1] rfl gq ?_; (with_reducible refine (nat_Sub.calls kj14 _ _ t628 _ _ l1 t631 t632 _ ?side1 ?side2 ?side3 ?side4 A64.out).mono ?_); (case side1 => repeat (first | exact (Kd.R_reads' HO630.out).2.2 | (with_reducible refine Kd.C_alloc ?_ _) | (with_reducible refine Kd.C_drewN ?_ _) | (with_reducible refine Kd.C_drew ?_))); (case side2 => exact (Kd.R_reads' HO630.out).2.1); (case side3 => repeat (first | exact (Kd.C_below HR1.out HB.out) | (with_reducible refine Kd.C_alloc ?_ _) | (with_reducible refine Kd.C_drewN ?_ _) | (with_reducible refine Kd.C_drew ?_))); (case side4 => exact HC1.out); rintro e w82 ⟨v633, rfl, ho0, hb⟩; refine ⟨_, rfl, ?_⟩; have n0_ := Aside0.mk (Kd.V_elder' (vq HO619.out) (Kd.R_base ho0) hb); have n1_ := Aside0.mk (Kd.V_elder' (vq HO622.out) (Kd.R_base ho0) hb); have n2_ := Aside0.mk (Kd.V_elder' (vq HO626.out) (Kd.R_base ho0) hb); have n3_ := Aside0.mk (Kd.R_elder' (rq HO630.out) (Kd.R_base ho0) hb); have n4_ := Aside0.mk (Kd.R_lower (Kd.R_new' ho0 (Kd.R_lt (rq HO630.out))) (below_size (bq HB.out))); have n5_ := Aside0.mk (below_step (bq HB.out) hb); clear HO619; clear HO622; clear HO626; clear HO630; clear HB; have HO619 := n0_; have HO622 := n1_; have HO626 := n2_; have HO630 := n3_; have HO634 := n4_; have HB := n5_; clear n0_ n1_ n2_ n3_ n4_ n5_; (try clear hb); (try clear ho0); obtain ⟨Ao83, co83, eo83⟩ := Kd.V_slice HO626.out; subst eo83; obtain ⟨Ao84, co84, eo84⟩ := Kd.V_slice HO622.out; subst eo84) | (go_at_call 21; (with_reducible refine (nat_Add.calls kj14 _ _ t624 _ _ t620 t635 _ ?side1 ?side2 ?side3 ?side4 A68.out).mono ?_); (case side1 => repeat (first | exact (Kd.V_reads' HO626.out).2.2 | (with_reducible refine Kd.C_alloc ?_ _) | (with_reducible refine Kd.C_drewN ?_ _) | (with_reducible refine Kd.C_drew ?_))); (case side2 => exact (Kd.V_reads' HO626.out).2.1); (case side3 => repeat (first | exact (Kd.V_reads' HO622.out).2.2 | (with_reducible refine Kd.C_alloc ?_ _) | (with_reducible refine Kd.C_drewN ?_ _) | (with_reducible refine Kd.C_drew ?_))); (case side4 => exact (Kd.V_reads' HO622.out).2.1); rintro e w85 ⟨v636, rfl, ho0, hb⟩; have n0_ := Aside0.mk (Kd.V_elder' (vq HO619.out) (Kd.R_base ho0) hb); have n1_ := Aside0.mk (Kd.V_elder' (vq HO622.out) (Kd.R_base ho0) hb); have n2_ := Aside0.mk (Kd.V_elder' (vq HO626.out) (Kd.R_base ho0) hb); have n3_ := Aside0.mk (Kd.R_elder' (rq HO630.out) (Kd.R_base ho0) hb); have n4_ := Aside0.mk (Kd.R_elder' (rq HO634.out) (Kd.R_base ho0) hb); have n5_ := Aside0.mk (Kd.R_lower (Kd.R_new' (Kd.R_new' ho0 (Kd.R_lt (rq HO630.out))) (Kd.R_lt (rq HO634.out))) (below_size (bq HB.out))); have n6_ := Aside0.mk (below_step (bq HB.out) hb); clear HO619; clear HO622; clear HO626; clear HO630; clear HO634; clear HB; have HO619 := n0_; have HO622 := n1_; have HO626 := n2_; have HO630 := n3_; have HO634 := n4_; have HO637 := n5_; have HB := n6_; clear n0_ n1_ n2_ n3_ n4_ n5_ n6_; (try clear hb); (try clear ho0); obtain ⟨Ao86, co86, eo86⟩ := Kd.R_slice HO637.out; subst eo86) | (go_at_call 27; (with_reducible refine (nat_Compare.calls kj14 _ _ t635 _ _ l0 t638 _ ?side1 ?side2 ?side3 ?side4 A69.out).mono ?_); (case side1 => repeat (first | exact (Kd.R_reads' HO637.out).2.2 | (with_reducible refine Kd.C_alloc ?_ _) | (with_reducible refine Kd.C_drewN ?_ _) | (with_reducible refine Kd.C_drew ?_))); (case side2 => exact (Kd.R_reads' HO637.out).2.1); (case side3 => repeat (first | exact (Kd.C_below HR0.out HB.out) | (with_reducible refine Kd.C_alloc ?_ _) | (with_reducible refine Kd.C_drewN ?_ _) | (with_reducible refine Kd.C_drew ?_))); (case side4 => exact HC0.out); rintro e w87 ⟨rfl, hb⟩; have n0_ := Aside0.mk (Kd.V_below (vq HO619.out) hb); have n1_ := Aside0.mk (Kd.V_below (vq HO622.out) hb); have n2_ := Aside0.mk (Kd.V_below (vq HO626.out) hb); have n3_ := Aside0.mk (Kd.R_below (rq HO630.out) hb); have n4_ := Aside0.mk (Kd.R_below (rq HO634.out) hb); have n5_ := Aside0.mk (Kd.R_below (rq HO637.out) hb); have n6_ := Aside0.mk (below_step (bq HB.out) hb); clear HO619; clear HO622; clear HO626; clear HO630; clear HO634; clear HO637; clear HB; have HO619 := n0_; have HO622 := n1_; have HO626 := n2_; have HO630 := n3_; have HO634 := n4_; have HO637 := n5_; have HB := n6_; clear n0_ n1_ n2_ n3_ n4_ n5_ n6_; (try clear hb); (try clear hi)) | (go_at_call 27; (with_reducible refine (nat_Compare.calls kj14 _ _ t620 _ _ l1 t639 _ ?side1 ?side2 ?side3 ?side4 A71.out).mono ?_); (case side1 => repeat (first | exact (Kd.V_reads' HO622.out).2.2 | (with_reducible refine Kd.C_alloc ?_ _) | (with_reducible refine Kd.C_drewN ?_ _) | (with_reducible refine Kd.C_drew ?_))); (case side2 => exact (Kd.V_reads' HO622.out).2.1); (case side3 => repeat (first | exact (Kd.C_below HR1.out HB.out) | (with_reducible refine Kd.C_alloc ?_ _) | (with_reducible refine Kd.C_drewN ?_ _) | (with_reducible refine Kd.C_drew ?_))); (case side4 => exact HC1.out); rintro e w88 ⟨rfl, hb⟩; have n0_ := Aside0.mk (Kd.V_below (vq HO619.out) hb); have n1_ := Aside0.mk (Kd.V_below (vq HO622.out) hb); have n2_ := Aside0.mk (Kd.V_below (vq HO626.out) hb); have n3_ := Aside0.mk (Kd.R_below (rq HO630.out) hb); have n4_ := Aside0.mk (Kd.R_below (rq HO634.out) hb); have n5_ := Aside0.mk (Kd.R_below (rq HO637.out) hb); have n6_ := Aside0.mk (below_step (bq HB.out) hb); clear HO619; clear HO622; clear HO626; clear HO630; clear HO634; clear HO637; clear HB; have HO619 := n0_; have HO622 := n1_; have HO626 := n2_; have HO630 := n3_; have HO634 := n4_; have HO637 := n5_; have HB := n6_; clear n0_ n1_ n2_ n3_ n4_ n5_ n6_; (try clear hb); obtain ⟨Ao89, co89, eo89⟩ := Kd.R_slice HO634.out; subst eo89) | (go_at_call 27; (with_reducible refine (nat_Compare.calls kj14 _ _ t631 _ _ l0 t640 _ ?side1 ?side2 ?side3 ?side4 A73.out).mono ?_); (case side1 => repeat (first | exact (Kd.R_reads' HO634.out).2.2 | (with_reducible refine Kd.C_alloc ?_ _) | (with_reducible refine Kd.C_drewN ?_ _) | (with_reducible refine Kd.C_drew ?_))); (case side2 => exact (Kd.R_reads' HO634.out).2.1); (case side3 => repeat (first | exact (Kd.C_below HR0.out HB.out) | (with_reducible refine Kd.C_alloc ?_ _) | (with_reducible refine Kd.C_drewN ?_ _) | (with_reducible refine Kd.C_drew ?_))); (case side4 => exact HC0.out); rintro e w90 ⟨rfl, hb⟩; have n0_ := Aside0.mk (Kd.V_below (vq HO619.out) hb); have n1_ := Aside0.mk (Kd.V_below (vq HO622.out) hb); have n2_ := Aside0.mk (Kd.V_below (vq HO626.out) hb); have n3_ := Aside0.mk (Kd.R_below (rq HO630.out) hb); have n4_ := Aside0.mk (Kd.R_below (rq HO634.out) hb); have n5_ := Aside0.mk (Kd.R_below (rq HO637.out) hb); have n6_ := Aside0.mk (below_step (bq HB.out) hb); clear HO619; clear HO622; clear HO626; clear HO630; clear HO634; clear HO637; clear HB; have HO619 := n0_; have HO622 := n1_; have HO626 := n2_; have HO630 := n3_; have HO634 := n4_; have HO637 := n5_; have HB := n6_; clear n0_ n1_ n2_ n3_ n4_ n5_ n6_; (try clear hb); (try clear hi)) | (go_at_call 9; (with_reducible refine (bobbinlaw2_awake.calls kj14  t641 _ A75.out).mono ?_); rintro e w91 ⟨rfl, hb⟩; have n0_ := Aside0.mk (Kd.V_below (vq HO619.out) hb); have n1_ := Aside0.mk (Kd.V_below (vq HO622.out) hb); have n2_ := Aside0.mk (Kd.V_below (vq HO626.out) hb); have n3_ := Aside0.mk (Kd.R_below (rq HO630.out) hb); have n4_ := Aside0.mk (Kd.R_below (rq HO634.out) hb); have n5_ := Aside0.mk (Kd.R_below (rq HO637.out) hb); have n6_ := Aside0.mk (below_step (bq HB.out) hb); clear HO619; clear HO622; clear HO626; clear HO630; clear HO634; clear HO637; clear HB; have HO619 := n0_; have HO622 := n1_; have HO626 := n2_; have HO630 := n3_; have HO634 := n4_; have HO637 := n5_; have HB := n6_; clear n0_ n1_ n2_ n3_ n4_ n5_ n6_; (try clear hb); (try clear hi)))
                            go_ret
                            exact ⟨eq_, bq HB.out⟩
                          · rw [if_neg c74] at H
                            have c74b0 : (t640 == 0) = false := beq_eq_false_iff_ne.mpr c74
                            have c74b1 : (t640 != 0) = true := bne_iff_ne.mpr c74
                            obtain rfl := Option.some.inj H
                            go_wp2_with (first | ((with_reducible refine gate_callee (f := 27) rfl ?_); refine goesL_ (some 95) rfl rfl Tryd.func27 (by kernel_rfl) rfl #[.slice A1 l1.length c1, .slice none 0 0] rfl gq ?_; (refine (nat_Compare.calls kj14 _ _ l1 _ _ ([] : List Int) t615 _ ?side1 ?side2 ?side3 ?side4 A56.out).mono ?_); (case side1 => repeat (first | exact (Kd.C_below HR1.out HB.out) | (with_reducible refine Kd.C_alloc ?_ _) | (with_reducible refine Kd.C_drewN ?_ _) | (with_reducible refine Kd.C_drew ?_))); (case side2 => exact HC1.out); (case side3 => exact Kd.C_nil _ _); (case side4 => exact Nat.le_refl _); rintro e w92 ⟨rfl, hb⟩; refine ⟨_, rfl, ?_⟩; have n0_ := Aside0.mk (below_step (bq HB.out) hb); clear HB; have HB := n0_; clear n0_; (try clear hb); (try clear hi)) | ((with_reducible refine gate_callee (f := 31) rfl ?_); refine goesL_ (some 101) rfl rfl Tryd.func31 (by kernel_rfl) rfl #[.slice A0 l0.length c0, .slice A1 l1.length c1] rfl gq ?_; (with_reducible refine (nat_Divide.calls kj14 (fun k_ => k_ < w.heap.size) _ _ l0 (fun k_ => k_ < w.heap.size) _ _ l1 t617 t620 t623 _ ?side1 ?side2 A61.out).mono ?_); (case side1 => exact Kd.V_mk HC0.out (Kd.F_below (Kd.C_F (Kd.heap_int .u32) HR0.out) (bq HB.out))); (case side2 => exact Kd.V_mk HC1.out (Kd.F_below (Kd.C_F (Kd.heap_int .u32) HR1.out) (bq HB.out))); rintro e w93 ⟨v618, v621, rfl, ho0, ho1, hb⟩; refine ⟨_, rfl, ?_⟩; have n0_ := Aside0.mk (Kd.V_lower (Kd.V_mono (ok' := fun k_ => True) ho0 (fun k_ hk_ => trivial)) (below_size (bq HB.out))); have n1_ := Aside0.mk (Kd.V_lower (Kd.V_mono (ok' := fun k_ => True) ho1 (fun k_ hk_ => trivial)) (below_size (bq HB.out))); have n2_ := Aside0.mk (below_step (bq HB.out) hb); clear HB; have HO619 := n0_; have HO622 := n1_; have HB := n2_; clear n0_ n1_ n2_; (try clear hb); (try clear ho0); (try clear ho1); obtain ⟨Ao94, co94, eo94⟩ := Kd.V_slice HO619.out; subst eo94) | ((with_reducible refine gate_callee (f := 16) rfl ?_); refine goesL_ (some 108) rfl rfl Tryd.func16 (by kernel_rfl) rfl #[.slice Ao94 t617.length co94, .slice A1 l1.length c1] rfl gq ?_; (with_reducible refine (nat_Mul.calls kj14 (fun k_ => True) _ _ t617 (fun k_ => k_ < w.heap.size) _ _ l1 t624 t627 _ ?side1 ?side2 A62.out).mono ?_); (case side1 => exact HO619.out); (case side2 => exact Kd.V_mk HC1.out (Kd.F_below (Kd.C_F (Kd.heap_int .u32) HR1.out) (bq HB.out))); rintro e w95 ⟨v625, rfl, ho0, hb⟩; refine ⟨_, rfl, ?_⟩; have n0_ := Aside0.mk (Kd.V_below (vq HO619.out) hb); have n1_ := Aside0.mk (Kd.V_below (vq HO622.out) hb); have n2_ := Aside0.mk (Kd.V_lower (Kd.V_mono (ok' := fun k_ => True) ho0 (fun k_ hk_ => trivial)) (below_size (bq HB.out))); have n3_ := Aside0.mk (below_step (bq HB.out) hb); clear HO619; clear HO622; clear HB; have HO619 := n0_; have HO622 := n1_; have HO626 := n2_; have HB := n3_; clear n0_ n1_ n2_ n3_; (try clear hb); (try clear ho0)) | ((with_reducible refine gate_callee (f := 21) rfl ?_); refine goesL_ (some 114) rfl rfl Tryd.func21 (by kernel_rfl) rfl #[.slice A0 l0.length c0, .slice A1 l1.length c1] rfl gq ?_; (with_reducible refine (nat_Add.calls kj14 _ _ l0 _ _ l1 t628 _ ?side1 ?side2 ?side3 ?side4 A63.out).mono ?_); (case side1 => repeat (first | exact (Kd.C_below HR0.out HB.out) | (with_reducible refine Kd.C_alloc ?_ _) | (with_reducible refine Kd.C_drewN ?_ _) | (with_reducible refine Kd.C_drew ?_))); (case side2 => exact HC0.out); (case side3 => repeat (first | exact (Kd.C_below HR1.out HB.out) | (with_reducible refine Kd.C_alloc ?_ _) | (with_reducible refine Kd.C_drewN ?_ _) | (with_reducible refine Kd.C_drew ?_))); (case side4 => exact HC1.out); rintro e w96 ⟨v629, rfl, ho0, hb⟩; refine ⟨_, rfl, ?_⟩; have n0_ := Aside0.mk (Kd.V_elder' (vq HO619.out) (Kd.R_base ho0) hb); have n1_ := Aside0.mk (Kd.V_elder' (vq HO622.out) (Kd.R_base ho0) hb); have n2_ := Aside0.mk (Kd.V_elder' (vq HO626.out) (Kd.R_base ho0) hb); have n3_ := Aside0.mk (Kd.R_lower ho0 (below_size (bq HB.out))); have n4_ := Aside0.mk (below_step (bq HB.out) hb); clear HO619; clear HO622; clear HO626; clear HB; have HO619 := n0_; have HO622 := n1_; have HO626 := n2_; have HO630 := n3_; have HB := n4_; clear n0_ n1_ n2_ n3_ n4_; (try clear hb); (try clear ho0); obtain ⟨Ao97, co97, eo97⟩ := Kd.R_slice HO630.out; subst eo97) | ((with_reducible refine gate_callee (f := 22) rfl ?_); refine goesL_ (some 116) rfl rfl Tryd.func22 (by kernel_rfl) rfl #[.slice Ao97 t628.length co97, .slice A1 l1.length c1] rfl gq ?_; (with_reducible refine (nat_Sub.calls kj14 _ _ t628 _ _ l1 t631 t632 _ ?side1 ?side2 ?side3 ?side4 A64.out).mono ?_); (case side1 => repeat (first | exact (Kd.R_reads' HO630.out).2.2 | (with_reducible refine Kd.C_alloc ?_ _) | (with_reducible refine Kd.C_drewN ?_ _) | (with_reducible refine Kd.C_drew ?_))); (case side2 => exact (Kd.R_reads' HO630.out).2.1); (case side3 => repeat (first | exact (Kd.C_below HR1.out HB.out) | (with_reducible refine Kd.C_alloc ?_ _) | (with_reducible refine Kd.C_drewN ?_ _) | (with_reducible refine Kd.C_drew ?_))); (case side4 => exact HC1.out); rintro e w98 ⟨v633, rfl, ho0, hb⟩; refine ⟨_, rfl, ?_⟩; have n0_ := Aside0.mk (Kd.V_elder' (vq HO619.out) (Kd.R_base ho0) hb); have n1_ := Aside0.mk (Kd.V_elder' (vq HO622.out) (Kd.R_base ho0) hb); have n2_ := Aside0.mk (Kd.V_elder' (vq HO626.out) (Kd.R_base ho0) hb); have n3_ := Aside0.mk (Kd.R_elder' (rq HO630.out) (Kd.R_base ho0) hb); have n4_ := Aside0.mk (Kd.R_lower (Kd.R_new' ho0 (Kd.R_lt (rq HO630.out))) (below_size (bq HB.out))); have n5_ := Aside0.mk (below_step (bq HB.out) hb); clear HO619; clear HO622; clear HO626; clear HO630; clear HB; have HO619 := n0_; have HO622 := n1_; have HO626 := n2_; have HO630 := n3_; have HO634 := n4_; have HB := n5_; clear n0_ n1_ n2_ n3_ n4_ n5_; (try clear hb); (try clear ho0); obtain ⟨Ao99, co99, eo99⟩ := Kd.V_slice HO626.out; subst eo99; obtain ⟨Ao100, co100, eo100⟩ := Kd.V_slice HO622.out; subst eo100) | (go_at_call 21; (with_reducible refine (nat_Add.calls kj14 _ _ t624 _ _ t620 t635 _ ?side1 ?side2 ?side3 ?side4 A68.out).mono ?_); (case side1 => repeat (first | exact (Kd.V_reads' HO626.out).2.2 | (with_reducible refine Kd.C_alloc ?_ _) | (with_reducible refine Kd.C_drewN ?_ _) | (with_reducible refine Kd.C_drew ?_))); (case side2 => exact (Kd.V_reads' HO626.out).2.1); (case side3 => repeat (first | exact (Kd.V_reads' HO622.out).2.2 | (with_reducible refine Kd.C_alloc ?_ _) | (with_reducible refine Kd.C_drewN ?_ _) | (with_reducible refine Kd.C_drew ?_))); (case side4 => exact (Kd.V_reads' HO622.out).2.1); rintro e w101 ⟨v636, rfl, ho0, hb⟩; have n0_ := Aside0.mk (Kd.V_elder' (vq HO619.out) (Kd.R_base ho0) hb); have n1_ := Aside0.mk (Kd.V_elder' (vq HO622.out) (Kd.R_base ho0) hb); have n2_ := Aside0.mk (Kd.V_elder' (vq HO626.out) (Kd.R_base ho0) hb); have n3_ := Aside0.mk (Kd.R_elder' (rq HO630.out) (Kd.R_base ho0) hb); have n4_ := Aside0.mk (Kd.R_elder' (rq HO634.out) (Kd.R_base ho0) hb); have n5_ := Aside0.mk (Kd.R_lower (Kd.R_new' (Kd.R_new' ho0 (Kd.R_lt (rq HO630.out))) (Kd.R_lt (rq HO634.out))) (below_size (bq HB.out))); have n6_ := Aside0.mk (below_step (bq HB.out) hb); clear HO619; clear HO622; clear HO626; clear HO630; clear HO634; clear HB; have HO619 := n0_; have HO622 := n1_; have HO626 := n2_; have HO630 := n3_; have HO634 := n4_; have HO637 := n5_; have HB := n6_; clear n0_ n1_ n2_ n3_ n4_ n5_ n6_; (try clear hb); (try clear ho0); obtain ⟨Ao102, co102, eo102⟩ := Kd.R_slice HO637.out; subst eo102) | (go_at_call 27; (with_reducible refine (nat_Compare.calls kj14 _ _ t635 _ _ l0 t638 _ ?side1 ?side2 ?side3 ?side4 A69.out).mono ?_); (case side1 => repeat (first | exact (Kd.R_reads' HO637.out).2.2 | (with_reducible refine Kd.C_alloc ?_ _) | (with_reducible refine Kd.C_drewN ?_ _) | (with_reducible refine Kd.C_drew ?_))); (case side2 => exact (Kd.R_reads' HO637.out).2.1); (case side3 => repeat (first | exact (Kd.C_below HR0.out HB.out) | (with_reducible refine Kd.C_alloc ?_ _) | (with_reducible refine Kd.C_drewN ?_ _) | (with_reducible refine Kd.C_drew ?_))); (case side4 => exact HC0.out); rintro e w103 ⟨rfl, hb⟩; have n0_ := Aside0.mk (Kd.V_below (vq HO619.out) hb); have n1_ := Aside0.mk (Kd.V_below (vq HO622.out) hb); have n2_ := Aside0.mk (Kd.V_below (vq HO626.out) hb); have n3_ := Aside0.mk (Kd.R_below (rq HO630.out) hb); have n4_ := Aside0.mk (Kd.R_below (rq HO634.out) hb); have n5_ := Aside0.mk (Kd.R_below (rq HO637.out) hb); have n6_ := Aside0.mk (below_step (bq HB.out) hb); clear HO619; clear HO622; clear HO626; clear HO630; clear HO634; clear HO637; clear HB; have HO619 := n0_; have HO622 := n1_; have HO626 := n2_; have HO630 := n3_; have HO634 := n4_; have HO637 := n5_; have HB := n6_; clear n0_ n1_ n2_ n3_ n4_ n5_ n6_; (try clear hb); (try clear hi)) | (go_at_call 27; (with_reducible refine (nat_Compare.calls kj14 _ _ t620 _ _ l1 t639 _ ?side1 ?side2 ?side3 ?side4 A71.out).mono ?_); (case side1 => repeat (first | exact (Kd.V_reads' HO622.out).2.2 | (with_reducible refine Kd.C_alloc ?_ _) | (with_reducible refine Kd.C_drewN ?_ _) | (with_reducible refine Kd.C_drew ?_))); (case side2 => exact (Kd.V_reads' HO622.out).2.1); (case side3 => repeat (first | exact (Kd.C_below HR1.out HB.out) | (with_reducible refine Kd.C_alloc ?_ _) | (with_reducible refine Kd.C_drewN ?_ _) | (with_reducible refine Kd.C_drew ?_))); (case side4 => exact HC1.out); rintro e w104 ⟨rfl, hb⟩; have n0_ := Aside0.mk (Kd.V_below (vq HO619.out) hb); have n1_ := Aside0.mk (Kd.V_below (vq HO622.out) hb); have n2_ := Aside0.mk (Kd.V_below (vq HO626.out) hb); have n3_ := Aside0.mk (Kd.R_below (rq HO630.out) hb); have n4_ := Aside0.mk (Kd.R_below (rq HO634.out) hb); have n5_ := Aside0.mk (Kd.R_below (rq HO637.out) hb); have n6_ := Aside0.mk (below_step (bq HB.out) hb); clear HO619; clear HO622; clear HO626; clear HO630; clear HO634; clear HO637; clear HB; have HO619 := n0_; have HO622 := n1_; have HO626 := n2_; have HO630 := n3_; have HO634 := n4_; have HO637 := n5_; have HB := n6_; clear n0_ n1_ n2_ n3_ n4_ n5_ n6_; (try clear hb); obtain ⟨Ao105, co105, eo105⟩ := Kd.R_slice HO634.out; subst eo105) | (go_at_call 27; (with_reducible refine (nat_Compare.calls kj14 _ _ t631 _ _ l0 t640 _ ?side1 ?side2 ?side3 ?side4 A73.out).mono ?_); (case side1 => repeat (first | exact (Kd.R_reads' HO634.out).2.2 | (with_reducible refine Kd.C_alloc ?_ _) | (with_reducible refine Kd.C_drewN ?_ _) | (with_reducible refine Kd.C_drew ?_))); (case side2 => exact (Kd.R_reads' HO634.out).2.1); (case side3 => repeat (first | exact (Kd.C_below HR0.out HB.out) | (with_reducible refine Kd.C_alloc ?_ _) | (with_reducible refine Kd.C_drewN ?_ _) | (with_reducible refine Kd.C_drew ?_))); (case side4 => exact HC0.out); rintro e w106 ⟨rfl, hb⟩; have n0_ := Aside0.mk (Kd.V_below (vq HO619.out) hb); have n1_ := Aside0.mk (Kd.V_below (vq HO622.out) hb); have n2_ := Aside0.mk (Kd.V_below (vq HO626.out) hb); have n3_ := Aside0.mk (Kd.R_below (rq HO630.out) hb); have n4_ := Aside0.mk (Kd.R_below (rq HO634.out) hb); have n5_ := Aside0.mk (Kd.R_below (rq HO637.out) hb); have n6_ := Aside0.mk (below_step (bq HB.out) hb); clear HO619; clear HO622; clear HO626; clear HO630; clear HO634; clear HO637; clear HB; have HO619 := n0_; have HO622 := n1_; have HO626 := n2_; have HO630 := n3_; have HO634 := n4_; have HO637 := n5_; have HB := n6_; clear n0_ n1_ n2_ n3_ n4_ n5_ n6_; (try clear hb); (try clear hi)))
                            go_ret
                            exact ⟨eq_, bq HB.out⟩
                        · rw [if_neg c72] at H
                          have c72b0 : decide (t639 < 0) = false := decide_eq_false c72
                          clear c72
                          obtain rfl := Option.some.inj H
                          go_wp2_with (first | ((with_reducible refine gate_callee (f := 27) rfl ?_); refine goesL_ (some 95) rfl rfl Tryd.func27 (by kernel_rfl) rfl #[.slice A1 l1.length c1, .slice none 0 0] rfl gq ?_; (refine (nat_Compare.calls kj14 _ _ l1 _ _ ([] : List Int) t615 _ ?side1 ?side2 ?side3 ?side4 A56.out).mono ?_); (case side1 => repeat (first | exact (Kd.C_below HR1.out HB.out) | (with_reducible refine Kd.C_alloc ?_ _) | (with_reducible refine Kd.C_drewN ?_ _) | (with_reducible refine Kd.C_drew ?_))); (case side2 => exact HC1.out); (case side3 => exact Kd.C_nil _ _); (case side4 => exact Nat.le_refl _); rintro e w107 ⟨rfl, hb⟩; refine ⟨_, rfl, ?_⟩; have n0_ := Aside0.mk (below_step (bq HB.out) hb); clear HB; have HB := n0_; clear n0_; (try clear hb); (try clear hi)) | ((with_reducible refine gate_callee (f := 31) rfl ?_); refine goesL_ (some 101) rfl rfl Tryd.func31 (by kernel_rfl) rfl #[.slice A0 l0.length c0, .slice A1 l1.length c1] rfl gq ?_; (with_reducible refine (nat_Divide.calls kj14 (fun k_ => k_ < w.heap.size) _ _ l0 (fun k_ => k_ < w.heap.size) _ _ l1 t617 t620 t623 _ ?side1 ?side2 A61.out).mono ?_); (case side1 => exact Kd.V_mk HC0.out (Kd.F_below (Kd.C_F (Kd.heap_int .u32) HR0.out) (bq HB.out))); (case side2 => exact Kd.V_mk HC1.out (Kd.F_below (Kd.C_F (Kd.heap_int .u32) HR1.out) (bq HB.out))); rintro e w108 ⟨v618, v621, rfl, ho0, ho1, hb⟩; refine ⟨_, rfl, ?_⟩; have n0_ := Aside0.mk (Kd.V_lower (Kd.V_mono (ok' := fun k_ => True) ho0 (fun k_ hk_ => trivial)) (below_size (bq HB.out))); have n1_ := Aside0.mk (Kd.V_lower (Kd.V_mono (ok' := fun k_ => True) ho1 (fun k_ hk_ => trivial)) (below_size (bq HB.out))); have n2_ := Aside0.mk (below_step (bq HB.out) hb); clear HB; have HO619 := n0_; have HO622 := n1_; have HB := n2_; clear n0_ n1_ n2_; (try clear hb); (try clear ho0); (try clear ho1); obtain ⟨Ao109, co109, eo109⟩ := Kd.V_slice HO619.out; subst eo109) | ((with_reducible refine gate_callee (f := 16) rfl ?_); refine goesL_ (some 108) rfl rfl Tryd.func16 (by kernel_rfl) rfl #[.slice Ao109 t617.length co109, .slice A1 l1.length c1] rfl gq ?_; (with_reducible refine (nat_Mul.calls kj14 (fun k_ => True) _ _ t617 (fun k_ => k_ < w.heap.size) _ _ l1 t624 t627 _ ?side1 ?side2 A62.out).mono ?_); (case side1 => exact HO619.out); (case side2 => exact Kd.V_mk HC1.out (Kd.F_below (Kd.C_F (Kd.heap_int .u32) HR1.out) (bq HB.out))); rintro e w110 ⟨v625, rfl, ho0, hb⟩; refine ⟨_, rfl, ?_⟩; have n0_ := Aside0.mk (Kd.V_below (vq HO619.out) hb); have n1_ := Aside0.mk (Kd.V_below (vq HO622.out) hb); have n2_ := Aside0.mk (Kd.V_lower (Kd.V_mono (ok' := fun k_ => True) ho0 (fun k_ hk_ => trivial)) (below_size (bq HB.out))); have n3_ := Aside0.mk (below_step (bq HB.out) hb); clear HO619; clear HO622; clear HB; have HO619 := n0_; have HO622 := n1_; have HO626 := n2_; have HB := n3_; clear n0_ n1_ n2_ n3_; (try clear hb); (try clear ho0)) | ((with_reducible refine gate_callee (f := 21) rfl ?_); refine goesL_ (some 114) rfl rfl Tryd.func21 (by kernel_rfl) rfl #[.slice A0 l0.length c0, .slice A1 l1.length c1] rfl gq ?_; (with_reducible refine (nat_Add.calls kj14 _ _ l0 _ _ l1 t628 _ ?side1 ?side2 ?side3 ?side4 A63.out).mono ?_); (case side1 => repeat (first | exact (Kd.C_below HR0.out HB.out) | (with_reducible refine Kd.C_alloc ?_ _) | (with_reducible refine Kd.C_drewN ?_ _) | (with_reducible refine Kd.C_drew ?_))); (case side2 => exact HC0.out); (case side3 => repeat (first | exact (Kd.C_below HR1.out HB.out) | (with_reducible refine Kd.C_alloc ?_ _) | (with_reducible refine Kd.C_drewN ?_ _) | (with_reducible refine Kd.C_drew ?_))); (case side4 => exact HC1.out); rintro e w111 ⟨v629, rfl, ho0, hb⟩; refine ⟨_, rfl, ?_⟩; have n0_ := Aside0.mk (Kd.V_elder' (vq HO619.out) (Kd.R_base ho0) hb); have n1_ := Aside0.mk (Kd.V_elder' (vq HO622.out) (Kd.R_base ho0) hb); have n2_ := Aside0.mk (Kd.V_elder' (vq HO626.out) (Kd.R_base ho0) hb); have n3_ := Aside0.mk (Kd.R_lower ho0 (below_size (bq HB.out))); have n4_ := Aside0.mk (below_step (bq HB.out) hb); clear HO619; clear HO622; clear HO626; clear HB; have HO619 := n0_; have HO622 := n1_; have HO626 := n2_; have HO630 := n3_; have HB := n4_; clear n0_ n1_ n2_ n3_ n4_; (try clear hb); (try clear ho0); obtain ⟨Ao112, co112, eo112⟩ := Kd.R_slice HO630.out; subst eo112) | ((with_reducible refine gate_callee (f := 22) rfl ?_); refine goesL_ (some 116) rfl rfl Tryd.func22 (by kernel_rfl) rfl #[.slice Ao112 t628.length co112, .slice A1 l1.length c1] rfl gq ?_; (with_reducible refine (nat_Sub.calls kj14 _ _ t628 _ _ l1 t631 t632 _ ?side1 ?side2 ?side3 ?side4 A64.out).mono ?_); (case side1 => repeat (first | exact (Kd.R_reads' HO630.out).2.2 | (with_reducible refine Kd.C_alloc ?_ _) | (with_reducible refine Kd.C_drewN ?_ _) | (with_reducible refine Kd.C_drew ?_))); (case side2 => exact (Kd.R_reads' HO630.out).2.1); (case side3 => repeat (first | exact (Kd.C_below HR1.out HB.out) | (with_reducible refine Kd.C_alloc ?_ _) | (with_reducible refine Kd.C_drewN ?_ _) | (with_reducible refine Kd.C_drew ?_))); (case side4 => exact HC1.out); rintro e w113 ⟨v633, rfl, ho0, hb⟩; refine ⟨_, rfl, ?_⟩; have n0_ := Aside0.mk (Kd.V_elder' (vq HO619.out) (Kd.R_base ho0) hb); have n1_ := Aside0.mk (Kd.V_elder' (vq HO622.out) (Kd.R_base ho0) hb); have n2_ := Aside0.mk (Kd.V_elder' (vq HO626.out) (Kd.R_base ho0) hb); have n3_ := Aside0.mk (Kd.R_elder' (rq HO630.out) (Kd.R_base ho0) hb); have n4_ := Aside0.mk (Kd.R_lower (Kd.R_new' ho0 (Kd.R_lt (rq HO630.out))) (below_size (bq HB.out))); have n5_ := Aside0.mk (below_step (bq HB.out) hb); clear HO619; clear HO622; clear HO626; clear HO630; clear HB; have HO619 := n0_; have HO622 := n1_; have HO626 := n2_; have HO630 := n3_; have HO634 := n4_; have HB := n5_; clear n0_ n1_ n2_ n3_ n4_ n5_; (try clear hb); (try clear ho0); obtain ⟨Ao114, co114, eo114⟩ := Kd.V_slice HO626.out; subst eo114; obtain ⟨Ao115, co115, eo115⟩ := Kd.V_slice HO622.out; subst eo115) | (go_at_call 21; (with_reducible refine (nat_Add.calls kj14 _ _ t624 _ _ t620 t635 _ ?side1 ?side2 ?side3 ?side4 A68.out).mono ?_); (case side1 => repeat (first | exact (Kd.V_reads' HO626.out).2.2 | (with_reducible refine Kd.C_alloc ?_ _) | (with_reducible refine Kd.C_drewN ?_ _) | (with_reducible refine Kd.C_drew ?_))); (case side2 => exact (Kd.V_reads' HO626.out).2.1); (case side3 => repeat (first | exact (Kd.V_reads' HO622.out).2.2 | (with_reducible refine Kd.C_alloc ?_ _) | (with_reducible refine Kd.C_drewN ?_ _) | (with_reducible refine Kd.C_drew ?_))); (case side4 => exact (Kd.V_reads' HO622.out).2.1); rintro e w116 ⟨v636, rfl, ho0, hb⟩; have n0_ := Aside0.mk (Kd.V_elder' (vq HO619.out) (Kd.R_base ho0) hb); have n1_ := Aside0.mk (Kd.V_elder' (vq HO622.out) (Kd.R_base ho0) hb); have n2_ := Aside0.mk (Kd.V_elder' (vq HO626.out) (Kd.R_base ho0) hb); have n3_ := Aside0.mk (Kd.R_elder' (rq HO630.out) (Kd.R_base ho0) hb); have n4_ := Aside0.mk (Kd.R_elder' (rq HO634.out) (Kd.R_base ho0) hb); have n5_ := Aside0.mk (Kd.R_lower (Kd.R_new' (Kd.R_new' ho0 (Kd.R_lt (rq HO630.out))) (Kd.R_lt (rq HO634.out))) (below_size (bq HB.out))); have n6_ := Aside0.mk (below_step (bq HB.out) hb); clear HO619; clear HO622; clear HO626; clear HO630; clear HO634; clear HB; have HO619 := n0_; have HO622 := n1_; have HO626 := n2_; have HO630 := n3_; have HO634 := n4_; have HO637 := n5_; have HB := n6_; clear n0_ n1_ n2_ n3_ n4_ n5_ n6_; (try clear hb); (try clear ho0); obtain ⟨Ao117, co117, eo117⟩ := Kd.R_slice HO637.out; subst eo117) | (go_at_call 27; (with_reducible refine (nat_Compare.calls kj14 _ _ t635 _ _ l0 t638 _ ?side1 ?side2 ?side3 ?side4 A69.out).mono ?_); (case side1 => repeat (first | exact (Kd.R_reads' HO637.out).2.2 | (with_reducible refine Kd.C_alloc ?_ _) | (with_reducible refine Kd.C_drewN ?_ _) | (with_reducible refine Kd.C_drew ?_))); (case side2 => exact (Kd.R_reads' HO637.out).2.1); (case side3 => repeat (first | exact (Kd.C_below HR0.out HB.out) | (with_reducible refine Kd.C_alloc ?_ _) | (with_reducible refine Kd.C_drewN ?_ _) | (with_reducible refine Kd.C_drew ?_))); (case side4 => exact HC0.out); rintro e w118 ⟨rfl, hb⟩; have n0_ := Aside0.mk (Kd.V_below (vq HO619.out) hb); have n1_ := Aside0.mk (Kd.V_below (vq HO622.out) hb); have n2_ := Aside0.mk (Kd.V_below (vq HO626.out) hb); have n3_ := Aside0.mk (Kd.R_below (rq HO630.out) hb); have n4_ := Aside0.mk (Kd.R_below (rq HO634.out) hb); have n5_ := Aside0.mk (Kd.R_below (rq HO637.out) hb); have n6_ := Aside0.mk (below_step (bq HB.out) hb); clear HO619; clear HO622; clear HO626; clear HO630; clear HO634; clear HO637; clear HB; have HO619 := n0_; have HO622 := n1_; have HO626 := n2_; have HO630 := n3_; have HO634 := n4_; have HO637 := n5_; have HB := n6_; clear n0_ n1_ n2_ n3_ n4_ n5_ n6_; (try clear hb); (try clear hi)) | (go_at_call 27; (with_reducible refine (nat_Compare.calls kj14 _ _ t620 _ _ l1 t639 _ ?side1 ?side2 ?side3 ?side4 A71.out).mono ?_); (case side1 => repeat (first | exact (Kd.V_reads' HO622.out).2.2 | (with_reducible refine Kd.C_alloc ?_ _) | (with_reducible refine Kd.C_drewN ?_ _) | (with_reducible refine Kd.C_drew ?_))); (case side2 => exact (Kd.V_reads' HO622.out).2.1); (case side3 => repeat (first | exact (Kd.C_below HR1.out HB.out) | (with_reducible refine Kd.C_alloc ?_ _) | (with_reducible refine Kd.C_drewN ?_ _) | (with_reducible refine Kd.C_drew ?_))); (case side4 => exact HC1.out); rintro e w119 ⟨rfl, hb⟩; have n0_ := Aside0.mk (Kd.V_below (vq HO619.out) hb); have n1_ := Aside0.mk (Kd.V_below (vq HO622.out) hb); have n2_ := Aside0.mk (Kd.V_below (vq HO626.out) hb); have n3_ := Aside0.mk (Kd.R_below (rq HO630.out) hb); have n4_ := Aside0.mk (Kd.R_below (rq HO634.out) hb); have n5_ := Aside0.mk (Kd.R_below (rq HO637.out) hb); have n6_ := Aside0.mk (below_step (bq HB.out) hb); clear HO619; clear HO622; clear HO626; clear HO630; clear HO634; clear HO637; clear HB; have HO619 := n0_; have HO622 := n1_; have HO626 := n2_; have HO630 := n3_; have HO634 := n4_; have HO637 := n5_; have HB := n6_; clear n0_ n1_ n2_ n3_ n4_ n5_ n6_; (try clear hb); (try clear hi)))
                          go_ret
                          exact ⟨eq_, bq HB.out⟩
                      · rw [if_neg c70] at H
                        have c70b0 : (t638 == 0) = false := beq_eq_false_iff_ne.mpr c70
                        have c70b1 : (t638 != 0) = true := bne_iff_ne.mpr c70
                        obtain rfl := Option.some.inj H
                        go_wp2_with (first | ((with_reducible refine gate_callee (f := 27) rfl ?_); refine goesL_ (some 95) rfl rfl Tryd.func27 (by kernel_rfl) rfl #[.slice A1 l1.length c1, .slice none 0 0] rfl gq ?_; (refine (nat_Compare.calls kj14 _ _ l1 _ _ ([] : List Int) t615 _ ?side1 ?side2 ?side3 ?side4 A56.out).mono ?_); (case side1 => repeat (first | exact (Kd.C_below HR1.out HB.out) | (with_reducible refine Kd.C_alloc ?_ _) | (with_reducible refine Kd.C_drewN ?_ _) | (with_reducible refine Kd.C_drew ?_))); (case side2 => exact HC1.out); (case side3 => exact Kd.C_nil _ _); (case side4 => exact Nat.le_refl _); rintro e w120 ⟨rfl, hb⟩; refine ⟨_, rfl, ?_⟩; have n0_ := Aside0.mk (below_step (bq HB.out) hb); clear HB; have HB := n0_; clear n0_; (try clear hb); (try clear hi)) | ((with_reducible refine gate_callee (f := 31) rfl ?_); refine goesL_ (some 101) rfl rfl Tryd.func31 (by kernel_rfl) rfl #[.slice A0 l0.length c0, .slice A1 l1.length c1] rfl gq ?_; (with_reducible refine (nat_Divide.calls kj14 (fun k_ => k_ < w.heap.size) _ _ l0 (fun k_ => k_ < w.heap.size) _ _ l1 t617 t620 t623 _ ?side1 ?side2 A61.out).mono ?_); (case side1 => exact Kd.V_mk HC0.out (Kd.F_below (Kd.C_F (Kd.heap_int .u32) HR0.out) (bq HB.out))); (case side2 => exact Kd.V_mk HC1.out (Kd.F_below (Kd.C_F (Kd.heap_int .u32) HR1.out) (bq HB.out))); rintro e w121 ⟨v618, v621, rfl, ho0, ho1, hb⟩; refine ⟨_, rfl, ?_⟩; have n0_ := Aside0.mk (Kd.V_lower (Kd.V_mono (ok' := fun k_ => True) ho0 (fun k_ hk_ => trivial)) (below_size (bq HB.out))); have n1_ := Aside0.mk (Kd.V_lower (Kd.V_mono (ok' := fun k_ => True) ho1 (fun k_ hk_ => trivial)) (below_size (bq HB.out))); have n2_ := Aside0.mk (below_step (bq HB.out) hb); clear HB; have HO619 := n0_; have HO622 := n1_; have HB := n2_; clear n0_ n1_ n2_; (try clear hb); (try clear ho0); (try clear ho1); obtain ⟨Ao122, co122, eo122⟩ := Kd.V_slice HO619.out; subst eo122) | ((with_reducible refine gate_callee (f := 16) rfl ?_); refine goesL_ (some 108) rfl rfl Tryd.func16 (by kernel_rfl) rfl #[.slice Ao122 t617.length co122, .slice A1 l1.length c1] rfl gq ?_; (with_reducible refine (nat_Mul.calls kj14 (fun k_ => True) _ _ t617 (fun k_ => k_ < w.heap.size) _ _ l1 t624 t627 _ ?side1 ?side2 A62.out).mono ?_); (case side1 => exact HO619.out); (case side2 => exact Kd.V_mk HC1.out (Kd.F_below (Kd.C_F (Kd.heap_int .u32) HR1.out) (bq HB.out))); rintro e w123 ⟨v625, rfl, ho0, hb⟩; refine ⟨_, rfl, ?_⟩; have n0_ := Aside0.mk (Kd.V_below (vq HO619.out) hb); have n1_ := Aside0.mk (Kd.V_below (vq HO622.out) hb); have n2_ := Aside0.mk (Kd.V_lower (Kd.V_mono (ok' := fun k_ => True) ho0 (fun k_ hk_ => trivial)) (below_size (bq HB.out))); have n3_ := Aside0.mk (below_step (bq HB.out) hb); clear HO619; clear HO622; clear HB; have HO619 := n0_; have HO622 := n1_; have HO626 := n2_; have HB := n3_; clear n0_ n1_ n2_ n3_; (try clear hb); (try clear ho0)) | ((with_reducible refine gate_callee (f := 21) rfl ?_); refine goesL_ (some 114) rfl rfl Tryd.func21 (by kernel_rfl) rfl #[.slice A0 l0.length c0, .slice A1 l1.length c1] rfl gq ?_; (with_reducible refine (nat_Add.calls kj14 _ _ l0 _ _ l1 t628 _ ?side1 ?side2 ?side3 ?side4 A63.out).mono ?_); (case side1 => repeat (first | exact (Kd.C_below HR0.out HB.out) | (with_reducible refine Kd.C_alloc ?_ _) | (with_reducible refine Kd.C_drewN ?_ _) | (with_reducible refine Kd.C_drew ?_))); (case side2 => exact HC0.out); (case side3 => repeat (first | exact (Kd.C_below HR1.out HB.out) | (with_reducible refine Kd.C_alloc ?_ _) | (with_reducible refine Kd.C_drewN ?_ _) | (with_reducible refine Kd.C_drew ?_))); (case side4 => exact HC1.out); rintro e w124 ⟨v629, rfl, ho0, hb⟩; refine ⟨_, rfl, ?_⟩; have n0_ := Aside0.mk (Kd.V_elder' (vq HO619.out) (Kd.R_base ho0) hb); have n1_ := Aside0.mk (Kd.V_elder' (vq HO622.out) (Kd.R_base ho0) hb); have n2_ := Aside0.mk (Kd.V_elder' (vq HO626.out) (Kd.R_base ho0) hb); have n3_ := Aside0.mk (Kd.R_lower ho0 (below_size (bq HB.out))); have n4_ := Aside0.mk (below_step (bq HB.out) hb); clear HO619; clear HO622; clear HO626; clear HB; have HO619 := n0_; have HO622 := n1_; have HO626 := n2_; have HO630 := n3_; have HB := n4_; clear n0_ n1_ n2_ n3_ n4_; (try clear hb); (try clear ho0); obtain ⟨Ao125, co125, eo125⟩ := Kd.R_slice HO630.out; subst eo125) | ((with_reducible refine gate_callee (f := 22) rfl ?_); refine goesL_ (some 116) rfl rfl Tryd.func22 (by kernel_rfl) rfl #[.slice Ao125 t628.length co125, .slice A1 l1.length c1] rfl gq ?_; (with_reducible refine (nat_Sub.calls kj14 _ _ t628 _ _ l1 t631 t632 _ ?side1 ?side2 ?side3 ?side4 A64.out).mono ?_); (case side1 => repeat (first | exact (Kd.R_reads' HO630.out).2.2 | (with_reducible refine Kd.C_alloc ?_ _) | (with_reducible refine Kd.C_drewN ?_ _) | (with_reducible refine Kd.C_drew ?_))); (case side2 => exact (Kd.R_reads' HO630.out).2.1); (case side3 => repeat (first | exact (Kd.C_below HR1.out HB.out) | (with_reducible refine Kd.C_alloc ?_ _) | (with_reducible refine Kd.C_drewN ?_ _) | (with_reducible refine Kd.C_drew ?_))); (case side4 => exact HC1.out); rintro e w126 ⟨v633, rfl, ho0, hb⟩; refine ⟨_, rfl, ?_⟩; have n0_ := Aside0.mk (Kd.V_elder' (vq HO619.out) (Kd.R_base ho0) hb); have n1_ := Aside0.mk (Kd.V_elder' (vq HO622.out) (Kd.R_base ho0) hb); have n2_ := Aside0.mk (Kd.V_elder' (vq HO626.out) (Kd.R_base ho0) hb); have n3_ := Aside0.mk (Kd.R_elder' (rq HO630.out) (Kd.R_base ho0) hb); have n4_ := Aside0.mk (Kd.R_lower (Kd.R_new' ho0 (Kd.R_lt (rq HO630.out))) (below_size (bq HB.out))); have n5_ := Aside0.mk (below_step (bq HB.out) hb); clear HO619; clear HO622; clear HO626; clear HO630; clear HB; have HO619 := n0_; have HO622 := n1_; have HO626 := n2_; have HO630 := n3_; have HO634 := n4_; have HB := n5_; clear n0_ n1_ n2_ n3_ n4_ n5_; (try clear hb); (try clear ho0); obtain ⟨Ao127, co127, eo127⟩ := Kd.V_slice HO626.out; subst eo127; obtain ⟨Ao128, co128, eo128⟩ := Kd.V_slice HO622.out; subst eo128) | (go_at_call 21; (with_reducible refine (nat_Add.calls kj14 _ _ t624 _ _ t620 t635 _ ?side1 ?side2 ?side3 ?side4 A68.out).mono ?_); (case side1 => repeat (first | exact (Kd.V_reads' HO626.out).2.2 | (with_reducible refine Kd.C_alloc ?_ _) | (with_reducible refine Kd.C_drewN ?_ _) | (with_reducible refine Kd.C_drew ?_))); (case side2 => exact (Kd.V_reads' HO626.out).2.1); (case side3 => repeat (first | exact (Kd.V_reads' HO622.out).2.2 | (with_reducible refine Kd.C_alloc ?_ _) | (with_reducible refine Kd.C_drewN ?_ _) | (with_reducible refine Kd.C_drew ?_))); (case side4 => exact (Kd.V_reads' HO622.out).2.1); rintro e w129 ⟨v636, rfl, ho0, hb⟩; have n0_ := Aside0.mk (Kd.V_elder' (vq HO619.out) (Kd.R_base ho0) hb); have n1_ := Aside0.mk (Kd.V_elder' (vq HO622.out) (Kd.R_base ho0) hb); have n2_ := Aside0.mk (Kd.V_elder' (vq HO626.out) (Kd.R_base ho0) hb); have n3_ := Aside0.mk (Kd.R_elder' (rq HO630.out) (Kd.R_base ho0) hb); have n4_ := Aside0.mk (Kd.R_elder' (rq HO634.out) (Kd.R_base ho0) hb); have n5_ := Aside0.mk (Kd.R_lower (Kd.R_new' (Kd.R_new' ho0 (Kd.R_lt (rq HO630.out))) (Kd.R_lt (rq HO634.out))) (below_size (bq HB.out))); have n6_ := Aside0.mk (below_step (bq HB.out) hb); clear HO619; clear HO622; clear HO626; clear HO630; clear HO634; clear HB; have HO619 := n0_; have HO622 := n1_; have HO626 := n2_; have HO630 := n3_; have HO634 := n4_; have HO637 := n5_; have HB := n6_; clear n0_ n1_ n2_ n3_ n4_ n5_ n6_; (try clear hb); (try clear ho0); obtain ⟨Ao130, co130, eo130⟩ := Kd.R_slice HO637.out; subst eo130) | (go_at_call 27; (with_reducible refine (nat_Compare.calls kj14 _ _ t635 _ _ l0 t638 _ ?side1 ?side2 ?side3 ?side4 A69.out).mono ?_); (case side1 => repeat (first | exact (Kd.R_reads' HO637.out).2.2 | (with_reducible refine Kd.C_alloc ?_ _) | (with_reducible refine Kd.C_drewN ?_ _) | (with_reducible refine Kd.C_drew ?_))); (case side2 => exact (Kd.R_reads' HO637.out).2.1); (case side3 => repeat (first | exact (Kd.C_below HR0.out HB.out) | (with_reducible refine Kd.C_alloc ?_ _) | (with_reducible refine Kd.C_drewN ?_ _) | (with_reducible refine Kd.C_drew ?_))); (case side4 => exact HC0.out); rintro e w131 ⟨rfl, hb⟩; have n0_ := Aside0.mk (Kd.V_below (vq HO619.out) hb); have n1_ := Aside0.mk (Kd.V_below (vq HO622.out) hb); have n2_ := Aside0.mk (Kd.V_below (vq HO626.out) hb); have n3_ := Aside0.mk (Kd.R_below (rq HO630.out) hb); have n4_ := Aside0.mk (Kd.R_below (rq HO634.out) hb); have n5_ := Aside0.mk (Kd.R_below (rq HO637.out) hb); have n6_ := Aside0.mk (below_step (bq HB.out) hb); clear HO619; clear HO622; clear HO626; clear HO630; clear HO634; clear HO637; clear HB; have HO619 := n0_; have HO622 := n1_; have HO626 := n2_; have HO630 := n3_; have HO634 := n4_; have HO637 := n5_; have HB := n6_; clear n0_ n1_ n2_ n3_ n4_ n5_ n6_; (try clear hb); (try clear hi)))
                        go_ret
                        exact ⟨eq_, bq HB.out⟩
                    · rw [if_neg c67] at H
                      have c67b0 : (t632 == 0) = false := beq_eq_false_iff_ne.mpr c67
                      have c67b1 : (t632 != 0) = true := bne_iff_ne.mpr c67
                      obtain rfl := Option.some.inj H
                      go_wp2_with (first | ((with_reducible refine gate_callee (f := 27) rfl ?_); refine goesL_ (some 95) rfl rfl Tryd.func27 (by kernel_rfl) rfl #[.slice A1 l1.length c1, .slice none 0 0] rfl gq ?_; (refine (nat_Compare.calls kj14 _ _ l1 _ _ ([] : List Int) t615 _ ?side1 ?side2 ?side3 ?side4 A56.out).mono ?_); (case side1 => repeat (first | exact (Kd.C_below HR1.out HB.out) | (with_reducible refine Kd.C_alloc ?_ _) | (with_reducible refine Kd.C_drewN ?_ _) | (with_reducible refine Kd.C_drew ?_))); (case side2 => exact HC1.out); (case side3 => exact Kd.C_nil _ _); (case side4 => exact Nat.le_refl _); rintro e w132 ⟨rfl, hb⟩; refine ⟨_, rfl, ?_⟩; have n0_ := Aside0.mk (below_step (bq HB.out) hb); clear HB; have HB := n0_; clear n0_; (try clear hb); (try clear hi)) | ((with_reducible refine gate_callee (f := 31) rfl ?_); refine goesL_ (some 101) rfl rfl Tryd.func31 (by kernel_rfl) rfl #[.slice A0 l0.length c0, .slice A1 l1.length c1] rfl gq ?_; (with_reducible refine (nat_Divide.calls kj14 (fun k_ => k_ < w.heap.size) _ _ l0 (fun k_ => k_ < w.heap.size) _ _ l1 t617 t620 t623 _ ?side1 ?side2 A61.out).mono ?_); (case side1 => exact Kd.V_mk HC0.out (Kd.F_below (Kd.C_F (Kd.heap_int .u32) HR0.out) (bq HB.out))); (case side2 => exact Kd.V_mk HC1.out (Kd.F_below (Kd.C_F (Kd.heap_int .u32) HR1.out) (bq HB.out))); rintro e w133 ⟨v618, v621, rfl, ho0, ho1, hb⟩; refine ⟨_, rfl, ?_⟩; have n0_ := Aside0.mk (Kd.V_lower (Kd.V_mono (ok' := fun k_ => True) ho0 (fun k_ hk_ => trivial)) (below_size (bq HB.out))); have n1_ := Aside0.mk (Kd.V_lower (Kd.V_mono (ok' := fun k_ => True) ho1 (fun k_ hk_ => trivial)) (below_size (bq HB.out))); have n2_ := Aside0.mk (below_step (bq HB.out) hb); clear HB; have HO619 := n0_; have HO622 := n1_; have HB := n2_; clear n0_ n1_ n2_; (try clear hb); (try clear ho0); (try clear ho1); obtain ⟨Ao134, co134, eo134⟩ := Kd.V_slice HO619.out; subst eo134) | ((with_reducible refine gate_callee (f := 16) rfl ?_); refine goesL_ (some 108) rfl rfl Tryd.func16 (by kernel_rfl) rfl #[.slice Ao134 t617.length co134, .slice A1 l1.length c1] rfl gq ?_; (with_reducible refine (nat_Mul.calls kj14 (fun k_ => True) _ _ t617 (fun k_ => k_ < w.heap.size) _ _ l1 t624 t627 _ ?side1 ?side2 A62.out).mono ?_); (case side1 => exact HO619.out); (case side2 => exact Kd.V_mk HC1.out (Kd.F_below (Kd.C_F (Kd.heap_int .u32) HR1.out) (bq HB.out))); rintro e w135 ⟨v625, rfl, ho0, hb⟩; refine ⟨_, rfl, ?_⟩; have n0_ := Aside0.mk (Kd.V_below (vq HO619.out) hb); have n1_ := Aside0.mk (Kd.V_below (vq HO622.out) hb); have n2_ := Aside0.mk (Kd.V_lower (Kd.V_mono (ok' := fun k_ => True) ho0 (fun k_ hk_ => trivial)) (below_size (bq HB.out))); have n3_ := Aside0.mk (below_step (bq HB.out) hb); clear HO619; clear HO622; clear HB; have HO619 := n0_; have HO622 := n1_; have HO626 := n2_; have HB := n3_; clear n0_ n1_ n2_ n3_; (try clear hb); (try clear ho0)) | ((with_reducible refine gate_callee (f := 21) rfl ?_); refine goesL_ (some 114) rfl rfl Tryd.func21 (by kernel_rfl) rfl #[.slice A0 l0.length c0, .slice A1 l1.length c1] rfl gq ?_; (with_reducible refine (nat_Add.calls kj14 _ _ l0 _ _ l1 t628 _ ?side1 ?side2 ?side3 ?side4 A63.out).mono ?_); (case side1 => repeat (first | exact (Kd.C_below HR0.out HB.out) | (with_reducible refine Kd.C_alloc ?_ _) | (with_reducible refine Kd.C_drewN ?_ _) | (with_reducible refine Kd.C_drew ?_))); (case side2 => exact HC0.out); (case side3 => repeat (first | exact (Kd.C_below HR1.out HB.out) | (with_reducible refine Kd.C_alloc ?_ _) | (with_reducible refine Kd.C_drewN ?_ _) | (with_reducible refine Kd.C_drew ?_))); (case side4 => exact HC1.out); rintro e w136 ⟨v629, rfl, ho0, hb⟩; refine ⟨_, rfl, ?_⟩; have n0_ := Aside0.mk (Kd.V_elder' (vq HO619.out) (Kd.R_base ho0) hb); have n1_ := Aside0.mk (Kd.V_elder' (vq HO622.out) (Kd.R_base ho0) hb); have n2_ := Aside0.mk (Kd.V_elder' (vq HO626.out) (Kd.R_base ho0) hb); have n3_ := Aside0.mk (Kd.R_lower ho0 (below_size (bq HB.out))); have n4_ := Aside0.mk (below_step (bq HB.out) hb); clear HO619; clear HO622; clear HO626; clear HB; have HO619 := n0_; have HO622 := n1_; have HO626 := n2_; have HO630 := n3_; have HB := n4_; clear n0_ n1_ n2_ n3_ n4_; (try clear hb); (try clear ho0); obtain ⟨Ao137, co137, eo137⟩ := Kd.R_slice HO630.out; subst eo137) | ((with_reducible refine gate_callee (f := 22) rfl ?_); refine goesL_ (some 116) rfl rfl Tryd.func22 (by kernel_rfl) rfl #[.slice Ao137 t628.length co137, .slice A1 l1.length c1] rfl gq ?_; (with_reducible refine (nat_Sub.calls kj14 _ _ t628 _ _ l1 t631 t632 _ ?side1 ?side2 ?side3 ?side4 A64.out).mono ?_); (case side1 => repeat (first | exact (Kd.R_reads' HO630.out).2.2 | (with_reducible refine Kd.C_alloc ?_ _) | (with_reducible refine Kd.C_drewN ?_ _) | (with_reducible refine Kd.C_drew ?_))); (case side2 => exact (Kd.R_reads' HO630.out).2.1); (case side3 => repeat (first | exact (Kd.C_below HR1.out HB.out) | (with_reducible refine Kd.C_alloc ?_ _) | (with_reducible refine Kd.C_drewN ?_ _) | (with_reducible refine Kd.C_drew ?_))); (case side4 => exact HC1.out); rintro e w138 ⟨v633, rfl, ho0, hb⟩; refine ⟨_, rfl, ?_⟩; have n0_ := Aside0.mk (Kd.V_elder' (vq HO619.out) (Kd.R_base ho0) hb); have n1_ := Aside0.mk (Kd.V_elder' (vq HO622.out) (Kd.R_base ho0) hb); have n2_ := Aside0.mk (Kd.V_elder' (vq HO626.out) (Kd.R_base ho0) hb); have n3_ := Aside0.mk (Kd.R_elder' (rq HO630.out) (Kd.R_base ho0) hb); have n4_ := Aside0.mk (Kd.R_lower (Kd.R_new' ho0 (Kd.R_lt (rq HO630.out))) (below_size (bq HB.out))); have n5_ := Aside0.mk (below_step (bq HB.out) hb); clear HO619; clear HO622; clear HO626; clear HO630; clear HB; have HO619 := n0_; have HO622 := n1_; have HO626 := n2_; have HO630 := n3_; have HO634 := n4_; have HB := n5_; clear n0_ n1_ n2_ n3_ n4_ n5_; (try clear hb); (try clear ho0)))
                      go_ret
                      exact ⟨eq_, bq HB.out⟩
                  · rw [if_neg c66] at H
                    have c66b0 : (t627 == 0) = false := beq_eq_false_iff_ne.mpr c66
                    have c66b1 : (t627 != 0) = true := bne_iff_ne.mpr c66
                    obtain rfl := Option.some.inj H
                    go_wp2_with (first | ((with_reducible refine gate_callee (f := 27) rfl ?_); refine goesL_ (some 95) rfl rfl Tryd.func27 (by kernel_rfl) rfl #[.slice A1 l1.length c1, .slice none 0 0] rfl gq ?_; (refine (nat_Compare.calls kj14 _ _ l1 _ _ ([] : List Int) t615 _ ?side1 ?side2 ?side3 ?side4 A56.out).mono ?_); (case side1 => repeat (first | exact (Kd.C_below HR1.out HB.out) | (with_reducible refine Kd.C_alloc ?_ _) | (with_reducible refine Kd.C_drewN ?_ _) | (with_reducible refine Kd.C_drew ?_))); (case side2 => exact HC1.out); (case side3 => exact Kd.C_nil _ _); (case side4 => exact Nat.le_refl _); rintro e w139 ⟨rfl, hb⟩; refine ⟨_, rfl, ?_⟩; have n0_ := Aside0.mk (below_step (bq HB.out) hb); clear HB; have HB := n0_; clear n0_; (try clear hb); (try clear hi)) | ((with_reducible refine gate_callee (f := 31) rfl ?_); refine goesL_ (some 101) rfl rfl Tryd.func31 (by kernel_rfl) rfl #[.slice A0 l0.length c0, .slice A1 l1.length c1] rfl gq ?_; (with_reducible refine (nat_Divide.calls kj14 (fun k_ => k_ < w.heap.size) _ _ l0 (fun k_ => k_ < w.heap.size) _ _ l1 t617 t620 t623 _ ?side1 ?side2 A61.out).mono ?_); (case side1 => exact Kd.V_mk HC0.out (Kd.F_below (Kd.C_F (Kd.heap_int .u32) HR0.out) (bq HB.out))); (case side2 => exact Kd.V_mk HC1.out (Kd.F_below (Kd.C_F (Kd.heap_int .u32) HR1.out) (bq HB.out))); rintro e w140 ⟨v618, v621, rfl, ho0, ho1, hb⟩; refine ⟨_, rfl, ?_⟩; have n0_ := Aside0.mk (Kd.V_lower (Kd.V_mono (ok' := fun k_ => True) ho0 (fun k_ hk_ => trivial)) (below_size (bq HB.out))); have n1_ := Aside0.mk (Kd.V_lower (Kd.V_mono (ok' := fun k_ => True) ho1 (fun k_ hk_ => trivial)) (below_size (bq HB.out))); have n2_ := Aside0.mk (below_step (bq HB.out) hb); clear HB; have HO619 := n0_; have HO622 := n1_; have HB := n2_; clear n0_ n1_ n2_; (try clear hb); (try clear ho0); (try clear ho1); obtain ⟨Ao141, co141, eo141⟩ := Kd.V_slice HO619.out; subst eo141) | ((with_reducible refine gate_callee (f := 16) rfl ?_); refine goesL_ (some 108) rfl rfl Tryd.func16 (by kernel_rfl) rfl #[.slice Ao141 t617.length co141, .slice A1 l1.length c1] rfl gq ?_; (with_reducible refine (nat_Mul.calls kj14 (fun k_ => True) _ _ t617 (fun k_ => k_ < w.heap.size) _ _ l1 t624 t627 _ ?side1 ?side2 A62.out).mono ?_); (case side1 => exact HO619.out); (case side2 => exact Kd.V_mk HC1.out (Kd.F_below (Kd.C_F (Kd.heap_int .u32) HR1.out) (bq HB.out))); rintro e w142 ⟨v625, rfl, ho0, hb⟩; refine ⟨_, rfl, ?_⟩; have n0_ := Aside0.mk (Kd.V_below (vq HO619.out) hb); have n1_ := Aside0.mk (Kd.V_below (vq HO622.out) hb); have n2_ := Aside0.mk (Kd.V_lower (Kd.V_mono (ok' := fun k_ => True) ho0 (fun k_ hk_ => trivial)) (below_size (bq HB.out))); have n3_ := Aside0.mk (below_step (bq HB.out) hb); clear HO619; clear HO622; clear HB; have HO619 := n0_; have HO622 := n1_; have HO626 := n2_; have HB := n3_; clear n0_ n1_ n2_ n3_; (try clear hb); (try clear ho0)) | ((with_reducible refine gate_callee (f := 21) rfl ?_); refine goesL_ (some 114) rfl rfl Tryd.func21 (by kernel_rfl) rfl #[.slice A0 l0.length c0, .slice A1 l1.length c1] rfl gq ?_; (with_reducible refine (nat_Add.calls kj14 _ _ l0 _ _ l1 t628 _ ?side1 ?side2 ?side3 ?side4 A63.out).mono ?_); (case side1 => repeat (first | exact (Kd.C_below HR0.out HB.out) | (with_reducible refine Kd.C_alloc ?_ _) | (with_reducible refine Kd.C_drewN ?_ _) | (with_reducible refine Kd.C_drew ?_))); (case side2 => exact HC0.out); (case side3 => repeat (first | exact (Kd.C_below HR1.out HB.out) | (with_reducible refine Kd.C_alloc ?_ _) | (with_reducible refine Kd.C_drewN ?_ _) | (with_reducible refine Kd.C_drew ?_))); (case side4 => exact HC1.out); rintro e w143 ⟨v629, rfl, ho0, hb⟩; refine ⟨_, rfl, ?_⟩; have n0_ := Aside0.mk (Kd.V_elder' (vq HO619.out) (Kd.R_base ho0) hb); have n1_ := Aside0.mk (Kd.V_elder' (vq HO622.out) (Kd.R_base ho0) hb); have n2_ := Aside0.mk (Kd.V_elder' (vq HO626.out) (Kd.R_base ho0) hb); have n3_ := Aside0.mk (Kd.R_lower ho0 (below_size (bq HB.out))); have n4_ := Aside0.mk (below_step (bq HB.out) hb); clear HO619; clear HO622; clear HO626; clear HB; have HO619 := n0_; have HO622 := n1_; have HO626 := n2_; have HO630 := n3_; have HB := n4_; clear n0_ n1_ n2_ n3_ n4_; (try clear hb); (try clear ho0); obtain ⟨Ao144, co144, eo144⟩ := Kd.R_slice HO630.out; subst eo144) | ((with_reducible refine gate_callee (f := 22) rfl ?_); refine goesL_ (some 116) rfl rfl Tryd.func22 (by kernel_rfl) rfl #[.slice Ao144 t628.length co144, .slice A1 l1.length c1] rfl gq ?_; (with_reducible refine (nat_Sub.calls kj14 _ _ t628 _ _ l1 t631 t632 _ ?side1 ?side2 ?side3 ?side4 A64.out).mono ?_); (case side1 => repeat (first | exact (Kd.R_reads' HO630.out).2.2 | (with_reducible refine Kd.C_alloc ?_ _) | (with_reducible refine Kd.C_drewN ?_ _) | (with_reducible refine Kd.C_drew ?_))); (case side2 => exact (Kd.R_reads' HO630.out).2.1); (case side3 => repeat (first | exact (Kd.C_below HR1.out HB.out) | (with_reducible refine Kd.C_alloc ?_ _) | (with_reducible refine Kd.C_drewN ?_ _) | (with_reducible refine Kd.C_drew ?_))); (case side4 => exact HC1.out); rintro e w145 ⟨v633, rfl, ho0, hb⟩; refine ⟨_, rfl, ?_⟩; have n0_ := Aside0.mk (Kd.V_elder' (vq HO619.out) (Kd.R_base ho0) hb); have n1_ := Aside0.mk (Kd.V_elder' (vq HO622.out) (Kd.R_base ho0) hb); have n2_ := Aside0.mk (Kd.V_elder' (vq HO626.out) (Kd.R_base ho0) hb); have n3_ := Aside0.mk (Kd.R_elder' (rq HO630.out) (Kd.R_base ho0) hb); have n4_ := Aside0.mk (Kd.R_lower (Kd.R_new' ho0 (Kd.R_lt (rq HO630.out))) (below_size (bq HB.out))); have n5_ := Aside0.mk (below_step (bq HB.out) hb); clear HO619; clear HO622; clear HO626; clear HO630; clear HB; have HO619 := n0_; have HO622 := n1_; have HO626 := n2_; have HO630 := n3_; have HO634 := n4_; have HB := n5_; clear n0_ n1_ n2_ n3_ n4_ n5_; (try clear hb); (try clear ho0)))
                    go_ret
                    exact ⟨eq_, bq HB.out⟩
                · rw [if_neg c65] at H
                  have c65b0 : (t623 == 0) = false := beq_eq_false_iff_ne.mpr c65
                  have c65b1 : (t623 != 0) = true := bne_iff_ne.mpr c65
                  obtain rfl := Option.some.inj H
                  go_wp2_with (first | ((with_reducible refine gate_callee (f := 27) rfl ?_); refine goesL_ (some 95) rfl rfl Tryd.func27 (by kernel_rfl) rfl #[.slice A1 l1.length c1, .slice none 0 0] rfl gq ?_; (refine (nat_Compare.calls kj14 _ _ l1 _ _ ([] : List Int) t615 _ ?side1 ?side2 ?side3 ?side4 A56.out).mono ?_); (case side1 => repeat (first | exact (Kd.C_below HR1.out HB.out) | (with_reducible refine Kd.C_alloc ?_ _) | (with_reducible refine Kd.C_drewN ?_ _) | (with_reducible refine Kd.C_drew ?_))); (case side2 => exact HC1.out); (case side3 => exact Kd.C_nil _ _); (case side4 => exact Nat.le_refl _); rintro e w146 ⟨rfl, hb⟩; refine ⟨_, rfl, ?_⟩; have n0_ := Aside0.mk (below_step (bq HB.out) hb); clear HB; have HB := n0_; clear n0_; (try clear hb); (try clear hi)) | ((with_reducible refine gate_callee (f := 31) rfl ?_); refine goesL_ (some 101) rfl rfl Tryd.func31 (by kernel_rfl) rfl #[.slice A0 l0.length c0, .slice A1 l1.length c1] rfl gq ?_; (with_reducible refine (nat_Divide.calls kj14 (fun k_ => k_ < w.heap.size) _ _ l0 (fun k_ => k_ < w.heap.size) _ _ l1 t617 t620 t623 _ ?side1 ?side2 A61.out).mono ?_); (case side1 => exact Kd.V_mk HC0.out (Kd.F_below (Kd.C_F (Kd.heap_int .u32) HR0.out) (bq HB.out))); (case side2 => exact Kd.V_mk HC1.out (Kd.F_below (Kd.C_F (Kd.heap_int .u32) HR1.out) (bq HB.out))); rintro e w147 ⟨v618, v621, rfl, ho0, ho1, hb⟩; refine ⟨_, rfl, ?_⟩; have n0_ := Aside0.mk (Kd.V_lower (Kd.V_mono (ok' := fun k_ => True) ho0 (fun k_ hk_ => trivial)) (below_size (bq HB.out))); have n1_ := Aside0.mk (Kd.V_lower (Kd.V_mono (ok' := fun k_ => True) ho1 (fun k_ hk_ => trivial)) (below_size (bq HB.out))); have n2_ := Aside0.mk (below_step (bq HB.out) hb); clear HB; have HO619 := n0_; have HO622 := n1_; have HB := n2_; clear n0_ n1_ n2_; (try clear hb); (try clear ho0); (try clear ho1); obtain ⟨Ao148, co148, eo148⟩ := Kd.V_slice HO619.out; subst eo148) | ((with_reducible refine gate_callee (f := 16) rfl ?_); refine goesL_ (some 108) rfl rfl Tryd.func16 (by kernel_rfl) rfl #[.slice Ao148 t617.length co148, .slice A1 l1.length c1] rfl gq ?_; (with_reducible refine (nat_Mul.calls kj14 (fun k_ => True) _ _ t617 (fun k_ => k_ < w.heap.size) _ _ l1 t624 t627 _ ?side1 ?side2 A62.out).mono ?_); (case side1 => exact HO619.out); (case side2 => exact Kd.V_mk HC1.out (Kd.F_below (Kd.C_F (Kd.heap_int .u32) HR1.out) (bq HB.out))); rintro e w149 ⟨v625, rfl, ho0, hb⟩; refine ⟨_, rfl, ?_⟩; have n0_ := Aside0.mk (Kd.V_below (vq HO619.out) hb); have n1_ := Aside0.mk (Kd.V_below (vq HO622.out) hb); have n2_ := Aside0.mk (Kd.V_lower (Kd.V_mono (ok' := fun k_ => True) ho0 (fun k_ hk_ => trivial)) (below_size (bq HB.out))); have n3_ := Aside0.mk (below_step (bq HB.out) hb); clear HO619; clear HO622; clear HB; have HO619 := n0_; have HO622 := n1_; have HO626 := n2_; have HB := n3_; clear n0_ n1_ n2_ n3_; (try clear hb); (try clear ho0)) | ((with_reducible refine gate_callee (f := 21) rfl ?_); refine goesL_ (some 114) rfl rfl Tryd.func21 (by kernel_rfl) rfl #[.slice A0 l0.length c0, .slice A1 l1.length c1] rfl gq ?_; (with_reducible refine (nat_Add.calls kj14 _ _ l0 _ _ l1 t628 _ ?side1 ?side2 ?side3 ?side4 A63.out).mono ?_); (case side1 => repeat (first | exact (Kd.C_below HR0.out HB.out) | (with_reducible refine Kd.C_alloc ?_ _) | (with_reducible refine Kd.C_drewN ?_ _) | (with_reducible refine Kd.C_drew ?_))); (case side2 => exact HC0.out); (case side3 => repeat (first | exact (Kd.C_below HR1.out HB.out) | (with_reducible refine Kd.C_alloc ?_ _) | (with_reducible refine Kd.C_drewN ?_ _) | (with_reducible refine Kd.C_drew ?_))); (case side4 => exact HC1.out); rintro e w150 ⟨v629, rfl, ho0, hb⟩; refine ⟨_, rfl, ?_⟩; have n0_ := Aside0.mk (Kd.V_elder' (vq HO619.out) (Kd.R_base ho0) hb); have n1_ := Aside0.mk (Kd.V_elder' (vq HO622.out) (Kd.R_base ho0) hb); have n2_ := Aside0.mk (Kd.V_elder' (vq HO626.out) (Kd.R_base ho0) hb); have n3_ := Aside0.mk (Kd.R_lower ho0 (below_size (bq HB.out))); have n4_ := Aside0.mk (below_step (bq HB.out) hb); clear HO619; clear HO622; clear HO626; clear HB; have HO619 := n0_; have HO622 := n1_; have HO626 := n2_; have HO630 := n3_; have HB := n4_; clear n0_ n1_ n2_ n3_ n4_; (try clear hb); (try clear ho0); obtain ⟨Ao151, co151, eo151⟩ := Kd.R_slice HO630.out; subst eo151) | ((with_reducible refine gate_callee (f := 22) rfl ?_); refine goesL_ (some 116) rfl rfl Tryd.func22 (by kernel_rfl) rfl #[.slice Ao151 t628.length co151, .slice A1 l1.length c1] rfl gq ?_; (with_reducible refine (nat_Sub.calls kj14 _ _ t628 _ _ l1 t631 t632 _ ?side1 ?side2 ?side3 ?side4 A64.out).mono ?_); (case side1 => repeat (first | exact (Kd.R_reads' HO630.out).2.2 | (with_reducible refine Kd.C_alloc ?_ _) | (with_reducible refine Kd.C_drewN ?_ _) | (with_reducible refine Kd.C_drew ?_))); (case side2 => exact (Kd.R_reads' HO630.out).2.1); (case side3 => repeat (first | exact (Kd.C_below HR1.out HB.out) | (with_reducible refine Kd.C_alloc ?_ _) | (with_reducible refine Kd.C_drewN ?_ _) | (with_reducible refine Kd.C_drew ?_))); (case side4 => exact HC1.out); rintro e w152 ⟨v633, rfl, ho0, hb⟩; refine ⟨_, rfl, ?_⟩; have n0_ := Aside0.mk (Kd.V_elder' (vq HO619.out) (Kd.R_base ho0) hb); have n1_ := Aside0.mk (Kd.V_elder' (vq HO622.out) (Kd.R_base ho0) hb); have n2_ := Aside0.mk (Kd.V_elder' (vq HO626.out) (Kd.R_base ho0) hb); have n3_ := Aside0.mk (Kd.R_elder' (rq HO630.out) (Kd.R_base ho0) hb); have n4_ := Aside0.mk (Kd.R_lower (Kd.R_new' ho0 (Kd.R_lt (rq HO630.out))) (below_size (bq HB.out))); have n5_ := Aside0.mk (below_step (bq HB.out) hb); clear HO619; clear HO622; clear HO626; clear HO630; clear HB; have HO619 := n0_; have HO622 := n1_; have HO626 := n2_; have HO630 := n3_; have HO634 := n4_; have HB := n5_; clear n0_ n1_ n2_ n3_ n4_ n5_; (try clear hb); (try clear ho0)))
                  go_ret
                  exact ⟨eq_, bq HB.out⟩

/-- THE ONE PURE STATEMENT of bobbinlaw2_NatBack -/
def bobbinlaw2_NatBack.Pure : Prop := ∀ (l0 : List Int) (l1 : List Int) (a2 : Int), l0.length ≤ maxLen → l0.length * 4 ≤ 140737488351232 → (∀ x ∈ l0, (Lit.int .u32 x).wf = true) → l1.length ≤ maxLen → l1.length * 4 ≤ 140737488351232 → (∀ x ∈ l1, (Lit.int .u32 x).wf = true) → (Lit.int .i64 a2).wf = true → ∃ k, bobbinlaw2_NatBack.f k l0 l1 a2 = some true
theorem bobbinlaw2_NatBack.walk (P : bobbinlaw2_NatBack.Pure) (a0 : Option Addr) (len0 cap0 : Nat) (z0 : List Int) (a1 : Option Addr) (len1 cap1 : Nat) (z1 : List Int) (a2 : Int) (w : World) (w0 : (a0 = none ∧ len0 = 0 ∧ cap0 = 0 ∧ z0 = []) ∨ ∃ x, a0 = some x ∧ len0 ≤ cap0 ∧ cap0 ≤ maxLen ∧ z0.length = cap0 ∧ (∀ i, i < z0.length → w.cell? (x.add i) = some (.int .u32 (z0.getD i 0))) ∧ ∀ n ∈ z0, (Lit.int .u32 n).wf = true) (y0 : len0 * 4 ≤ 140737488351232) (w1 : (a1 = none ∧ len1 = 0 ∧ cap1 = 0 ∧ z1 = []) ∨ ∃ x, a1 = some x ∧ len1 ≤ cap1 ∧ cap1 ≤ maxLen ∧ z1.length = cap1 ∧ (∀ i, i < z1.length → w.cell? (x.add i) = some (.int .u32 (z1.getD i 0))) ∧ ∀ n ∈ z1, (Lit.int .u32 n).wf = true) (y1 : len1 * 4 ≤ 140737488351232) (w2 : (Lit.int .i64 a2).wf = true) :
    Calls Tryd.prog 8 #[.slice a0 len0 cap0, .slice a1 len1 cap1, .int .i64 a2] w fun e w' => e = .returned (.bool true) ∧ Below w.heap.size w w' := by
  obtain ⟨l0, rfl, hr0, hm0, hw0, hc0⟩ := ReadsInt.ofRowC w0
  obtain ⟨l1, rfl, hr1, hm1, hw1, hc1⟩ := ReadsInt.ofRowC w1
  obtain ⟨k, h⟩ := P l0 l1 a2 hm0 y0 hw0 hm1 y1 hw1 w2
  refine (bobbinlaw2_NatBack.calls k _ _ l0 _ _ l1 a2 true w (Kd.C_of_reads (d := (0 : Int)) (h1 := fun _ => rfl) hr0) hc0 (Kd.C_of_reads (d := (0 : Int)) (h1 := fun _ => rfl) hr1) hc1 h).mono ?_
  rintro e w' ⟨rfl, hd⟩
  exact ⟨rfl, hd⟩

end Go.Proofs.YtkihjfpfocnneaaDoor.PNat

namespace Go.Proofs.YtkihjfpfocnneaaDoor.PNatO
open Go.RowKit Go.Proofs.YtkihjfpfocnneaaDoorW.PrintWords Go.Proofs.YtkihjfpfocnneaaDoorW.PrintLast Go.Proofs.YtkihjfpfocnneaaDoorW.PrintMore
attribute [local go_sem] max2_int min2_int max_two min_two max_three min_three max_four min_four   -- for this text's walks alone
set_option linter.unusedVariables false
set_option linter.unusedSimpArgs false



def errW : Option Int → Value
  | none => .nilIface
  | some c => .iface 0 (.int .i64 c)
theorem errW_none : errW none = .nilIface := rfl
theorem errW_some (c : Int) : errW (some c) = .iface 0 (.int .i64 c) := rfl

theorem info38 : (Tryd.prog.info? 38).map (fun i => (i.zero, i.size, i.bytes)) = some (some (.int .u32 0), 1, 4) := by kernel_rfl
-- the values' own types

end Go.Proofs.YtkihjfpfocnneaaDoor.PNatO

namespace Go.Proofs.YtkihjfpfocnneaaDoor.Pure
open Go.RowKit Go.Proofs.YtkihjfpfocnneaaDoor.PNat Go.Proofs.YtkihjfpfocnneaaDoorW.PrintWords Go.Proofs.YtkihjfpfocnneaaDoorW.PrintLast Go.Proofs.YtkihjfpfocnneaaDoorW.PrintMore
set_option linter.unusedVariables false
set_option linter.unusedSimpArgs false
theorem i64_id {x : Int} (h0 : -9223372036854775808 ≤ x) (h1 : x ≤ 9223372036854775807) : wrap64 x = x := by unfold wrap64; omega
theorem u64_id {x : Int} (h0 : 0 ≤ x) (h1 : x < 18446744073709551616) : IntKind.u64.wrap x = x := by
  simp only [IntKind.wrap, IntKind.bits, IntKind.signed]
  simp
  omega

theorem ev_trim (l : List Int) (hl : l.length ≤ 1000000000) : Ev (fun k => nat_trim.f k l) (Num.trimW l) := by
  refine ⟨l.length + 1, fun k hk => ?_⟩
  unfold nat_trim.f
  exact trim_pure k l (by omega) (by omega)

theorem ev_large (l : List Int) (hl : l.length ≤ 1000000000) : Ev (fun k => nat_large.f k l) (decide (2000 < (Num.trimW l).length)) := by
  unfold nat_large.f
  refine Ev.bind (ev_trim l hl) ?_
  refine Ev.congr (fun k => ?_) (Ev.now _)
  congr 1
  rw [decide_eq_decide]
  omega

/-- a value that is answered, if it has no more words than may be -/
def fitsW (l : List Int) : List Int × Int := if 2000 < (Num.trimW l).length then ([], 2) else (Num.trimW l, 0)

theorem ev_fits (l : List Int) (hl : l.length ≤ 1000000000) : Ev (fun k => nat_fits.f k l) (fitsW l) := by
  unfold nat_fits.f fitsW
  refine Ev.bind (ev_large l hl) ?_
  by_cases h : 2000 < (Num.trimW l).length
  · simp only [decide_eq_true h, if_true, if_pos h]
    exact Ev.now _
  · simp only [decide_eq_false h, if_neg h]
    refine Ev.congr (f := fun k => (nat_trim.f k l).bind fun t => some (t, 0)) (fun k => by simp only [Bool.false_eq_true, if_false]) ?_
    exact Ev.bind (ev_trim l hl) (Ev.now _)

theorem fitsW_val {l m : List Int} (hl : Num.okW l) (hm : Num.okW m) (h : Num.valN l = Num.valN m) : fitsW l = fitsW m := by
  unfold fitsW
  rw [Num.trimW_eq_of_val hl hm h]

/-- two rows of words are one -/
theorem ev_same_l (l m : List Int) (hlm : l.length = m.length) (hl : l.length ≤ 1000000000) (d : Nat) : ∀ i : Nat, i + d = l.length →
    Ev (fun k => bobbinlaw2_same.l0 k l m (i : Int)) (decide (l.drop i = m.drop i)) := by
  induction d with
  | zero =>
    intro i hi
    refine Ev.step (f := fun _ => some (decide (l.drop i = m.drop i))) (fun k => ?_) (Ev.now _)
    simp only [bobbinlaw2_same.l0]
    rw [if_neg (by omega), List.drop_of_length_le (by omega), List.drop_of_length_le (by omega)]
    simp
  | succ d ih =>
    intro i hi
    by_cases h : rd l (i : Int) = rd m (i : Int)
    · refine Ev.step (f := fun k => bobbinlaw2_same.l0 k l m ((i + 1 : Nat) : Int)) (fun k => ?_) ?_
      · simp only [bobbinlaw2_same.l0]
        rw [if_pos (by omega), if_pos (by omega), if_pos (by omega), if_pos h, i64_id (by omega) (by omega)]
        rfl
      · have e : decide (l.drop i = m.drop i) = decide (l.drop (i + 1) = m.drop (i + 1)) := by
          rw [decide_eq_decide, List.drop_eq_getElem_cons (show i < l.length by omega), List.drop_eq_getElem_cons (show i < m.length by omega)]
          have h' : l[i]'(by omega) = m[i]'(by omega) := by
            simpa [rd, List.getD_eq_getElem?_getD, List.getElem?_eq_getElem (show i < l.length by omega), List.getElem?_eq_getElem (show i < m.length by omega)] using h
          rw [h', List.cons.injEq]
          simp only [true_and]
        rw [e]
        exact ih (i + 1) (by omega)
    · refine Ev.step (f := fun _ => some false) (fun k => ?_) ?_
      · simp only [bobbinlaw2_same.l0]
        rw [if_pos (by omega), if_pos (by omega), if_pos (by omega), if_neg h]
      · have e : decide (l.drop i = m.drop i) = false := by
          apply decide_eq_false
          rw [List.drop_eq_getElem_cons (show i < l.length by omega), List.drop_eq_getElem_cons (show i < m.length by omega)]
          intro hc
          injection hc with hc
          apply h
          simpa [rd, List.getD_eq_getElem?_getD, List.getElem?_eq_getElem (show i < l.length by omega), List.getElem?_eq_getElem (show i < m.length by omega)] using hc
        rw [e]
        exact Ev.now _

theorem ev_same (l m : List Int) (hl : l.length ≤ 1000000000) : Ev (fun k => bobbinlaw2_same.f k l m) (decide (l = m)) := by
  unfold bobbinlaw2_same.f
  by_cases h : l.length = m.length
  · refine Ev.congr (fun k => by rw [if_pos (by omega)]) ?_
    have := ev_same_l l m h hl l.length 0 (by omega)
    simpa using this
  · refine Ev.congr (fun k => by rw [if_neg (by omega)]) ?_
    have e : decide (l = m) = false := decide_eq_false (fun e => h (by rw [e]))
    rw [e]
    exact Ev.now _
theorem ev_same_self (l : List Int) (hl : l.length ≤ 1000000000) : Ev (fun k => bobbinlaw2_same.f k l l) true := by
  have := ev_same l l hl
  simpa using this

theorem more_go (b : Int) (hb0 : 0 ≤ b) (hb1 : b < 4294967296) (l : List Int) (hl : Num.okW l) : ∀ c : Int, 0 ≤ c → c < 4294967296 →
    Num.okW (nat_more.go b l c).1 ∧ (nat_more.go b l c).1.length = l.length ∧ 0 ≤ (nat_more.go b l c).2 ∧ (nat_more.go b l c).2 < 4294967296 ∧
      Num.valN (nat_more.go b l c).1 + 4294967296 ^ l.length * (nat_more.go b l c).2.toNat = Num.valN l * b.toNat + c.toNat := by
  induction l with
  | nil => intro c h0 h1; simp [nat_more.go, Num.valN, h0, h1, Num.okW_nil]
  | cons x xs ih =>
    intro c h0 h1
    obtain ⟨⟨hx0, hx1⟩, hxs⟩ := Num.okW_cons.1 hl
    obtain ⟨B, rfl⟩ := Int.eq_ofNat_of_zero_le hb0
    obtain ⟨X, rfl⟩ := Int.eq_ofNat_of_zero_le hx0
    obtain ⟨C, rfl⟩ := Int.eq_ofNat_of_zero_le h0
    have hp : X * B ≤ 4294967295 * 4294967295 := Nat.mul_le_mul (by omega) (by omega)
    have e : IntKind.u64.wrap ((C : Int) + IntKind.u64.wrap (IntKind.u64.wrap (X : Int) * IntKind.u64.wrap (B : Int))) = ((C + X * B : Nat) : Int) := by
      rw [u64_id (x := (X : Int)) (by omega) (by omega), u64_id (x := (B : Int)) (by omega) (by omega), ← Int.natCast_mul, u64_id (x := ((X * B : Nat) : Int)) (by omega) (by omega), ← Int.natCast_add, u64_id (x := ((C + X * B : Nat) : Int)) (by omega) (by omega)]
    obtain ⟨T, hT⟩ : ∃ T, T = C + X * B := ⟨_, rfl⟩
    have hT1 : T < 18446744073709551616 := by omega
    simp only [nat_more.go, e, ← hT]
    have e2 : ((T : Int)) / 4294967296 = ((T / 4294967296 : Nat) : Int) := by omega
    have e3 : ((T : Int)) % 4294967296 = ((T % 4294967296 : Nat) : Int) := by omega
    rw [e2, e3]
    obtain ⟨i1, i2, i3, i4, i5⟩ := ih hxs ((T / 4294967296 : Nat) : Int) (by omega) (by omega)
    refine ⟨Num.okW_cons.2 ⟨by omega, i1⟩, by simp only [List.length_cons, i2], i3, i4, ?_⟩
    simp only [Num.valN, List.length_cons, Int.toNat_natCast] at i5 ⊢
    rw [Nat.pow_succ, Nat.add_mul, Nat.mul_comm (4294967296 ^ xs.length) 4294967296, Nat.mul_assoc, Nat.mul_assoc]
    have h2 : 4294967296 * (Num.valN (nat_more.go (B : Int) xs ((T / 4294967296 : Nat) : Int)).1 + 4294967296 ^ xs.length * (nat_more.go (B : Int) xs ((T / 4294967296 : Nat) : Int)).2.toNat) = 4294967296 * (Num.valN xs * B + T / 4294967296) := by rw [i5]
    rw [Nat.mul_add, Nat.mul_add] at h2
    omega

theorem more_val {b c : Int} (hb0 : 0 ≤ b) (hb1 : b < 4294967296) (hc0 : 0 ≤ c) (hc1 : c < 4294967296) {l : List Int} (hl : Num.okW l) (hlen : l.length ≤ 1000000000) :
    ∃ m, nat_more.f l b c = some m ∧ Num.okW m ∧ Num.valN m = Num.valN l * b.toNat + c.toNat ∧ m.length ≤ l.length + 1 := by
  unfold nat_more.f
  rw [if_pos (by omega), u64_id hc0 (by omega)]
  obtain ⟨i1, i2, i3, i4, i5⟩ := more_go b hb0 hb1 l hl c hc0 hc1
  by_cases h : 0 < (nat_more.go b l c).2
  · rw [if_pos h]
    refine ⟨_, rfl, Num.okW_append.2 ⟨i1, Num.okW_cons.2 ⟨by omega, Num.okW_nil⟩⟩, ?_, by simp [i2]⟩
    rw [Num.valN_append, i2, Int.emod_eq_of_lt i3 i4]
    simp only [Num.valN]
    omega
  · rw [if_neg h]
    refine ⟨_, rfl, i1, ?_, by omega⟩
    have : (nat_more.go b l c).2 = 0 := by omega
    rw [this] at i5
    simpa using i5

theorem bt_get (s : ByteArray) (i : Nat) (h : i < s.data.toList.length) : bt s (i : Int) = ((s.data.toList[i]).toNat : Int) := by
  have h' : i < s.size := by simpa using h
  unfold bt
  rw [dif_pos (by simpa using h')]
  simp [ByteArray.getElem_eq_getElem_data]

theorem toList_nil (s : ByteArray) : s.toList = [] ↔ s.size = 0 := by
  rw [Lib.toList_data, Lib.size_eq]
  exact List.length_eq_zero_iff.symm

/-- what a text reads as -/
def parseW (L : List UInt8) : List Int × Int :=
  if Num.digs L = false then ([], 3) else if L = [] then ([], 3) else if 5000 < L.length then ([], 2) else fitsW (Num.wordsN (Num.decL 0 L))

theorem decL_take_succ (L : List UInt8) (i : Nat) (h : i < L.length) : Num.decL 0 (L.take (i + 1)) = Num.decL 0 (L.take i) * 10 + (L[i].toNat - 48) := by
  rw [List.take_succ_eq_append_getElem h, Num.decL_append]
  rfl
theorem digs_take {L : List UInt8} (h : Num.digs L = true) (i : Nat) : Num.digs (L.take i) = true := by
  unfold Num.digs at *
  rw [List.all_eq_true] at *
  exact fun x hx => h x (List.mem_of_mem_take hx)
theorem digs_drop {L : List UInt8} (h : Num.digs L = true) (i : Nat) : Num.digs (L.drop i) = true := by
  unfold Num.digs at *
  rw [List.all_eq_true] at *
  exact fun x hx => h x (List.mem_of_mem_drop hx)

theorem parse_l2 (s : ByteArray) (L : List UInt8) (hL : s.data.toList = L) (hd : Num.digs L = true) (out : List Int) (n : Nat) (hn : n ≤ 9) (hnl : n ≤ L.length) (R : List Int × Int)
    (hR : Ev (fun k => (nat_more.f out ((10 ^ n : Nat) : Int) ((Num.decL 0 (L.take n) : Nat) : Int)).bind fun t => nat_Parse.l1 k (s.extract n s.size) t) R) (d : Nat) : ∀ i : Nat, i + d = n →
    Ev (fun k => nat_Parse.l2 k s out (n : Int) ((10 ^ i : Nat) : Int) ((Num.decL 0 (L.take i) : Nat) : Int) (n : Int) (i : Int)) R := by
  have hsz : s.size = L.length := by rw [← hL]; simp
  induction d with
  | zero =>
    intro i hi
    obtain rfl : i = n := by omega
    refine Ev.step (fun k => ?_) hR
    simp only [nat_Parse.l2]
    rw [if_neg (by omega)]
    congr 1
    funext t
    rw [if_pos (by omega), if_pos (by omega)]
    rfl
  | succ d ih =>
    intro i hi
    refine Ev.step (fun k => ?_) (ih (i + 1) (by omega))
    simp only [nat_Parse.l2]
    have hc := Num.digs_mem hd (L[i]'(by omega)) (List.getElem_mem _)
    have hb : bt s (i : Int) = ((L[i]'(by omega)).toNat : Int) := by
      subst hL
      exact bt_get s i (by omega)
    have hlt := Num.decL_lt (L.take i) (Num.digs_mem (digs_take hd i))
    rw [List.length_take, Nat.min_eq_left (by omega)] at hlt
    have hp : (10 : Nat) ^ i ≤ 10 ^ 8 := Nat.pow_le_pow_right (by decide) (by omega)
    rw [if_pos (by omega), if_pos (by omega), if_pos (by omega), hb, i64_id (by omega) (by omega)]
    have e1 : ((10 ^ i : Nat) : Int) * 10 % 4294967296 = ((10 ^ (i + 1) : Nat) : Int) := by
      rw [Nat.pow_succ]
      omega
    have e2 : (((Num.decL 0 (L.take i) : Nat) : Int) * 10 % 4294967296 + (((L[i]'(by omega)).toNat : Int) - 48) % 256) % 4294967296 = ((Num.decL 0 (L.take (i + 1)) : Nat) : Int) := by
      rw [decL_take_succ L i (by omega)]
      omega
    rw [e1, e2]
    rfl

theorem parse_l1 (m : Nat) : ∀ (s : ByteArray) (L : List UInt8) (out : List Int), s.data.toList = L → L.length = m → Num.digs L = true → Num.okW out → out.length + L.length ≤ 900000 →
    Ev (fun k => nat_Parse.l1 k s out) (fitsW (Num.wordsN (Num.decL (Num.valN out) L))) := by
  induction m using Nat.strongRecOn with
  | _ m ih =>
    intro s L out hL hm hd hok hlen
    have hsz : s.size = L.length := by rw [← hL]; simp
    by_cases h0 : L.length = 0
    · have hnil : L = [] := List.eq_nil_of_length_eq_zero h0
      refine Ev.step (f := fun k => (nat_fits.f k out).bind fun t => some (t.1, t.2)) (fun k => ?_) ?_
      · simp only [nat_Parse.l1]
        rw [if_neg (by omega)]
      · rw [hnil]
        show Ev _ (fitsW (Num.wordsN (Num.valN out)))
        rw [fitsW_val (Num.wordsN_ok _) hok (Num.wordsN_val _)]
        exact Ev.bind (ev_fits out (by omega)) (Ev.now _)
    · obtain ⟨n, hn⟩ : ∃ n, n = min L.length 9 := ⟨_, rfl⟩
      have hmn : mn (s.size : Int) 9 = (n : Int) := by unfold mn; split <;> omega
      have hlt := Num.decL_lt (L.take n) (Num.digs_mem (digs_take hd n))
      rw [List.length_take, Nat.min_eq_left (by omega)] at hlt
      have hp : (10 : Nat) ^ n ≤ 10 ^ 9 := Nat.pow_le_pow_right (by decide) (by omega)
      have hp0 : 0 < (10 : Nat) ^ n := Nat.pow_pos (by decide)
      obtain ⟨t, ht, hto, htv, htl⟩ := more_val (b := ((10 ^ n : Nat) : Int)) (c := ((Num.decL 0 (L.take n) : Nat) : Int)) (by omega) (by omega) (by omega) (by omega) hok (by omega)
      have hd2 : (s.extract n s.size).data.toList = L.drop n := by
        rw [← hL]
        exact Lib.extract_to_end s n
      have key := ih (L.length - n) (by omega) (s.extract n s.size) (L.drop n) t hd2 (by simp) (digs_drop hd n) hto (by simp; omega)
      have e : Num.decL (Num.valN t) (L.drop n) = Num.decL (Num.valN out) L := by
        rw [htv]
        have h3 : L = L.take n ++ L.drop n := (List.take_append_drop n L).symm
        conv => rhs; rw [h3, Num.decL_append, Num.decL_acc (Num.valN out) (L.take n), List.length_take, Nat.min_eq_left (show n ≤ L.length by omega)]
        simp only [Int.toNat_natCast]
      rw [e] at key
      refine Ev.step (f := fun k => nat_Parse.l2 k s out (n : Int) ((10 ^ 0 : Nat) : Int) ((Num.decL 0 (L.take 0) : Nat) : Int) (n : Int) ((0 : Nat) : Int)) (fun k => ?_) ?_
      · simp only [nat_Parse.l1]
        rw [if_pos (by omega), hmn]
        rfl
      · refine parse_l2 s L hL hd out n (by omega) (by omega) _ ?_ n 0 (by omega)
        rw [ht]
        exact key

theorem parse_l0 (s : ByteArray) (L : List UInt8) (hL : s.data.toList = L) (hlen : L.length ≤ 900000) (d : Nat) : ∀ i : Nat, i + d = L.length → Num.digs (L.take i) = true →
    Ev (fun k => nat_Parse.l0 k s (s.size : Int) (i : Int)) (parseW L) := by
  have hsz : s.size = L.length := by rw [← hL]; simp
  induction d with
  | zero =>
    intro i hi hd
    rw [List.take_of_length_le (by omega)] at hd
    have hnil := toList_nil s
    unfold parseW
    rw [if_neg (by rw [hd]; decide)]
    by_cases h0 : L = []
    · rw [if_pos h0]
      refine Ev.step (f := fun _ => some (([] : List Int), (3 : Int))) (fun k => ?_) (Ev.now _)
      simp only [nat_Parse.l0]
      rw [if_neg (by omega), if_pos (hnil.2 (by rw [hsz, h0]; rfl))]
    · rw [if_neg h0]
      have h1 : ¬ s.toList = [] := fun h => h0 (List.eq_nil_of_length_eq_zero (by rw [← hsz]; exact hnil.1 h))
      by_cases h5 : 5000 < L.length
      · rw [if_pos h5]
        refine Ev.step (f := fun _ => some (([] : List Int), (2 : Int))) (fun k => ?_) (Ev.now _)
        simp only [nat_Parse.l0]
        rw [if_neg (by omega), if_neg h1, if_pos (by omega)]
      · rw [if_neg h5]
        refine Ev.step (f := fun k => nat_Parse.l1 k s ([] : List Int)) (fun k => ?_) ?_
        · simp only [nat_Parse.l0]
          rw [if_neg (by omega), if_neg h1, if_neg (by omega)]
        · exact parse_l1 L.length s L [] hL rfl hd Num.okW_nil (by simp; omega)
  | succ d ih =>
    intro i hi hd
    have hb : bt s (i : Int) = ((L[i]'(by omega)).toNat : Int) := by
      subst hL
      exact bt_get s i (by omega)
    have hbad : ¬ (48 ≤ (L[i]'(by omega)).toNat ∧ (L[i]'(by omega)).toNat ≤ 57) → parseW L = ([], 3) := by
      intro h
      unfold parseW
      rw [if_pos]
      cases hq : Num.digs L with
      | false => rfl
      | true => exact absurd (Num.digs_mem hq _ (List.getElem_mem _)) h
    by_cases h1 : (L[i]'(by omega)).toNat < 48
    · rw [hbad (by omega)]
      refine Ev.step (f := fun _ => some (([] : List Int), (3 : Int))) (fun k => ?_) (Ev.now _)
      simp only [nat_Parse.l0]
      rw [if_pos (by omega), if_pos (by omega), if_pos (by omega), hb, if_pos (by omega)]
    · by_cases h2 : 57 < (L[i]'(by omega)).toNat
      · rw [hbad (by omega)]
        refine Ev.step (f := fun _ => some (([] : List Int), (3 : Int))) (fun k => ?_) (Ev.now _)
        simp only [nat_Parse.l0]
        rw [if_pos (by omega), if_pos (by omega), if_pos (by omega), hb, if_neg (by omega), if_pos (by omega)]
      · refine Ev.step (fun k => ?_) (ih (i + 1) (by omega) ?_)
        · simp only [nat_Parse.l0]
          rw [if_pos (by omega), if_pos (by omega), if_pos (by omega), hb, if_neg (by omega), if_neg (by omega), i64_id (by omega) (by omega)]
          rfl
        · rw [List.take_succ_eq_append_getElem (by omega)]
          unfold Num.digs at hd ⊢
          rw [List.all_append, hd]
          simp
          omega

theorem ev_parse (s : ByteArray) (hlen : s.size ≤ 900000) : Ev (fun k => nat_Parse.f k s) (parseW s.data.toList) := by
  unfold nat_Parse.f
  have := parse_l0 s s.data.toList rfl (by simpa using hlen) s.data.toList.length 0 (by omega) (by simp [Num.digs])
  simpa using this

theorem okW_all {l : List Int} (h : Num.okW l) : (l.all fun x => decide (0 ≤ x) && decide (x < 4294967296)) = true := by
  rw [List.all_eq_true]
  intro x hx
  have := h x hx
  simp only [Bool.and_eq_true, decide_eq_true_eq]
  exact this
theorem text_f {l : List Int} (h : Num.okW l) (hl : l.length ≤ 1000000) : nat_Text.f l = some ⟨(Num.textN (Num.valN l)).toArray⟩ := by
  unfold nat_Text.f
  rw [if_pos ⟨okW_all h, hl⟩]
theorem words_two : Num.wordsN 4294967296 = [0, 1] := by
  rw [Num.wordsN_pos (by decide)]
  rw [show 4294967296 / 4294967296 = 1 from rfl, Num.wordsN_pos (by decide), show 1 / 4294967296 = 0 from rfl, Num.wordsN_zero]
  rfl
theorem parse_two : parseW [52, 50, 57, 52, 57, 54, 55, 50, 57, 54] = ([0, 1], 0) := by
  unfold parseW
  rw [if_neg (by decide), if_neg (by decide), if_neg (by decide), show Num.decL 0 [52, 50, 57, 52, 57, 54, 55, 50, 57, 54] = 4294967296 from by decide, words_two]
  rfl
theorem text_two : Num.textN 4294967296 = [52, 50, 57, 52, 57, 54, 55, 50, 57, 54] := by
  unfold Num.textN
  rw [if_neg (by decide), Num.pcs_pos (by decide), show 4294967296 / 1000000000 = 4 from rfl, Num.pcs_pos (by decide), show 4 / 1000000000 = 0 from rfl, Num.pcs_zero]
  decide
theorem ev_awake : Ev (fun k => bobbinlaw2_awake.f k) true := by
  unfold bobbinlaw2_awake.f
  have hp := ev_parse (⟨#[52, 50, 57, 52, 57, 54, 55, 50, 57, 54]⟩ : ByteArray) (by decide)
  rw [show parseW (⟨#[52, 50, 57, 52, 57, 54, 55, 50, 57, 54]⟩ : ByteArray).data.toList = ([0, 1], 0) from parse_two] at hp
  refine Ev.bind hp ?_
  simp only [if_true]
  refine Ev.bind (ev_same_self [0, 1] (by decide)) ?_
  simp only [if_true]
  refine Ev.congr (f := fun _ => some true) (fun k => ?_) (Ev.now _)
  rw [text_f (by intro x hx; simp at hx; omega) (by decide), show Num.valN [0, 1] = 4294967296 from by decide, text_two]
  rw [Option.bind_some, Lib.toList_data]
  rfl
end Go.Proofs.YtkihjfpfocnneaaDoor.Pure

namespace Go.Num

theorem val_take_succ (l : List Int) (i : Nat) (h : i < l.length) : valN (l.take (i + 1)) = valN (l.take i) + 4294967296 ^ i * (l.getD i 0).toNat := by
  rw [List.take_succ_eq_append_getElem h, valN_append, List.length_take, Nat.min_eq_left (by omega)]
  simp only [valN, Nat.mul_zero, Nat.add_zero]
  rw [List.getD_eq_getElem?_getD, List.getElem?_eq_getElem h]
  rfl
theorem val_pos {l : List Int} (h : okW l) (hn : normed l) (h0 : l ≠ []) : 0 < valN l := by
  rcases Nat.eq_zero_or_pos (valN l) with h1 | h1
  · exact absurd (hn.symm.trans ((valN_zero h).1 h1)) h0
  · exact h1
theorem normed_tail {x : Int} {l : List Int} (h : normed (x :: l)) : normed l := by
  unfold normed at h ⊢
  rw [trimW_cons] at h
  by_cases e : trimW l = []
  · rw [if_pos e] at h
    by_cases hx : x = 0
    · rw [if_pos hx] at h; exact absurd h (by simp)
    · rw [if_neg hx] at h
      have : l = [] := by simpa using h.symm
      rw [this]; rfl
  · rw [if_neg e] at h
    exact (List.cons.inj h).2
theorem val_ge {l : List Int} (h : okW l) (hn : normed l) : ∀ n, l.length = n + 1 → 4294967296 ^ n ≤ valN l := by
  induction l with
  | nil => intro n e; simp at e
  | cons x xs ih =>
    intro n e
    cases n with
    | zero =>
      have := val_pos h hn (by simp)
      rw [Nat.pow_zero]
      omega
    | succ n =>
      have h1 := ih (okW_cons.1 h).2 (normed_tail hn) n (by simpa using e)
      simp only [valN, Nat.pow_succ]
      omega
theorem lt_of_len {a b : List Int} (ha : okW a) (hb : okW b) (nb : normed b) (h : a.length < b.length) : valN a < valN b := by
  obtain ⟨n, hn⟩ : ∃ n, b.length = n + 1 := ⟨b.length - 1, by omega⟩
  have h1 := val_ge hb nb n hn
  have h2 := valN_lt ha
  have h3 : 4294967296 ^ a.length ≤ 4294967296 ^ n := Nat.pow_le_pow_right (by decide) (by omega)
  omega
/-- the order of two numbers -/
def cmpN (a b : Nat) : Int := if a < b then -1 else if b < a then 1 else 0
theorem cmpN_lt {a b : Nat} (h : a < b) : cmpN a b = -1 := by unfold cmpN; rw [if_pos h]
theorem cmpN_gt {a b : Nat} (h : b < a) : cmpN a b = 1 := by unfold cmpN; rw [if_neg (by omega), if_pos h]
theorem cmpN_eq {a b : Nat} (h : a = b) : cmpN a b = 0 := by unfold cmpN; rw [if_neg (by omega), if_neg (by omega)]
theorem cmpN_neg {a b : Nat} : cmpN a b < 0 ↔ a < b := by
  unfold cmpN
  by_cases h : a < b
  · rw [if_pos h]; simp [h]
  · rw [if_neg h]
    by_cases h2 : b < a
    · rw [if_pos h2]; simp [h]
    · rw [if_neg h2]; simp [h]

/-- how many digits in twos -/
def bitsN (v : Nat) : Nat := if v = 0 then 0 else Nat.log2 v + 1
theorem bitsN_zero : bitsN 0 = 0 := rfl
theorem bitsN_pos {v : Nat} (h : 0 < v) : 0 < bitsN v := by unfold bitsN; rw [if_neg (by omega)]; omega
theorem bitsN_lt (v : Nat) : v < 2 ^ bitsN v := by
  unfold bitsN
  by_cases h : v = 0
  · rw [if_pos h, h]; decide
  · rw [if_neg h]; exact Nat.lt_log2_self
theorem bitsN_le {v : Nat} (h : 0 < v) : 2 ^ (bitsN v - 1) ≤ v := by
  unfold bitsN
  rw [if_neg (by omega), Nat.add_sub_cancel]
  exact Nat.log2_self_le (by omega)
theorem bitsN_eq {v n : Nat} (h0 : 2 ^ n ≤ v) (h1 : v < 2 ^ (n + 1)) : bitsN v = n + 1 := by
  have hv : 0 < v := Nat.lt_of_lt_of_le (Nat.two_pow_pos n) h0
  have a := bitsN_lt v
  have b := bitsN_le hv
  have c := bitsN_pos hv
  have d : n < bitsN v := by
    rcases Nat.lt_or_ge n (bitsN v) with h | h
    · exact h
    · have : 2 ^ bitsN v ≤ 2 ^ n := Nat.pow_le_pow_right (by decide) h
      omega
  have e : bitsN v - 1 < n + 1 := by
    rcases Nat.lt_or_ge (bitsN v - 1) (n + 1) with h | h
    · exact h
    · have : 2 ^ (n + 1) ≤ 2 ^ (bitsN v - 1) := Nat.pow_le_pow_right (by decide) h
      omega
  omega
theorem bitsN_mul {v : Nat} (h : 0 < v) (k r : Nat) (hr : r < 2 ^ k) : bitsN (v * 2 ^ k + r) = bitsN v + k := by
  obtain ⟨n, hn⟩ : ∃ n, bitsN v = n + 1 := ⟨bitsN v - 1, by have := bitsN_pos h; omega⟩
  have a := bitsN_lt v
  have b := bitsN_le h
  rw [hn] at a b ⊢
  rw [Nat.add_sub_cancel] at b
  rw [show n + 1 + k = (n + k) + 1 by omega]
  refine bitsN_eq ?_ ?_
  · rw [Nat.pow_add]
    exact Nat.le_trans (Nat.mul_le_mul_right _ b) (Nat.le_add_right _ _)
  · rw [show n + k + 1 = (n + 1) + k by omega, Nat.pow_add]
    have : (v + 1) * 2 ^ k ≤ 2 ^ (n + 1) * 2 ^ k := Nat.mul_le_mul_right _ a
    rw [Nat.add_mul, Nat.one_mul] at this
    omega
theorem bitsN_mono {a b : Nat} (h : a ≤ b) : bitsN a ≤ bitsN b := by
  rcases Nat.eq_zero_or_pos a with h0 | h0
  · rw [h0]; exact Nat.zero_le _
  · have h1 := bitsN_le h0
    have h2 := bitsN_lt b
    rcases Nat.lt_or_ge (bitsN b) (bitsN a) with h3 | h3
    · have : 2 ^ bitsN b ≤ 2 ^ (bitsN a - 1) := Nat.pow_le_pow_right (by decide) (by omega)
      omega
    · exact h3
theorem bitLen_bitsN {x : Nat} (h : x < 18446744073709551616) : Lib.bitLen x = bitsN x := by
  rcases Nat.eq_zero_or_pos x with h0 | h0
  · rw [h0]; rfl
  · obtain ⟨a, b, c⟩ := Lib.bitLenAux_bounds 64 x (by simpa using h) (by omega)
    unfold Lib.bitLen
    obtain ⟨n, hn⟩ : ∃ n, Lib.bitLenAux 64 x = n + 1 := ⟨Lib.bitLenAux 64 x - 1, by omega⟩
    rw [hn] at b c ⊢
    exact (bitsN_eq b c).symm
/-- the digits of words: those of the last one, and 32 for each below -/
theorem bitsN_words {l : List Int} (hok : okW l) (hn : normed l) : ∀ n, l.length = n + 1 → bitsN (valN l) = 32 * n + bitsN (l.getD n 0).toNat := by
  induction l with
  | nil => intro n e; simp at e
  | cons x xs ih =>
    intro n e
    cases n with
    | zero =>
      have : xs = [] := by simpa using e
      subst this
      simp [valN]
    | succ n =>
      have h1 := ih (okW_cons.1 hok).2 (normed_tail hn) n (by simpa using e)
      have h2 : 0 < valN xs := val_pos (okW_cons.1 hok).2 (normed_tail hn) (by intro h; rw [h] at e; simp at e)
      have h3 := (okW_cons.1 hok).1
      have h4 : valN (x :: xs) = valN xs * 2 ^ 32 + x.toNat := by simp only [valN]; omega
      rw [h4, bitsN_mul h2 32 _ (by omega), h1, List.getD_cons_succ]
      omega
/-- one word more, whether there is one or not -/
theorem val_take_next (l : List Int) (i : Nat) : valN (l.take (i + 1)) = valN (l.take i) + 4294967296 ^ i * (l.getD i 0).toNat := by
  rcases Nat.lt_or_ge i l.length with h | h
  · exact val_take_succ l i h
  · rw [List.take_of_length_le (by omega), List.take_of_length_le h, List.getD_eq_getElem?_getD, List.getElem?_eq_none h]
    simp
theorem okW_snoc {l : List Int} {x : Int} (h : okW l) (h0 : 0 ≤ x) (h1 : x < 4294967296) : okW (l ++ [x]) := okW_append.2 ⟨h, okW_cons.2 ⟨⟨h0, h1⟩, okW_nil⟩⟩
theorem val_snoc (l : List Int) (x : Int) : valN (l ++ [x]) = valN l + 4294967296 ^ l.length * x.toNat := by rw [valN_append]; simp [valN]
theorem wordsN_len {v n : Nat} (h : v < 4294967296 ^ n) : (wordsN v).length ≤ n := by
  rcases Nat.lt_or_ge n (wordsN v).length with c | c
  · obtain ⟨m, hm⟩ : ∃ m, (wordsN v).length = m + 1 := ⟨(wordsN v).length - 1, by omega⟩
    have h1 := val_ge (wordsN_ok v) (wordsN_normed v) m hm
    rw [wordsN_val] at h1
    have h2 : 4294967296 ^ n ≤ 4294967296 ^ m := Nat.pow_le_pow_right (by decide) (by omega)
    omega
  · exact c
theorem wordsN_of {l : List Int} (h : okW l) (n : normed l) : wordsN (valN l) = l := by rw [← trim_words h]; exact n
end Go.Num

namespace Go.Proofs.YtkihjfpfocnneaaDoor.Pure
open Go.RowKit Go.Proofs.YtkihjfpfocnneaaDoor.PNat Go.Proofs.YtkihjfpfocnneaaDoorW.PrintWords Go.Proofs.YtkihjfpfocnneaaDoorW.PrintLast Go.Proofs.YtkihjfpfocnneaaDoorW.PrintMore
set_option linter.unusedVariables false
set_option linter.unusedSimpArgs false
theorem rd_toNat (l : List Int) (i : Nat) : (rd l (i : Int)).toNat = (l.getD i 0).toNat := by unfold rd; rw [Int.toNat_natCast]
theorem rd_getD (l : List Int) (i : Nat) : rd l (i : Int) = l.getD i 0 := by unfold rd; rw [Int.toNat_natCast]
theorem rd_ok {l : List Int} (h : Num.okW l) (i : Nat) : 0 ≤ rd l (i : Int) ∧ rd l (i : Int) < 4294967296 := by rw [rd_getD]; exact Num.okW_get h i

theorem cmp_step {a b : List Int} (ha : Num.okW a) (hb : Num.okW b) (n : Nat) :
    (rd a (n : Int) < rd b (n : Int) → Num.cmpN (Num.valN (a.take (n + 1))) (Num.valN (b.take (n + 1))) = -1) ∧
    (rd b (n : Int) < rd a (n : Int) → Num.cmpN (Num.valN (a.take (n + 1))) (Num.valN (b.take (n + 1))) = 1) ∧
    (rd a (n : Int) = rd b (n : Int) → Num.cmpN (Num.valN (a.take (n + 1))) (Num.valN (b.take (n + 1))) = Num.cmpN (Num.valN (a.take n)) (Num.valN (b.take n))) := by
  have oa := rd_ok ha n
  have ob := rd_ok hb n
  have la : Num.valN (a.take n) < 4294967296 ^ n := Nat.lt_of_lt_of_le (Num.valN_lt (Num.okW_take ha n)) (Nat.pow_le_pow_right (by decide) (List.length_take_le _ _))
  have lb : Num.valN (b.take n) < 4294967296 ^ n := Nat.lt_of_lt_of_le (Num.valN_lt (Num.okW_take hb n)) (Nat.pow_le_pow_right (by decide) (List.length_take_le _ _))
  rw [Num.val_take_next, Num.val_take_next, ← rd_toNat, ← rd_toNat]
  generalize Num.valN (a.take n) = va at *
  generalize Num.valN (b.take n) = vb at *
  generalize (4294967296 : Nat) ^ n = P at *
  obtain ⟨x, hx⟩ := Int.eq_ofNat_of_zero_le oa.1
  obtain ⟨y, hy⟩ := Int.eq_ofNat_of_zero_le ob.1
  rw [hx, hy]
  simp only [Int.toNat_natCast]
  refine ⟨fun h => Num.cmpN_lt ?_, fun h => Num.cmpN_gt ?_, fun h => ?_⟩
  · have : P * (x + 1) ≤ P * y := Nat.mul_le_mul_left _ (by omega)
    rw [Nat.mul_add] at this
    omega
  · have : P * (y + 1) ≤ P * x := Nat.mul_le_mul_left _ (by omega)
    rw [Nat.mul_add] at this
    omega
  · have : x = y := by omega
    subst this
    unfold Num.cmpN
    by_cases h1 : va < vb
    · rw [if_pos h1, if_pos (by omega)]
    · rw [if_neg h1, if_neg (by omega)]
      by_cases h2 : vb < va
      · rw [if_pos h2, if_pos (by omega)]
      · rw [if_neg h2, if_neg (by omega)]
theorem cmp_l0 {a b : List Int} (ha : Num.okW a) (hb : Num.okW b) (hl : a.length ≤ 1000000000) : ∀ n : Nat, n ≤ a.length → n ≤ b.length →
    Ev (fun k => nat_Compare.l0 k a b ((n : Int) - 1)) (Num.cmpN (Num.valN (a.take n)) (Num.valN (b.take n))) := by
  intro n
  induction n with
  | zero =>
    intro _ _
    refine Ev.step (f := fun _ => some 0) (fun k => ?_) ?_
    · simp only [nat_Compare.l0]
      rw [if_neg (by omega)]
    · rw [List.take_zero, List.take_zero]
      exact Ev.now _
  | succ n ih =>
    intro h1 h2
    obtain ⟨s1, s2, s3⟩ := cmp_step ha hb n
    have e : ((n + 1 : Nat) : Int) - 1 = (n : Int) := by omega
    rw [e]
    by_cases c1 : rd a (n : Int) < rd b (n : Int)
    · rw [s1 c1]
      refine Ev.step (f := fun _ => some (-1)) (fun k => ?_) (Ev.now _)
      simp only [nat_Compare.l0]
      rw [if_pos (by omega), if_pos (by omega), if_pos (by omega), if_pos (by omega), if_pos c1]
    · by_cases c2 : rd b (n : Int) < rd a (n : Int)
      · rw [s2 c2]
        refine Ev.step (f := fun _ => some 1) (fun k => ?_) (Ev.now _)
        simp only [nat_Compare.l0]
        rw [if_pos (by omega), if_pos (by omega), if_pos (by omega), if_pos (by omega), if_neg c1, if_pos c2]
      · rw [s3 (by omega)]
        refine Ev.step (fun k => ?_) (ih (by omega) (by omega))
        simp only [nat_Compare.l0]
        rw [if_pos (by omega), if_pos (by omega), if_pos (by omega), if_pos (by omega), if_neg c1, if_neg c2, i64_id (by omega) (by omega)]
theorem ev_cmp (l0 l1 : List Int) (o0 : Num.okW l0) (o1 : Num.okW l1) (h0 : l0.length ≤ 1000000000) (h1 : l1.length ≤ 1000000000) : Ev (fun k => nat_Compare.f k l0 l1) (Num.cmpN (Num.valN l0) (Num.valN l1)) := by
  unfold nat_Compare.f
  refine Ev.bind (ev_trim l0 h0) (Ev.bind (ev_trim l1 h1) ?_)
  have b0 := Num.trimW_length_le l0
  rw [← Num.trimW_val l0, ← Num.trimW_val l1]
  by_cases c : (Num.trimW l0).length = (Num.trimW l1).length
  · refine Ev.congr (fun k => by rw [if_pos (by omega), i64_id (by omega) (by omega)]) ?_
    have := cmp_l0 (Num.okW_trim o0) (Num.okW_trim o1) (by omega) (Num.trimW l0).length (Nat.le_refl _) (by omega)
    rw [List.take_length, c, List.take_length, ← c] at this
    exact this
  · by_cases c2 : (Num.trimW l0).length < (Num.trimW l1).length
    · refine Ev.congr (fun k => by rw [if_neg (by omega), if_pos (by omega)]) ?_
      rw [Num.cmpN_lt (Num.lt_of_len (Num.okW_trim o0) (Num.okW_trim o1) (Num.normed_trim l1) c2)]
      exact Ev.now _
    · refine Ev.congr (fun k => by rw [if_neg (by omega), if_neg (by omega)]) ?_
      rw [Num.cmpN_gt (Num.lt_of_len (Num.okW_trim o1) (Num.okW_trim o0) (Num.normed_trim l0) (by omega))]
      exact Ev.now _
theorem ev_bits (l : List Int) (ok : Num.okW l) (hl : l.length ≤ 100000000) : Ev (fun k => nat_Bits.f k l) ((Num.bitsN (Num.valN l) : Nat) : Int) := by
  unfold nat_Bits.f
  refine Ev.bind (ev_trim l (by omega)) ?_
  have b0 := Num.trimW_length_le l
  have ht := Num.okW_trim ok
  rw [← Num.trimW_val l]
  have hn := Num.normed_trim l
  generalize Num.trimW l = t at b0 ht hn ⊢
  cases hm : t.length with
  | zero =>
    have : t = [] := List.length_eq_zero_iff.1 hm
    subst this
    refine Ev.congr (f := fun _ => some 0) (fun k => by rw [if_pos (by simp)]) (Ev.now _)
  | succ n =>
    have e : wrap64 (((n + 1 : Nat) : Int) - 1) = (n : Int) := by rw [i64_id (by omega) (by omega)]; omega
    have o := rd_ok ht n
    rw [Num.bitsN_words ht hn n hm]
    have e2 : (rd t (n : Int)).toNat = (t.getD n 0).toNat := rd_toNat t n
    refine Ev.congr (f := fun _ => some (((32 * n + Num.bitsN (t.getD n 0).toNat : Nat) : Int))) (fun k => ?_) (Ev.now _)
    rw [if_neg (by omega), e, if_pos (by omega), if_pos (by omega)]
    simp only [bits_Len32.f]
    rw [if_pos (by omega), Option.bind_some, e2, Num.bitLen_bitsN (by omega)]
    have e3 : Num.bitsN (t.getD n 0).toNat ≤ 32 := by
      have h1 := Num.bitsN_mono (show (t.getD n 0).toNat ≤ 4294967295 by omega)
      have h2 : Num.bitsN 4294967295 = 32 := Num.bitsN_eq (by decide) (by decide)
      omega
    rw [i64_id (x := (n : Int) * 32) (by omega) (by omega), i64_id (by omega) (by omega)]
    congr 1
    omega
theorem u64_mod (z : Int) : IntKind.u64.wrap z = z % 18446744073709551616 := by
  show _ % 18446744073709551616 = _
  rfl
theorem add32 {x y c : Int} (hx : 0 ≤ x ∧ x < 4294967296) (hy : 0 ≤ y ∧ y < 4294967296) (hc : 0 ≤ c ∧ c ≤ 1) : bits_Add32.f x y c = some ((x + y + c) % 4294967296, (x + y + c) / 4294967296) := by
  unfold bits_Add32.f
  simp only [u64_mod]
  congr 2
  · omega
  · omega
theorem top_bit (a : Nat) (h : a < 4294967296) : a / 2147483648 = (a.testBit 31).toNat := by
  rw [Nat.testBit_eq_decide_div_mod_eq]
  have : a / 2 ^ 31 < 2 := by omega
  by_cases h1 : a / 2 ^ 31 % 2 = 1
  · simp only [h1, decide_true, Bool.toNat_true]; omega
  · simp only [h1, decide_false, Bool.toNat_false]; omega
theorem sub32 {x y c : Int} (hx : 0 ≤ x ∧ x < 4294967296) (hy : 0 ≤ y ∧ y < 4294967296) (hc : 0 ≤ c ∧ c ≤ 1) : bits_Sub32.f x y c = some ((x - y - c) % 4294967296, if x < y + c then 1 else 0) := by
  unfold bits_Sub32.f
  have hd : (((x - y) % 4294967296) - c) % 4294967296 = (x - y - c) % 4294967296 := by omega
  rw [hd]
  have hd0 : 0 ≤ (x - y - c) % 4294967296 ∧ (x - y - c) % 4294967296 < 4294967296 := by omega
  have hdv : (x - y - c) % 4294967296 = x - y - c ∨ (x - y - c) % 4294967296 = x - y - c + 4294967296 := by omega
  generalize (x - y - c) % 4294967296 = d at hd0 hdv ⊢
  obtain ⟨X, rfl⟩ := Int.eq_ofNat_of_zero_le hx.1
  obtain ⟨Y, rfl⟩ := Int.eq_ofNat_of_zero_le hy.1
  obtain ⟨D, rfl⟩ := Int.eq_ofNat_of_zero_le hd0.1
  have hX : X < 4294967296 := by omega
  have hY : Y < 4294967296 := by omega
  have hD : D < 4294967296 := by omega
  have hm : IntKind.u32.max = ((4294967295 : Nat) : Int) := by decide
  have hM : (4294967295 : Nat) < 4294967296 := by decide
  have l1 : 4294967295 ^^^ X < 4294967296 := Nat.xor_lt_two_pow (n := 32) (by omega) (by omega)
  have l2 : X ^^^ Y < 4294967296 := Nat.xor_lt_two_pow (n := 32) (by omega) (by omega)
  have l3 : 4294967295 ^^^ (X ^^^ Y) < 4294967296 := Nat.xor_lt_two_pow (n := 32) (by omega) (by omega)
  have l4 : (4294967295 ^^^ X) &&& Y < 4294967296 := Nat.and_lt_two_pow (n := 32) _ (by omega)
  have l5 : (4294967295 ^^^ (X ^^^ Y)) &&& D < 4294967296 := Nat.and_lt_two_pow (n := 32) _ (by omega)
  have l6 : ((4294967295 ^^^ X) &&& Y) ||| ((4294967295 ^^^ (X ^^^ Y)) &&& D) < 4294967296 := Nat.or_lt_two_pow (n := 32) (by omega) (by omega)
  rw [hm, u32_xor_nat _ _ hM hX, u32_and_nat _ _ l1 hY, u32_xor_nat _ _ hX hY, u32_xor_nat _ _ hM l2, u32_and_nat _ _ l3 hD, u32_or_nat _ _ l4 l5]
  have e : ((((4294967295 ^^^ X) &&& Y) ||| ((4294967295 ^^^ (X ^^^ Y)) &&& D) : Nat) : Int) / 2147483648 = ((((4294967295 ^^^ X) &&& Y) ||| ((4294967295 ^^^ (X ^^^ Y)) &&& D)) / 2147483648 : Nat) := by omega
  rw [e, top_bit _ l6]
  simp only [Nat.testBit_or, Nat.testBit_and, Nat.testBit_xor]
  have tm : Nat.testBit 4294967295 31 = true := by decide
  have tX := top_bit X hX
  have tY := top_bit Y hY
  have tD := top_bit D hD
  rw [tm]
  congr 2
  generalize X.testBit 31 = p at *
  generalize Y.testBit 31 = q at *
  generalize D.testBit 31 = s at *
  cases p <;> cases q <;> cases s <;> simp only [Bool.toNat_true, Bool.toNat_false, Bool.true_xor, Bool.false_xor, Bool.xor_true, Bool.xor_false, Bool.not_true, Bool.not_false, Bool.and_true, Bool.and_false, Bool.or_true, Bool.or_false, Bool.true_and, Bool.false_and, Bool.true_or, Bool.false_or] at tX tY tD ⊢ <;> split <;> first | rfl | (exfalso; omega)
theorem set_next (l : List Int) (n : Nat) (v : Int) : (l ++ List.replicate (n + 1) 0).set l.length v = (l ++ [v]) ++ List.replicate n 0 := by
  rw [List.set_append_right _ _ (Nat.le_refl _), Nat.sub_self, List.replicate_succ, List.set_cons_zero]
  simp
theorem carry_step {P vd va vb x y c : Nat} (h : vd + P * c = va + vb) : vd + P * ((x + y + c) % 4294967296) + P * 4294967296 * ((x + y + c) / 4294967296) = (va + P * x) + (vb + P * y) := by
  have e : P * ((x + y + c) % 4294967296) + P * 4294967296 * ((x + y + c) / 4294967296) = P * (x + y + c) := by
    rw [Nat.mul_assoc, ← Nat.mul_add, Nat.mod_add_div]
  rw [Nat.mul_add, Nat.mul_add] at e
  omega
theorem borrow_step {P vd va vb x y c v c' : Nat} (h : va + P * c = vd + vb) (e : x + 4294967296 * c' = v + y + c) : (va + P * x) + P * 4294967296 * c' = (vd + P * v) + (vb + P * y) := by
  have e2 : P * (x + 4294967296 * c') = P * (v + y + c) := by rw [e]
  rw [Nat.mul_add, Nat.mul_add, Nat.mul_add, ← Nat.mul_assoc] at e2
  omega
theorem rd_beyond {l : List Int} {i : Nat} (h : l.length ≤ i) : rd l (i : Int) = 0 := by
  rw [rd_getD, List.getD_eq_getElem?_getD, List.getElem?_eq_none h]; rfl
theorem add_l0 {a b : List Int} (oa : Num.okW a) (ob : Num.okW b) (hab : b.length ≤ a.length) (hl : a.length ≤ 100000000) (d : Nat) : ∀ (i : Nat) (dn : List Int) (c : Int), i + d = a.length → dn.length = i → Num.okW dn → 0 ≤ c ∧ c ≤ 1 →
    Num.valN dn + 4294967296 ^ i * c.toNat = Num.valN (a.take i) + Num.valN (b.take i) →
    Ev (fun k => nat_Add.l0 k a b (dn ++ List.replicate (d + 1) 0) c a (a.length : Int) (i : Int)) (Num.wordsN (Num.valN a + Num.valN b)) := by
  induction d with
  | zero =>
    intro i dn c hi hd od hc hv
    have e : (dn ++ List.replicate (0 + 1) 0).set a.length c = dn ++ [c] := by
      rw [show a.length = dn.length by omega, set_next]; simp
    refine Ev.step (f := fun k => (nat_trim.f k (dn ++ [c])).bind fun t => some t) (fun k => ?_) ?_
    · simp only [nat_Add.l0]
      rw [if_neg (by omega), if_pos (by omega), if_pos (by simp only [List.length_append, List.length_replicate]; omega), Int.toNat_natCast, e]
    · refine Ev.bind (ev_trim _ (by simp only [List.length_append, List.length_cons, List.length_nil]; omega)) ?_
      rw [Num.trim_words (Num.okW_snoc od hc.1 (by omega)), Num.val_snoc, hd, hv, List.take_of_length_le (by omega), List.take_of_length_le (by omega)]
      exact Ev.now _
  | succ d ih =>
    intro i dn c hi hd od hc hv
    have ox := rd_ok oa i
    have oy := rd_ok ob i
    have hs : (dn ++ List.replicate (d + 1 + 1) 0).set i ((rd a (i : Int) + rd b (i : Int) + c) % 4294967296) = (dn ++ [(rd a (i : Int) + rd b (i : Int) + c) % 4294967296]) ++ List.replicate (d + 1) 0 := by
      rw [← hd]; exact set_next _ _ _
    have hn := ih (i + 1) (dn ++ [(rd a (i : Int) + rd b (i : Int) + c) % 4294967296]) ((rd a (i : Int) + rd b (i : Int) + c) / 4294967296) (by omega) (by simp [hd]) (Num.okW_snoc od (by omega) (by omega)) (by omega) (by
      rw [Num.val_snoc, hd, Num.val_take_next, Num.val_take_next, ← rd_toNat, ← rd_toNat, Nat.pow_succ]
      have := carry_step (x := (rd a (i : Int)).toNat) (y := (rd b (i : Int)).toNat) hv
      rw [show ((rd a (i : Int) + rd b (i : Int) + c) % 4294967296).toNat = ((rd a (i : Int)).toNat + (rd b (i : Int)).toNat + c.toNat) % 4294967296 by omega, show ((rd a (i : Int) + rd b (i : Int) + c) / 4294967296).toNat = ((rd a (i : Int)).toNat + (rd b (i : Int)).toNat + c.toNat) / 4294967296 by omega]
      exact this)
    have hlen : (i : Int) < ((dn ++ List.replicate (d + 1 + 1) 0).length : Int) := by simp only [List.length_append, List.length_replicate]; omega
    refine Ev.step (fun k => ?_) hn
    simp only [nat_Add.l0]
    rw [if_pos (by omega), if_pos (by omega), if_pos (by omega), i64_id (show -9223372036854775808 ≤ (i : Int) + 1 by omega) (by omega)]
    by_cases hb : (i : Int) < (b.length : Int)
    · rw [if_pos hb, add32 ox oy hc]
      simp only [Option.bind_some]
      rw [if_pos hlen, Int.toNat_natCast, hs]
      rfl
    · have h0 : rd b (i : Int) = 0 := rd_beyond (by omega)
      rw [h0] at hs ⊢
      rw [if_neg hb, add32 ox (by omega) hc]
      simp only [Option.bind_some]
      rw [if_pos hlen, Int.toNat_natCast, hs]
      rfl
theorem add_j0 {a b : List Int} (oa : Num.okW a) (ob : Num.okW b) (hab : b.length ≤ a.length) (hl : a.length ≤ 100000000) : Ev (fun k => nat_Add.j0 k a b) (Num.wordsN (Num.valN a + Num.valN b)) := by
  have h := add_l0 oa ob hab hl a.length 0 [] 0 (by omega) rfl Num.okW_nil (by omega) (by simp [Num.valN])
  refine Ev.step (fun k => ?_) h
  simp only [nat_Add.j0]
  rw [i64_id (show -9223372036854775808 ≤ (a.length : Int) + 1 by omega) (by omega), if_pos (by omega), if_pos (by omega), show ((a.length : Int) + 1).toNat = a.length + 1 by omega]
  rfl
theorem ev_add (l0 l1 : List Int) (o0 : Num.okW l0) (o1 : Num.okW l1) (h0 : l0.length ≤ 100000000) (h1 : l1.length ≤ 100000000) : Ev (fun k => nat_Add.f k l0 l1) (Num.wordsN (Num.valN l0 + Num.valN l1)) := by
  unfold nat_Add.f
  refine Ev.bind (ev_trim l0 (by omega)) (Ev.bind (ev_trim l1 (by omega)) ?_)
  have b0 := Num.trimW_length_le l0
  have b1 := Num.trimW_length_le l1
  rw [← Num.trimW_val l0, ← Num.trimW_val l1]
  by_cases c : (Num.trimW l0).length < (Num.trimW l1).length
  · refine Ev.congr (fun k => by rw [if_pos (by omega)]) ?_
    rw [Nat.add_comm]
    exact add_j0 (Num.okW_trim o1) (Num.okW_trim o0) (by omega) (by omega)
  · refine Ev.congr (fun k => by rw [if_neg (by omega)]) ?_
    exact add_j0 (Num.okW_trim o0) (Num.okW_trim o1) (by omega) (by omega)

/-- a difference, or the refusal -/
def subW (a b : Nat) : List Int × Int := if a < b then ([], 1) else (Num.wordsN (a - b), 0)
theorem no_borrow {P vd va vb c : Nat} (h : va + P * c = vd + vb) (hd : vd < P) (hab : vb ≤ va) (hc : c ≤ 1) : vd = va - vb := by
  rcases Nat.lt_or_ge 0 c with h1 | h1
  · have : c = 1 := by omega
    subst this
    omega
  · have : c = 0 := by omega
    subst this
    omega
theorem sub_word {x y c : Int} (hx : 0 ≤ x ∧ x < 4294967296) (hy : 0 ≤ y ∧ y < 4294967296) (hc : 0 ≤ c ∧ c ≤ 1) : x.toNat + 4294967296 * (if x < y + c then (1 : Int) else 0).toNat = ((x - y - c) % 4294967296).toNat + y.toNat + c.toNat ∧ (0 ≤ (if x < y + c then (1 : Int) else 0) ∧ (if x < y + c then (1 : Int) else 0) ≤ 1) := by
  split <;> refine ⟨?_, by decide⟩ <;> omega
theorem sub_l0 {a b : List Int} (oa : Num.okW a) (ob : Num.okW b) (hab : b.length ≤ a.length) (hv0 : Num.valN b ≤ Num.valN a) (hl : a.length ≤ 1000000000) (d : Nat) : ∀ (i : Nat) (dn : List Int) (c : Int), i + d = a.length → dn.length = i → Num.okW dn → 0 ≤ c ∧ c ≤ 1 →
    Num.valN (a.take i) + 4294967296 ^ i * c.toNat = Num.valN dn + Num.valN (b.take i) →
    Ev (fun k => nat_Sub.l0 k b (dn ++ List.replicate d 0) c a (a.length : Int) (i : Int)) (Num.wordsN (Num.valN a - Num.valN b), (0 : Int)) := by
  induction d with
  | zero =>
    intro i dn c hi hd od hc hv
    refine Ev.step (f := fun k => (nat_trim.f k dn).bind fun t => some (t, (0 : Int))) (fun k => ?_) ?_
    · simp only [nat_Sub.l0]
      rw [if_neg (by omega), List.replicate_zero, List.append_nil]
    · refine Ev.bind (ev_trim _ (by omega)) ?_
      rw [List.take_of_length_le (by omega), List.take_of_length_le (by omega)] at hv
      rw [Num.trim_words od, no_borrow hv (by have := Num.valN_lt od; rw [hd] at this; exact this) hv0 (by omega)]
      exact Ev.now _
  | succ d ih =>
    intro i dn c hi hd od hc hv
    have ox := rd_ok oa i
    have oy := rd_ok ob i
    obtain ⟨w1, w2⟩ := sub_word ox oy hc
    have hs : (dn ++ List.replicate (d + 1) 0).set i ((rd a (i : Int) - rd b (i : Int) - c) % 4294967296) = (dn ++ [(rd a (i : Int) - rd b (i : Int) - c) % 4294967296]) ++ List.replicate d 0 := by
      rw [← hd]; exact set_next _ _ _
    have hn := ih (i + 1) (dn ++ [(rd a (i : Int) - rd b (i : Int) - c) % 4294967296]) (if rd a (i : Int) < rd b (i : Int) + c then 1 else 0) (by omega) (by simp [hd]) (Num.okW_snoc od (by omega) (by omega)) w2 (by
      rw [Num.val_snoc, hd, Num.val_take_next, Num.val_take_next, ← rd_toNat, ← rd_toNat, Nat.pow_succ]
      exact borrow_step hv w1)
    have hlen : (i : Int) < ((dn ++ List.replicate (d + 1) 0).length : Int) := by simp only [List.length_append, List.length_replicate]; omega
    refine Ev.step (fun k => ?_) hn
    simp only [nat_Sub.l0]
    rw [if_pos (by omega), if_pos (by omega), if_pos (by omega), i64_id (show -9223372036854775808 ≤ (i : Int) + 1 by omega) (by omega)]
    by_cases hb : (i : Int) < (b.length : Int)
    · rw [if_pos hb, sub32 ox oy hc]
      simp only [Option.bind_some]
      rw [if_pos hlen, Int.toNat_natCast, hs]
      rfl
    · have h0 : rd b (i : Int) = 0 := rd_beyond (by omega)
      rw [h0] at hs ⊢
      rw [if_neg hb, sub32 ox (by omega) hc]
      simp only [Option.bind_some]
      rw [if_pos hlen, Int.toNat_natCast, hs]
      rfl
theorem ev_sub (l0 l1 : List Int) (o0 : Num.okW l0) (o1 : Num.okW l1) (h0 : l0.length ≤ 1000000000) (h1 : l1.length ≤ 1000000000) : Ev (fun k => nat_Sub.f k l0 l1) (subW (Num.valN l0) (Num.valN l1)) := by
  unfold nat_Sub.f subW
  refine Ev.bind (ev_cmp l0 l1 o0 o1 h0 h1) ?_
  by_cases hlt : Num.valN l0 < Num.valN l1
  · refine Ev.congr (f := fun _ => some (([] : List Int), (1 : Int))) (fun k => by rw [if_pos (Num.cmpN_neg.2 hlt)]) ?_
    rw [if_pos hlt]
    exact Ev.now _
  · rw [if_neg hlt]
    have b0 := Num.trimW_length_le l0
    have b1 := Num.trimW_length_le l1
    have hle : (Num.trimW l1).length ≤ (Num.trimW l0).length := by
      rcases Nat.lt_or_ge (Num.trimW l0).length (Num.trimW l1).length with h | h
      · have := Num.lt_of_len (Num.okW_trim o0) (Num.okW_trim o1) (Num.normed_trim l1) h
        rw [Num.trimW_val, Num.trimW_val] at this
        omega
      · exact h
    refine Ev.congr (f := fun k => (nat_trim.f k l0).bind fun t395 => ((nat_trim.f k l1).bind fun t398 => (if 0 ≤ (t395.length : Int) then (if ((t395.length : Int) : Int).toNat ≤ 70368744177664 then (nat_Sub.l0 k t398 (List.replicate ((t395.length : Int) : Int).toNat 0) 0 t395 (t395.length : Int) 0) else (none)) else (none)))) (fun k => by rw [if_neg (fun h => hlt (Num.cmpN_neg.1 h))]) ?_
    refine Ev.bind (ev_trim l0 h0) (Ev.bind (ev_trim l1 h1) ?_)
    refine Ev.congr (fun k => by rw [if_pos (by omega), if_pos (by omega), Int.toNat_natCast]) ?_
    have h := sub_l0 (Num.okW_trim o0) (Num.okW_trim o1) hle (by rw [Num.trimW_val, Num.trimW_val]; omega) (by omega) (Num.trimW l0).length 0 [] 0 (by omega) rfl Num.okW_nil (by omega) (by simp [Num.valN])
    rw [Num.trimW_val, Num.trimW_val] at h
    exact h
end Go.Proofs.YtkihjfpfocnneaaDoor.Pure

namespace Go.Proofs.YtkihjfpfocnneaaDoor.Pure
open Go.RowKit Go.Proofs.YtkihjfpfocnneaaDoor.PNat Go.Proofs.YtkihjfpfocnneaaDoorW.PrintWords Go.Proofs.YtkihjfpfocnneaaDoorW.PrintLast Go.Proofs.YtkihjfpfocnneaaDoorW.PrintMore
set_option linter.unusedVariables false
set_option linter.unusedSimpArgs false
theorem set_prev (n : Nat) (l : List Int) (v : Int) : (List.replicate (n + 1) 0 ++ l).set n v = List.replicate n 0 ++ v :: l := by
  rw [List.replicate_succ', List.append_assoc, List.set_append_right _ _ (by simp), List.length_replicate, Nat.sub_self]
  rfl
theorem short_l0 {l : List Int} (ok : Num.okW l) {d : Int} (hd : 0 < d ∧ d < 4294967296) (hl : l.length ≤ 1000000000) : ∀ n : Nat, n ≤ l.length →
    Ev (fun k => nat_short.l0 k l d (List.replicate n 0 ++ (Num.shq d (l.drop n)).1) (Num.shq d (l.drop n)).2 ((n : Int) - 1)) (Num.shq d l) := by
  intro n
  induction n with
  | zero =>
    intro _
    refine Ev.step (f := fun _ => some (Num.shq d l)) (fun k => ?_) (Ev.now _)
    simp only [nat_short.l0]
    rw [if_neg (by omega)]
    simp
  | succ n ih =>
    intro h
    have e : ((n + 1 : Nat) : Int) - 1 = (n : Int) := by omega
    have hx := rd_ok ok n
    have hr := Num.shq_rest hd.1 (l.drop (n + 1))
    have ed : l.drop n = rd l (n : Int) :: l.drop (n + 1) := by
      rw [List.drop_eq_getElem_cons (by omega), rd_getD, List.getD_eq_getElem?_getD, List.getElem?_eq_getElem (by omega)]
      rfl
    have h2 := ih (by omega)
    rw [ed] at h2
    simp only [Num.shq] at h2
    rw [e]
    refine Ev.step (fun k => ?_) h2
    simp only [nat_short.l0]
    rw [if_pos (by omega), if_pos (by omega), if_pos (by omega)]
    simp only [bits_Div32.f]
    rw [if_pos ⟨hr.1, hr.2, hx.1, hx.2, hd.2⟩, Option.bind_some, if_pos (by simp only [List.length_append, List.length_replicate]; omega), i64_id (by omega) (by omega), Int.toNat_natCast, set_prev]
theorem ev_short (l : List Int) (ok : Num.okW l) (d : Int) (hd : 0 < d ∧ d < 4294967296) (hl : l.length ≤ 1000000000) : Ev (fun k => nat_short.f k l d) (Num.shq d l) := by
  unfold nat_short.f
  refine Ev.congr (fun k => by rw [if_pos (by omega), if_pos (by omega), Int.toNat_natCast, i64_id (by omega) (by omega)]) ?_
  have h := short_l0 ok hd hl l.length (Nat.le_refl _)
  rw [List.drop_length] at h
  simpa [Num.shq] using h

theorem take_step {P vd va vb n x y b c v b' c' : Nat} (h : vd + n * vb = va + P * (b + c)) (e1 : x + 4294967296 * b' + 4294967296 * c' = v + b + (c + n * y)) : (vd + P * v) + n * (vb + P * y) = (va + P * x) + P * 4294967296 * (b' + c') := by
  have e2 : P * (x + 4294967296 * b' + 4294967296 * c') = P * (v + b + (c + n * y)) := by rw [e1]
  have e3 : n * (P * y) = P * (n * y) := Nat.mul_left_comm _ _ _
  rw [Nat.mul_add] at h
  simp only [Nat.mul_add, ← Nat.mul_assoc] at e2
  simp only [Nat.mul_add, e3, ← Nat.mul_assoc]
  omega
theorem take_l0 {X V : List Int} (oX : Num.okW X) (oV : Num.okW V) (n : Nat) (hn : n < 4294967296) (hX : X.length = V.length + 1) (hl : V.length ≤ 1000000) (d : Nat) : ∀ (i : Nat) (dn : List Int) (c b : Int), i + d = V.length → dn.length = i → Num.okW dn → (0 ≤ c ∧ c < 4294967296) → (0 ≤ b ∧ b ≤ 1) →
    Num.valN dn + n * Num.valN (V.take i) = Num.valN (X.take i) + 4294967296 ^ i * (b.toNat + c.toNat) →
    ∃ X' : List Int, Num.okW X' ∧ X'.length = X.length ∧ ∃ bo : Nat, bo ≤ 1 ∧ Num.valN X' + n * Num.valN V = Num.valN X + 4294967296 ^ X.length * bo ∧
      Ev (fun k => nat_take.l0 k (dn ++ X.drop i) V (n : Int) c b V (V.length : Int) (i : Int)) (decide (bo ≠ 0), X') := by
  induction d with
  | zero =>
    intro i dn c b hi hd od hc hb hv
    have hiV : i = V.length := by omega
    have ox := rd_ok oX i
    have e1 : rd (dn ++ X.drop i) (V.length : Int) = rd X (i : Int) := by
      rw [← hiV, rd_getD, rd_getD, List.getD_eq_getElem?_getD, List.getD_eq_getElem?_getD, List.getElem?_append_right (by omega), hd, Nat.sub_self, List.getElem?_drop, Nat.add_zero]
    have e2 : ∀ z : Int, (dn ++ X.drop i).set V.length z = dn ++ [z] := by
      intro z
      rw [← hiV, List.set_append_right _ _ (by omega), hd, Nat.sub_self, List.drop_eq_getElem_cons (by omega), List.set_cons_zero, List.drop_of_length_le (by omega)]
    have hs := sub32 ox hc hb
    obtain ⟨w1, w2⟩ := sub_word ox hc hb
    refine ⟨dn ++ [(rd X (i : Int) - c - b) % 4294967296], Num.okW_snoc od (by omega) (by omega), by simp; omega, (if rd X (i : Int) < c + b then (1 : Int) else 0).toNat, by omega, ?_, ?_⟩
    · rw [Num.val_snoc, hd]
      have hV : Num.valN (V.take i) = Num.valN V := by rw [List.take_of_length_le (by omega)]
      have hXv : Num.valN X = Num.valN (X.take i) + 4294967296 ^ i * (rd X (i : Int)).toNat := by
        have := Num.val_take_next X i
        rw [List.take_of_length_le (l := X) (i := i + 1) (by omega), ← rd_toNat] at this
        exact this
      rw [hV] at hv
      rw [hXv, show X.length = i + 1 by omega, Nat.pow_succ]
      generalize (4294967296 : Nat) ^ i = P at *
      have e3 : P * ((rd X (i : Int)).toNat + 4294967296 * (if rd X (i : Int) < c + b then (1 : Int) else 0).toNat) = P * (((rd X (i : Int) - c - b) % 4294967296).toNat + c.toNat + b.toNat) := by rw [w1]
      simp only [Nat.mul_add, ← Nat.mul_assoc] at e3 hv ⊢
      omega
    · refine Ev.step (f := fun _ => some (decide ((if rd X (i : Int) < c + b then (1 : Int) else 0).toNat ≠ 0), dn ++ [(rd X (i : Int) - c - b) % 4294967296])) (fun k => ?_) (Ev.now _)
      simp only [nat_take.l0]
      rw [if_neg (by omega), if_pos (by omega), if_pos (by simp only [List.length_append, List.length_drop]; omega), e1, Int.emod_eq_of_lt hc.1 hc.2, hs]
      simp only [Option.bind_some, Int.toNat_natCast]
      rw [e2]
      congr 2
      split <;> rfl
  | succ d ih =>
    intro i dn c b hi hd od hc hb hv
    have ox := rd_ok oX i
    have oy := rd_ok oV i
    obtain ⟨x, hx⟩ := Int.eq_ofNat_of_zero_le ox.1
    obtain ⟨y, hy⟩ := Int.eq_ofNat_of_zero_le oy.1
    obtain ⟨C, rfl⟩ := Int.eq_ofNat_of_zero_le hc.1
    have e1 : rd (dn ++ X.drop i) (i : Int) = (x : Int) := by
      rw [← hx, rd_getD, rd_getD, List.getD_eq_getElem?_getD, List.getD_eq_getElem?_getD, List.getElem?_append_right (by omega), hd, Nat.sub_self, List.getElem?_drop, Nat.add_zero]
    have e2 : ∀ z : Int, (dn ++ X.drop i).set i z = (dn ++ [z]) ++ X.drop (i + 1) := by
      intro z
      rw [List.set_append_right _ _ (by omega), hd, Nat.sub_self, List.drop_eq_getElem_cons (by omega), List.set_cons_zero]
      simp
    have hny : n * y ≤ 4294967295 * 4294967295 := Nat.mul_le_mul (by omega) (by omega)
    have eT : IntKind.u64.wrap ((C : Int) + IntKind.u64.wrap ((n : Int) * IntKind.u64.wrap (y : Int))) = ((C + n * y : Nat) : Int) := by
      rw [u64_id (x := (y : Int)) (by omega) (by omega), ← Int.natCast_mul, u64_id (x := ((n * y : Nat) : Int)) (by omega) (by omega), ← Int.natCast_add, u64_id (by omega) (by omega)]
    obtain ⟨T, hT⟩ : ∃ T, T = C + n * y := ⟨_, rfl⟩
    rw [← hT] at eT
    have eD : ((T : Int)) / 4294967296 = ((T / 4294967296 : Nat) : Int) := by omega
    have eM : ((T : Int)) % 4294967296 = ((T % 4294967296 : Nat) : Int) := by omega
    have oT : 0 ≤ ((T % 4294967296 : Nat) : Int) ∧ ((T % 4294967296 : Nat) : Int) < 4294967296 := by omega
    have ox' : 0 ≤ (x : Int) ∧ (x : Int) < 4294967296 := by rw [← hx]; exact ox
    have hs := sub32 ox' oT hb
    obtain ⟨w1, w2⟩ := sub_word ox' oT hb
    have hT2 : T / 4294967296 < 4294967296 := by omega
    obtain ⟨X', o', l', bo, hbo, hval, hev⟩ := ih (i + 1) (dn ++ [((x : Int) - ((T % 4294967296 : Nat) : Int) - b) % 4294967296]) ((T / 4294967296 : Nat) : Int) (if (x : Int) < ((T % 4294967296 : Nat) : Int) + b then 1 else 0) (by omega) (by simp [hd]) (Num.okW_snoc od (by omega) (by omega)) (by omega) w2 (by
      rw [Num.val_snoc, hd, Num.val_take_next, Num.val_take_next, ← rd_toNat, ← rd_toNat, Nat.pow_succ, hx, hy]
      simp only [Int.toNat_natCast] at w1 hv ⊢
      refine take_step hv ?_
      omega)
    refine ⟨X', o', l', bo, hbo, hval, Ev.step (fun k => ?_) hev⟩
    simp only [nat_take.l0]
    rw [if_pos (by omega), if_pos (by omega), if_pos (by omega), if_pos (by simp only [List.length_append, List.length_drop]; omega), i64_id (show -9223372036854775808 ≤ (i : Int) + 1 by omega) (by omega), e1, hy, eT, eD, eM, hs]
    simp only [Option.bind_some, Int.toNat_natCast]
    rw [e2]
    rfl
/-- take: n times v away from u, and whether that was too much -/
theorem ev_take (X V : List Int) (oX : Num.okW X) (oV : Num.okW V) (n : Nat) (hn : n < 4294967296) (hX : X.length = V.length + 1) (hl : V.length ≤ 1000000) :
    ∃ X' : List Int, Num.okW X' ∧ X'.length = X.length ∧ ∃ bo : Nat, bo ≤ 1 ∧ Num.valN X' + n * Num.valN V = Num.valN X + 4294967296 ^ X.length * bo ∧ Ev (fun k => nat_take.f k X V (n : Int)) (decide (bo ≠ 0), X') := by
  have h := take_l0 oX oV n hn hX hl V.length 0 [] 0 0 (by omega) rfl Num.okW_nil (by omega) (by omega) (by simp [Num.valN])
  simpa [nat_take.f] using h

theorem give_l0 {X V : List Int} (oX : Num.okW X) (oV : Num.okW V) (hX : X.length = V.length + 1) (hl : V.length ≤ 1000000) (d : Nat) : ∀ (i : Nat) (dn : List Int) (c : Int), i + d = V.length → dn.length = i → Num.okW dn → (0 ≤ c ∧ c ≤ 1) →
    Num.valN dn + 4294967296 ^ i * c.toNat = Num.valN (X.take i) + Num.valN (V.take i) →
    ∃ X' : List Int, Num.okW X' ∧ X'.length = X.length ∧ (∃ o : Nat, Num.valN X' + 4294967296 ^ X.length * o = Num.valN X + Num.valN V) ∧
      Ev (fun k => nat_give.l0 k (dn ++ X.drop i) V c V (V.length : Int) (i : Int)) X' := by
  induction d with
  | zero =>
    intro i dn c hi hd od hc hv
    have hiV : i = V.length := by omega
    have ox := rd_ok oX i
    have e1 : rd (dn ++ X.drop i) (V.length : Int) = rd X (i : Int) := by
      rw [← hiV, rd_getD, rd_getD, List.getD_eq_getElem?_getD, List.getD_eq_getElem?_getD, List.getElem?_append_right (by omega), hd, Nat.sub_self, List.getElem?_drop, Nat.add_zero]
    have e2 : ∀ z : Int, (dn ++ X.drop i).set V.length z = dn ++ [z] := by
      intro z
      rw [← hiV, List.set_append_right _ _ (by omega), hd, Nat.sub_self, List.drop_eq_getElem_cons (by omega), List.set_cons_zero, List.drop_of_length_le (by omega)]
    refine ⟨dn ++ [(rd X (i : Int) + c) % 4294967296], Num.okW_snoc od (by omega) (by omega), by simp; omega, ⟨((rd X (i : Int) + c) / 4294967296).toNat, ?_⟩, ?_⟩
    · rw [Num.val_snoc, hd]
      have hV : Num.valN (V.take i) = Num.valN V := by rw [List.take_of_length_le (by omega)]
      have hXv : Num.valN X = Num.valN (X.take i) + 4294967296 ^ i * (rd X (i : Int)).toNat := by
        have := Num.val_take_next X i
        rw [List.take_of_length_le (l := X) (i := i + 1) (by omega), ← rd_toNat] at this
        exact this
      rw [hV] at hv
      rw [hXv, show X.length = i + 1 by omega, Nat.pow_succ]
      have e3 : ((rd X (i : Int) + c) % 4294967296).toNat + 4294967296 * ((rd X (i : Int) + c) / 4294967296).toNat = (rd X (i : Int)).toNat + c.toNat := by omega
      generalize (4294967296 : Nat) ^ i = P at *
      have e4 : P * (((rd X (i : Int) + c) % 4294967296).toNat + 4294967296 * ((rd X (i : Int) + c) / 4294967296).toNat) = P * ((rd X (i : Int)).toNat + c.toNat) := by rw [e3]
      simp only [Nat.mul_add, ← Nat.mul_assoc] at e4 ⊢
      omega
    · refine Ev.step (f := fun _ => some (dn ++ [(rd X (i : Int) + c) % 4294967296])) (fun k => ?_) (Ev.now _)
      simp only [nat_give.l0]
      rw [if_neg (by omega), if_pos (by omega), if_pos (by simp only [List.length_append, List.length_drop]; omega), e1, Int.toNat_natCast, e2]
  | succ d ih =>
    intro i dn c hi hd od hc hv
    have ox := rd_ok oX i
    have oy := rd_ok oV i
    have e1 : rd (dn ++ X.drop i) (i : Int) = rd X (i : Int) := by
      rw [rd_getD, rd_getD, List.getD_eq_getElem?_getD, List.getD_eq_getElem?_getD, List.getElem?_append_right (by omega), hd, Nat.sub_self, List.getElem?_drop, Nat.add_zero]
    have e2 : ∀ z : Int, (dn ++ X.drop i).set i z = (dn ++ [z]) ++ X.drop (i + 1) := by
      intro z
      rw [List.set_append_right _ _ (by omega), hd, Nat.sub_self, List.drop_eq_getElem_cons (by omega), List.set_cons_zero]
      simp
    obtain ⟨X', o', l', hval, hev⟩ := ih (i + 1) (dn ++ [(rd X (i : Int) + rd V (i : Int) + c) % 4294967296]) ((rd X (i : Int) + rd V (i : Int) + c) / 4294967296) (by omega) (by simp [hd]) (Num.okW_snoc od (by omega) (by omega)) (by omega) (by
      rw [Num.val_snoc, hd, Num.val_take_next, Num.val_take_next, ← rd_toNat, ← rd_toNat, Nat.pow_succ]
      have := carry_step (x := (rd X (i : Int)).toNat) (y := (rd V (i : Int)).toNat) hv
      rw [show ((rd X (i : Int) + rd V (i : Int) + c) % 4294967296).toNat = ((rd X (i : Int)).toNat + (rd V (i : Int)).toNat + c.toNat) % 4294967296 by omega, show ((rd X (i : Int) + rd V (i : Int) + c) / 4294967296).toNat = ((rd X (i : Int)).toNat + (rd V (i : Int)).toNat + c.toNat) / 4294967296 by omega]
      exact this)
    refine ⟨X', o', l', hval, Ev.step (fun k => ?_) hev⟩
    simp only [nat_give.l0]
    rw [if_pos (by omega), if_pos (by omega), if_pos (by omega), if_pos (by simp only [List.length_append, List.length_drop]; omega), i64_id (show -9223372036854775808 ≤ (i : Int) + 1 by omega) (by omega), e1, add32 ox oy hc]
    simp only [Option.bind_some, Int.toNat_natCast]
    rw [e2]
    rfl
/-- give: v back to u; what goes past the last word is lost -/
theorem ev_give (X V : List Int) (oX : Num.okW X) (oV : Num.okW V) (hX : X.length = V.length + 1) (hl : V.length ≤ 1000000) :
    ∃ X' : List Int, Num.okW X' ∧ X'.length = X.length ∧ (∃ o : Nat, Num.valN X' + 4294967296 ^ X.length * o = Num.valN X + Num.valN V) ∧ Ev (fun k => nat_give.f k X V) X' := by
  have h := give_l0 oX oV hX hl V.length 0 [] 0 (by omega) rfl Num.okW_nil (by omega) (by simp [Num.valN])
  simpa [nat_give.f] using h

theorem guess_l0 (u0 v1 v0 : Nat) (h0 : u0 < 4294967296) (h1 : 0 < v1 ∧ v1 < 4294967296) (hv0 : v0 < 4294967296) (W : Nat) : ∀ (n r : Nat), n < 4294967296 → r < 8589934592 → W = n * v1 + r →
    ∃ m : Nat, m ≤ n ∧ (∀ q, q ≤ n → q * (v1 * 4294967296 + v0) ≤ W * 4294967296 + u0 → q ≤ m) ∧ Ev (fun k => nat_guess.l0 k (u0 : Int) (v1 : Int) (v0 : Int) (n : Int) (r : Int)) (m : Int) := by
  intro n
  induction n with
  | zero =>
    intro r hn hr hW
    refine ⟨0, Nat.le_refl _, fun q h _ => h, ?_⟩
    refine Ev.step (f := fun _ => some 0) (fun k => ?_) (Ev.now _)
    simp only [nat_guess.l0]
    by_cases c : (r : Int) < 4294967296
    · rw [if_pos c]
      have e : IntKind.u64.wrap (((0 : Nat) : Int) * IntKind.u64.wrap (v0 : Int)) = 0 := by rw [show ((0 : Nat) : Int) = 0 from rfl, Int.zero_mul]; rfl
      have e2 : 0 ≤ bits .or .u64 (IntKind.u64.wrap ((r : Int) * 4294967296)) (IntKind.u64.wrap (u0 : Int)) := by
        rw [u64_id (x := (r : Int) * 4294967296) (by omega) (by omega), u64_id (x := (u0 : Int)) (by omega) (by omega), u64_or _ _ (by omega) (by omega) (by omega) (by omega)]
        omega
      rw [e, if_neg (by omega)]
      rfl
    · rw [if_neg c]
      rfl
  | succ n ih =>
    intro r hn hr hW
    by_cases c : (r : Int) < 4294967296
    · have e : IntKind.u64.wrap (((n + 1 : Nat) : Int) * IntKind.u64.wrap (v0 : Int)) = (((n + 1) * v0 : Nat) : Int) := by
        have : (n + 1) * v0 ≤ 4294967295 * 4294967295 := Nat.mul_le_mul (by omega) (by omega)
        rw [u64_id (x := (v0 : Int)) (by omega) (by omega), ← Int.natCast_mul, u64_id (by omega) (by omega)]
      have e2 : bits .or .u64 (IntKind.u64.wrap ((r : Int) * 4294967296)) (IntKind.u64.wrap (u0 : Int)) = (r : Int) * 4294967296 + (u0 : Int) := by
        rw [u64_id (x := (r : Int) * 4294967296) (by omega) (by omega), u64_id (x := (u0 : Int)) (by omega) (by omega), u64_or _ _ (by omega) (by omega) (by omega) (by omega), nat_join 32 _ _ (by omega) (by omega)]
        omega
      by_cases g : (n + 1) * v0 > r * 4294967296 + u0
      · obtain ⟨m, hm, hq, hev⟩ := ih (r + v1) (by omega) (by omega) (by rw [hW, Nat.add_mul]; omega)
        refine ⟨m, by omega, fun q h1 h2 => ?_, Ev.step (fun k => ?_) hev⟩
        · refine hq q ?_ h2
          rcases Nat.lt_or_ge q (n + 1) with h3 | h3
          · omega
          · exfalso
            have : q = n + 1 := by omega
            subst this
            have e5 : (n + 1) * (v1 * 4294967296 + v0) = (n + 1) * v1 * 4294967296 + (n + 1) * v0 := by rw [Nat.mul_add, Nat.mul_assoc]
            rw [hW, e5, Nat.add_mul] at h2
            omega
        · simp only [nat_guess.l0]
          rw [if_pos c, e, e2, if_pos (by omega), u64_id (x := ((n + 1 : Nat) : Int) - 1) (by omega) (by omega), u64_id (x := (v1 : Int)) (by omega) (by omega), u64_id (x := (r : Int) + (v1 : Int)) (by omega) (by omega), show ((n + 1 : Nat) : Int) - 1 = (n : Int) by omega, ← Int.natCast_add]
      · refine ⟨n + 1, Nat.le_refl _, fun q h1 _ => h1, ?_⟩
        refine Ev.step (f := fun _ => some ((n + 1 : Nat) : Int)) (fun k => ?_) (Ev.now _)
        simp only [nat_guess.l0]
        rw [if_pos c, e, e2, if_neg (by omega)]
    · refine ⟨n + 1, Nat.le_refl _, fun q h1 _ => h1, ?_⟩
      refine Ev.step (f := fun _ => some ((n + 1 : Nat) : Int)) (fun k => ?_) (Ev.now _)
      simp only [nat_guess.l0]
      rw [if_neg c]
/-- guess: no less than the digit, and times the divisor not much above -/
theorem ev_guess (u2 u1 u0 v1 v0 : Nat) (hu2 : u2 < 4294967296) (hu1 : u1 < 4294967296) (h0 : u0 < 4294967296) (h1 : 0 < v1 ∧ v1 < 4294967296) (hv0 : v0 < 4294967296) (h21 : u2 ≤ v1) :
    ∃ m : Nat, m < 4294967296 ∧ m * v1 ≤ u2 * 4294967296 + u1 ∧ (∀ q, q < 4294967296 → q * (v1 * 4294967296 + v0) ≤ (u2 * 4294967296 + u1) * 4294967296 + u0 → q ≤ m) ∧ Ev (fun k => nat_guess.f k (u2 : Int) (u1 : Int) (u0 : Int) (v1 : Int) (v0 : Int)) (m : Int) := by
  by_cases c : u2 ≥ v1
  · refine ⟨4294967295, by decide, by omega, fun q h _ => by omega, ?_⟩
    unfold nat_guess.f
    refine Ev.congr (f := fun _ => some ((4294967295 : Nat) : Int)) (fun k => by rw [if_pos (by omega)]; rfl) (Ev.now _)
  · have hq : (u2 * 4294967296 + u1) / v1 < 4294967296 := by
      rw [Nat.div_lt_iff_lt_mul h1.1]
      have : (u2 + 1) * 4294967296 ≤ v1 * 4294967296 := Nat.mul_le_mul_right _ (by omega)
      rw [Nat.mul_comm 4294967296 v1]
      omega
    have hr := Nat.mod_lt (u2 * 4294967296 + u1) h1.1
    have hW : u2 * 4294967296 + u1 = (u2 * 4294967296 + u1) / v1 * v1 + (u2 * 4294967296 + u1) % v1 := by rw [Nat.mul_comm ((u2 * 4294967296 + u1) / v1) v1]; exact (Nat.div_add_mod _ _).symm
    obtain ⟨m, hm, hmq, hev⟩ := guess_l0 u0 v1 v0 h0 h1 hv0 (u2 * 4294967296 + u1) ((u2 * 4294967296 + u1) / v1) ((u2 * 4294967296 + u1) % v1) hq (by omega) hW
    refine ⟨m, by omega, ?_, fun q h2 h3 => ?_, ?_⟩
    · have : m * v1 ≤ (u2 * 4294967296 + u1) / v1 * v1 := Nat.mul_le_mul_right _ hm
      omega
    · refine hmq q ?_ h3
      rw [Nat.le_div_iff_mul_le h1.1]
      have e5 : q * (v1 * 4294967296 + v0) = q * v1 * 4294967296 + q * v0 := by rw [Nat.mul_add, Nat.mul_assoc]
      rw [e5] at h3
      omega
    · unfold nat_guess.f
      refine Ev.congr (f := fun k => (bits_Div32.f (u2 : Int) (u1 : Int) (v1 : Int)).bind fun bt514 => (nat_guess.l0 k (u0 : Int) (v1 : Int) (v0 : Int) (IntKind.u64.wrap (bt514.1)) (IntKind.u64.wrap (bt514.2)))) (fun k => by rw [if_neg (by omega)]) ?_
      have e1 : bits_Div32.f (u2 : Int) (u1 : Int) (v1 : Int) = some ((((u2 * 4294967296 + u1) / v1 : Nat) : Int), (((u2 * 4294967296 + u1) % v1 : Nat) : Int)) := by
        unfold bits_Div32.f
        rw [if_pos (by omega)]
        congr 2
      rw [e1]
      simp only [Option.bind_some]
      rw [u64_id (by omega) (by omega), u64_id (by omega) (by omega)]
      exact hev

end Go.Proofs.YtkihjfpfocnneaaDoor.Pure
