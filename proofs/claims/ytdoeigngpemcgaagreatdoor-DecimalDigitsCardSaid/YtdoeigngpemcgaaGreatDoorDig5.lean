/- Over any float and any number of digits the law DecimalDigits answers true: both sides tell the same digits, exponent, sign and error; no condition. This is part 5 of 7: what the session's printing program wrote for the functions reached, and the session's own lemmas. -/
import Derived.Shelf.Small.Bits
import Derived.Test.YtdoeigngpemcgaaGreatDoorDig2
import Derived.Test.YtdoeigngpemcgaaGreatDoorDig4
import Derived.Test.YtdoeigngpemcgaaGreatDoorProg
set_option maxHeartbeats 32000000
set_option linter.unusedVariables false
set_option linter.unusedSimpArgs false
namespace Go.Proofs.YtdoeigngpemcgaaGreatDoor.PNat
open Go.RowKit Go.Proofs.YtdoeigngpemcgaaGreatDoorW.PrintWords Go.Proofs.YtdoeigngpemcgaaGreatDoorW.PrintLast Go.Proofs.YtdoeigngpemcgaaGreatDoorW.PrintMore
attribute [local go_sem] max2_int min2_int max_two min_two max_three min_three max_four min_four
def bobbinref2_Compare.l0 : Nat → List Int → List Int → Int → Option (Int)
 | 0, _, _, _ => none
 | k + 1, x0, x1, x5 => if x5 ≥ 0 then (if 0 ≤ x5 then (if x5 < (x0.length : Int) then (if x5 < (x1.length : Int) then (if (rd x0 x5) = (rd x1 x5) then (bobbinref2_Compare.l0 k x0 x1 (wrap64 (x5 - 1))) else (if (rd x0 x5) < (rd x1 x5) then (some (-1)) else (some 1))) else (none)) else (none)) else (none)) else (some 0)
def bobbinref2_Compare.f (k : Nat) (l0 : List Int) (l1 : List Int) : Option (Int) := (bobbinref2_trimmed.f k l0).bind fun t412 => ((bobbinref2_trimmed.f k l1).bind fun t415 => (if (t412.length : Int) = (t415.length : Int) then (bobbinref2_Compare.l0 k t412 t415 (wrap64 ((t412.length : Int) - 1))) else (if (t412.length : Int) < (t415.length : Int) then (some (-1)) else (some 1))))
set_option maxRecDepth 100000 in
theorem bobbinref2_Compare.calls (k : Nat) (A0 : Option Addr) (c0 : Nat) (l0 : List Int) (A1 : Option Addr) (c1 : Nat) (l1 : List Int) (r : Int) (w : World) (hr0 : Kd.C (Kd.int .u32) w A0 l0.length l0) (hc0 : l0.length ≤ c0) (hr1 : Kd.C (Kd.int .u32) w A1 l1.length l1) (hc1 : l1.length ≤ c1) (h : bobbinref2_Compare.f k l0 l1 = some r) :
  Calls Tryz.prog 102 #[.slice A0 l0.length c0, .slice A1 l1.length c1] w fun e w' => e = .returned (.int .i64 r) ∧ Below w.heap.size w w' := by
 have HR0 := Aside0.mk hr0
 have HC0 := Aside0.mk hc0
 clear hr0 hc0
 have HR1 := Aside0.mk hr1
 have HC1 := Aside0.mk hc1
 clear hr1 hc1
 have HB := Aside0.mk (Below.refl w.heap.size w)
 have H : ((bobbinref2_trimmed.f k l0).bind fun t412 => ((bobbinref2_trimmed.f k l1).bind fun t415 => (if (t412.length : Int) = (t415.length : Int) then (bobbinref2_Compare.l0 k t412 t415 (wrap64 ((t412.length : Int) - 1))) else (if (t412.length : Int) < (t415.length : Int) then (some (-1)) else (some 1))))) = some r := h
 clear h
 replace H := Option.bind_eq_some_iff.mp H
 obtain ⟨t412, A30, H⟩ := H
 have A3 := Aside0.mk A30
 clear A30
 replace H := Option.bind_eq_some_iff.mp H
 obtain ⟨t415, A40, H⟩ := H
 have A4 := Aside0.mk A40
 clear A40
 by_cases c5 : (t412.length : Int) = (t415.length : Int)
 ·rw [if_pos c5] at H
  have c5b0 : ((t412.length : Int) == (t415.length : Int)) = true := beq_iff_eq.mpr c5
  have c5b1 : ((t412.length : Int) != (t415.length : Int)) = false := bne_eq_false_iff_eq.mpr c5
  have c5b2 : (t412.length == t415.length) = true := by first | simpa using c5 | (simp at c5 ⊢; omega)
  clear c5
  have H' := Aside0.mk H
  clear H
  go_enter Tryz.func102, Tryz.ntmps102
  go_wp2_with (first | (go_at_call 101; (with_reducible refine (bobbinref2_trimmed.calls k (fun k_ => k_ < w.heap.size) _ _ l0 t412 _ ?side1 A3.out).mono ?_); (case side1 => exact Kd.V_mk HC0.out (Kd.F_below (Kd.C_F (Kd.heap_int .u32) HR0.out) (bq_ HB.out))); rintro e w6 ⟨v413, rfl, ho0, hb⟩; have HO414 := Aside0.mk (Kd.V_lower (Kd.V_mono (ok' := fun k_ => True) ho0 (fun k_ hk_ => trivial)) (below_size (bq_ HB.out))); replace HB := bb_ HB hb; (try clear hb); (try clear hb2); (try clear hk); (try clear hi); (try clear ho0)) | (go_at_call 101; (with_reducible refine (bobbinref2_trimmed.calls k (fun k_ => k_ < w.heap.size) _ _ l1 t415 _ ?side1 A4.out).mono ?_); (case side1 => exact Kd.V_mk HC1.out (Kd.F_below (Kd.C_F (Kd.heap_int .u32) HR1.out) (bq_ HB.out))); rintro e w7 ⟨v416, rfl, ho0, hb⟩; replace HO414 := vb_ HO414 hb; have HO417 := Aside0.mk (Kd.V_lower (Kd.V_mono (ok' := fun k_ => True) ho0 (fun k_ hk_ => trivial)) (below_size (bq_ HB.out))); replace HB := bb_ HB hb; (try clear hb); (try clear hb2); (try clear hk); (try clear hi); (try clear ho0); obtain ⟨Ao8, co8, eo8⟩ := Kd.V_slice HO414.out; subst eo8; obtain ⟨Ao9, co9, eo9⟩ := Kd.V_slice HO417.out; subst eo9))
  repeat (go_quiet (first | (go_at_call 101; (with_reducible refine (bobbinref2_trimmed.calls k (fun k_ => k_ < w.heap.size) _ _ l0 t412 _ ?side1 A3.out).mono ?_); (case side1 => exact Kd.V_mk HC0.out (Kd.F_below (Kd.C_F (Kd.heap_int .u32) HR0.out) (bq_ HB.out))); rintro e w6 ⟨v413, rfl, ho0, hb⟩; have HO414 := Aside0.mk (Kd.V_lower (Kd.V_mono (ok' := fun k_ => True) ho0 (fun k_ hk_ => trivial)) (below_size (bq_ HB.out))); replace HB := bb_ HB hb; (try clear hb); (try clear hb2); (try clear hk); (try clear hi); (try clear ho0)) | (go_at_call 101; (with_reducible refine (bobbinref2_trimmed.calls k (fun k_ => k_ < w.heap.size) _ _ l1 t415 _ ?side1 A4.out).mono ?_); (case side1 => exact Kd.V_mk HC1.out (Kd.F_below (Kd.C_F (Kd.heap_int .u32) HR1.out) (bq_ HB.out))); rintro e w7 ⟨v416, rfl, ho0, hb⟩; replace HO414 := vb_ HO414 hb; have HO417 := Aside0.mk (Kd.V_lower (Kd.V_mono (ok' := fun k_ => True) ho0 (fun k_ hk_ => trivial)) (below_size (bq_ HB.out))); replace HB := bb_ HB hb; (try clear hb); (try clear hb2); (try clear hk); (try clear hi); (try clear ho0); obtain ⟨Ao8, co8, eo8⟩ := Kd.V_slice HO414.out; subst eo8; obtain ⟨Ao9, co9, eo9⟩ := Kd.V_slice HO417.out; subst eo9)); try go_wp2_with (first | (go_at_call 101; (with_reducible refine (bobbinref2_trimmed.calls k (fun k_ => k_ < w.heap.size) _ _ l0 t412 _ ?side1 A3.out).mono ?_); (case side1 => exact Kd.V_mk HC0.out (Kd.F_below (Kd.C_F (Kd.heap_int .u32) HR0.out) (bq_ HB.out))); rintro e w6 ⟨v413, rfl, ho0, hb⟩; have HO414 := Aside0.mk (Kd.V_lower (Kd.V_mono (ok' := fun k_ => True) ho0 (fun k_ hk_ => trivial)) (below_size (bq_ HB.out))); replace HB := bb_ HB hb; (try clear hb); (try clear hb2); (try clear hk); (try clear hi); (try clear ho0)) | (go_at_call 101; (with_reducible refine (bobbinref2_trimmed.calls k (fun k_ => k_ < w.heap.size) _ _ l1 t415 _ ?side1 A4.out).mono ?_); (case side1 => exact Kd.V_mk HC1.out (Kd.F_below (Kd.C_F (Kd.heap_int .u32) HR1.out) (bq_ HB.out))); rintro e w7 ⟨v416, rfl, ho0, hb⟩; replace HO414 := vb_ HO414 hb; have HO417 := Aside0.mk (Kd.V_lower (Kd.V_mono (ok' := fun k_ => True) ho0 (fun k_ hk_ => trivial)) (below_size (bq_ HB.out))); replace HB := bb_ HB hb; (try clear hb); (try clear hb2); (try clear hk); (try clear hi); (try clear ho0); obtain ⟨Ao8, co8, eo8⟩ := Kd.V_slice HO414.out; subst eo8; obtain ⟨Ao9, co9, eo9⟩ := Kd.V_slice HO417.out; subst eo9)))
  go_loopg [5] k (fun kq v5 w' => ∃ (x5_1 : Int), v5 = .int .i64 x5_1 ∧ Aside0 (bobbinref2_Compare.l0 kq t412 t415 x5_1 = some r) ∧ Aside0 (kq ≤ k) ∧ Aside0 (Kd.V (Kd.int .u32) 35 w' w.heap.size (fun _ => True) (.slice Ao8 t412.length co8) t412) ∧ Aside0 (Kd.V (Kd.int .u32) 35 w' w.heap.size (fun _ => True) (.slice Ao9 t415.length co9) t415) ∧ Aside0 (Below w.heap.size w w'))
  case atStart => exact ⟨(wrap64 ((t412.length : Int) - 1)), aq_, H', ⟨Nat.le_refl _⟩, ⟨vq_ HO414.out⟩, ⟨vq_ HO417.out⟩, ⟨bq_ HB.out⟩⟩
  case round =>
   clear H'
   try clear c1
   try clear c2
   try clear p2
   try clear c5
   try clear c5b0
   try clear c5b1
   try clear c5b2
   try clear p6
   obtain ⟨x5_1, rfl, HA, HK1, HO_0, HO_1, HB⟩ := hrel
   cases gk with
   | zero => exact absurd HA.out (by simp [bobbinref2_Compare.l0])
   | succ k1 =>
    have H := HA.out
    clear HA
    simp only [bobbinref2_Compare.l0] at H
    by_cases c10 : x5_1 ≥ 0
    ·rw [if_pos c10] at H
     have c10b0 : decide (0 ≤ x5_1) = true := decide_eq_true c10
     clear c10
     obtain ⟨c11b0, H⟩ := od_ H
     obtain ⟨c12b0, H⟩ := od_ H
     obtain ⟨c13b0, H⟩ := od_ H
     by_cases c14 : (rd t412 x5_1) = (rd t415 x5_1)
     ·rw [if_pos c14] at H
      have c14b0 : ((rd t412 x5_1) == (rd t415 x5_1)) = true := beq_iff_eq.mpr c14
      have c14b1 : ((rd t412 x5_1) != (rd t415 x5_1)) = false := bne_eq_false_iff_eq.mpr c14
      clear c14
      have H' := Aside0.mk H
      clear H
      have p418 : 0 ≤ (x5_1 : Int) := oq_
      have q418 : x5_1 < (t412.length : Int) := oq_
      obtain ⟨ad418, e418, hx418_0⟩ := Kd.at_int (Kd.V_reads' HO_0.out).2.2 x5_1 p418 q418
      cases e418
      replace p418 := eq_true p418
      replace q418 := eq_true q418
      have p419 : 0 ≤ (x5_1 : Int) := oq_
      have q419 : x5_1 < (t415.length : Int) := oq_
      obtain ⟨ad419, e419, hx419_0⟩ := Kd.at_int (Kd.V_reads' HO_1.out).2.2 x5_1 p419 q419
      cases e419
      replace p419 := eq_true p419
      replace q419 := eq_true q419
      go_wp2
      repeat (go_quiet (fail); try go_wp2)
      go_roundg k1
      case measure => have := HK1.out; omega
      case rel => exact ⟨(wrap64 (x5_1 - 1)), aq_, H', ⟨by have := HK1.out; omega⟩, ⟨vq_ HO_0.out⟩, ⟨vq_ HO_1.out⟩, ⟨bq_ HB.out⟩⟩
     ·rw [if_neg c14] at H
      have c14b0 : ((rd t412 x5_1) == (rd t415 x5_1)) = false := beq_eq_false_iff_ne.mpr c14
      have c14b1 : ((rd t412 x5_1) != (rd t415 x5_1)) = true := bne_iff_ne.mpr c14
      by_cases c15 : (rd t412 x5_1) < (rd t415 x5_1)
      ·rw [if_pos c15] at H
       have c15b0 := decide_eq_true c15
       clear c15
       obtain rfl := Option.some.inj H
       have p418 : 0 ≤ (x5_1 : Int) := oq_
       have q418 : x5_1 < (t412.length : Int) := oq_
       obtain ⟨ad418, e418, hx418_0⟩ := Kd.at_int (Kd.V_reads' HO_0.out).2.2 x5_1 p418 q418
       cases e418
       replace p418 := eq_true p418
       replace q418 := eq_true q418
       have p419 : 0 ≤ (x5_1 : Int) := oq_
       have q419 : x5_1 < (t415.length : Int) := oq_
       obtain ⟨ad419, e419, hx419_0⟩ := Kd.at_int (Kd.V_reads' HO_1.out).2.2 x5_1 p419 q419
       cases e419
       replace p419 := eq_true p419
       replace q419 := eq_true q419
       have p420 : 0 ≤ (x5_1 : Int) := oq_
       have q420 : x5_1 < (t412.length : Int) := oq_
       obtain ⟨ad420, e420, hx420_0⟩ := Kd.at_int (Kd.V_reads' HO_0.out).2.2 x5_1 p420 q420
       obtain rfl : ad418 = ad420 := (by injection e420)
       replace p420 := eq_true p420
       replace q420 := eq_true q420
       have p421 : 0 ≤ (x5_1 : Int) := oq_
       have q421 : x5_1 < (t415.length : Int) := oq_
       obtain ⟨ad421, e421, hx421_0⟩ := Kd.at_int (Kd.V_reads' HO_1.out).2.2 x5_1 p421 q421
       obtain rfl : ad419 = ad421 := (by injection e421)
       replace p421 := eq_true p421
       replace q421 := eq_true q421
       go_wp2
       repeat (go_quiet (fail); try go_wp2)
       go_ret
       exact ⟨ew_, bq_ HB.out⟩
      ·rw [if_neg c15] at H
       have c15b0 := decide_eq_false c15
       clear c15
       obtain rfl := Option.some.inj H
       have p418 : 0 ≤ (x5_1 : Int) := oq_
       have q418 : x5_1 < (t412.length : Int) := oq_
       obtain ⟨ad418, e418, hx418_0⟩ := Kd.at_int (Kd.V_reads' HO_0.out).2.2 x5_1 p418 q418
       cases e418
       replace p418 := eq_true p418
       replace q418 := eq_true q418
       have p419 : 0 ≤ (x5_1 : Int) := oq_
       have q419 : x5_1 < (t415.length : Int) := oq_
       obtain ⟨ad419, e419, hx419_0⟩ := Kd.at_int (Kd.V_reads' HO_1.out).2.2 x5_1 p419 q419
       cases e419
       replace p419 := eq_true p419
       replace q419 := eq_true q419
       have p420 : 0 ≤ (x5_1 : Int) := oq_
       have q420 : x5_1 < (t412.length : Int) := oq_
       obtain ⟨ad420, e420, hx420_0⟩ := Kd.at_int (Kd.V_reads' HO_0.out).2.2 x5_1 p420 q420
       obtain rfl : ad418 = ad420 := (by injection e420)
       replace p420 := eq_true p420
       replace q420 := eq_true q420
       have p421 : 0 ≤ (x5_1 : Int) := oq_
       have q421 : x5_1 < (t415.length : Int) := oq_
       obtain ⟨ad421, e421, hx421_0⟩ := Kd.at_int (Kd.V_reads' HO_1.out).2.2 x5_1 p421 q421
       obtain rfl : ad419 = ad421 := (by injection e421)
       replace p421 := eq_true p421
       replace q421 := eq_true q421
       go_wp2
       repeat (go_quiet (fail); try go_wp2)
       go_ret
       exact ⟨ew_, bq_ HB.out⟩
    ·rw [if_neg c10] at H
     have c10b0 : decide (0 ≤ x5_1) = false := decide_eq_false c10
     clear c10
     obtain rfl := Option.some.inj H
     go_wp2
     repeat (go_quiet (fail); try go_wp2)
     go_ret
     exact ⟨ew_, bq_ HB.out⟩
 ·rw [if_neg c5] at H
  have c5b0 : ((t412.length : Int) == (t415.length : Int)) = false := beq_eq_false_iff_ne.mpr c5
  have c5b1 : ((t412.length : Int) != (t415.length : Int)) = true := bne_iff_ne.mpr c5
  have c5b2 : (t412.length == t415.length) = false := by first | simpa using c5 | (simp at c5 ⊢; omega)
  by_cases c16 : (t412.length : Int) < (t415.length : Int)
  ·rw [if_pos c16] at H
   have c16b0 := decide_eq_true c16
   have c16b1 : decide (t412.length < t415.length) = true := decide_eq_true (Int.ofNat_lt.mp c16)
   clear c16
   obtain rfl := Option.some.inj H
   go_enter Tryz.func102, Tryz.ntmps102
   go_wp2_with (first | (go_at_call 101; (with_reducible refine (bobbinref2_trimmed.calls k (fun k_ => k_ < w.heap.size) _ _ l0 t412 _ ?side1 A3.out).mono ?_); (case side1 => exact Kd.V_mk HC0.out (Kd.F_below (Kd.C_F (Kd.heap_int .u32) HR0.out) (bq_ HB.out))); rintro e w17 ⟨v413, rfl, ho0, hb⟩; have HO414 := Aside0.mk (Kd.V_lower (Kd.V_mono (ok' := fun k_ => True) ho0 (fun k_ hk_ => trivial)) (below_size (bq_ HB.out))); replace HB := bb_ HB hb; (try clear hb); (try clear hb2); (try clear hk); (try clear hi); (try clear ho0)) | (go_at_call 101; (with_reducible refine (bobbinref2_trimmed.calls k (fun k_ => k_ < w.heap.size) _ _ l1 t415 _ ?side1 A4.out).mono ?_); (case side1 => exact Kd.V_mk HC1.out (Kd.F_below (Kd.C_F (Kd.heap_int .u32) HR1.out) (bq_ HB.out))); rintro e w18 ⟨v416, rfl, ho0, hb⟩; replace HO414 := vb_ HO414 hb; have HO417 := Aside0.mk (Kd.V_lower (Kd.V_mono (ok' := fun k_ => True) ho0 (fun k_ hk_ => trivial)) (below_size (bq_ HB.out))); replace HB := bb_ HB hb; (try clear hb); (try clear hb2); (try clear hk); (try clear hi); (try clear ho0); obtain ⟨Ao19, co19, eo19⟩ := Kd.V_slice HO414.out; subst eo19; obtain ⟨Ao20, co20, eo20⟩ := Kd.V_slice HO417.out; subst eo20))
   repeat (go_quiet (first | (go_at_call 101; (with_reducible refine (bobbinref2_trimmed.calls k (fun k_ => k_ < w.heap.size) _ _ l0 t412 _ ?side1 A3.out).mono ?_); (case side1 => exact Kd.V_mk HC0.out (Kd.F_below (Kd.C_F (Kd.heap_int .u32) HR0.out) (bq_ HB.out))); rintro e w17 ⟨v413, rfl, ho0, hb⟩; have HO414 := Aside0.mk (Kd.V_lower (Kd.V_mono (ok' := fun k_ => True) ho0 (fun k_ hk_ => trivial)) (below_size (bq_ HB.out))); replace HB := bb_ HB hb; (try clear hb); (try clear hb2); (try clear hk); (try clear hi); (try clear ho0)) | (go_at_call 101; (with_reducible refine (bobbinref2_trimmed.calls k (fun k_ => k_ < w.heap.size) _ _ l1 t415 _ ?side1 A4.out).mono ?_); (case side1 => exact Kd.V_mk HC1.out (Kd.F_below (Kd.C_F (Kd.heap_int .u32) HR1.out) (bq_ HB.out))); rintro e w18 ⟨v416, rfl, ho0, hb⟩; replace HO414 := vb_ HO414 hb; have HO417 := Aside0.mk (Kd.V_lower (Kd.V_mono (ok' := fun k_ => True) ho0 (fun k_ hk_ => trivial)) (below_size (bq_ HB.out))); replace HB := bb_ HB hb; (try clear hb); (try clear hb2); (try clear hk); (try clear hi); (try clear ho0); obtain ⟨Ao19, co19, eo19⟩ := Kd.V_slice HO414.out; subst eo19; obtain ⟨Ao20, co20, eo20⟩ := Kd.V_slice HO417.out; subst eo20)); try go_wp2_with (first | (go_at_call 101; (with_reducible refine (bobbinref2_trimmed.calls k (fun k_ => k_ < w.heap.size) _ _ l0 t412 _ ?side1 A3.out).mono ?_); (case side1 => exact Kd.V_mk HC0.out (Kd.F_below (Kd.C_F (Kd.heap_int .u32) HR0.out) (bq_ HB.out))); rintro e w17 ⟨v413, rfl, ho0, hb⟩; have HO414 := Aside0.mk (Kd.V_lower (Kd.V_mono (ok' := fun k_ => True) ho0 (fun k_ hk_ => trivial)) (below_size (bq_ HB.out))); replace HB := bb_ HB hb; (try clear hb); (try clear hb2); (try clear hk); (try clear hi); (try clear ho0)) | (go_at_call 101; (with_reducible refine (bobbinref2_trimmed.calls k (fun k_ => k_ < w.heap.size) _ _ l1 t415 _ ?side1 A4.out).mono ?_); (case side1 => exact Kd.V_mk HC1.out (Kd.F_below (Kd.C_F (Kd.heap_int .u32) HR1.out) (bq_ HB.out))); rintro e w18 ⟨v416, rfl, ho0, hb⟩; replace HO414 := vb_ HO414 hb; have HO417 := Aside0.mk (Kd.V_lower (Kd.V_mono (ok' := fun k_ => True) ho0 (fun k_ hk_ => trivial)) (below_size (bq_ HB.out))); replace HB := bb_ HB hb; (try clear hb); (try clear hb2); (try clear hk); (try clear hi); (try clear ho0); obtain ⟨Ao19, co19, eo19⟩ := Kd.V_slice HO414.out; subst eo19; obtain ⟨Ao20, co20, eo20⟩ := Kd.V_slice HO417.out; subst eo20)))
   go_ret
   exact ⟨ew_, bq_ HB.out⟩
  ·rw [if_neg c16] at H
   have c16b0 := decide_eq_false c16
   have c16b1 : decide (t412.length < t415.length) = false := decide_eq_false (fun h => c16 (Int.ofNat_lt.mpr h))
   clear c16
   obtain rfl := Option.some.inj H
   go_enter Tryz.func102, Tryz.ntmps102
   go_wp2_with (first | (go_at_call 101; (with_reducible refine (bobbinref2_trimmed.calls k (fun k_ => k_ < w.heap.size) _ _ l0 t412 _ ?side1 A3.out).mono ?_); (case side1 => exact Kd.V_mk HC0.out (Kd.F_below (Kd.C_F (Kd.heap_int .u32) HR0.out) (bq_ HB.out))); rintro e w21 ⟨v413, rfl, ho0, hb⟩; have HO414 := Aside0.mk (Kd.V_lower (Kd.V_mono (ok' := fun k_ => True) ho0 (fun k_ hk_ => trivial)) (below_size (bq_ HB.out))); replace HB := bb_ HB hb; (try clear hb); (try clear hb2); (try clear hk); (try clear hi); (try clear ho0)) | (go_at_call 101; (with_reducible refine (bobbinref2_trimmed.calls k (fun k_ => k_ < w.heap.size) _ _ l1 t415 _ ?side1 A4.out).mono ?_); (case side1 => exact Kd.V_mk HC1.out (Kd.F_below (Kd.C_F (Kd.heap_int .u32) HR1.out) (bq_ HB.out))); rintro e w22 ⟨v416, rfl, ho0, hb⟩; replace HO414 := vb_ HO414 hb; have HO417 := Aside0.mk (Kd.V_lower (Kd.V_mono (ok' := fun k_ => True) ho0 (fun k_ hk_ => trivial)) (below_size (bq_ HB.out))); replace HB := bb_ HB hb; (try clear hb); (try clear hb2); (try clear hk); (try clear hi); (try clear ho0); obtain ⟨Ao23, co23, eo23⟩ := Kd.V_slice HO414.out; subst eo23; obtain ⟨Ao24, co24, eo24⟩ := Kd.V_slice HO417.out; subst eo24))
   repeat (go_quiet (first | (go_at_call 101; (with_reducible refine (bobbinref2_trimmed.calls k (fun k_ => k_ < w.heap.size) _ _ l0 t412 _ ?side1 A3.out).mono ?_); (case side1 => exact Kd.V_mk HC0.out (Kd.F_below (Kd.C_F (Kd.heap_int .u32) HR0.out) (bq_ HB.out))); rintro e w21 ⟨v413, rfl, ho0, hb⟩; have HO414 := Aside0.mk (Kd.V_lower (Kd.V_mono (ok' := fun k_ => True) ho0 (fun k_ hk_ => trivial)) (below_size (bq_ HB.out))); replace HB := bb_ HB hb; (try clear hb); (try clear hb2); (try clear hk); (try clear hi); (try clear ho0)) | (go_at_call 101; (with_reducible refine (bobbinref2_trimmed.calls k (fun k_ => k_ < w.heap.size) _ _ l1 t415 _ ?side1 A4.out).mono ?_); (case side1 => exact Kd.V_mk HC1.out (Kd.F_below (Kd.C_F (Kd.heap_int .u32) HR1.out) (bq_ HB.out))); rintro e w22 ⟨v416, rfl, ho0, hb⟩; replace HO414 := vb_ HO414 hb; have HO417 := Aside0.mk (Kd.V_lower (Kd.V_mono (ok' := fun k_ => True) ho0 (fun k_ hk_ => trivial)) (below_size (bq_ HB.out))); replace HB := bb_ HB hb; (try clear hb); (try clear hb2); (try clear hk); (try clear hi); (try clear ho0); obtain ⟨Ao23, co23, eo23⟩ := Kd.V_slice HO414.out; subst eo23; obtain ⟨Ao24, co24, eo24⟩ := Kd.V_slice HO417.out; subst eo24)); try go_wp2_with (first | (go_at_call 101; (with_reducible refine (bobbinref2_trimmed.calls k (fun k_ => k_ < w.heap.size) _ _ l0 t412 _ ?side1 A3.out).mono ?_); (case side1 => exact Kd.V_mk HC0.out (Kd.F_below (Kd.C_F (Kd.heap_int .u32) HR0.out) (bq_ HB.out))); rintro e w21 ⟨v413, rfl, ho0, hb⟩; have HO414 := Aside0.mk (Kd.V_lower (Kd.V_mono (ok' := fun k_ => True) ho0 (fun k_ hk_ => trivial)) (below_size (bq_ HB.out))); replace HB := bb_ HB hb; (try clear hb); (try clear hb2); (try clear hk); (try clear hi); (try clear ho0)) | (go_at_call 101; (with_reducible refine (bobbinref2_trimmed.calls k (fun k_ => k_ < w.heap.size) _ _ l1 t415 _ ?side1 A4.out).mono ?_); (case side1 => exact Kd.V_mk HC1.out (Kd.F_below (Kd.C_F (Kd.heap_int .u32) HR1.out) (bq_ HB.out))); rintro e w22 ⟨v416, rfl, ho0, hb⟩; replace HO414 := vb_ HO414 hb; have HO417 := Aside0.mk (Kd.V_lower (Kd.V_mono (ok' := fun k_ => True) ho0 (fun k_ hk_ => trivial)) (below_size (bq_ HB.out))); replace HB := bb_ HB hb; (try clear hb); (try clear hb2); (try clear hk); (try clear hi); (try clear ho0); obtain ⟨Ao23, co23, eo23⟩ := Kd.V_slice HO414.out; subst eo23; obtain ⟨Ao24, co24, eo24⟩ := Kd.V_slice HO417.out; subst eo24)))
   go_ret
   exact ⟨ew_, bq_ HB.out⟩
def bobbinref2_Sub.l0 : Nat → List Int → List Int → List Int → Int → Int → Option (List Int × Int)
 | 0, _, _, _, _, _ => none
 | k + 1, x0, x1, x6, x7, x8 => if x8 < (x0.length : Int) then (if 0 ≤ x8 then (if x8 < (x1.length : Int) then (if x6.length < 35184372088832 then (bobbinref2_Sub.l0 k x0 x1 (x6 ++ [(IntKind.u64.wrap ((IntKind.u64.wrap ((IntKind.u64.wrap (rd x0 x8)) - x7)) - (IntKind.u64.wrap (rd x1 x8)))) % 4294967296]) ((IntKind.u64.wrap ((IntKind.u64.wrap ((IntKind.u64.wrap (rd x0 x8)) - x7)) - (IntKind.u64.wrap (rd x1 x8)))) / 9223372036854775808) (wrap64 (x8 + 1))) else (none)) else (if x6.length < 35184372088832 then (bobbinref2_Sub.l0 k x0 x1 (x6 ++ [(IntKind.u64.wrap ((IntKind.u64.wrap (rd x0 x8)) - x7)) % 4294967296]) ((IntKind.u64.wrap ((IntKind.u64.wrap (rd x0 x8)) - x7)) / 9223372036854775808) (wrap64 (x8 + 1))) else (none))) else (none)) else ((bobbinref2_Norm.f k x6).bind fun t434 => (some (t434, 0)))
def bobbinref2_Sub.f (k : Nat) (l0 : List Int) (l1 : List Int) : Option (List Int × Int) := (bobbinref2_Compare.f k l0 l1).bind fun t422 => (if t422 < 0 then (some (([] : List Int), 1)) else ((bobbinref2_trimmed.f k l1).bind fun t423 => (bobbinref2_Sub.l0 k l0 t423 ([] : List Int) 0 0)))
set_option maxRecDepth 100000 in
theorem bobbinref2_Sub.calls (k : Nat) (A0 : Option Addr) (c0 : Nat) (l0 : List Int) (A1 : Option Addr) (c1 : Nat) (l1 : List Int) (r1 : List Int) (r2 : Int) (w : World) (hr0 : Kd.C (Kd.int .u32) w A0 l0.length l0) (hc0 : l0.length ≤ c0) (hr1 : Kd.C (Kd.int .u32) w A1 l1.length l1) (hc1 : l1.length ≤ c1) (h : bobbinref2_Sub.f k l0 l1 = some (r1, r2)) :
  Calls Tryz.prog 143 #[.slice A0 l0.length c0, .slice A1 l1.length c1] w fun e w' => ∃ v0_ : Value, e = .returned (.tuple #[v0_, .int .i64 r2]) ∧ Kd.R (Kd.int .u32) 35 w' w.heap.size (fun _ => True) v0_ r1 ∧ Below w.heap.size w w' := by
 have HR0 := Aside0.mk hr0
 have HC0 := Aside0.mk hc0
 clear hr0 hc0
 have HR1 := Aside0.mk hr1
 have HC1 := Aside0.mk hc1
 clear hr1 hc1
 have HB := Aside0.mk (Below.refl w.heap.size w)
 have H : ((bobbinref2_Compare.f k l0 l1).bind fun t422 => (if t422 < 0 then (some (([] : List Int), 1)) else ((bobbinref2_trimmed.f k l1).bind fun t423 => (bobbinref2_Sub.l0 k l0 t423 ([] : List Int) 0 0)))) = some (r1, r2) := h
 clear h
 replace H := Option.bind_eq_some_iff.mp H
 obtain ⟨t422, A30, H⟩ := H
 have A3 := Aside0.mk A30
 clear A30
 by_cases c4 : t422 < 0
 ·rw [if_pos c4] at H
  have c4b0 := decide_eq_true c4
  clear c4
  simp only [Option.some.injEq, Prod.mk.injEq] at H
  obtain ⟨rfl, rfl⟩ := H
  go_enter Tryz.func143, Tryz.ntmps143
  go_wp2_with (first | ((with_reducible refine gate_callee (f := 102) rfl ?_); refine goesL_ (some 12) rfl rfl Tryz.func102 (by kernel_rfl) rfl #[.slice A0 l0.length c0, .slice A1 l1.length c1] rfl gq_ ?_; (with_reducible refine (bobbinref2_Compare.calls k _ _ l0 _ _ l1 t422 _ ?side1 ?side2 ?side3 ?side4 A3.out).mono ?_); (case side1 => repeat (first | exact HR0.out | (with_reducible refine Kd.C_alloc ?_ _) | (with_reducible refine Kd.C_drewN ?_ _) | (with_reducible refine Kd.C_drew ?_))); (case side2 => exact HC0.out); (case side3 => repeat (first | exact HR1.out | (with_reducible refine Kd.C_alloc ?_ _) | (with_reducible refine Kd.C_drewN ?_ _) | (with_reducible refine Kd.C_drew ?_))); (case side4 => exact HC1.out); rintro e w5 ⟨rfl, hb⟩; refine ⟨_, rfl, ?_⟩; replace HB := bb_ HB hb; (try clear hb); (try clear hb2); (try clear hk); (try clear hi)))
  go_ret2
  exact ⟨_, ew_, by first | exact Kd.R_nil _ _ _ _ _ | exact Kd.R_nil _ 35 _ 0 (fun _ => False) | exact Kd.R_nil _ 35 _ 0 _ | exact Kd.R_nil _ _ _ _ _ | exact Kd.N_nil _ _ _ _ _ | exact Kd.V_nil _ _ _ _ _ | exact Kd.Q_nil _ _ _ _ _ | exact Kd.S_nil _ _ _ _ _, bq_ HB.out⟩
 ·rw [if_neg c4] at H
  have c4b0 := decide_eq_false c4
  clear c4
  replace H := Option.bind_eq_some_iff.mp H
  obtain ⟨t423, A60, H⟩ := H
  have A6 := Aside0.mk A60
  clear A60
  have H' := Aside0.mk H
  clear H
  go_enter Tryz.func143, Tryz.ntmps143
  go_wp2_with (first | ((with_reducible refine gate_callee (f := 102) rfl ?_); refine goesL_ (some 12) rfl rfl Tryz.func102 (by kernel_rfl) rfl #[.slice A0 l0.length c0, .slice A1 l1.length c1] rfl gq_ ?_; (with_reducible refine (bobbinref2_Compare.calls k _ _ l0 _ _ l1 t422 _ ?side1 ?side2 ?side3 ?side4 A3.out).mono ?_); (case side1 => repeat (first | exact HR0.out | (with_reducible refine Kd.C_alloc ?_ _) | (with_reducible refine Kd.C_drewN ?_ _) | (with_reducible refine Kd.C_drew ?_))); (case side2 => exact HC0.out); (case side3 => repeat (first | exact HR1.out | (with_reducible refine Kd.C_alloc ?_ _) | (with_reducible refine Kd.C_drewN ?_ _) | (with_reducible refine Kd.C_drew ?_))); (case side4 => exact HC1.out); rintro e w7 ⟨rfl, hb⟩; refine ⟨_, rfl, ?_⟩; replace HB := bb_ HB hb; (try clear hb); (try clear hb2); (try clear hk); (try clear hi)) | ((with_reducible refine gate_callee (f := 101) rfl ?_); refine goesL_ (some 15) rfl rfl Tryz.func101 (by kernel_rfl) rfl #[.slice A1 l1.length c1] rfl gq_ ?_; (with_reducible refine (bobbinref2_trimmed.calls k (fun k_ => k_ < w.heap.size) _ _ l1 t423 _ ?side1 A6.out).mono ?_); (case side1 => exact Kd.V_mk HC1.out (Kd.F_below (Kd.C_F (Kd.heap_int .u32) HR1.out) (bq_ HB.out))); rintro e w8 ⟨v424, rfl, ho0, hb⟩; refine ⟨_, rfl, ?_⟩; have HO425 := Aside0.mk (Kd.V_lower (Kd.V_mono (ok' := fun k_ => True) ho0 (fun k_ hk_ => trivial)) (below_size (bq_ HB.out))); replace HB := bb_ HB hb; (try clear hb); (try clear hb2); (try clear hk); (try clear hi); (try clear ho0)))
  go_loopg [6, 7, 8] k (fun kq v6 v7 v8 w' => ∃ (x6_1 : List Int) (x7_1 : Int) (x8_1 : Int), v7 = .int .u64 x7_1 ∧ v8 = .int .i64 x8_1 ∧ Aside0 (bobbinref2_Sub.l0 kq l0 t423 x6_1 x7_1 x8_1 = some (r1, r2)) ∧ Aside0 (kq ≤ k) ∧ Aside0 (Kd.V (Kd.int .u32) 35 w' w.heap.size (fun k_ => some k_ ≠ (v6 : Value).ownBlock) v424 t423) ∧ Aside0 (Kd.R (Kd.int .u32) 35 w' w.heap.size (fun _ => True) v6 x6_1) ∧ Aside0 (Below w.heap.size w w'))
  case atStart => exact ⟨(([] : List Int)), (0), (0), aq_, aq_, H', ⟨Nat.le_refl _⟩, ⟨by (with_reducible repeat (first | apply Kd.V_alloc | apply Kd.V_drewN | apply Kd.V_drew)); exact Kd.V_mono HO425.out (fun _ hk => (by simp [Value.ownBlock]))⟩, ⟨by first | exact Kd.R_nil _ _ _ _ _ | exact Kd.R_nil _ 35 _ 0 (fun _ => False) | exact Kd.R_nil _ 35 _ 0 _ | exact Kd.R_nil _ _ _ _ _ | exact Kd.N_nil _ _ _ _ _ | exact Kd.V_nil _ _ _ _ _ | exact Kd.Q_nil _ _ _ _ _ | exact Kd.S_nil _ _ _ _ _⟩, ⟨bq_ HB.out⟩⟩
  case round =>
   clear H'
   try clear c1
   try clear c2
   try clear p2
   try clear c4
   try clear c4b0
   obtain ⟨x6_1, x7_1, x8_1, rfl, rfl, HA, HK1, HO_1, HO_6, HB⟩ := hrel
   cases gk with
   | zero => exact absurd HA.out (by simp [bobbinref2_Sub.l0])
   | succ k1 =>
    have H := HA.out
    clear HA
    simp only [bobbinref2_Sub.l0] at H
    by_cases c9 : x8_1 < (l0.length : Int)
    ·rw [if_pos c9] at H
     have c9b0 := decide_eq_true c9
     clear c9
     obtain ⟨c10b0, H⟩ := od_ H
     by_cases c11 : x8_1 < (t423.length : Int)
     ·rw [if_pos c11] at H
      have c11b0 := decide_eq_true c11
      clear c11
      obtain ⟨c12, H⟩ := oi_ H
      have LMc12 := Aside0.mk c12
      clear c12
      obtain ⟨y428, hy428⟩ : ∃ y_ : List Int, y_ = (x6_1 ++ [(IntKind.u64.wrap ((IntKind.u64.wrap ((IntKind.u64.wrap (rd l0 x8_1)) - x7_1)) - (IntKind.u64.wrap (rd t423 x8_1)))) % 4294967296]) := ⟨_, rfl⟩
      replace H : (bobbinref2_Sub.l0 k1 l0 t423 y428 ((IntKind.u64.wrap ((IntKind.u64.wrap ((IntKind.u64.wrap (rd l0 x8_1)) - x7_1)) - (IntKind.u64.wrap (rd t423 x8_1)))) / 9223372036854775808) (wrap64 (x8_1 + 1))) = some (r1, r2) := by first | (rw [hy428]; with_reducible exact H) | (have H2_ := (Option.bind_some _ _).symm.trans H; rw [hy428]; with_reducible exact H2_) | (have H2_ := (Option.bind_some _ _).symm.trans H; with_reducible exact H2_) | with_reducible exact H | (rw [hy428]; exact H) | exact H
      have Ny428 := Aside0.mk hy428
      clear hy428
      have H' := Aside0.mk H
      clear H
      have p426 : 0 ≤ (x8_1 : Int) := oq_
      have q426 : x8_1 < (l0.length : Int) := oq_
      obtain ⟨ad426, e426, hx426_0⟩ := Kd.at_int HR0.out x8_1 p426 q426
      cases e426
      replace hx426_0 := (HB.out.cell (World.block_lt_of_cell? w _ hx426_0)).trans hx426_0
      replace p426 := eq_true p426
      replace q426 := eq_true q426
      obtain ⟨Ao13, co13, eo13⟩ := Kd.V_slice HO_1.out
      subst eo13
      have p427 : 0 ≤ (x8_1 : Int) := oq_
      have q427 : x8_1 < (t423.length : Int) := oq_
      obtain ⟨ad427, e427, hx427_0⟩ := Kd.at_int (Kd.V_reads' HO_1.out).2.2 x8_1 p427 q427
      cases e427
      replace p427 := eq_true p427
      replace q427 := eq_true q427
      go_wp2_with (first | ((with_reducible refine gate_builtin (b := .append) (xs := #[.tmp 40, .tmp 43]) rfl ?_); at_builtin; refine Kd.R_append (Kd.int .u32) (w0 := w) w.heap.size rfl (.tmp 40) (.tmp 43) 58 35 (.int .u32 0) 4 rfl Tryz.underlying58 info35 rfl (by decide) (by omega) u6 x6_1 ((IntKind.u64.wrap ((IntKind.u64.wrap ((IntKind.u64.wrap (rd l0 x8_1)) - x7_1)) - (IntKind.u64.wrap (rd t423 x8_1)))) % 4294967296) [.int .u32 ((IntKind.u64.wrap ((IntKind.u64.wrap ((IntKind.u64.wrap (rd l0 x8_1)) - x7_1)) - (IntKind.u64.wrap (rd t423 x8_1)))) % 4294967296)] (fun _ => True) (fun _ => False) rfl rfl ?aP (fun _ hk => hk.elim) ?aF ?aO ?aB ?aS ?aL ?_; (case aP => exact rfl); (case aB => exact (bq_ HB.out)); (case aF => exact (fun _ _ => trivial)); (case aO => exact (rq_ HO_6.out)); (case aS => exact (below_size (bq_ HB.out))); (case aL => have := LMc12.out; omega); intro v429 w14 ho hb hg hat; rw [← Ny428.out] at ho; replace HO_1 := Aside0.mk (Kd.V_afterv (ok := (fun _ => True)) (by (with_reducible repeat (first | apply Kd.V_alloc | apply Kd.V_drewN | apply Kd.V_drew)); exact Kd.V_mono HO_1.out (fun _ hk => ⟨trivial, hk⟩)) hg hat); replace HB := Aside0.mk (hb); have HO430 := Aside0.mk (ho); clear HO_6; clear ho hb hg hat))
      go_roundg k1
      case measure => have := HK1.out; omega
      case rel => exact ⟨(y428), ((IntKind.u64.wrap ((IntKind.u64.wrap ((IntKind.u64.wrap (rd l0 x8_1)) - x7_1)) - (IntKind.u64.wrap (rd t423 x8_1)))) / 9223372036854775808), (wrap64 (x8_1 + 1)), aq_, aq_, H', ⟨by have := HK1.out; omega⟩, ⟨by (with_reducible repeat (first | apply Kd.V_alloc | apply Kd.V_drewN | apply Kd.V_drew)); exact Kd.V_mono HO_1.out (fun _ hk => hk.2)⟩, ⟨rq_ HO430.out⟩, ⟨bq_ HB.out⟩⟩
     ·rw [if_neg c11] at H
      have c11b0 := decide_eq_false c11
      clear c11
      obtain ⟨c15, H⟩ := oi_ H
      have LMc15 := Aside0.mk c15
      clear c15
      obtain ⟨y431, hy431⟩ : ∃ y_ : List Int, y_ = (x6_1 ++ [(IntKind.u64.wrap ((IntKind.u64.wrap (rd l0 x8_1)) - x7_1)) % 4294967296]) := ⟨_, rfl⟩
      replace H : (bobbinref2_Sub.l0 k1 l0 t423 y431 ((IntKind.u64.wrap ((IntKind.u64.wrap (rd l0 x8_1)) - x7_1)) / 9223372036854775808) (wrap64 (x8_1 + 1))) = some (r1, r2) := by first | (rw [hy431]; with_reducible exact H) | (have H2_ := (Option.bind_some _ _).symm.trans H; rw [hy431]; with_reducible exact H2_) | (have H2_ := (Option.bind_some _ _).symm.trans H; with_reducible exact H2_) | with_reducible exact H | (rw [hy431]; exact H) | exact H
      have Ny431 := Aside0.mk hy431
      clear hy431
      have H' := Aside0.mk H
      clear H
      have p426 : 0 ≤ (x8_1 : Int) := oq_
      have q426 : x8_1 < (l0.length : Int) := oq_
      obtain ⟨ad426, e426, hx426_0⟩ := Kd.at_int HR0.out x8_1 p426 q426
      cases e426
      replace hx426_0 := (HB.out.cell (World.block_lt_of_cell? w _ hx426_0)).trans hx426_0
      replace p426 := eq_true p426
      replace q426 := eq_true q426
      obtain ⟨Ao16, co16, eo16⟩ := Kd.V_slice HO_1.out
      subst eo16
      go_wp2_with (first | ((with_reducible refine gate_builtin (b := .append) (xs := #[.tmp 40, .tmp 43]) rfl ?_); at_builtin; refine Kd.R_append (Kd.int .u32) (w0 := w) w.heap.size rfl (.tmp 40) (.tmp 43) 58 35 (.int .u32 0) 4 rfl Tryz.underlying58 info35 rfl (by decide) (by omega) u6 x6_1 ((IntKind.u64.wrap ((IntKind.u64.wrap (rd l0 x8_1)) - x7_1)) % 4294967296) [.int .u32 ((IntKind.u64.wrap ((IntKind.u64.wrap (rd l0 x8_1)) - x7_1)) % 4294967296)] (fun _ => True) (fun _ => False) rfl rfl ?aP (fun _ hk => hk.elim) ?aF ?aO ?aB ?aS ?aL ?_; (case aP => exact rfl); (case aB => exact (bq_ HB.out)); (case aF => exact (fun _ _ => trivial)); (case aO => exact (rq_ HO_6.out)); (case aS => exact (below_size (bq_ HB.out))); (case aL => have := LMc15.out; omega); intro v432 w17 ho hb hg hat; rw [← Ny431.out] at ho; replace HO_1 := Aside0.mk (Kd.V_afterv (ok := (fun _ => True)) (by (with_reducible repeat (first | apply Kd.V_alloc | apply Kd.V_drewN | apply Kd.V_drew)); exact Kd.V_mono HO_1.out (fun _ hk => ⟨trivial, hk⟩)) hg hat); replace HB := Aside0.mk (hb); have HO433 := Aside0.mk (ho); clear HO_6; clear ho hb hg hat))
      go_roundg k1
      case measure => have := HK1.out; omega
      case rel => exact ⟨(y431), ((IntKind.u64.wrap ((IntKind.u64.wrap (rd l0 x8_1)) - x7_1)) / 9223372036854775808), (wrap64 (x8_1 + 1)), aq_, aq_, H', ⟨by have := HK1.out; omega⟩, ⟨by (with_reducible repeat (first | apply Kd.V_alloc | apply Kd.V_drewN | apply Kd.V_drew)); exact Kd.V_mono HO_1.out (fun _ hk => hk.2)⟩, ⟨rq_ HO433.out⟩, ⟨bq_ HB.out⟩⟩
    ·rw [if_neg c9] at H
     have c9b0 := decide_eq_false c9
     clear c9
     replace H := Option.bind_eq_some_iff.mp H
     obtain ⟨t434, A180, H⟩ := H
     have A18 := Aside0.mk A180
     clear A180
     simp only [Option.some.injEq, Prod.mk.injEq] at H
     obtain ⟨rfl, rfl⟩ := H
     obtain ⟨Ao19, co19, eo19⟩ := Kd.R_slice HO_6.out
     subst eo19
     go_wp2_with (first | ((with_reducible refine gate_callee (f := 99) rfl ?_); refine goesL_ (some 48) rfl rfl Tryz.func99 (by kernel_rfl) rfl #[.slice Ao19 x6_1.length co19] rfl gq_ ?_; (with_reducible refine (bobbinref2_Norm.calls k1 _ _ x6_1 t434 _ ?side1 ?side2 A18.out).mono ?_); (case side1 => repeat (first | exact (Kd.R_reads' HO_6.out).2.2 | (with_reducible refine Kd.C_alloc ?_ _) | (with_reducible refine Kd.C_drewN ?_ _) | (with_reducible refine Kd.C_drew ?_))); (case side2 => exact (Kd.R_reads' HO_6.out).2.1); rintro e w20 ⟨v435, rfl, ho0, hb⟩; refine ⟨_, rfl, ?_⟩; have n0_ := Aside0.mk (Kd.V_elder' (vq_ HO_1.out) (Kd.R_base ho0) hb); have n1_ := Aside0.mk (Kd.R_elder' (rq_ HO_6.out) (Kd.R_base ho0) hb); have n2_ := Aside0.mk (Kd.R_lower (Kd.R_new' ho0 (Kd.R_lt (rq_ HO_6.out))) (below_size (bq_ HB.out))); have n3_ := Aside0.mk (below_step (bq_ HB.out) hb); clear HO_1; clear HO_6; clear HB; have HO_1 := n0_; have HO_6 := n1_; have HO436 := n2_; have HB := n3_; clear n0_ n1_ n2_ n3_; (try clear hb); (try clear hb2); (try clear hk); (try clear hi); (try clear ho0)))
     go_ret2
     exact ⟨_, ew_, by (with_reducible repeat (first | apply Kd.R_alloc | apply Kd.R_drewN | apply Kd.R_drew)); exact Kd.R_mono HO436.out (fun _ hk => trivial), bq_ HB.out⟩
mutual
def bobbinref2_Add.l0 : Nat → List Int → List Int → List Int → Int → Int → Option (List Int)
 | 0, _, _, _, _, _ => none
 | k + 1, x0, x1, x5, x6, x7 => if x7 < (x0.length : Int) then (bobbinref2_Add.j1 k x0 x1 x5 x6 x7 true) else (bobbinref2_Add.j1 k x0 x1 x5 x6 x7 (decide (x7 < (x1.length : Int))))
def bobbinref2_Add.j1 : Nat → List Int → List Int → List Int → Int → Int → Bool → Option (List Int)
 | 0, _, _, _, _, _, _ => none
 | k + 1, x0, x1, x5, x6, x7, x17 => if x17 = true then (if x7 < (x0.length : Int) then (if 0 ≤ x7 then (if x7 < (x1.length : Int) then (if x5.length < 35184372088832 then (bobbinref2_Add.l0 k x0 x1 (x5 ++ [(IntKind.u64.wrap ((IntKind.u64.wrap (x6 + (IntKind.u64.wrap (rd x0 x7)))) + (IntKind.u64.wrap (rd x1 x7)))) % 4294967296]) ((IntKind.u64.wrap ((IntKind.u64.wrap (x6 + (IntKind.u64.wrap (rd x0 x7)))) + (IntKind.u64.wrap (rd x1 x7)))) / 4294967296) (wrap64 (x7 + 1))) else (none)) else (if x5.length < 35184372088832 then (bobbinref2_Add.l0 k x0 x1 (x5 ++ [(IntKind.u64.wrap (x6 + (IntKind.u64.wrap (rd x0 x7)))) % 4294967296]) ((IntKind.u64.wrap (x6 + (IntKind.u64.wrap (rd x0 x7)))) / 4294967296) (wrap64 (x7 + 1))) else (none))) else (none)) else (if x7 < (x1.length : Int) then (if 0 ≤ x7 then (if x5.length < 35184372088832 then (bobbinref2_Add.l0 k x0 x1 (x5 ++ [(IntKind.u64.wrap (x6 + (IntKind.u64.wrap (rd x1 x7)))) % 4294967296]) ((IntKind.u64.wrap (x6 + (IntKind.u64.wrap (rd x1 x7)))) / 4294967296) (wrap64 (x7 + 1))) else (none)) else (none)) else (if x5.length < 35184372088832 then (bobbinref2_Add.l0 k x0 x1 (x5 ++ [(x6) % 4294967296]) (x6 / 4294967296) (wrap64 (x7 + 1))) else (none)))) else (if x5.length < 35184372088832 then ((bobbinref2_Norm.f k (x5 ++ [(x6) % 4294967296])).bind fun t440 => (some t440)) else (none))
end
def bobbinref2_Add.f (k : Nat) (l0 : List Int) (l1 : List Int) : Option (List Int) := bobbinref2_Add.l0 k l0 l1 ([] : List Int) 0 0
set_option maxRecDepth 100000 in
theorem bobbinref2_Add.calls (k : Nat) (A0 : Option Addr) (c0 : Nat) (l0 : List Int) (A1 : Option Addr) (c1 : Nat) (l1 : List Int) (r : List Int) (w : World) (hr0 : Kd.C (Kd.int .u32) w A0 l0.length l0) (hc0 : l0.length ≤ c0) (hr1 : Kd.C (Kd.int .u32) w A1 l1.length l1) (hc1 : l1.length ≤ c1) (h : bobbinref2_Add.f k l0 l1 = some r) :
  Calls Tryz.prog 104 #[.slice A0 l0.length c0, .slice A1 l1.length c1] w fun e w' => ∃ v0_ : Value, e = .returned (v0_) ∧ Kd.R (Kd.int .u32) 35 w' w.heap.size (fun _ => True) v0_ r ∧ Below w.heap.size w w' := by
 have HR0 := Aside0.mk hr0
 have HC0 := Aside0.mk hc0
 clear hr0 hc0
 have HR1 := Aside0.mk hr1
 have HC1 := Aside0.mk hc1
 clear hr1 hc1
 have HB := Aside0.mk (Below.refl w.heap.size w)
 have H : (bobbinref2_Add.l0 k l0 l1 ([] : List Int) 0 0) = some r := h
 clear h
 have H' := Aside0.mk H
 clear H
 go_enter Tryz.func104, Tryz.ntmps104
 go_wp2
 go_loopg [5, 6, 7] k (fun kq v5 v6 v7 w' => ∃ (x5_1 : List Int) (x6_1 : Int) (x7_1 : Int), v6 = .int .u64 x6_1 ∧ v7 = .int .i64 x7_1 ∧ Aside0 (bobbinref2_Add.l0 kq l0 l1 x5_1 x6_1 x7_1 = some r) ∧ Aside0 (kq ≤ k) ∧ Aside0 (Kd.R (Kd.int .u32) 35 w' w.heap.size (fun _ => True) v5 x5_1) ∧ Aside0 (Below w.heap.size w w'))
 case atStart => exact ⟨(([] : List Int)), (0), (0), aq_, aq_, H', ⟨Nat.le_refl _⟩, ⟨by first | exact Kd.R_nil _ _ _ _ _ | exact Kd.R_nil _ 35 _ 0 (fun _ => False) | exact Kd.R_nil _ 35 _ 0 _ | exact Kd.R_nil _ _ _ _ _ | exact Kd.N_nil _ _ _ _ _ | exact Kd.V_nil _ _ _ _ _ | exact Kd.Q_nil _ _ _ _ _ | exact Kd.S_nil _ _ _ _ _⟩, ⟨bq_ HB.out⟩⟩
 case round =>
  clear H'
  try clear c1
  try clear c2
  try clear p2
  obtain ⟨x5_1, x6_1, x7_1, rfl, rfl, HA, HK1, HO_5, HB⟩ := hrel
  cases gk with
  | zero => exact absurd HA.out (by simp [bobbinref2_Add.l0])
  | succ k1 =>
   have H := HA.out
   clear HA
   simp only [bobbinref2_Add.l0] at H
   have HC3 := Aside0.mk H
   clear H
   go_upto_region 4 with (fail)
   go_cut [17] (fun v17 wc => ∃ (kq : Nat) (x17_2 : Bool), v17 = .bool x17_2 ∧ Aside0 (bobbinref2_Add.j1 kq l0 l1 x5_1 x6_1 x7_1 x17_2 = some r) ∧ Aside0 (kq ≤ k1) ∧ Aside0 (Kd.R (Kd.int .u32) 35 wc w.heap.size (fun _ => True) u5 x5_1) ∧ Aside0 (Below w.heap.size w wc))
   case first =>
    have H := HC3.out
    clear HC3
    by_cases c4 : x7_1 < (l0.length : Int)
    ·rw [if_pos c4] at H
     have c4b0 := decide_eq_true c4
     clear c4
     (first | rw [c4b0] | (simp only [i64_w, i32_w]; rw [c4b0]) | rw [c4b1] | skip)
     have H' := Aside0.mk H
     clear H
     go_wp2
     go_meet
     case rel => exact ⟨_, (true), aq_, H', ⟨by have := HK1.out; first | omega | exact Nat.le_refl _⟩, ⟨rq_ HO_5.out⟩, ⟨bq_ HB.out⟩⟩
    ·rw [if_neg c4] at H
     have c4b0 := decide_eq_false c4
     clear c4
     (first | rw [c4b0] | (simp only [i64_w, i32_w]; rw [c4b0]) | rw [c4b1] | skip)
     have H' := Aside0.mk H
     clear H
     go_wp2
     go_meet
     case rel => exact ⟨_, (decide (x7_1 < (l1.length : Int))), aq_, H', ⟨by have := HK1.out; first | omega | exact Nat.le_refl _⟩, ⟨rq_ HO_5.out⟩, ⟨bq_ HB.out⟩⟩
   case rest =>
    clear HC3
    try clear c1
    try clear c2
    try clear p2
    try clear c4
    try clear c4b0
    try clear c4b1
    try clear p2
    obtain ⟨kq, x17_2, rfl, HA, HJ2, HO_5, HB⟩ := hcut
    cases kq with
    | zero => exact absurd HA.out (by simp [bobbinref2_Add.j1])
    | succ kj2 =>
     have H := HA.out
     clear HA
     simp only [bobbinref2_Add.j1] at H
     by_cases c5 : x17_2 = true
     ·subst c5
      rw [if_pos rfl] at H
      by_cases c6 : x7_1 < (l0.length : Int)
      ·rw [if_pos c6] at H
       have c6b0 := decide_eq_true c6
       clear c6
       obtain ⟨c7b0, H⟩ := od_ H
       by_cases c8 : x7_1 < (l1.length : Int)
       ·rw [if_pos c8] at H
        have c8b0 := decide_eq_true c8
        clear c8
        obtain ⟨c9, H⟩ := oi_ H
        have LMc9 := Aside0.mk c9
        clear c9
        obtain ⟨y445, hy445⟩ : ∃ y_ : List Int, y_ = (x5_1 ++ [(IntKind.u64.wrap ((IntKind.u64.wrap (x6_1 + (IntKind.u64.wrap (rd l0 x7_1)))) + (IntKind.u64.wrap (rd l1 x7_1)))) % 4294967296]) := ⟨_, rfl⟩
        replace H : (bobbinref2_Add.l0 kj2 l0 l1 y445 ((IntKind.u64.wrap ((IntKind.u64.wrap (x6_1 + (IntKind.u64.wrap (rd l0 x7_1)))) + (IntKind.u64.wrap (rd l1 x7_1)))) / 4294967296) (wrap64 (x7_1 + 1))) = some r := by first | (rw [hy445]; with_reducible exact H) | (have H2_ := (Option.bind_some _ _).symm.trans H; rw [hy445]; with_reducible exact H2_) | (have H2_ := (Option.bind_some _ _).symm.trans H; with_reducible exact H2_) | with_reducible exact H | (rw [hy445]; exact H) | exact H
        have Ny445 := Aside0.mk hy445
        clear hy445
        have H' := Aside0.mk H
        clear H
        have p443 : 0 ≤ (x7_1 : Int) := oq_
        have q443 : x7_1 < (l0.length : Int) := oq_
        obtain ⟨ad443, e443, hx443_0⟩ := Kd.at_int HR0.out x7_1 p443 q443
        cases e443
        replace hx443_0 := (HB.out.cell (World.block_lt_of_cell? w _ hx443_0)).trans hx443_0
        replace p443 := eq_true p443
        replace q443 := eq_true q443
        have p444 : 0 ≤ (x7_1 : Int) := oq_
        have q444 : x7_1 < (l1.length : Int) := oq_
        obtain ⟨ad444, e444, hx444_0⟩ := Kd.at_int HR1.out x7_1 p444 q444
        cases e444
        replace hx444_0 := (HB.out.cell (World.block_lt_of_cell? w _ hx444_0)).trans hx444_0
        replace p444 := eq_true p444
        replace q444 := eq_true q444
        go_wp2_with (first | ((with_reducible refine gate_builtin (b := .append) (xs := #[.tmp 42, .tmp 45]) rfl ?_); (try (refine gate_guard (by rfl) ?_; dsimp only)); at_builtin; refine Kd.R_append (Kd.int .u32) (w0 := w) w.heap.size rfl (.tmp 42) (.tmp 45) 58 35 (.int .u32 0) 4 rfl Tryz.underlying58 info35 rfl (by decide) (by omega) u5 x5_1 ((IntKind.u64.wrap ((IntKind.u64.wrap (x6_1 + (IntKind.u64.wrap (rd l0 x7_1)))) + (IntKind.u64.wrap (rd l1 x7_1)))) % 4294967296) [.int .u32 ((IntKind.u64.wrap ((IntKind.u64.wrap (x6_1 + (IntKind.u64.wrap (rd l0 x7_1)))) + (IntKind.u64.wrap (rd l1 x7_1)))) % 4294967296)] (fun _ => True) (fun _ => False) rfl rfl ?aP (fun _ hk => hk.elim) ?aF ?aO ?aB ?aS ?aL ?_; (case aP => exact rfl); (case aB => exact (bq_ HB.out)); (case aF => exact (fun _ _ => trivial)); (case aO => exact (rq_ HO_5.out)); (case aS => exact (below_size (bq_ HB.out))); (case aL => have := LMc9.out; omega); intro v446 w10 ho hb hg hat; rw [← Ny445.out] at ho; replace HB := Aside0.mk (hb); have HO447 := Aside0.mk (ho); clear HO_5; clear ho hb hg hat))
        go_roundg kj2
        case measure => have := HK1.out; have := HJ2.out; omega
        case rel => exact ⟨(y445), ((IntKind.u64.wrap ((IntKind.u64.wrap (x6_1 + (IntKind.u64.wrap (rd l0 x7_1)))) + (IntKind.u64.wrap (rd l1 x7_1)))) / 4294967296), (wrap64 (x7_1 + 1)), aq_, aq_, H', ⟨by have := HK1.out; have := HJ2.out; omega⟩, ⟨rq_ HO447.out⟩, ⟨bq_ HB.out⟩⟩
       ·rw [if_neg c8] at H
        have c8b0 := decide_eq_false c8
        clear c8
        obtain ⟨c11, H⟩ := oi_ H
        have LMc11 := Aside0.mk c11
        clear c11
        obtain ⟨y448, hy448⟩ : ∃ y_ : List Int, y_ = (x5_1 ++ [(IntKind.u64.wrap (x6_1 + (IntKind.u64.wrap (rd l0 x7_1)))) % 4294967296]) := ⟨_, rfl⟩
        replace H : (bobbinref2_Add.l0 kj2 l0 l1 y448 ((IntKind.u64.wrap (x6_1 + (IntKind.u64.wrap (rd l0 x7_1)))) / 4294967296) (wrap64 (x7_1 + 1))) = some r := by first | (rw [hy448]; with_reducible exact H) | (have H2_ := (Option.bind_some _ _).symm.trans H; rw [hy448]; with_reducible exact H2_) | (have H2_ := (Option.bind_some _ _).symm.trans H; with_reducible exact H2_) | with_reducible exact H | (rw [hy448]; exact H) | exact H
        have Ny448 := Aside0.mk hy448
        clear hy448
        have H' := Aside0.mk H
        clear H
        have p443 : 0 ≤ (x7_1 : Int) := oq_
        have q443 : x7_1 < (l0.length : Int) := oq_
        obtain ⟨ad443, e443, hx443_0⟩ := Kd.at_int HR0.out x7_1 p443 q443
        cases e443
        replace hx443_0 := (HB.out.cell (World.block_lt_of_cell? w _ hx443_0)).trans hx443_0
        replace p443 := eq_true p443
        replace q443 := eq_true q443
        go_wp2_with (first | ((with_reducible refine gate_builtin (b := .append) (xs := #[.tmp 42, .tmp 45]) rfl ?_); (try (refine gate_guard (by rfl) ?_; dsimp only)); at_builtin; refine Kd.R_append (Kd.int .u32) (w0 := w) w.heap.size rfl (.tmp 42) (.tmp 45) 58 35 (.int .u32 0) 4 rfl Tryz.underlying58 info35 rfl (by decide) (by omega) u5 x5_1 ((IntKind.u64.wrap (x6_1 + (IntKind.u64.wrap (rd l0 x7_1)))) % 4294967296) [.int .u32 ((IntKind.u64.wrap (x6_1 + (IntKind.u64.wrap (rd l0 x7_1)))) % 4294967296)] (fun _ => True) (fun _ => False) rfl rfl ?aP (fun _ hk => hk.elim) ?aF ?aO ?aB ?aS ?aL ?_; (case aP => exact rfl); (case aB => exact (bq_ HB.out)); (case aF => exact (fun _ _ => trivial)); (case aO => exact (rq_ HO_5.out)); (case aS => exact (below_size (bq_ HB.out))); (case aL => have := LMc11.out; omega); intro v449 w12 ho hb hg hat; rw [← Ny448.out] at ho; replace HB := Aside0.mk (hb); have HO450 := Aside0.mk (ho); clear HO_5; clear ho hb hg hat))
        go_roundg kj2
        case measure => have := HK1.out; have := HJ2.out; omega
        case rel => exact ⟨(y448), ((IntKind.u64.wrap (x6_1 + (IntKind.u64.wrap (rd l0 x7_1)))) / 4294967296), (wrap64 (x7_1 + 1)), aq_, aq_, H', ⟨by have := HK1.out; have := HJ2.out; omega⟩, ⟨rq_ HO450.out⟩, ⟨bq_ HB.out⟩⟩
      ·rw [if_neg c6] at H
       have c6b0 := decide_eq_false c6
       clear c6
       by_cases c13 : x7_1 < (l1.length : Int)
       ·rw [if_pos c13] at H
        have c13b0 := decide_eq_true c13
        clear c13
        obtain ⟨c14b0, H⟩ := od_ H
        obtain ⟨c15, H⟩ := oi_ H
        have LMc15 := Aside0.mk c15
        clear c15
        obtain ⟨y452, hy452⟩ : ∃ y_ : List Int, y_ = (x5_1 ++ [(IntKind.u64.wrap (x6_1 + (IntKind.u64.wrap (rd l1 x7_1)))) % 4294967296]) := ⟨_, rfl⟩
        replace H : (bobbinref2_Add.l0 kj2 l0 l1 y452 ((IntKind.u64.wrap (x6_1 + (IntKind.u64.wrap (rd l1 x7_1)))) / 4294967296) (wrap64 (x7_1 + 1))) = some r := by first | (rw [hy452]; with_reducible exact H) | (have H2_ := (Option.bind_some _ _).symm.trans H; rw [hy452]; with_reducible exact H2_) | (have H2_ := (Option.bind_some _ _).symm.trans H; with_reducible exact H2_) | with_reducible exact H | (rw [hy452]; exact H) | exact H
        have Ny452 := Aside0.mk hy452
        clear hy452
        have H' := Aside0.mk H
        clear H
        have p451 : 0 ≤ (x7_1 : Int) := oq_
        have q451 : x7_1 < (l1.length : Int) := oq_
        obtain ⟨ad451, e451, hx451_0⟩ := Kd.at_int HR1.out x7_1 p451 q451
        cases e451
        replace hx451_0 := (HB.out.cell (World.block_lt_of_cell? w _ hx451_0)).trans hx451_0
        replace p451 := eq_true p451
        replace q451 := eq_true q451
        go_wp2_with (first | ((with_reducible refine gate_builtin (b := .append) (xs := #[.tmp 42, .tmp 45]) rfl ?_); (try (refine gate_guard (by rfl) ?_; dsimp only)); at_builtin; refine Kd.R_append (Kd.int .u32) (w0 := w) w.heap.size rfl (.tmp 42) (.tmp 45) 58 35 (.int .u32 0) 4 rfl Tryz.underlying58 info35 rfl (by decide) (by omega) u5 x5_1 ((IntKind.u64.wrap (x6_1 + (IntKind.u64.wrap (rd l1 x7_1)))) % 4294967296) [.int .u32 ((IntKind.u64.wrap (x6_1 + (IntKind.u64.wrap (rd l1 x7_1)))) % 4294967296)] (fun _ => True) (fun _ => False) rfl rfl ?aP (fun _ hk => hk.elim) ?aF ?aO ?aB ?aS ?aL ?_; (case aP => exact rfl); (case aB => exact (bq_ HB.out)); (case aF => exact (fun _ _ => trivial)); (case aO => exact (rq_ HO_5.out)); (case aS => exact (below_size (bq_ HB.out))); (case aL => have := LMc15.out; omega); intro v453 w16 ho hb hg hat; rw [← Ny452.out] at ho; replace HB := Aside0.mk (hb); have HO454 := Aside0.mk (ho); clear HO_5; clear ho hb hg hat))
        go_roundg kj2
        case measure => have := HK1.out; have := HJ2.out; omega
        case rel => exact ⟨(y452), ((IntKind.u64.wrap (x6_1 + (IntKind.u64.wrap (rd l1 x7_1)))) / 4294967296), (wrap64 (x7_1 + 1)), aq_, aq_, H', ⟨by have := HK1.out; have := HJ2.out; omega⟩, ⟨rq_ HO454.out⟩, ⟨bq_ HB.out⟩⟩
       ·rw [if_neg c13] at H
        have c13b0 := decide_eq_false c13
        clear c13
        obtain ⟨c17, H⟩ := oi_ H
        have LMc17 := Aside0.mk c17
        clear c17
        obtain ⟨y455, hy455⟩ : ∃ y_ : List Int, y_ = (x5_1 ++ [(x6_1) % 4294967296]) := ⟨_, rfl⟩
        replace H : (bobbinref2_Add.l0 kj2 l0 l1 y455 (x6_1 / 4294967296) (wrap64 (x7_1 + 1))) = some r := by first | (rw [hy455]; with_reducible exact H) | (have H2_ := (Option.bind_some _ _).symm.trans H; rw [hy455]; with_reducible exact H2_) | (have H2_ := (Option.bind_some _ _).symm.trans H; with_reducible exact H2_) | with_reducible exact H | (rw [hy455]; exact H) | exact H
        have Ny455 := Aside0.mk hy455
        clear hy455
        have H' := Aside0.mk H
        clear H
        go_wp2_with (first | ((with_reducible refine gate_builtin (b := .append) (xs := #[.tmp 42, .tmp 45]) rfl ?_); (try (refine gate_guard (by rfl) ?_; dsimp only)); at_builtin; refine Kd.R_append (Kd.int .u32) (w0 := w) w.heap.size rfl (.tmp 42) (.tmp 45) 58 35 (.int .u32 0) 4 rfl Tryz.underlying58 info35 rfl (by decide) (by omega) u5 x5_1 ((x6_1) % 4294967296) [.int .u32 ((x6_1) % 4294967296)] (fun _ => True) (fun _ => False) rfl rfl ?aP (fun _ hk => hk.elim) ?aF ?aO ?aB ?aS ?aL ?_; (case aP => exact rfl); (case aB => exact (bq_ HB.out)); (case aF => exact (fun _ _ => trivial)); (case aO => exact (rq_ HO_5.out)); (case aS => exact (below_size (bq_ HB.out))); (case aL => have := LMc17.out; omega); intro v456 w18 ho hb hg hat; rw [← Ny455.out] at ho; replace HB := Aside0.mk (hb); have HO457 := Aside0.mk (ho); clear HO_5; clear ho hb hg hat))
        go_roundg kj2
        case measure => have := HK1.out; have := HJ2.out; omega
        case rel => exact ⟨(y455), (x6_1 / 4294967296), (wrap64 (x7_1 + 1)), aq_, aq_, H', ⟨by have := HK1.out; have := HJ2.out; omega⟩, ⟨rq_ HO457.out⟩, ⟨bq_ HB.out⟩⟩
     ·replace c5 := Bool.eq_false_iff.mpr c5
      subst c5
      rw [if_neg (show ¬ (false = true) by decide)] at H
      obtain ⟨c19, H⟩ := oi_ H
      have LMc19 := Aside0.mk c19
      clear c19
      obtain ⟨y437, hy437⟩ : ∃ y_ : List Int, y_ = (x5_1 ++ [(x6_1) % 4294967296]) := ⟨_, rfl⟩
      replace H : ((bobbinref2_Norm.f kj2 y437).bind fun t440 => (some t440)) = some r := by first | (rw [hy437]; with_reducible exact H) | (have H2_ := (Option.bind_some _ _).symm.trans H; rw [hy437]; with_reducible exact H2_) | (have H2_ := (Option.bind_some _ _).symm.trans H; with_reducible exact H2_) | with_reducible exact H | (rw [hy437]; exact H) | exact H
      have Ny437 := Aside0.mk hy437
      clear hy437
      replace H := Option.bind_eq_some_iff.mp H
      obtain ⟨t440, A200, H⟩ := H
      have A20 := Aside0.mk A200
      clear A200
      obtain rfl := Option.some.inj H
      go_wp2_with (first | ((with_reducible refine gate_builtin (b := .append) (xs := #[.tmp 49, .tmp 52]) rfl ?_); (try (refine gate_guard (by rfl) ?_; dsimp only)); at_builtin; refine Kd.R_append (Kd.int .u32) (w0 := w) w.heap.size rfl (.tmp 49) (.tmp 52) 58 35 (.int .u32 0) 4 rfl Tryz.underlying58 info35 rfl (by decide) (by omega) u5 x5_1 ((x6_1) % 4294967296) [.int .u32 ((x6_1) % 4294967296)] (fun _ => True) (fun _ => False) rfl rfl ?aP (fun _ hk => hk.elim) ?aF ?aO ?aB ?aS ?aL ?_; (case aP => exact rfl); (case aB => exact (bq_ HB.out)); (case aF => exact (fun _ _ => trivial)); (case aO => exact (rq_ HO_5.out)); (case aS => exact (below_size (bq_ HB.out))); (case aL => have := LMc19.out; omega); intro v438 w21 ho hb hg hat; rw [← Ny437.out] at ho; replace HB := Aside0.mk (hb); have HO439 := Aside0.mk (ho); clear HO_5; clear ho hb hg hat; obtain ⟨Ao22, co22, eo22⟩ := Kd.R_slice HO439.out; subst eo22) | ((with_reducible refine gate_callee (f := 99) rfl ?_); refine goesL_ (some 54) rfl rfl Tryz.func99 (by kernel_rfl) rfl #[.slice Ao22 y437.length co22] rfl gq_ ?_; (with_reducible refine (bobbinref2_Norm.calls kj2 _ _ y437 t440 _ ?side1 ?side2 A20.out).mono ?_); (case side1 => repeat (first | exact (Kd.R_reads' HO439.out).2.2 | (with_reducible refine Kd.C_alloc ?_ _) | (with_reducible refine Kd.C_drewN ?_ _) | (with_reducible refine Kd.C_drew ?_))); (case side2 => exact (Kd.R_reads' HO439.out).2.1); rintro e w23 ⟨v441, rfl, ho0, hb⟩; refine ⟨_, rfl, ?_⟩; have n0_ := Aside0.mk (Kd.R_elder' (rq_ HO439.out) (Kd.R_base ho0) hb); have n1_ := Aside0.mk (Kd.R_lower (Kd.R_new' ho0 (Kd.R_lt (rq_ HO439.out))) (below_size (bq_ HB.out))); have n2_ := Aside0.mk (below_step (bq_ HB.out) hb); clear HO439; clear HB; have HO439 := n0_; have HO442 := n1_; have HB := n2_; clear n0_ n1_ n2_; (try clear hb); (try clear hb2); (try clear hk); (try clear hi); (try clear ho0)))
      go_ret
      exact ⟨_, ew_, by (with_reducible repeat (first | apply Kd.R_alloc | apply Kd.R_drewN | apply Kd.R_drew)); exact Kd.R_mono HO442.out (fun _ hk => trivial), bq_ HB.out⟩
-- IMPORT Derived.Test.YtdoeigngpemcgaaGreatDoorShelf
def bobbinref2_Bits.l0 : Nat → Int → Int → Option (Int)
 | 0, _, _ => none
 | k + 1, x3, x4 => if x4 > 0 then (bobbinref2_Bits.l0 k (wrap64 (x3 + 1)) (x4 / 2)) else (some x3)
def bobbinref2_Bits.f (k : Nat) (l0 : List Int) : Option (Int) := (bobbinref2_trimmed.f k l0).bind fun t463 => (if (t463.length : Int) = 0 then (some 0) else (if 0 ≤ (wrap64 ((t463.length : Int) - 1)) then (if (wrap64 ((t463.length : Int) - 1)) < (t463.length : Int) then (bobbinref2_Bits.l0 k (wrap64 (32 * (wrap64 ((t463.length : Int) - 1)))) (rd t463 (wrap64 ((t463.length : Int) - 1)))) else (none)) else (none)))
set_option maxRecDepth 100000 in
theorem bobbinref2_Bits.calls (k : Nat) (A0 : Option Addr) (c0 : Nat) (l0 : List Int) (r : Int) (w : World) (hr0 : Kd.C (Kd.int .u32) w A0 l0.length l0) (hc0 : l0.length ≤ c0) (h : bobbinref2_Bits.f k l0 = some r) :
  Calls Tryz.prog 44 #[.slice A0 l0.length c0] w fun e w' => e = .returned (.int .i64 r) ∧ Below w.heap.size w w' := by
 have HR0 := Aside0.mk hr0
 have HC0 := Aside0.mk hc0
 clear hr0 hc0
 have HB := Aside0.mk (Below.refl w.heap.size w)
 have H : ((bobbinref2_trimmed.f k l0).bind fun t463 => (if (t463.length : Int) = 0 then (some 0) else (if 0 ≤ (wrap64 ((t463.length : Int) - 1)) then (if (wrap64 ((t463.length : Int) - 1)) < (t463.length : Int) then (bobbinref2_Bits.l0 k (wrap64 (32 * (wrap64 ((t463.length : Int) - 1)))) (rd t463 (wrap64 ((t463.length : Int) - 1)))) else (none)) else (none)))) = some r := h
 clear h
 replace H := Option.bind_eq_some_iff.mp H
 obtain ⟨t463, A20, H⟩ := H
 have A2 := Aside0.mk A20
 clear A20
 by_cases c3 : (t463.length : Int) = 0
 ·rw [if_pos c3] at H
  have c3b0 : ((t463.length : Int) == 0) = true := beq_iff_eq.mpr c3
  have c3b1 : ((t463.length : Int) != 0) = false := bne_eq_false_iff_eq.mpr c3
  clear c3
  obtain rfl := Option.some.inj H
  go_enter Tryz.func44, Tryz.ntmps44
  go_wp2_with (first | ((with_reducible refine gate_callee (f := 101) rfl ?_); refine goesL_ (some 6) rfl rfl Tryz.func101 (by kernel_rfl) rfl #[.slice A0 l0.length c0] rfl gq_ ?_; (with_reducible refine (bobbinref2_trimmed.calls k (fun k_ => k_ < w.heap.size) _ _ l0 t463 _ ?side1 A2.out).mono ?_); (case side1 => exact Kd.V_mk HC0.out (Kd.F_below (Kd.C_F (Kd.heap_int .u32) HR0.out) (bq_ HB.out))); rintro e w4 ⟨v464, rfl, ho0, hb⟩; refine ⟨_, rfl, ?_⟩; have HO465 := Aside0.mk (Kd.V_lower (Kd.V_mono (ok' := fun k_ => True) ho0 (fun k_ hk_ => trivial)) (below_size (bq_ HB.out))); replace HB := bb_ HB hb; (try clear hb); (try clear hb2); (try clear hk); (try clear hi); (try clear ho0); obtain ⟨Ao5, co5, eo5⟩ := Kd.V_slice HO465.out; subst eo5))
  go_ret
  exact ⟨ew_, bq_ HB.out⟩
 ·rw [if_neg c3] at H
  have c3b0 : ((t463.length : Int) == 0) = false := beq_eq_false_iff_ne.mpr c3
  have c3b1 : ((t463.length : Int) != 0) = true := bne_iff_ne.mpr c3
  have c3b2 : ¬ (t463 = []) := fun h_ => c3 (by rw [h_]; rfl)
  obtain ⟨ji6, hji6⟩ : ∃ j_ : Int, (wrap64 ((t463.length : Int) - 1)) = j_ := ⟨_, rfl⟩
  first | rw [hji6] at H | simp only [hji6] at H
  (try rw [hji6] at A2)
  have hji6w : (IntKind.i64.wrap ((t463.length : Int) - 1)) = ji6 := (i64_w _).trans hji6
  obtain ⟨c7b0, H⟩ := od_ H
  obtain ⟨c8b0, H⟩ := od_ H
  have H' := Aside0.mk H
  clear H
  go_enter Tryz.func44, Tryz.ntmps44
  go_wp2_with (first | ((with_reducible refine gate_callee (f := 101) rfl ?_); refine goesL_ (some 6) rfl rfl Tryz.func101 (by kernel_rfl) rfl #[.slice A0 l0.length c0] rfl gq_ ?_; (with_reducible refine (bobbinref2_trimmed.calls k (fun k_ => k_ < w.heap.size) _ _ l0 t463 _ ?side1 A2.out).mono ?_); (case side1 => exact Kd.V_mk HC0.out (Kd.F_below (Kd.C_F (Kd.heap_int .u32) HR0.out) (bq_ HB.out))); rintro e w9 ⟨v464, rfl, ho0, hb⟩; refine ⟨_, rfl, ?_⟩; have HO465 := Aside0.mk (Kd.V_lower (Kd.V_mono (ok' := fun k_ => True) ho0 (fun k_ hk_ => trivial)) (below_size (bq_ HB.out))); replace HB := bb_ HB hb; (try clear hb); (try clear hb2); (try clear hk); (try clear hi); (try clear ho0); obtain ⟨Ao10, co10, eo10⟩ := Kd.V_slice HO465.out; subst eo10; have p466 : 0 ≤ ((ji6) : Int) := oq_; have q466 : (ji6) < (t463.length : Int) := oq_; obtain ⟨ad466, e466, hx466_0⟩ := Kd.at_int (Kd.V_reads' HO465.out).2.2 (ji6) p466 q466; cases e466; replace p466 := eq_true p466; replace q466 := eq_true q466))
  go_loopg [3, 4] k (fun kq v3 v4 w' => ∃ (x3_1 : Int) (x4_1 : Int), v3 = .int .i64 x3_1 ∧ v4 = .int .u32 x4_1 ∧ Aside0 (bobbinref2_Bits.l0 kq x3_1 x4_1 = some r) ∧ Aside0 (kq ≤ k) ∧ Aside0 (Below w.heap.size w w'))
  case atStart => exact ⟨(wrap64 (32 * (ji6))), (rd t463 (ji6)), (by first | rfl | (simp; done) | (simp only [← hji6] <;> (first | rfl | simp)) | (simp [*]; done)), (by first | rfl | (simp; done) | (simp only [← hji6] <;> (first | rfl | simp)) | (simp [*]; done)), H', ⟨Nat.le_refl _⟩, ⟨bq_ HB.out⟩⟩
  case round =>
   clear H'
   try clear p2
   try clear c3
   try clear c3b0
   try clear c3b1
   try clear c3b2
   try clear c4
   try clear p4
   try clear q4
   try clear hx4
   try clear p6
   try clear c7
   try clear c7b0
   try clear c8
   try clear c8b0
   try clear hx466_0
   try clear p466
   try clear q466
   obtain ⟨x3_1, x4_1, rfl, rfl, HA, HK1, HB⟩ := hrel
   cases gk with
   | zero => exact absurd HA.out (by simp [bobbinref2_Bits.l0])
   | succ k1 =>
    have H := HA.out
    clear HA
    simp only [bobbinref2_Bits.l0] at H
    by_cases c11 : x4_1 > 0
    ·rw [if_pos c11] at H
     have c11b0 : decide (0 < x4_1) = true := decide_eq_true c11
     clear c11
     have H' := Aside0.mk H
     clear H
     go_wp2
     go_roundg k1
     case measure => have := HK1.out; omega
     case rel => exact ⟨(wrap64 (x3_1 + 1)), (x4_1 / 2), aq_, aq_, H', ⟨by have := HK1.out; omega⟩, ⟨bq_ HB.out⟩⟩
    ·rw [if_neg c11] at H
     have c11b0 : decide (0 < x4_1) = false := decide_eq_false c11
     clear c11
     obtain rfl := Option.some.inj H
     go_wp2
     go_ret
     exact ⟨by first | rfl | (simp [errW_none, errW_some] <;> rfl) | (simp only [← hji6]; first | rfl | (simp [errW_none, errW_some] <;> rfl)) | (simp [*, errW_none, errW_some] <;> rfl), bq_ HB.out⟩
end Go.Proofs.YtdoeigngpemcgaaGreatDoor.PNat
namespace Go.Proofs.YtdoeigngpemcgaaGreatDoor.PNatO
open Go.RowKit Go.Proofs.YtdoeigngpemcgaaGreatDoorW.PrintWords Go.Proofs.YtdoeigngpemcgaaGreatDoorW.PrintLast Go.Proofs.YtdoeigngpemcgaaGreatDoorW.PrintMore
attribute [local go_sem] max2_int min2_int max_two min_two max_three min_three max_four min_four
-- the values' own types
theorem ow_C_len {α : Type} {d : Kd α} {w : World} {A : Option Addr} {n m : Nat} {xs : List α} (h : n = m) (hc : d.C w A n xs) : d.C w A m xs := h ▸ hc
def bobbinref2_trimmed.l0 : Nat → List Int → Int → Option (List Int)
 | 0, _, _ => none
 | k + 1, x0, x3 => if x3 > 0 then (if 0 ≤ (wrap64 (x3 - 1)) then (if (wrap64 (x3 - 1)) < (x0.length : Int) then (if (rd x0 (wrap64 (x3 - 1))) = 0 then (bobbinref2_trimmed.l0 k x0 (wrap64 (x3 - 1))) else (if 0 ≤ x3 then (if x3 ≤ (x0.length : Int) then (some (x0.take (x3 : Int).toNat)) else (none)) else (none))) else (none)) else (none)) else (if 0 ≤ x3 then (if x3 ≤ (x0.length : Int) then (some (x0.take (x3 : Int).toNat)) else (none)) else (none))
def bobbinref2_trimmed.f (k : Nat) (l0 : List Int) : Option (List Int) := bobbinref2_trimmed.l0 k l0 (l0.length : Int)
set_option maxRecDepth 100000 in
theorem bobbinref2_trimmed.calls (k : Nat) (P0_ : Nat → Prop) (u9000_ : Value) (l0 : List Int) (r : List Int) (w0 w : World) (hB : Below w0.heap.size w0 w) (ho0 : Kd.R (Kd.int .u32) 35 w w0.heap.size P0_ u9000_ l0) (h : bobbinref2_trimmed.f k l0 = some r) :
  Calls Tryz.prog 101 #[u9000_] w fun e w' => ∃ v0_ : Value, e = .returned (v0_) ∧ Kd.R (Kd.int .u32) 35 w' w0.heap.size (fun k_ => (P0_ k_ ∨ w.heap.size ≤ k_)) v0_ r ∧ Below w0.heap.size w0 w' ∧ Kept w w' (fun k_ => P0_ k_) := by
 have HO0 := Aside0.mk (show Kd.R (Kd.int .u32) 35 w w0.heap.size (fun k_ => (P0_ k_ ∨ w.heap.size ≤ k_)) u9000_ l0 from Kd.R_mono ho0 (fun k_ hk => (.inl hk)))
 have HK := Aside0.mk (Kept.refl w (fun k_ => P0_ k_))
 have HW0 := Aside0.mk hB.size
 have HB := Aside0.mk hB
 clear hB
 have H : (bobbinref2_trimmed.l0 k l0 (l0.length : Int)) = some r := h
 clear h
 have H' := Aside0.mk H
 clear H
 obtain ⟨Ao2, co2, eo2⟩ := Kd.R_slice HO0.out
 subst eo2
 go_enter Tryz.func101, Tryz.ntmps101
 go_wp2
 go_loopg [3] k (fun kq v3 w' => ∃ (x3_1 : Int), v3 = .int .i64 x3_1 ∧ Aside0 (bobbinref2_trimmed.l0 kq l0 x3_1 = some r) ∧ Aside0 (kq ≤ k) ∧ Aside0 (Kd.R (Kd.int .u32) 35 w' w0.heap.size (fun k_ => (P0_ k_ ∨ w.heap.size ≤ k_)) (.slice Ao2 l0.length co2) l0) ∧ Aside0 (Kept w w' (fun k_ => P0_ k_)) ∧ Aside0 (Below w0.heap.size w0 w'))
 case atStart => exact ⟨((l0.length : Int)), aq_, H', ⟨Nat.le_refl _⟩, ⟨rq_ HO0.out⟩, ⟨by repeat (first | (with_reducible first | exact HK.out | apply Kept.alloc | apply Kept.drewN | apply Kept.drew) | exact HK.out)⟩, ⟨bq_ HB.out⟩⟩
 case round =>
  clear H'
  try clear p2
  obtain ⟨x3_1, rfl, HA, HK1, HO_0, HK, HB⟩ := hrel
  cases gk with
  | zero => exact absurd HA.out (by simp [bobbinref2_trimmed.l0])
  | succ k1 =>
   have H := HA.out
   clear HA
   simp only [bobbinref2_trimmed.l0] at H
   by_cases c3 : x3_1 > 0
   ·rw [if_pos c3] at H
    have c3b0 : decide (0 < x3_1) = true := decide_eq_true c3
    clear c3
    obtain ⟨ji4, hji4⟩ : ∃ j_ : Int, (wrap64 (x3_1 - 1)) = j_ := ⟨_, rfl⟩
    first | rw [hji4] at H | simp only [hji4] at H
    have hji4w : (IntKind.i64.wrap (x3_1 - 1)) = ji4 := (i64_w _).trans hji4
    obtain ⟨c5b0, H⟩ := od_ H
    obtain ⟨c6b0, H⟩ := od_ H
    by_cases c7 : (rd l0 (ji4)) = 0
    ·rw [if_pos c7] at H
     have c7b0 : ((rd l0 (ji4)) == 0) = true := beq_iff_eq.mpr c7
     have c7b1 : ((rd l0 (ji4)) != 0) = false := bne_eq_false_iff_eq.mpr c7
     clear c7
     have H' := Aside0.mk H
     clear H
     have p110 : 0 ≤ ((ji4) : Int) := oq_
     have q110 : (ji4) < (l0.length : Int) := oq_
     obtain ⟨ad110, e110, hx110_0⟩ := Kd.at_int (Kd.R_reads' HO_0.out).2.2 (ji4) p110 q110
     cases e110
     replace p110 := eq_true p110
     replace q110 := eq_true q110
     go_wp2
     go_roundg k1
     case measure => have := HK1.out; omega
     case rel => exact ⟨(ji4), (by first | rfl | (simp; done) | (simp only [← hji4] <;> (first | rfl | simp)) | (simp [*]; done)), H', ⟨by have := HK1.out; omega⟩, ⟨rq_ HO_0.out⟩, ⟨by repeat (first | (with_reducible first | exact HK.out | apply Kept.alloc | apply Kept.drewN | apply Kept.drew) | exact HK.out)⟩, ⟨bq_ HB.out⟩⟩
    ·rw [if_neg c7] at H
     have c7b0 : ((rd l0 (ji4)) == 0) = false := beq_eq_false_iff_ne.mpr c7
     have c7b1 : ((rd l0 (ji4)) != 0) = true := bne_iff_ne.mpr c7
     obtain ⟨c8, H⟩ := oi_ H
     have c8b0 := eq_true c8
     have c8b1 : decide (0 ≤ x3_1) = true := decide_eq_true c8
     clear c8
     obtain ⟨c9, H⟩ := oi_ H
     have c9b0 := eq_true c9
     have c9b1 : decide (x3_1 ≤ (l0.length : Int)) = true := decide_eq_true c9
     clear c9
     obtain ⟨y111, hy111⟩ : ∃ y_ : List Int, y_ = (l0.take (x3_1 : Int).toNat) := ⟨_, rfl⟩
     replace H : (some y111) = some r := by first | (rw [hy111]; with_reducible exact H) | (have H2_ := (Option.bind_some _ _).symm.trans H; rw [hy111]; with_reducible exact H2_) | (have H2_ := (Option.bind_some _ _).symm.trans H; with_reducible exact H2_) | with_reducible exact H | (rw [hy111]; exact H) | exact H
     have Ny111 := Aside0.mk hy111
     clear hy111
     obtain rfl := Option.some.inj H
     have p110 : 0 ≤ ((ji4) : Int) := oq_
     have q110 : (ji4) < (l0.length : Int) := oq_
     obtain ⟨ad110, e110, hx110_0⟩ := Kd.at_int (Kd.R_reads' HO_0.out).2.2 (ji4) p110 q110
     cases e110
     replace p110 := eq_true p110
     replace q110 := eq_true q110
     have q10 : (x3_1 : Int) ≤ ((l0.length : Int) : Int) := oq_
     obtain ⟨i010, hi010, _, hsz10, _⟩ := info_parts info35
     have hcut10 := cut_to (P := Tryz.prog) 58 35 .i64 Tryz.underlying58 hi010 (some ad110) l0.length co2 x3_1 oq_ q10 (Kd.R_reads' HO_0.out).2.1
     have hr10 := Kd.R_take (m := (x3_1 : Int).toNat) HO_0.out (by omega)
     have hy10 : y111.length = (x3_1 : Int).toNat := (by rw [Ny111.out, List.length_take]; omega)
     rw [← Ny111.out] at hr10
     rw [← hy10] at hr10 hcut10
     clear hy10 hi010 hsz10 HO_0
     have HO113 := Aside0.mk hr10
     clear hr10
     replace q10 := eq_true q10
     go_wp2
     go_ret
     exact ⟨_, by first | rfl | (simp [errW_none, errW_some] <;> rfl) | (simp only [← hji4]; first | rfl | (simp [errW_none, errW_some] <;> rfl)) | (simp [*, errW_none, errW_some] <;> rfl), rq_ HO113.out, bq_ HB.out, by repeat (first | (with_reducible first | exact HK.out | apply Kept.alloc | apply Kept.drewN | apply Kept.drew) | exact HK.out)⟩
   ·rw [if_neg c3] at H
    have c3b0 : decide (0 < x3_1) = false := decide_eq_false c3
    clear c3
    obtain ⟨c11, H⟩ := oi_ H
    have c11b0 := eq_true c11
    have c11b1 : decide (0 ≤ x3_1) = true := decide_eq_true c11
    clear c11
    obtain ⟨c12, H⟩ := oi_ H
    have c12b0 := eq_true c12
    have c12b1 : decide (x3_1 ≤ (l0.length : Int)) = true := decide_eq_true c12
    clear c12
    obtain ⟨y114, hy114⟩ : ∃ y_ : List Int, y_ = (l0.take (x3_1 : Int).toNat) := ⟨_, rfl⟩
    replace H : (some y114) = some r := by first | (rw [hy114]; with_reducible exact H) | (have H2_ := (Option.bind_some _ _).symm.trans H; rw [hy114]; with_reducible exact H2_) | (have H2_ := (Option.bind_some _ _).symm.trans H; with_reducible exact H2_) | with_reducible exact H | (rw [hy114]; exact H) | exact H
    have Ny114 := Aside0.mk hy114
    clear hy114
    obtain rfl := Option.some.inj H
    have q13 : (x3_1 : Int) ≤ ((l0.length : Int) : Int) := oq_
    obtain ⟨i013, hi013, _, hsz13, _⟩ := info_parts info35
    have hcut13 := cut_to (P := Tryz.prog) 58 35 .i64 Tryz.underlying58 hi013 Ao2 l0.length co2 x3_1 oq_ q13 (Kd.R_reads' HO_0.out).2.1
    have hr13 := Kd.R_take (m := (x3_1 : Int).toNat) HO_0.out (by omega)
    have hy13 : y114.length = (x3_1 : Int).toNat := (by rw [Ny114.out, List.length_take]; omega)
    rw [← Ny114.out] at hr13
    rw [← hy13] at hr13 hcut13
    clear hy13 hi013 hsz13 HO_0
    have HO116 := Aside0.mk hr13
    clear hr13
    replace q13 := eq_true q13
    go_wp2
    go_ret
    exact ⟨_, ew_, rq_ HO116.out, bq_ HB.out, by repeat (first | (with_reducible first | exact HK.out | apply Kept.alloc | apply Kept.drewN | apply Kept.drew) | exact HK.out)⟩
mutual
def bobbinref2_Text.l0 : Nat → List Int → List Int → Option (ByteArray)
 | 0, _, _ => none
 | k + 1, x3, x4 => if (x3.length : Int) > 0 then (bobbinref2_Text.l1 k x3 x4 0 (wrap64 ((x3.length : Int) - 1))) else (bobbinref2_Text.l3 k x4 (x4.length : Int))
def bobbinref2_Text.l1 : Nat → List Int → List Int → Int → Int → Option (ByteArray)
 | 0, _, _, _, _ => none
 | k + 1, x3, x4, x5, x6 => if x6 ≥ 0 then (if 0 ≤ x6 then (if x6 < (x3.length : Int) then (bobbinref2_Text.l1 k (x3.set (x6 : Int).toNat ((IntKind.u64.wrap (Int.tdiv (Go.bits .or .u64 (IntKind.u64.wrap (x5 * 4294967296)) (IntKind.u64.wrap (rd x3 x6))) 1000000000)) % 4294967296)) x4 (Int.tmod (Go.bits .or .u64 (IntKind.u64.wrap (x5 * 4294967296)) (IntKind.u64.wrap (rd x3 x6))) 1000000000) (wrap64 (x6 - 1))) else (none)) else (none)) else ((bobbinref2_trimmed.f k x3).bind fun t122 => (bobbinref2_Text.l2 k t122 x4 x5 0))
def bobbinref2_Text.l2 : Nat → List Int → List Int → Int → Int → Option (ByteArray)
 | 0, _, _, _, _ => none
 | k + 1, x3, x4, x5, x7 => if x7 < 9 then (if x4.length < 140737488355328 then (bobbinref2_Text.l2 k x3 (x4 ++ [(IntKind.u64.wrap (48 + (Int.tmod x5 10))) % 256]) (IntKind.u64.wrap (Int.tdiv x5 10)) (wrap64 (x7 + 1))) else (none)) else (bobbinref2_Text.l0 k x3 x4)
def bobbinref2_Text.j4 : Nat → List Int → Int → Option (ByteArray)
 | 0, _, _ => none
 | k + 1, x4, x8 => bobbinref2_Text.l4 k x4 ([] : List Int) (wrap64 (x8 - 1))
def bobbinref2_Text.l4 : Nat → List Int → List Int → Int → Option (ByteArray)
 | 0, _, _, _ => none
 | k + 1, x4, x9, x10 => if x10 ≥ 0 then (if 0 ≤ x10 then (if x10 < (x4.length : Int) then (if x9.length < 140737488355328 then (bobbinref2_Text.l4 k x4 (x9 ++ [rd x4 x10]) (wrap64 (x10 - 1))) else (none)) else (none)) else (none)) else (some (strOfNums x9))
def bobbinref2_Text.l3 : Nat → List Int → Int → Option (ByteArray)
 | 0, _, _ => none
 | k + 1, x4, x8 => if x8 > 1 then (if 0 ≤ (wrap64 (x8 - 1)) then (if (wrap64 (x8 - 1)) < (x4.length : Int) then (if (rd x4 (wrap64 (x8 - 1))) = 48 then (bobbinref2_Text.l3 k x4 (wrap64 (x8 - 1))) else (bobbinref2_Text.j4 k x4 x8)) else (none)) else (none)) else (bobbinref2_Text.j4 k x4 x8)
end
def bobbinref2_Text.f (k : Nat) (l0 : List Int) : Option (ByteArray) := (PNat.bobbinref2_Norm.f k l0).bind fun t117 => (if (t117.length : Int) = 0 then (some (⟨#[48]⟩ : ByteArray)) else (bobbinref2_Text.l0 k t117 ([] : List Int)))
set_option maxRecDepth 100000 in
theorem bobbinref2_Text.calls (k : Nat) (A0 : Option Addr) (c0 : Nat) (l0 : List Int) (r : ByteArray) (w : World) (hr0 : Kd.C (Kd.int .u32) w A0 l0.length l0) (hc0 : l0.length ≤ c0) (h : bobbinref2_Text.f k l0 = some r) :
  Calls Tryz.prog 47 #[.slice A0 l0.length c0] w fun e w' => e = .returned (.string r) ∧ Below w.heap.size w w' := by
 have HR0 := Aside0.mk hr0
 have HC0 := Aside0.mk hc0
 clear hr0 hc0
 have HB := Aside0.mk (Below.refl w.heap.size w)
 have H : ((PNat.bobbinref2_Norm.f k l0).bind fun t117 => (if (t117.length : Int) = 0 then (some (⟨#[48]⟩ : ByteArray)) else (bobbinref2_Text.l0 k t117 ([] : List Int)))) = some r := h
 clear h
 replace H := Option.bind_eq_some_iff.mp H
 obtain ⟨t117, A20, H⟩ := H
 have A2 := Aside0.mk A20
 clear A20
 by_cases c3 : (t117.length : Int) = 0
 ·rw [if_pos c3] at H
  have c3b0 : ((t117.length : Int) == 0) = true := beq_iff_eq.mpr c3
  have c3b1 : ((t117.length : Int) != 0) = false := bne_eq_false_iff_eq.mpr c3
  clear c3
  obtain rfl := Option.some.inj H
  go_enter Tryz.func47, Tryz.ntmps47
  go_wp2_with (first | ((with_reducible refine gate_callee (f := 99) rfl ?_); refine goesL_ (some 12) rfl rfl Tryz.func99 (by kernel_rfl) rfl #[.slice A0 l0.length c0] rfl gq_ ?_; (with_reducible refine (PNat.bobbinref2_Norm.calls k _ _ l0 t117 _ ?side1 ?side2 A2.out).mono ?_); (case side1 => repeat (first | exact HR0.out | (with_reducible refine Kd.C_alloc ?_ _) | (with_reducible refine Kd.C_drewN ?_ _) | (with_reducible refine Kd.C_drew ?_))); (case side2 => exact HC0.out); rintro e w4 ⟨v118, rfl, ho0, hb⟩; refine ⟨_, rfl, ?_⟩; have HO119 := Aside0.mk (Kd.R_lower ho0 (below_size (bq_ HB.out))); replace HB := bb_ HB hb; (try clear hb); (try clear hb2); (try clear hk); (try clear hi); (try clear ho0); obtain ⟨Ao5, co5, eo5⟩ := Kd.R_slice HO119.out; subst eo5))
  go_ret
  exact ⟨ew_, bq_ HB.out⟩
 ·rw [if_neg c3] at H
  have c3b0 : ((t117.length : Int) == 0) = false := beq_eq_false_iff_ne.mpr c3
  have c3b1 : ((t117.length : Int) != 0) = true := bne_iff_ne.mpr c3
  have c3b2 : ¬ (t117 = []) := fun h_ => c3 (by rw [h_]; rfl)
  have H' := Aside0.mk H
  clear H
  go_enter Tryz.func47, Tryz.ntmps47
  go_wp2_with (first | ((with_reducible refine gate_callee (f := 99) rfl ?_); refine goesL_ (some 12) rfl rfl Tryz.func99 (by kernel_rfl) rfl #[.slice A0 l0.length c0] rfl gq_ ?_; (with_reducible refine (PNat.bobbinref2_Norm.calls k _ _ l0 t117 _ ?side1 ?side2 A2.out).mono ?_); (case side1 => repeat (first | exact HR0.out | (with_reducible refine Kd.C_alloc ?_ _) | (with_reducible refine Kd.C_drewN ?_ _) | (with_reducible refine Kd.C_drew ?_))); (case side2 => exact HC0.out); rintro e w6 ⟨v118, rfl, ho0, hb⟩; refine ⟨_, rfl, ?_⟩; have HO119 := Aside0.mk (Kd.R_lower ho0 (below_size (bq_ HB.out))); replace HB := bb_ HB hb; (try clear hb); (try clear hb2); (try clear hk); (try clear hi); (try clear ho0); obtain ⟨Ao7, co7, eo7⟩ := Kd.R_slice HO119.out; subst eo7))
  go_loopg [3, 4] k (fun kq v3 v4 w' => ∃ (x3_1 : List Int) (x4_1 : List Int), Aside0 (bobbinref2_Text.l0 kq x3_1 x4_1 = some r) ∧ Aside0 (kq ≤ k) ∧ Aside0 (Kd.R (Kd.int .u32) 35 w' w.heap.size (fun _ => True) v3 x3_1) ∧ Aside0 (Kd.R (Kd.int .u8) 5 w' w.heap.size (fun _ => True) v4 x4_1) ∧ Aside0 (Below w.heap.size w w'))
  case atStart => exact ⟨(t117), (([] : List Int)), H', ⟨Nat.le_refl _⟩, ⟨rq_ HO119.out⟩, ⟨by first | exact Kd.R_nil _ _ _ _ _ | exact Kd.R_nil _ 5 _ 0 (fun _ => False) | exact Kd.R_nil _ 5 _ 0 _ | exact Kd.R_nil _ _ _ _ _ | exact Kd.N_nil _ _ _ _ _ | exact Kd.V_nil _ _ _ _ _ | exact Kd.Q_nil _ _ _ _ _ | exact Kd.S_nil _ _ _ _ _⟩, ⟨bq_ HB.out⟩⟩
  case round =>
   clear H'
   try clear c1
   try clear c2
   try clear p2
   try clear c3
   try clear c3b0
   try clear c3b1
   try clear c3b2
   obtain ⟨x3_1, x4_1, HA, HK1, HO_3, HO_4, HB⟩ := hrel
   cases gk with
   | zero => exact absurd HA.out (by simp [bobbinref2_Text.l0])
   | succ k1 =>
    have H := HA.out
    clear HA
    simp only [bobbinref2_Text.l0] at H
    by_cases c8 : (x3_1.length : Int) > 0
    ·rw [if_pos c8] at H
     have c8b0 : decide (0 < (x3_1.length : Int)) = true := decide_eq_true c8
     have c8b1 : decide (0 < x3_1.length) = true := decide_eq_true (by omega)
     clear c8
     have H' := Aside0.mk H
     clear H
     obtain ⟨Ao9, co9, eo9⟩ := Kd.R_slice HO_3.out
     subst eo9
     go_wp2
     go_loopg [5, 6] k1 (fun kq v5 v6 w' => ∃ (x3_2 : List Int) (x5_2 : Int) (x6_2 : Int), v5 = .int .u64 x5_2 ∧ v6 = .int .i64 x6_2 ∧ Aside0 (bobbinref2_Text.l1 kq x3_2 x4_1 x5_2 x6_2 = some r) ∧ Aside0 (kq ≤ k1) ∧ Aside0 (Kd.R (Kd.int .u32) 35 w' w.heap.size (fun _ => True) (.slice Ao9 x3_1.length co9) x3_2) ∧ Aside0 (Kd.R (Kd.int .u8) 5 w' w.heap.size (fun _ => True) u4 x4_1) ∧ Aside0 (Below w.heap.size w w'))
     case atStart => exact ⟨(x3_1), (0), (wrap64 ((x3_1.length : Int) - 1)), aq_, aq_, H', ⟨Nat.le_refl _⟩, ⟨rq_ HO_3.out⟩, ⟨rq_ HO_4.out⟩, ⟨bq_ HB.out⟩⟩
     case round =>
      clear H'
      try clear c1
      try clear c2
      try clear p2
      try clear c3
      try clear c3b0
      try clear c3b1
      try clear c3b2
      try clear p6
      try clear c8
      try clear c8b0
      try clear c8b1
      try clear p2
      obtain ⟨x3_2, x5_2, x6_2, rfl, rfl, HA, HK2, HO_3, HO_4, HB⟩ := hrel
      have hl3_2 := (Kd.R_reads' HO_3.out).1
      rw [hl3_2] at HO_3
      (try simp only [hl3_2])
      (try simp only [hl3_2] at HO_4)
      cases gk with
      | zero => exact absurd HA.out (by simp [bobbinref2_Text.l1])
      | succ k2 =>
       have H := HA.out
       clear HA
       simp only [bobbinref2_Text.l1] at H
       by_cases c10 : x6_2 ≥ 0
       ·rw [if_pos c10] at H
        have c10b0 : decide (0 ≤ x6_2) = true := decide_eq_true c10
        clear c10
        obtain ⟨c11b0, H⟩ := od_ H
        obtain ⟨c12b0, H⟩ := od_ H
        obtain ⟨y121, hy121⟩ : ∃ y_ : List Int, y_ = (x3_2.set (x6_2 : Int).toNat ((IntKind.u64.wrap (Int.tdiv (Go.bits .or .u64 (IntKind.u64.wrap (x5_2 * 4294967296)) (IntKind.u64.wrap (rd x3_2 x6_2))) 1000000000)) % 4294967296)) := ⟨_, rfl⟩
        replace H : (bobbinref2_Text.l1 k2 y121 x4_1 (Int.tmod (Go.bits .or .u64 (IntKind.u64.wrap (x5_2 * 4294967296)) (IntKind.u64.wrap (rd x3_2 x6_2))) 1000000000) (wrap64 (x6_2 - 1))) = some r := by first | (rw [hy121]; with_reducible exact H) | (have H2_ := (Option.bind_some _ _).symm.trans H; rw [hy121]; with_reducible exact H2_) | (have H2_ := (Option.bind_some _ _).symm.trans H; with_reducible exact H2_) | with_reducible exact H | (rw [hy121]; exact H) | exact H
        have Ny121 := Aside0.mk hy121
        clear hy121
        have H' := Aside0.mk H
        clear H
        have p120 : 0 ≤ (x6_2 : Int) := oq_
        have q120 : x6_2 < (x3_2.length : Int) := oq_
        obtain ⟨ad120, e120, hx120_0⟩ := Kd.at_int (Kd.R_reads' HO_3.out).2.2 x6_2 p120 q120
        cases e120
        replace p120 := eq_true p120
        replace q120 := eq_true q120
        have p13 : 0 ≤ (x6_2 : Int) := oq_
        have q13 : (x6_2 : Int) < ((x3_2.length : Int) : Int) := oq_
        obtain ⟨go13, co13, eo13, gb13, gl13, cl13, HG13⟩ := Kd.R_form HO_3.out (by omega)
        (first | cases eo13 | (injection eo13 with ea_ en_ ec_; (first | subst ea_ | (injection ea_ with ea_; subst ea_)); subst ec_; clear en_))
        have GB13 := Aside0.mk gb13
        have GG13 := Aside0.mk HG13
        clear gb13 gl13 HG13
        (first | simp only [add_plain] at hx120_0 | skip)
        obtain ⟨hx13_0, hf13_0⟩ := Kd.R_celln 0 HO_3.out (x6_2 : Int) p13 q13
        (try simp only [Int.toNat_natCast] at hx13_0)
        (try simp only [Int.toNat_natCast] at hf13_0)
        replace p13 := eq_true p13
        replace q13 := eq_true q13
        have HP14 := Kd.R_putg HO_3.out (x6_2 : Int) ((IntKind.u64.wrap (Int.tdiv (Go.bits .or .u64 (IntKind.u64.wrap (x5_2 * 4294967296)) (IntKind.u64.wrap (rd x3_2 x6_2))) 1000000000)) % 4294967296)
        go_wp2_with (first | ((with_reducible refine gate_store (t := 35) (p := 39) rfl ?_); refine store_event (t := 35) (p := 39) (v := ?vo_w15) (w1 := (wr.setCell ⟨go13, (x6_2 : Int).toNat, none⟩ (.int .u32 ((IntKind.u64.wrap (Int.tdiv (Go.bits .or .u64 (IntKind.u64.wrap (x5_2 * 4294967296)) (IntKind.u64.wrap (rd x3_2 x6_2))) 1000000000)) % 4294967296)))) ?hg ?ho ?hn ?hr ?_; (case ho => rfl); (case hg => rfl); (case hn => rfl); (case hr => first | (go_simp; done) | (go_simp; rfl) | (obtain ⟨hx_, hf_⟩ := Kd.R_celln 0 HO_3.out (x6_2 : Int) oq_ oq_; (try simp only [Int.toNat_natCast] at hx_); (try simp only [Int.toNat_natCast] at hf_); first | (go_simp; done) | (go_simp; rfl))); intro w15 hw; have hg : wr.grownBy w15 (some go13) := (by rw [hw]; exact HP14.2); have hp_ : Kd.R (Kd.int .u32) 35 w15 w.heap.size (fun _ => True) (.slice (some ⟨go13, 0, none⟩) x3_2.length co9) y121 := (by rw [hw, Ny121.out]; exact HP14.1); clear HP14; have n0_ := Aside0.mk (hp_); have n1_ := Aside0.mk (Kd.R_over' (v := (.slice (some ⟨go13, 0, none⟩) x3_2.length co9)) (rq_ HO_4.out) (Kd.R_typed HO_3.out) (by decide) hg); have n2_ := Aside0.mk ((by rw [hw]; exact below_set (HB.out) GB13.out : Below w.heap.size w w15)); clear HO_3; clear HO_4; clear HB; have HO_3 := n0_; have HO_4 := n1_; have HB := n2_; clear n0_ n1_ n2_; clear hg hw hp_))
        (try simp only [← hl3_2])
        go_roundg k2
        case measure => have := HK1.out; have := HK2.out; omega
        case rel => exact ⟨(y121), (Int.tmod (Go.bits .or .u64 (IntKind.u64.wrap (x5_2 * 4294967296)) (IntKind.u64.wrap (rd x3_2 x6_2))) 1000000000), (wrap64 (x6_2 - 1)), aq_, aq_, H', ⟨by have := HK1.out; have := HK2.out; omega⟩, ⟨by (try simp only [hl3_2]); (with_reducible repeat (first | apply Kd.R_alloc | apply Kd.R_drewN | apply Kd.R_drew)); exact HO_3.out⟩, ⟨by (try simp only [hl3_2]); (with_reducible repeat (first | apply Kd.R_alloc | apply Kd.R_drewN | apply Kd.R_drew)); exact HO_4.out⟩, ⟨bq_ HB.out⟩⟩
       ·rw [if_neg c10] at H
        have c10b0 : decide (0 ≤ x6_2) = false := decide_eq_false c10
        clear c10
        replace H := Option.bind_eq_some_iff.mp H
        obtain ⟨t122, A160, H⟩ := H
        have A16 := Aside0.mk A160
        clear A160
        have H' := Aside0.mk H
        clear H
        go_wp2_with (first | ((with_reducible refine gate_callee (f := 101) rfl ?_); refine goesL_ (some 43) rfl rfl Tryz.func101 (by kernel_rfl) rfl #[.slice Ao9 x3_2.length co9] rfl gq_ ?_; (with_reducible refine (bobbinref2_trimmed.calls k2 (fun k_ => some k_ = (.slice Ao9 x3_2.length co9 : Value).ownBlock) (.slice Ao9 x3_2.length co9) x3_2 t122 w _ ?side1 ?side2 A16.out).mono ?_); (case side1 => repeat (first | (with_reducible first | exact HB.out | apply below_alloc | apply pw_below_drewN | apply below_drew1) | exact HB.out)); (case side2 => exact Kd.R_tight rfl HO_3.out); rintro e w17 ⟨v123, rfl, ho0, hb, hkp⟩; refine ⟨_, rfl, ?_⟩; replace HO_4 := Aside0.mk (Kd.R_mono (ok' := fun k_ => True) (Kd.R_keptB ((Kd.R_apart' HO_4.out (Kd.R_typed HO_3.out) (by decide))) hkp (fun k_ hk_ hs_ => (hk_.2) hs_)) (fun k_ hk_ => trivial)); have HO124 := Aside0.mk (Kd.R_mono (ok' := fun k_ => True) ho0 (fun k_ hk_ => trivial)); replace HB := Aside0.mk (hb); clear HO_3; (try clear hb); (try clear hkp); (try clear ho0)))
        go_loopg [4, 5, 7] k2 (fun kq v4 v5 v7 w' => ∃ (x4_3 : List Int) (x5_3 : Int) (x7_3 : Int), v5 = .int .u64 x5_3 ∧ v7 = .int .i64 x7_3 ∧ Aside0 (bobbinref2_Text.l2 kq t122 x4_3 x5_3 x7_3 = some r) ∧ Aside0 (kq ≤ k2) ∧ Aside0 (Kd.R (Kd.int .u32) 35 w' w.heap.size (fun _ => True) v123 t122) ∧ Aside0 (Kd.R (Kd.int .u8) 5 w' w.heap.size (fun _ => True) v4 x4_3) ∧ Aside0 (Below w.heap.size w w'))
        case atStart => exact ⟨(x4_1), (x5_2), (0), aq_, aq_, H', ⟨Nat.le_refl _⟩, ⟨by (try simp only [hl3_2]); (with_reducible repeat (first | apply Kd.R_alloc | apply Kd.R_drewN | apply Kd.R_drew)); exact HO124.out⟩, ⟨by (try simp only [hl3_2]); (with_reducible repeat (first | apply Kd.R_alloc | apply Kd.R_drewN | apply Kd.R_drew)); exact HO_4.out⟩, ⟨bq_ HB.out⟩⟩
        case round =>
         clear H'
         try clear c1
         try clear p1
         try clear q1
         try clear hx1
         try clear hf1
         try clear c2
         try clear p2
         try clear c3
         try clear c3b0
         try clear c3b1
         try clear c3b2
         try clear c4
         try clear p6
         try clear c8
         try clear c8b0
         try clear c8b1
         try clear c10
         try clear c10b0
         try clear c11
         try clear c11b0
         try clear c12
         try clear c12b0
         try clear p12
         try clear q12
         try clear hx12
         try clear p13
         try clear q13
         try clear hx13
         try clear hf13
         try clear c14
         try clear hx120_0
         try clear hx13_0
         try clear p120
         try clear p13
         try clear p2
         try clear p6
         try clear q120
         try clear q13
         obtain ⟨x4_3, x5_3, x7_3, rfl, rfl, HA, HK3, HO_3, HO_4, HB⟩ := hrel
         cases gk with
         | zero => exact absurd HA.out (by simp [bobbinref2_Text.l2])
         | succ k3 =>
          have H := HA.out
          clear HA
          simp only [bobbinref2_Text.l2] at H
          by_cases c18 : x7_3 < 9
          ·rw [if_pos c18] at H
           have c18b0 := decide_eq_true c18
           clear c18
           obtain ⟨c19, H⟩ := oi_ H
           have LMc19 := Aside0.mk c19
           clear c19
           obtain ⟨y125, hy125⟩ : ∃ y_ : List Int, y_ = (x4_3 ++ [(IntKind.u64.wrap (48 + (Int.tmod x5_3 10))) % 256]) := ⟨_, rfl⟩
           replace H : (bobbinref2_Text.l2 k3 t122 y125 (IntKind.u64.wrap (Int.tdiv x5_3 10)) (wrap64 (x7_3 + 1))) = some r := by first | (rw [hy125]; with_reducible exact H) | (have H2_ := (Option.bind_some _ _).symm.trans H; rw [hy125]; with_reducible exact H2_) | (have H2_ := (Option.bind_some _ _).symm.trans H; with_reducible exact H2_) | with_reducible exact H | (rw [hy125]; exact H) | exact H
           have Ny125 := Aside0.mk hy125
           clear hy125
           have H' := Aside0.mk H
           clear H
           go_wp2_with (first | ((with_reducible refine gate_builtin (b := .append) (xs := #[.tmp 48, .tmp 53]) rfl ?_); at_builtin; refine Kd.R_append (Kd.int .u8) (w0 := w) w.heap.size rfl (.tmp 48) (.tmp 53) 110 5 (.int .u8 0) 1 rfl Tryz.underlying110 info5 rfl (by decide) (by omega) u4 x4_3 ((IntKind.u64.wrap (48 + (Int.tmod x5_3 10))) % 256) [.int .u8 ((IntKind.u64.wrap (48 + (Int.tmod x5_3 10))) % 256)] (fun _ => True) (fun _ => False) rfl rfl ?aP (fun _ hk => hk.elim) ?aF ?aO ?aB ?aS ?aL ?_; (case aP => exact rfl); (case aB => exact (bq_ HB.out)); (case aF => exact (fun _ _ => trivial)); (case aO => exact (rq_ HO_4.out)); (case aS => exact (below_size (bq_ HB.out))); (case aL => have := LMc19.out; omega); intro v126 w20 ho hb hg hat; rw [← Ny125.out] at ho; replace HO_3 := Aside0.mk (Kd.R_over' (rq_ HO_3.out) (Kd.R_typed (rq_ HO_4.out)) (by decide) hg); replace HB := Aside0.mk (hb); have HO127 := Aside0.mk (ho); clear HO_4; clear ho hb hg hat))
           go_roundg k3
           case measure => have := HK1.out; have := HK2.out; have := HK3.out; omega
           case rel => exact ⟨(y125), (IntKind.u64.wrap (Int.tdiv x5_3 10)), (wrap64 (x7_3 + 1)), aq_, aq_, H', ⟨by have := HK1.out; have := HK2.out; have := HK3.out; omega⟩, ⟨by (try simp only [hl3_2]); (with_reducible repeat (first | apply Kd.R_alloc | apply Kd.R_drewN | apply Kd.R_drew)); exact HO_3.out⟩, ⟨by (try simp only [hl3_2]); (with_reducible repeat (first | apply Kd.R_alloc | apply Kd.R_drewN | apply Kd.R_drew)); exact HO127.out⟩, ⟨bq_ HB.out⟩⟩
          ·rw [if_neg c18] at H
           have c18b0 := decide_eq_false c18
           clear c18
           have H' := Aside0.mk H
           clear H
           go_wp2
           (try simp only [← hl3_2])
           go_roundg k3
           case measure => have := HK1.out; have := HK2.out; have := HK3.out; omega
           case rel => exact ⟨(t122), (x4_3), H', ⟨by have := HK1.out; have := HK2.out; have := HK3.out; omega⟩, ⟨by (try simp only [hl3_2]); (with_reducible repeat (first | apply Kd.R_alloc | apply Kd.R_drewN | apply Kd.R_drew)); exact HO_3.out⟩, ⟨by (try simp only [hl3_2]); (with_reducible repeat (first | apply Kd.R_alloc | apply Kd.R_drewN | apply Kd.R_drew)); exact HO_4.out⟩, ⟨bq_ HB.out⟩⟩
    ·rw [if_neg c8] at H
     have c8b0 : decide (0 < (x3_1.length : Int)) = false := decide_eq_false c8
     have c8b1 : decide (0 < x3_1.length) = false := decide_eq_false (by omega)
     clear c8
     have HC21 := Aside0.mk H
     clear H
     obtain ⟨Ao22, co22, eo22⟩ := Kd.R_slice HO_3.out
     subst eo22
     obtain ⟨Ao23, co23, eo23⟩ := Kd.R_slice HO_4.out
     subst eo23
     go_upto_block 6 with (fail)
     go_cut [8] (fun v8 wc => ∃ (kq : Nat) (x8_20 : Int), v8 = .int .i64 x8_20 ∧ Aside0 (bobbinref2_Text.j4 kq x4_1 x8_20 = some r) ∧ Aside0 (kq ≤ k1) ∧ Aside0 (Kd.R (Kd.int .u8) 5 wc w.heap.size (fun _ => True) (.slice Ao23 x4_1.length co23) x4_1) ∧ Aside0 (Below w.heap.size w wc))
     case first =>
      have H := HC21.out
      clear HC21
      have H' := Aside0.mk H
      clear H
      go_wp2
      go_loopg [8] k1 (fun kq v8 w' => ∃ (x8_2 : Int), v8 = .int .i64 x8_2 ∧ Aside0 (bobbinref2_Text.l3 kq x4_1 x8_2 = some r) ∧ Aside0 (kq ≤ k1) ∧ Aside0 (Kd.R (Kd.int .u8) 5 w' w.heap.size (fun _ => True) (.slice Ao23 x4_1.length co23) x4_1) ∧ Aside0 (Below w.heap.size w w'))
      case atStart => exact ⟨((x4_1.length : Int)), aq_, H', ⟨Nat.le_refl _⟩, ⟨rq_ HO_4.out⟩, ⟨bq_ HB.out⟩⟩
      case round =>
       clear H'
       try clear c1
       try clear p1
       try clear q1
       try clear hx1
       try clear hf1
       try clear c2
       try clear p2
       try clear c3
       try clear c3b0
       try clear c3b1
       try clear c3b2
       try clear c4
       try clear p6
       try clear c8
       try clear c8b0
       try clear c8b1
       try clear c10
       try clear c10b0
       try clear c11
       try clear c11b0
       try clear c12
       try clear c12b0
       try clear p12
       try clear q12
       try clear hx12
       try clear p13
       try clear q13
       try clear hx13
       try clear hf13
       try clear c14
       try clear c18
       try clear c18b0
       try clear c19
       try clear hx120_0
       try clear hx13_0
       try clear p1
       try clear p12
       try clear p120
       try clear p13
       try clear p2
       try clear p6
       try clear q1
       try clear q12
       try clear q120
       try clear q13
       obtain ⟨x8_2, rfl, HA, HK2, HO_4, HB⟩ := hrel
       cases gk with
       | zero => exact absurd HA.out (by simp [bobbinref2_Text.l3])
       | succ k2 =>
        have H := HA.out
        clear HA
        simp only [bobbinref2_Text.l3] at H
        by_cases c24 : x8_2 > 1
        ·rw [if_pos c24] at H
         have c24b0 : decide (1 < x8_2) = true := decide_eq_true c24
         clear c24
         (first | rw [c24b0] | (simp only [i64_w, i32_w]; rw [c24b0]) | rw [c24b1] | skip)
         obtain ⟨ji25, hji25⟩ : ∃ j_ : Int, (wrap64 (x8_2 - 1)) = j_ := ⟨_, rfl⟩
         first | rw [hji25] at H | simp only [hji25] at H
         have hji25w : (IntKind.i64.wrap (x8_2 - 1)) = ji25 := (i64_w _).trans hji25
         obtain ⟨c26b0, H⟩ := od_ H
         obtain ⟨c27b0, H⟩ := od_ H
         by_cases c28 : (rd x4_1 (ji25)) = 48
         ·rw [if_pos c28] at H
          have c28b0 : ((rd x4_1 (ji25)) == 48) = true := beq_iff_eq.mpr c28
          have c28b1 : ((rd x4_1 (ji25)) != 48) = false := bne_eq_false_iff_eq.mpr c28
          clear c28
          have H' := Aside0.mk H
          clear H
          have p128 : 0 ≤ ((ji25) : Int) := oq_
          have q128 : (ji25) < (x4_1.length : Int) := oq_
          obtain ⟨ad128, e128, hx128_0⟩ := Kd.at_int (Kd.R_reads' HO_4.out).2.2 (ji25) p128 q128
          cases e128
          replace p128 := eq_true p128
          replace q128 := eq_true q128
          go_wp2
          go_roundg k2
          case measure => have := HK1.out; have := HK2.out; omega
          case rel => exact ⟨(ji25), (by first | rfl | (simp; done) | (simp only [← hji25] <;> (first | rfl | simp)) | (simp [*]; done)), H', ⟨by have := HK1.out; have := HK2.out; omega⟩, ⟨rq_ HO_4.out⟩, ⟨bq_ HB.out⟩⟩
         ·rw [if_neg c28] at H
          have c28b0 : ((rd x4_1 (ji25)) == 48) = false := beq_eq_false_iff_ne.mpr c28
          have c28b1 : ((rd x4_1 (ji25)) != 48) = true := bne_iff_ne.mpr c28
          have H' := Aside0.mk H
          clear H
          have p128 : 0 ≤ ((ji25) : Int) := oq_
          have q128 : (ji25) < (x4_1.length : Int) := oq_
          obtain ⟨ad128, e128, hx128_0⟩ := Kd.at_int (Kd.R_reads' HO_4.out).2.2 (ji25) p128 q128
          cases e128
          replace p128 := eq_true p128
          replace q128 := eq_true q128
          go_wp2
          go_meet
          case rel => exact ⟨_, (x8_2), aq_, H', ⟨by have := HK1.out; have := HK2.out; first | omega | exact Nat.le_refl _⟩, ⟨rq_ HO_4.out⟩, ⟨bq_ HB.out⟩⟩
        ·rw [if_neg c24] at H
         have c24b0 : decide (1 < x8_2) = false := decide_eq_false c24
         clear c24
         (first | rw [c24b0] | (simp only [i64_w, i32_w]; rw [c24b0]) | rw [c24b1] | skip)
         have H' := Aside0.mk H
         clear H
         go_wp2
         go_meet
         case rel => exact ⟨_, (x8_2), aq_, H', ⟨by have := HK1.out; have := HK2.out; first | omega | exact Nat.le_refl _⟩, ⟨rq_ HO_4.out⟩, ⟨bq_ HB.out⟩⟩
     case rest =>
      clear HC21
      try clear c1
      try clear p1
      try clear q1
      try clear hx1
      try clear hf1
      try clear c2
      try clear p2
      try clear c3
      try clear c3b0
      try clear c3b1
      try clear c3b2
      try clear c4
      try clear p6
      try clear c8
      try clear c8b0
      try clear c8b1
      try clear c10
      try clear c10b0
      try clear c11
      try clear c11b0
      try clear c12
      try clear c12b0
      try clear p12
      try clear q12
      try clear hx12
      try clear p13
      try clear q13
      try clear hx13
      try clear hf13
      try clear c14
      try clear c18
      try clear c18b0
      try clear c19
      try clear c24
      try clear c24b0
      try clear c24b1
      try clear c26
      try clear c26b0
      try clear c27
      try clear c27b0
      try clear c28
      try clear c28b0
      try clear c28b1
      try clear hx120_0
      try clear hx128_0
      try clear hx13_0
      try clear p1
      try clear p12
      try clear p120
      try clear p128
      try clear p13
      try clear p2
      try clear p6
      try clear q1
      try clear q12
      try clear q120
      try clear q128
      try clear q13
      obtain ⟨kq, x8_20, rfl, HA, HJ20, HO_4, HB⟩ := hcut
      cases kq with
      | zero => exact absurd HA.out (by simp [bobbinref2_Text.j4])
      | succ kj20 =>
       have H := HA.out
       clear HA
       simp only [bobbinref2_Text.j4] at H
       have H' := Aside0.mk H
       clear H
       go_wp2
       go_loopg [9, 10] kj20 (fun kq v9 v10 w' => ∃ (x9_3 : List Int) (x10_3 : Int), v10 = .int .i64 x10_3 ∧ Aside0 (bobbinref2_Text.l4 kq x4_1 x9_3 x10_3 = some r) ∧ Aside0 (kq ≤ kj20) ∧ Aside0 (Kd.R (Kd.int .u8) 5 w' w.heap.size (fun k_ => some k_ ≠ (v9 : Value).ownBlock) (.slice Ao23 x4_1.length co23) x4_1) ∧ Aside0 (Kd.R (Kd.int .u8) 5 w' w.heap.size (fun k_ => some k_ ≠ ((.slice Ao23 x4_1.length co23) : Value).ownBlock) v9 x9_3) ∧ Aside0 (Below w.heap.size w w'))
       case atStart => exact ⟨(([] : List Int)), (wrap64 (x8_20 - 1)), aq_, H', ⟨Nat.le_refl _⟩, ⟨by (with_reducible repeat (first | apply Kd.R_alloc | apply Kd.R_drewN | apply Kd.R_drew)); exact Kd.R_mono HO_4.out (fun _ hk => (by simp [Value.ownBlock]))⟩, ⟨by first | exact Kd.R_nil _ _ _ _ _ | exact Kd.R_nil _ 5 _ 0 (fun _ => False) | exact Kd.R_nil _ 5 _ 0 _ | exact Kd.R_nil _ _ _ _ _ | exact Kd.N_nil _ _ _ _ _ | exact Kd.V_nil _ _ _ _ _ | exact Kd.Q_nil _ _ _ _ _ | exact Kd.S_nil _ _ _ _ _⟩, ⟨bq_ HB.out⟩⟩
       case round =>
        clear H'
        try clear c1
        try clear p1
        try clear q1
        try clear hx1
        try clear hf1
        try clear c2
        try clear p2
        try clear c3
        try clear c3b0
        try clear c3b1
        try clear c3b2
        try clear c4
        try clear p6
        try clear c8
        try clear c8b0
        try clear c8b1
        try clear c10
        try clear c10b0
        try clear c11
        try clear c11b0
        try clear c12
        try clear c12b0
        try clear p12
        try clear q12
        try clear hx12
        try clear p13
        try clear q13
        try clear hx13
        try clear hf13
        try clear c14
        try clear c18
        try clear c18b0
        try clear c19
        try clear c24
        try clear c24b0
        try clear c24b1
        try clear c26
        try clear c26b0
        try clear c27
        try clear c27b0
        try clear c28
        try clear c28b0
        try clear c28b1
        try clear hx120_0
        try clear hx128_0
        try clear hx13_0
        try clear p1
        try clear p12
        try clear p120
        try clear p128
        try clear p13
        try clear p2
        try clear p6
        try clear q1
        try clear q12
        try clear q120
        try clear q128
        try clear q13
        obtain ⟨x9_3, x10_3, rfl, HA, HK3, HO_4, HO_9, HB⟩ := hrel
        cases gk with
        | zero => exact absurd HA.out (by simp [bobbinref2_Text.l4])
        | succ k3 =>
         have H := HA.out
         clear HA
         simp only [bobbinref2_Text.l4] at H
         by_cases c29 : x10_3 ≥ 0
         ·rw [if_pos c29] at H
          have c29b0 : decide (0 ≤ x10_3) = true := decide_eq_true c29
          clear c29
          obtain ⟨c30b0, H⟩ := od_ H
          obtain ⟨c31b0, H⟩ := od_ H
          obtain ⟨c32, H⟩ := oi_ H
          have LMc32 := Aside0.mk c32
          clear c32
          obtain ⟨y130, hy130⟩ : ∃ y_ : List Int, y_ = (x9_3 ++ [rd x4_1 x10_3]) := ⟨_, rfl⟩
          replace H : (bobbinref2_Text.l4 k3 x4_1 y130 (wrap64 (x10_3 - 1))) = some r := by first | (rw [hy130]; with_reducible exact H) | (have H2_ := (Option.bind_some _ _).symm.trans H; rw [hy130]; with_reducible exact H2_) | (have H2_ := (Option.bind_some _ _).symm.trans H; with_reducible exact H2_) | with_reducible exact H | (rw [hy130]; exact H) | exact H
          have Ny130 := Aside0.mk hy130
          clear hy130
          have H' := Aside0.mk H
          clear H
          have p129 : 0 ≤ (x10_3 : Int) := oq_
          have q129 : x10_3 < (x4_1.length : Int) := oq_
          obtain ⟨ad129, e129, hx129_0⟩ := Kd.at_int (Kd.R_reads' HO_4.out).2.2 x10_3 p129 q129
          cases e129
          replace p129 := eq_true p129
          replace q129 := eq_true q129
          go_wp2_with (first | ((with_reducible refine gate_builtin (b := .append) (xs := #[.tmp 77, .tmp 82]) rfl ?_); at_builtin; refine Kd.R_append (Kd.int .u8) (w0 := w) w.heap.size rfl (.tmp 77) (.tmp 82) 110 5 (.int .u8 0) 1 rfl Tryz.underlying110 info5 rfl (by decide) (by omega) u9 x9_3 (rd x4_1 x10_3) [.int .u8 (rd x4_1 x10_3)] (fun k_ => some k_ ≠ (.slice (some ad129) x4_1.length co23 : Value).ownBlock) (fun _ => False) rfl rfl ?aP (fun _ hk => hk.elim) ?aF ?aO ?aB ?aS ?aL ?_; (case aP => exact rfl); (case aB => exact (bq_ HB.out)); (case aF => exact (fun k_ hk => Kd.fresh' (Kd.R_lt (rq_ HO_4.out)) k_ hk)); (case aO => exact (rq_ HO_9.out)); (case aS => exact (below_size (bq_ HB.out))); (case aL => have := LMc32.out; omega); intro v131 w33 ho hb hg hat; rw [← Ny130.out] at ho; replace HO_4 := Aside0.mk (Kd.R_after (ok := (fun _ => True)) (by (with_reducible repeat (first | apply Kd.R_alloc | apply Kd.R_drewN | apply Kd.R_drew)); exact Kd.R_mono HO_4.out (fun _ hk => ⟨trivial, hk⟩)) hg hat); replace HB := Aside0.mk (hb); have HO132 := Aside0.mk (ho); clear HO_9; clear ho hb hg hat))
          go_roundg k3
          case measure => have := HK1.out; have := HJ20.out; have := HK3.out; omega
          case rel => exact ⟨(y130), (wrap64 (x10_3 - 1)), aq_, H', ⟨by have := HK1.out; have := HJ20.out; have := HK3.out; omega⟩, ⟨by (with_reducible repeat (first | apply Kd.R_alloc | apply Kd.R_drewN | apply Kd.R_drew)); exact Kd.R_mono HO_4.out (fun _ hk => hk.2)⟩, ⟨rq_ HO132.out⟩, ⟨bq_ HB.out⟩⟩
         ·rw [if_neg c29] at H
          have c29b0 : decide (0 ≤ x10_3) = false := decide_eq_false c29
          clear c29
          obtain rfl := Option.some.inj H
          have hcv34 := own_string (P := Tryz.prog) Tryz.underlying110 Tryz.underlying5 Tryz.underlying9 (Kd.own_of_R HO_9.out)
          go_wp2
          go_ret
          exact ⟨ew_, bq_ HB.out⟩
end Go.Proofs.YtdoeigngpemcgaaGreatDoor.PNatO
namespace Go.Proofs.YtdoeigngpemcgaaGreatDoor.PNat
open Go.RowKit Go.Proofs.YtdoeigngpemcgaaGreatDoorW.PrintWords Go.Proofs.YtdoeigngpemcgaaGreatDoorW.PrintLast Go.Proofs.YtdoeigngpemcgaaGreatDoorW.PrintMore
attribute [local go_sem] max2_int min2_int max_two min_two max_three min_three max_four min_four
-- IMPORT Derived.Test.YtdoeigngpemcgaaGreatDoorPNatOx
def bobbinref2_Text.f (k : Nat) (l0 : List Int) : Option ByteArray := Go.Proofs.YtdoeigngpemcgaaGreatDoor.PNatO.bobbinref2_Text.f k l0
theorem bobbinref2_Text.calls (k : Nat) (A0 : Option Addr) (c0 : Nat) (l0 : List Int) (r : ByteArray) (w : World) (hr0 : Kd.C (Kd.int .u32) w A0 l0.length l0) (hc0 : l0.length ≤ c0) (h : bobbinref2_Text.f k l0 = some r) :
  Calls Tryz.prog 47 #[.slice A0 l0.length c0] w fun e w' => e = .returned (.string r) ∧ Below w.heap.size w w' := Go.Proofs.YtdoeigngpemcgaaGreatDoor.PNatO.bobbinref2_Text.calls k A0 c0 l0 r w hr0 hc0 h
end Go.Proofs.YtdoeigngpemcgaaGreatDoor.PNat
namespace Go.Proofs.YtdoeigngpemcgaaGreatDoor.Pure
open Go.RowKit Go.Proofs.YtdoeigngpemcgaaGreatDoor.PNat Go.Proofs.YtdoeigngpemcgaaGreatDoorW.PrintWords Go.Proofs.YtdoeigngpemcgaaGreatDoorW.PrintLast Go.Proofs.YtdoeigngpemcgaaGreatDoorW.PrintMore
theorem ev_norm (l : List Int) (hl : l.length ≤ 1000000000) : Ev (fun k => nat_Norm.f k l) (Num.trimW l) := by
 unfold nat_Norm.f
 refine Ev.bind (ev_trim l hl) ?_
 have := Num.trimW_length_le l
 refine Ev.congr (fun k => ?_) (Ev.now (Num.trimW l))
 simp only [slices_Clone_uint32_uint32.f]
 rw [if_pos (by omega)]
 rfl
theorem take_zero_step {l : List Int} {j : Nat} (hj : j < l.length) (h : rd l (j : Int) = 0) : Num.trimW (l.take (j + 1)) = Num.trimW (l.take j) := by
 rw [List.take_succ_eq_append_getElem hj]
 have e : l[j] = 0 := by simpa [rd, List.getD_eq_getElem?_getD, List.getElem?_eq_getElem hj] using h
 rw [e, Num.trimW_snoc_zero]
theorem take_ne_step {l : List Int} {j : Nat} (hj : j < l.length) (h : ¬ rd l (j : Int) = 0) : Num.trimW (l.take (j + 1)) = l.take (j + 1) := by
 rw [List.take_succ_eq_append_getElem hj]
 have e : l[j] ≠ 0 := by
  intro e
  apply h
  simpa [rd, List.getD_eq_getElem?_getD, List.getElem?_eq_getElem hj] using e
 rw [Num.trimW_snoc_ne _ e]
theorem rnorm_l0 (l : List Int) (hl : l.length ≤ 1000000000) : ∀ i : Nat, i ≤ l.length → Ev (fun k => bobbinref2_Norm.l0 k l (i : Int)) (Num.trimW (l.take i)) := by
 intro i
 induction i with
 | zero =>
  intro _
  refine Ev.step (f := fun _ => some (Num.trimW (l.take 0))) (fun k => ?_) (Ev.now _)
  simp only [bobbinref2_Norm.l0]
  rw [if_neg (by omega), if_pos (by omega), if_pos (by omega), if_pos (by simp)]
  simp [Num.trimW]
 | succ j ih =>
  intro hj
  have e1 : wrap64 (((j + 1 : Nat) : Int) - 1) = (j : Int) := by rw [i64_id (by omega) (by omega)]; omega
  by_cases h : rd l (j : Int) = 0
  ·refine Ev.step (fun k => ?_) (by rw [take_zero_step (by omega) h]; exact ih (by omega))
   simp only [bobbinref2_Norm.l0]
   rw [if_pos (by omega), e1, if_pos (by omega), if_pos (by omega), if_pos h]
  ·refine Ev.step (f := fun _ => some (Num.trimW (l.take (j + 1)))) (fun k => ?_) (Ev.now _)
   simp only [bobbinref2_Norm.l0]
   rw [if_pos (by omega), e1, if_pos (by omega), if_pos (by omega), if_neg h, if_pos (by omega), if_pos (by omega), if_pos (by simp; omega), take_ne_step (by omega) h]
   rfl
theorem ev_rnorm (l : List Int) (hl : l.length ≤ 1000000000) : Ev (fun k => bobbinref2_Norm.f k l) (Num.trimW l) := by
 unfold bobbinref2_Norm.f
 have := rnorm_l0 l hl l.length (Nat.le_refl _)
 rwa [List.take_length] at this
theorem rtrim_l0 (l : List Int) (hl : l.length ≤ 1000000000) : ∀ i : Nat, i ≤ l.length → Ev (fun k => bobbinref2_trimmed.l0 k l (i : Int)) (Num.trimW (l.take i)) := by
 intro i
 induction i with
 | zero =>
  intro _
  refine Ev.step (f := fun _ => some (Num.trimW (l.take 0))) (fun k => ?_) (Ev.now _)
  simp only [bobbinref2_trimmed.l0]
  rw [if_neg (by omega), if_pos (by omega), if_pos (by omega)]
  simp [Num.trimW]
 | succ j ih =>
  intro hj
  have e1 : wrap64 (((j + 1 : Nat) : Int) - 1) = (j : Int) := by rw [i64_id (by omega) (by omega)]; omega
  by_cases h : rd l (j : Int) = 0
  ·refine Ev.step (fun k => ?_) (by rw [take_zero_step (by omega) h]; exact ih (by omega))
   simp only [bobbinref2_trimmed.l0]
   rw [if_pos (by omega), e1, if_pos (by omega), if_pos (by omega), if_pos h]
  ·refine Ev.step (f := fun _ => some (Num.trimW (l.take (j + 1)))) (fun k => ?_) (Ev.now _)
   simp only [bobbinref2_trimmed.l0]
   rw [if_pos (by omega), e1, if_pos (by omega), if_pos (by omega), if_neg h, if_pos (by omega), if_pos (by omega), take_ne_step (by omega) h]
   rfl
theorem ev_rtrim (l : List Int) (hl : l.length ≤ 1000000000) : Ev (fun k => bobbinref2_trimmed.f k l) (Num.trimW l) := by
 unfold bobbinref2_trimmed.f
 have := rtrim_l0 l hl l.length (Nat.le_refl _)
 rwa [List.take_length] at this
open Go.Proofs.YtdoeigngpemcgaaGreatDoor.PNatO in
theorem otrim_l0 (l : List Int) (hl : l.length ≤ 1000000000) : ∀ i : Nat, i ≤ l.length → Ev (fun k => PNatO.bobbinref2_trimmed.l0 k l (i : Int)) (Num.trimW (l.take i)) := by
 intro i
 induction i with
 | zero =>
  intro _
  refine Ev.step (f := fun _ => some (Num.trimW (l.take 0))) (fun k => ?_) (Ev.now _)
  simp only [PNatO.bobbinref2_trimmed.l0]
  rw [if_neg (by omega), if_pos (by omega), if_pos (by omega)]
  simp [Num.trimW]
 | succ j ih =>
  intro hj
  have e1 : wrap64 (((j + 1 : Nat) : Int) - 1) = (j : Int) := by rw [i64_id (by omega) (by omega)]; omega
  by_cases h : rd l (j : Int) = 0
  ·refine Ev.step (fun k => ?_) (by rw [take_zero_step (by omega) h]; exact ih (by omega))
   simp only [PNatO.bobbinref2_trimmed.l0]
   rw [if_pos (by omega), e1, if_pos (by omega), if_pos (by omega), if_pos h]
  ·refine Ev.step (f := fun _ => some (Num.trimW (l.take (j + 1)))) (fun k => ?_) (Ev.now _)
   simp only [PNatO.bobbinref2_trimmed.l0]
   rw [if_pos (by omega), e1, if_pos (by omega), if_pos (by omega), if_neg h, if_pos (by omega), if_pos (by omega), take_ne_step (by omega) h]
   rfl
theorem ev_otrim (l : List Int) (hl : l.length ≤ 1000000000) : Ev (fun k => PNatO.bobbinref2_trimmed.f k l) (Num.trimW l) := by
 unfold PNatO.bobbinref2_trimmed.f
 have := otrim_l0 l hl l.length (Nat.le_refl _)
 rwa [List.take_length] at this
theorem onorm_l0 (l : List Int) (hl : l.length ≤ 1000000000) : ∀ i : Nat, i ≤ l.length → Ev (fun k => PNat.bobbinref2_Norm.l0 k l (i : Int)) (Num.trimW (l.take i)) := by
 intro i
 induction i with
 | zero =>
  intro _
  refine Ev.step (f := fun _ => some (Num.trimW (l.take 0))) (fun k => ?_) (Ev.now _)
  simp only [PNat.bobbinref2_Norm.l0]
  rw [if_neg (by omega), if_pos (by omega), if_pos (by omega), if_pos (by simp)]
  simp [Num.trimW]
 | succ j ih =>
  intro hj
  have e1 : wrap64 (((j + 1 : Nat) : Int) - 1) = (j : Int) := by rw [i64_id (by omega) (by omega)]; omega
  by_cases h : rd l (j : Int) = 0
  ·refine Ev.step (fun k => ?_) (by rw [take_zero_step (by omega) h]; exact ih (by omega))
   simp only [PNat.bobbinref2_Norm.l0]
   rw [if_pos (by omega), e1, if_pos (by omega), if_pos (by omega), if_pos h]
  ·refine Ev.step (f := fun _ => some (Num.trimW (l.take (j + 1)))) (fun k => ?_) (Ev.now _)
   simp only [PNat.bobbinref2_Norm.l0]
   rw [if_pos (by omega), e1, if_pos (by omega), if_pos (by omega), if_neg h, if_pos (by omega), if_pos (by omega), if_pos (by simp; omega), take_ne_step (by omega) h]
   rfl
theorem ev_onorm (l : List Int) (hl : l.length ≤ 1000000000) : Ev (fun k => PNat.bobbinref2_Norm.f k l) (Num.trimW l) := by
 unfold PNat.bobbinref2_Norm.f
 have := onorm_l0 l hl l.length (Nat.le_refl _)
 rwa [List.take_length] at this
theorem or_join {c x : Int} (hc0 : 0 ≤ c) (hc1 : c < 1000000000) (hx0 : 0 ≤ x) (hx1 : x < 4294967296) : bits .or .u64 (IntKind.u64.wrap (c * 4294967296)) (IntKind.u64.wrap x) = c * 4294967296 + x := by
 rw [u64_id (x := c * 4294967296) (by omega) (by omega), u64_id hx0 (by omega), u64_or _ _ (by omega) (by omega) (by omega) (by omega), nat_join 32 _ _ (by omega) (by omega)]
 omega
/-- nine digits of a piece, the lowest first -/
def rev9 (n : Int) : List Int := (List.range 9).map fun t => 48 + n / 10 ^ t % 10
theorem div_10 (n : Int) (k : Nat) : n / 10 ^ k / 10 = n / 10 ^ (k + 1) := by
 rw [Int.ediv_ediv_of_nonneg (Int.pow_nonneg (by decide)), Int.pow_succ]
theorem rtext_l2 (m b : List Int) (c : Int) (hc0 : 0 ≤ c) (hc1 : c < 1000000000) (R : ByteArray) (hb : b.length ≤ 100000000) (hR : Ev (fun k => PNatO.bobbinref2_Text.l0 k m (b ++ rev9 c)) R) (d : Nat) : ∀ t : Nat, t + d = 9 →
  Ev (fun k => PNatO.bobbinref2_Text.l2 k m (b ++ (List.range t).map (fun t => 48 + c / 10 ^ t % 10)) (c / 10 ^ t) (t : Int)) R := by
 induction d with
 | zero =>
  intro t ht
  obtain rfl : t = 9 := by omega
  refine Ev.step (fun k => ?_) hR
  simp only [PNatO.bobbinref2_Text.l2]
  rw [if_neg (by omega)]
  rfl
 | succ d ih =>
  intro t ht
  have h0 : 0 ≤ c / 10 ^ t := Int.ediv_nonneg hc0 (Int.pow_nonneg (by decide))
  have h1 : c / 10 ^ t < 1000000000 := Int.lt_of_le_of_lt (Int.ediv_le_self _ hc0) hc1
  refine Ev.step (fun k => ?_) (ih (t + 1) (by omega))
  simp only [PNatO.bobbinref2_Text.l2]
  rw [if_pos (by omega), if_pos (by simp; omega), i64_id (by omega) (by omega), List.range_succ, List.map_append, ← List.append_assoc]
  have e1 : IntKind.u64.wrap (48 + (c / 10 ^ t).tmod 10) % 256 = 48 + c / 10 ^ t % 10 := by
   rw [Int.tmod_eq_emod_of_nonneg h0, u64_id (by omega) (by omega)]
   omega
  have e2 : IntKind.u64.wrap ((c / 10 ^ t).tdiv 10) = c / 10 ^ (t + 1) := by
   rw [Int.tdiv_eq_ediv_of_nonneg h0, u64_id (by omega) (by omega), div_10]
  rw [e1, e2]
  rfl
theorem rtext_l1 (ml b : List Int) (hok : Num.okW ml) (hlen : ml.length ≤ 1000000) (R : ByteArray)
  (hR : Ev (fun k => PNatO.bobbinref2_Text.l2 k (Num.trimW (Num.shq 1000000000 ml).1) b (Num.shq 1000000000 ml).2 0) R) : ∀ (j : Nat) (cur : List Int) (c : Int), j ≤ ml.length → cur.length = ml.length → cur.take j = ml.take j → cur.drop j = (Num.shq 1000000000 (ml.drop j)).1 → c = (Num.shq 1000000000 (ml.drop j)).2 →
   Ev (fun k => PNatO.bobbinref2_Text.l1 k cur b c ((j : Int) - 1)) R := by
 intro j
 induction j with
 | zero =>
  intro cur c hj hl ht hd hc
  have e1 : cur = (Num.shq 1000000000 ml).1 := by simpa using hd
  have e2 : c = (Num.shq 1000000000 ml).2 := by simpa using hc
  refine Ev.step (f := fun k => (PNatO.bobbinref2_trimmed.f k cur).bind fun t => PNatO.bobbinref2_Text.l2 k t b c 0) (fun k => ?_) ?_
  ·simp only [PNatO.bobbinref2_Text.l1]
   rw [if_neg (by omega)]
  ·refine Ev.bind (ev_otrim cur (by omega)) ?_
   rw [e1, e2]
   exact hR
 | succ j ih =>
  intro cur c hj hl ht hd hc
  have hr := Num.shq_rest (d := 1000000000) (by decide) (ml.drop (j + 1))
  rw [← hc] at hr
  have hx : rd cur (j : Int) = ml[j]'(by omega) := cur_get hl (by omega) ht
  have hxr := hok (ml[j]'(by omega)) (List.getElem_mem _)
  have e0 : (((j + 1 : Nat) : Int) - 1) = (j : Int) := by omega
  have hs := shq_cons_step 1000000000 ml j (by omega)
  rw [← hc] at hs
  have hq0 : 0 ≤ (c * 4294967296 + ml[j]'(by omega)) / 1000000000 := by omega
  have hq1 : (c * 4294967296 + ml[j]'(by omega)) / 1000000000 < 4294967296 := by omega
  refine Ev.step (fun k => ?_) (ih (cur.set j ((c * 4294967296 + ml[j]'(by omega)) / 1000000000)) ((c * 4294967296 + ml[j]'(by omega)) % 1000000000) (by omega) (by rw [List.length_set]; exact hl) (cur_take _ ht) ?_ ?_)
  ·simp only [PNatO.bobbinref2_Text.l1]
   rw [e0, if_pos (by omega), if_pos (by omega), if_pos (by omega), hx, or_join hr.1 hr.2 hxr.1 hxr.2, Int.tdiv_eq_ediv_of_nonneg (by omega), Int.tmod_eq_emod_of_nonneg (by omega), u64_id (by omega) (by omega), Int.emod_eq_of_lt hq0 hq1, i64_id (by omega) (by omega)]
   rfl
  ·rw [cur_drop _ (by omega), hd, hs]
  ·rw [hs]
theorem rtext_l4 (b : List Int) (hb : b.length ≤ 100000000) : ∀ (i : Nat) (acc : List Int), i ≤ b.length → acc.length + i ≤ 100000000 →
  Ev (fun k => PNatO.bobbinref2_Text.l4 k b acc ((i : Int) - 1)) (strOfNums (acc ++ (b.take i).reverse)) := by
 intro i
 induction i with
 | zero =>
  intro acc _ _
  refine Ev.step (f := fun _ => some (strOfNums (acc ++ (b.take 0).reverse))) (fun k => ?_) (Ev.now _)
  simp only [PNatO.bobbinref2_Text.l4]
  rw [if_neg (by omega)]
  simp
 | succ i ih =>
  intro acc hi ha
  have e0 : (((i + 1 : Nat) : Int) - 1) = (i : Int) := by omega
  have hg : rd b (i : Int) = b[i]'(by omega) := by simp [rd, List.getD_eq_getElem?_getD, List.getElem?_eq_getElem (show i < b.length by omega)]
  have key := ih (acc ++ [b[i]'(by omega)]) (by omega) (by simp; omega)
  rw [List.take_succ_eq_append_getElem (show i < b.length by omega), List.reverse_append]
  rw [List.append_assoc] at key
  refine Ev.step (fun k => ?_) key
  simp only [PNatO.bobbinref2_Text.l4]
  rw [e0, if_pos (by omega), if_pos (by omega), if_pos (by omega), if_pos (by omega), hg, i64_id (by omega) (by omega)]
theorem rtext_j4 (b : List Int) (hb : b.length ≤ 90000000) (n : Nat) (hn : n ≤ b.length) : Ev (fun k => PNatO.bobbinref2_Text.j4 k b (n : Int)) (strOfNums (b.take n).reverse) := by
 refine Ev.step (f := fun k => PNatO.bobbinref2_Text.l4 k b [] ((n : Int) - 1)) (fun k => ?_) ?_
 ·simp only [PNatO.bobbinref2_Text.j4]
  rw [i64_id (by omega) (by omega)]
 ·exact rtext_l4 b (by omega) n [] hn (by simp; omega)
theorem rtext_l3 (b : List Int) (hb : b.length ≤ 90000000) : ∀ n : Nat, n ≤ b.length → (∃ c ∈ b.take n, c ≠ 48) →
  Ev (fun k => PNatO.bobbinref2_Text.l3 k b (n : Int)) (strOfNums ((b.take n).reverse.dropWhile (· == 48))) := by
 intro n
 induction n with
 | zero => rintro _ ⟨c, hc, _⟩; simp at hc
 | succ j ih =>
  rintro hn ⟨c, hc, hcne⟩
  have hg : rd b (j : Int) = b[j]'(by omega) := by simp [rd, List.getD_eq_getElem?_getD, List.getElem?_eq_getElem (show j < b.length by omega)]
  rw [List.take_succ_eq_append_getElem (show j < b.length by omega)] at hc
  by_cases h48 : b[j]'(by omega) = 48
  ·have hc2 : c ∈ b.take j := by
    rcases List.mem_append.1 hc with h | h
    ·exact h
    ·simp only [List.mem_singleton] at h
     exact absurd (h.trans h48) hcne
   have hj : 0 < j := by
    rcases Nat.eq_zero_or_pos j with h | h
    ·subst h; simp at hc2
    ·exact h
   refine Ev.step (fun k => ?_) (by
    rw [List.take_succ_eq_append_getElem (show j < b.length by omega), h48, List.reverse_append]
    exact ih (by omega) ⟨c, hc2, hcne⟩)
   simp only [PNatO.bobbinref2_Text.l3]
   have e1 : wrap64 (((j + 1 : Nat) : Int) - 1) = (j : Int) := by rw [i64_id (by omega) (by omega)]; omega
   rw [if_pos (by omega), e1, if_pos (by omega), if_pos (by omega), hg, if_pos h48]
  ·have e2 : (b.take (j + 1)).reverse.dropWhile (· == 48) = (b.take (j + 1)).reverse := by
    rw [List.take_succ_eq_append_getElem (show j < b.length by omega), List.reverse_append]
    simp [h48]
   rw [e2]
   refine Ev.step (fun k => ?_) (rtext_j4 b hb (j + 1) hn)
   simp only [PNatO.bobbinref2_Text.l3]
   by_cases h1 : 0 < j
   ·have e1 : wrap64 (((j + 1 : Nat) : Int) - 1) = (j : Int) := by rw [i64_id (by omega) (by omega)]; omega
    rw [if_pos (by omega), e1, if_pos (by omega), if_pos (by omega), hg, if_neg h48]
   ·rw [if_neg (by omega)]
theorem rtext_l0 (v : Nat) : ∀ (ml b : List Int), Num.valN ml = v → Num.okW ml → Num.normed ml → ml.length ≤ 1000000 → b.length + 9 * (Num.pcs v).length ≤ 90000000 → (∃ c ∈ b ++ (Num.pcs v).flatMap rev9, c ≠ 48) →
  Ev (fun k => PNatO.bobbinref2_Text.l0 k ml b) (strOfNums ((b ++ (Num.pcs v).flatMap rev9).reverse.dropWhile (· == 48))) := by
 induction v using Nat.strongRecOn with
 | _ v ih =>
  intro ml b hv hok hn hlen hb hex
  by_cases hm : ml = []
  ·subst hm
   have hv0 : v = 0 := hv.symm
   subst hv0
   rw [Num.pcs_zero] at hex hb ⊢
   simp only [List.flatMap_nil, List.append_nil] at hex ⊢
   have key := rtext_l3 b (by simp at hb; omega) b.length (Nat.le_refl _) (by rw [List.take_length]; exact hex)
   rw [List.take_length] at key
   refine Ev.step (fun k => ?_) key
   simp only [PNatO.bobbinref2_Text.l0]
   rw [if_neg (by simp)]
  ·have hpos : 0 < v := by
    rcases Nat.eq_zero_or_pos v with h | h
    ·exact absurd (by rw [← hn]; exact (Num.valN_zero hok).1 (hv.trans h)) hm
    ·exact h
   have hlp : 0 < ml.length := List.length_pos_iff.2 hm
   obtain ⟨e1, e2⟩ := Num.shq_val (d := 1000000000) (by decide) hok
   have e3 : Num.valN (Num.trimW (Num.shq 1000000000 ml).1) = v / 1000000000 := by rw [Num.trimW_val, e1, hv]; rfl
   have e4 : (Num.shq 1000000000 ml).2 = ((v % 1000000000 : Nat) : Int) := by rw [e2, hv]; rfl
   have hr := Num.shq_rest (d := 1000000000) (by decide) ml
   rw [Num.pcs_pos hpos] at hex hb ⊢
   simp only [List.flatMap_cons, List.length_cons] at hex hb ⊢
   rw [← e4] at hex ⊢
   rw [← List.append_assoc] at hex ⊢
   have hr9 : (rev9 (Num.shq 1000000000 ml).2).length = 9 := by simp [rev9]
   have key := ih (v / 1000000000) (Nat.div_lt_self hpos (by decide)) (Num.trimW (Num.shq 1000000000 ml).1) (b ++ rev9 (Num.shq 1000000000 ml).2) e3 (Num.okW_trim (Num.shq_ok (by decide) hok)) (Num.normed_trim _)
    (by have := Num.trimW_length_le (Num.shq 1000000000 ml).1; rw [Num.shq_length] at this; omega) (by rw [List.length_append, hr9]; omega) hex
   have h2 := rtext_l2 (Num.trimW (Num.shq 1000000000 ml).1) b (Num.shq 1000000000 ml).2 hr.1 hr.2 _ (by omega) key 9 0 (by omega)
   have h2' := h2
   simp only [List.range_zero, List.map_nil, List.append_nil, Int.pow_zero, Int.ediv_one] at h2'
   have h1 := rtext_l1 ml b hok hlen _ h2' ml.length ml 0 (Nat.le_refl _) rfl rfl (by simp [Num.shq]) (by simp [Num.shq])
   refine Ev.step (fun k => ?_) h1
   simp only [PNatO.bobbinref2_Text.l0]
   rw [if_pos (by omega), i64_id (by omega) (by omega)]
theorem pcs_ne (v : Nat) (h : 0 < v) : ∃ z ∈ Num.pcs v, 0 < z ∧ z < 1000000000 := by
 induction v using Nat.strongRecOn with
 | _ v ih =>
  rw [Num.pcs_pos h]
  by_cases h1 : v % 1000000000 = 0
  ·obtain ⟨z, hz, h2⟩ := ih (v / 1000000000) (Nat.div_lt_self h (by decide)) (by omega)
   exact ⟨z, List.mem_cons_of_mem _ hz, h2⟩
  ·exact ⟨_, List.mem_cons_self, by omega⟩
theorem rev9_ne (z : Int) (h0 : 0 < z) (h1 : z < 1000000000) : ∃ c ∈ rev9 z, c ≠ 48 := by
 apply Classical.byContradiction
 intro hn
 have key : ∀ t, t < 9 → z / 10 ^ t % 10 = 0 := by
  intro t ht
  apply Classical.byContradiction
  intro h
  exact hn ⟨48 + z / 10 ^ t % 10, List.mem_map.2 ⟨t, List.mem_range.2 ht, rfl⟩, by omega⟩
 have k0 := key 0 (by decide); have k1 := key 1 (by decide); have k2 := key 2 (by decide); have k3 := key 3 (by decide); have k4 := key 4 (by decide)
 have k5 := key 5 (by decide); have k6 := key 6 (by decide); have k7 := key 7 (by decide); have k8 := key 8 (by decide)
 simp only [Int.pow_zero, Int.reducePow] at k0 k1 k2 k3 k4 k5 k6 k7 k8
 omega
theorem dropWhile_map (l : List Int) (h : ∀ z ∈ l, 0 ≤ z ∧ z < 256) : (l.dropWhile (· == 48)).map (fun z => UInt8.ofNat z.toNat) = (l.map (fun z => UInt8.ofNat z.toNat)).dropWhile (· == 48) := by
 induction l with
 | nil => rfl
 | cons z zs ih =>
  have hz := h z List.mem_cons_self
  have ih := ih (fun x hx => h x (List.mem_cons_of_mem _ hx))
  by_cases e : z = 48
  ·subst e
   simpa using ih
  ·have e2 : ¬ UInt8.ofNat z.toNat = 48 := by
    intro h2
    have := congrArg UInt8.toNat h2
    rw [UInt8.toNat_ofNat_of_lt' (by simp [UInt8.size]; omega)] at this
    have h3 : (48 : UInt8).toNat = 48 := rfl
    omega
   simp [e, e2]
theorem ev_rtext (l : List Int) (hok : Num.okW l) (hlen : l.length ≤ 1000000) : Ev (fun k => bobbinref2_Text.f k l) ⟨(Num.textN (Num.valN l)).toArray⟩ := by
 unfold bobbinref2_Text.f PNatO.bobbinref2_Text.f
 refine Ev.bind (ev_onorm l (by omega)) ?_
 by_cases h0 : Num.valN l = 0
 ·have e := (Num.valN_zero hok).1 h0
  rw [e, h0]
  exact Ev.now _
 ·have hne : Num.trimW l ≠ [] := fun h => h0 ((Num.valN_zero hok).2 h)
  have hpos : ¬ ((Num.trimW l).length : Int) = 0 := by
   have := List.length_pos_iff.2 hne
   omega
  refine Ev.congr (f := fun k => PNatO.bobbinref2_Text.l0 k (Num.trimW l) []) (fun k => by rw [if_neg hpos]) ?_
  have hpl : (Num.pcs (Num.valN l)).length ≤ 2 * l.length := Num.pcs_len _ _ (by rw [Nat.pow_mul]; exact Num.valN_lt hok)
  obtain ⟨z, hz, hz0, hz1⟩ := pcs_ne (Num.valN l) (by omega)
  obtain ⟨c, hc, hc48⟩ := rev9_ne z hz0 hz1
  have key := rtext_l0 (Num.valN l) (Num.trimW l) [] (Num.trimW_val l) (Num.okW_trim hok) (Num.normed_trim l) (by have := Num.trimW_length_le l; omega) (by simp; omega) ⟨c, by simpa using ⟨z, hz, hc⟩, hc48⟩
  have e : strOfNums (([] ++ (Num.pcs (Num.valN l)).flatMap rev9).reverse.dropWhile (· == 48)) = ⟨(Num.textN (Num.valN l)).toArray⟩ := by
   unfold strOfNums Num.textN
   rw [if_neg h0, List.nil_append, dropWhile_map _ (by
    intro y hy
    rw [List.mem_reverse] at hy
    obtain ⟨z, _, hy⟩ := List.mem_flatMap.1 hy
    obtain ⟨t, _, rfl⟩ := List.mem_map.1 hy
    have h1 := Int.emod_nonneg (z / 10 ^ t) (show (10 : Int) ≠ 0 by decide)
    have h2 := Int.emod_lt_of_pos (z / 10 ^ t) (show (0 : Int) < 10 by decide)
    omega), List.reverse_flatMap, List.map_flatMap]
   congr 3
  rw [← e]
  exact key
end Go.Proofs.YtdoeigngpemcgaaGreatDoor.Pure
namespace Go.Num
end Go.Num
namespace Go.Proofs.YtdoeigngpemcgaaGreatDoor.Pure
open Go.RowKit Go.Proofs.YtdoeigngpemcgaaGreatDoor.PNat Go.Proofs.YtdoeigngpemcgaaGreatDoorW.PrintWords Go.Proofs.YtdoeigngpemcgaaGreatDoorW.PrintLast Go.Proofs.YtdoeigngpemcgaaGreatDoorW.PrintMore
theorem rcmp_l0 {a b : List Int} (ha : Num.okW a) (hb : Num.okW b) (hl : a.length ≤ 1000000000) : ∀ n : Nat, n ≤ a.length → n ≤ b.length →
  Ev (fun k => bobbinref2_Compare.l0 k a b ((n : Int) - 1)) (Num.cmpN (Num.valN (a.take n)) (Num.valN (b.take n))) := by
 intro n
 induction n with
 | zero =>
  intro _ _
  refine Ev.step (f := fun _ => some 0) (fun k => ?_) ?_
  ·simp only [bobbinref2_Compare.l0]
   rw [if_neg (by omega)]
  ·rw [List.take_zero, List.take_zero]
   exact Ev.now _
 | succ n ih =>
  intro h1 h2
  obtain ⟨s1, s2, s3⟩ := cmp_step ha hb n
  have e : ((n + 1 : Nat) : Int) - 1 = (n : Int) := by omega
  rw [e]
  by_cases c0 : rd a (n : Int) = rd b (n : Int)
  ·rw [s3 c0]
   refine Ev.step (fun k => ?_) (ih (by omega) (by omega))
   simp only [bobbinref2_Compare.l0]
   rw [if_pos (by omega), if_pos (by omega), if_pos (by omega), if_pos (by omega), if_pos c0, i64_id (by omega) (by omega)]
  ·by_cases c1 : rd a (n : Int) < rd b (n : Int)
   ·rw [s1 c1]
    refine Ev.step (f := fun _ => some (-1)) (fun k => ?_) (Ev.now _)
    simp only [bobbinref2_Compare.l0]
    rw [if_pos (by omega), if_pos (by omega), if_pos (by omega), if_pos (by omega), if_neg c0, if_pos c1]
   ·rw [s2 (by omega)]
    refine Ev.step (f := fun _ => some 1) (fun k => ?_) (Ev.now _)
    simp only [bobbinref2_Compare.l0]
    rw [if_pos (by omega), if_pos (by omega), if_pos (by omega), if_pos (by omega), if_neg c0, if_neg c1]
theorem ev_rcmp (l0 l1 : List Int) (o0 : Num.okW l0) (o1 : Num.okW l1) (h0 : l0.length ≤ 1000000000) (h1 : l1.length ≤ 1000000000) : Ev (fun k => bobbinref2_Compare.f k l0 l1) (Num.cmpN (Num.valN l0) (Num.valN l1)) := by
 unfold bobbinref2_Compare.f
 refine Ev.bind (ev_rtrim l0 h0) (Ev.bind (ev_rtrim l1 h1) ?_)
 have b0 := Num.trimW_length_le l0
 rw [← Num.trimW_val l0, ← Num.trimW_val l1]
 by_cases c : (Num.trimW l0).length = (Num.trimW l1).length
 ·refine Ev.congr (fun k => by rw [if_pos (by omega), i64_id (by omega) (by omega)]) ?_
  have := rcmp_l0 (Num.okW_trim o0) (Num.okW_trim o1) (by omega) (Num.trimW l0).length (Nat.le_refl _) (by omega)
  rw [List.take_length, c, List.take_length, ← c] at this
  exact this
 ·by_cases c2 : (Num.trimW l0).length < (Num.trimW l1).length
  ·refine Ev.congr (fun k => by rw [if_neg (by omega), if_pos (by omega)]) ?_
   rw [Num.cmpN_lt (Num.lt_of_len (Num.okW_trim o0) (Num.okW_trim o1) (Num.normed_trim l1) c2)]
   exact Ev.now _
  ·refine Ev.congr (fun k => by rw [if_neg (by omega), if_neg (by omega)]) ?_
   rw [Num.cmpN_gt (Num.lt_of_len (Num.okW_trim o1) (Num.okW_trim o0) (Num.normed_trim l0) (by omega))]
   exact Ev.now _
theorem rbits_l0 (d : Nat) : ∀ (x s : Nat), Num.bitsN x = d → s + d ≤ 100000000000 → x < 4294967296 → Ev (fun k => bobbinref2_Bits.l0 k (s : Int) (x : Int)) ((s + d : Nat) : Int) := by
 induction d with
 | zero =>
  intro x s hx hs _
  have h0 : x = 0 := by
   rcases Nat.eq_zero_or_pos x with h | h
   ·exact h
   ·have := Num.bitsN_pos h; omega
  subst h0
  refine Ev.step (f := fun _ => some (s : Int)) (fun k => ?_) (Ev.now _)
  simp only [bobbinref2_Bits.l0]
  rw [if_neg (by omega)]
 | succ d ih =>
  intro x s hx hs hlt
  have h0 : 0 < x := by
   rcases Nat.eq_zero_or_pos x with h | h
   ·rw [h, Num.bitsN_zero] at hx; omega
   ·exact h
  have h1 : Num.bitsN (x / 2) = d := by
   rcases Nat.eq_zero_or_pos (x / 2) with h | h
   ·have : x = 1 := by omega
    rw [this] at hx
    have h2 : Num.bitsN 1 = 1 := Num.bitsN_eq (n := 0) (by decide) (by decide)
    rw [h2] at hx
    rw [h, Num.bitsN_zero]; omega
   ·have h3 := Num.bitsN_mul h 1 (x % 2) (by omega)
    rw [show x / 2 * 2 ^ 1 + x % 2 = x by rw [Nat.pow_one]; omega] at h3
    omega
  have h2 := ih (x / 2) (s + 1) h1 (by omega) (by omega)
  rw [show s + (d + 1) = s + 1 + d by omega]
  refine Ev.step (fun k => ?_) h2
  simp only [bobbinref2_Bits.l0]
  rw [if_pos (by omega), i64_id (by omega) (by omega)]
  rfl
theorem ev_rbits (l : List Int) (ok : Num.okW l) (hl : l.length ≤ 100000000) : Ev (fun k => bobbinref2_Bits.f k l) ((Num.bitsN (Num.valN l) : Nat) : Int) := by
 unfold bobbinref2_Bits.f
 refine Ev.bind (ev_rtrim l (by omega)) ?_
 have b0 := Num.trimW_length_le l
 have ht := Num.okW_trim ok
 rw [← Num.trimW_val l]
 have hn := Num.normed_trim l
 generalize Num.trimW l = t at b0 ht hn ⊢
 cases hm : t.length with
 | zero =>
  have : t = [] := List.length_eq_zero_iff.1 hm
  subst this
  refine Ev.congr (f := fun _ => some 0) (fun k => by rw [if_pos (by simp)]) (Ev.now _)
 | succ n =>
  have e : wrap64 (((n + 1 : Nat) : Int) - 1) = (n : Int) := by rw [i64_id (by omega) (by omega)]; omega
  have o := rd_ok ht n
  rw [Num.bitsN_words ht hn n hm]
  have e2 : (rd t (n : Int)).toNat = (t.getD n 0).toNat := rd_toNat t n
  have e4 : rd t (n : Int) = (((t.getD n 0).toNat : Nat) : Int) := by omega
  refine Ev.congr (fun k => ?_) (rbits_l0 _ (t.getD n 0).toNat (32 * n) rfl (by have h1 := Num.bitsN_mono (show (t.getD n 0).toNat ≤ 4294967295 by omega); have h2 : Num.bitsN 4294967295 = 32 := Num.bitsN_eq (by decide) (by decide); omega) (by omega))
  rw [if_neg (by omega), e, if_pos (by omega), if_pos (by omega), i64_id (x := 32 * (n : Int)) (by omega) (by omega), e4]
  rfl
theorem radd_l0 {a b : List Int} (oa : Num.okW a) (ob : Num.okW b) (ha : a.length ≤ 100000000) (hb : b.length ≤ 100000000) (d : Nat) : ∀ (i : Nat) (dn : List Int) (c : Int), i + d = max a.length b.length → dn.length = i → Num.okW dn → 0 ≤ c ∧ c ≤ 1 →
  Num.valN dn + 4294967296 ^ i * c.toNat = Num.valN (a.take i) + Num.valN (b.take i) →
  Ev (fun k => bobbinref2_Add.l0 k a b dn c (i : Int)) (Num.wordsN (Num.valN a + Num.valN b)) := by
 induction d with
 | zero =>
  intro i dn c hi hd od hc hv
  have h1 : a.length ≤ i := by omega
  have h2 : b.length ≤ i := by omega
  refine Ev.step (f := fun k => bobbinref2_Add.j1 k a b dn c (i : Int) false) (fun k => ?_) ?_
  ·simp only [bobbinref2_Add.l0]
   rw [if_neg (by omega), decide_eq_false (by omega)]
  ·refine Ev.step (f := fun k => (bobbinref2_Norm.f k (dn ++ [c])).bind fun t => some t) (fun k => ?_) ?_
   ·simp only [bobbinref2_Add.j1]
    rw [if_neg (by simp), if_pos (by omega), Int.emod_eq_of_lt (show 0 ≤ c by omega) (by omega)]
   ·refine Ev.bind (ev_rnorm _ (by simp only [List.length_append, List.length_cons, List.length_nil]; omega)) ?_
    rw [Num.trim_words (Num.okW_snoc od hc.1 (by omega)), Num.val_snoc, hd, hv, List.take_of_length_le (by omega), List.take_of_length_le (by omega)]
    exact Ev.now _
 | succ d ih =>
  intro i dn c hi hd od hc hv
  have ox := rd_ok oa i
  have oy := rd_ok ob i
  have hn := ih (i + 1) (dn ++ [(rd a (i : Int) + rd b (i : Int) + c) % 4294967296]) ((rd a (i : Int) + rd b (i : Int) + c) / 4294967296) (by omega) (by simp [hd]) (Num.okW_snoc od (by omega) (by omega)) (by omega) (by
   rw [Num.val_snoc, hd, Num.val_take_next, Num.val_take_next, ← rd_toNat, ← rd_toNat, Nat.pow_succ]
   have := carry_step (x := (rd a (i : Int)).toNat) (y := (rd b (i : Int)).toNat) hv
   rw [show ((rd a (i : Int) + rd b (i : Int) + c) % 4294967296).toNat = ((rd a (i : Int)).toNat + (rd b (i : Int)).toNat + c.toNat) % 4294967296 by omega, show ((rd a (i : Int) + rd b (i : Int) + c) / 4294967296).toNat = ((rd a (i : Int)).toNat + (rd b (i : Int)).toNat + c.toNat) / 4294967296 by omega]
   exact this)
  refine Ev.step (f := fun k => bobbinref2_Add.j1 k a b dn c (i : Int) true) (fun k => ?_) ?_
  ·simp only [bobbinref2_Add.l0]
   by_cases h1 : (i : Int) < (a.length : Int)
   ·rw [if_pos h1]
   ·rw [if_neg h1, decide_eq_true (by omega)]
  ·refine Ev.step (fun k => ?_) hn
   simp only [bobbinref2_Add.j1, if_true]
   rw [i64_id (show -9223372036854775808 ≤ (i : Int) + 1 by omega) (by omega)]
   by_cases h1 : (i : Int) < (a.length : Int)
   ·rw [if_pos h1, if_pos (by omega)]
    by_cases h2 : (i : Int) < (b.length : Int)
    ·have eT : IntKind.u64.wrap (IntKind.u64.wrap (c + IntKind.u64.wrap (rd a (i : Int))) + IntKind.u64.wrap (rd b (i : Int))) = rd a (i : Int) + rd b (i : Int) + c := by simp only [u64_mod]; omega
     rw [if_pos h2, if_pos (by omega), eT]
     rfl
    ·have h0 : rd b (i : Int) = 0 := rd_beyond (by omega)
     have eT : IntKind.u64.wrap (c + IntKind.u64.wrap (rd a (i : Int))) = rd a (i : Int) + rd b (i : Int) + c := by rw [h0]; simp only [u64_mod]; omega
     rw [if_neg h2, if_pos (by omega), eT]
     rfl
   ·have h2 : (i : Int) < (b.length : Int) := by omega
    have h0 : rd a (i : Int) = 0 := rd_beyond (by omega)
    have eT : IntKind.u64.wrap (c + IntKind.u64.wrap (rd b (i : Int))) = rd a (i : Int) + rd b (i : Int) + c := by rw [h0]; simp only [u64_mod]; omega
    rw [if_neg h1, if_pos h2, if_pos (by omega), if_pos (by omega), eT]
    rfl
theorem ev_radd (l0 l1 : List Int) (o0 : Num.okW l0) (o1 : Num.okW l1) (h0 : l0.length ≤ 100000000) (h1 : l1.length ≤ 100000000) : Ev (fun k => bobbinref2_Add.f k l0 l1) (Num.wordsN (Num.valN l0 + Num.valN l1)) := by
 unfold bobbinref2_Add.f
 exact radd_l0 o0 o1 h0 h1 (max l0.length l1.length) 0 [] 0 (by omega) rfl Num.okW_nil (by omega) (by simp [Num.valN])
theorem rsub_l0 {a b : List Int} (oa : Num.okW a) (ob : Num.okW b) (hab : b.length ≤ a.length) (hv0 : Num.valN b ≤ Num.valN a) (hl : a.length ≤ 1000000000) (d : Nat) : ∀ (i : Nat) (dn : List Int) (c : Int), i + d = a.length → dn.length = i → Num.okW dn → 0 ≤ c ∧ c ≤ 1 →
  Num.valN (a.take i) + 4294967296 ^ i * c.toNat = Num.valN dn + Num.valN (b.take i) →
  Ev (fun k => bobbinref2_Sub.l0 k a b dn c (i : Int)) (Num.wordsN (Num.valN a - Num.valN b), (0 : Int)) := by
 induction d with
 | zero =>
  intro i dn c hi hd od hc hv
  refine Ev.step (f := fun k => (bobbinref2_Norm.f k dn).bind fun t => some (t, (0 : Int))) (fun k => ?_) ?_
  ·simp only [bobbinref2_Sub.l0]
   rw [if_neg (by omega)]
  ·refine Ev.bind (ev_rnorm _ (by omega)) ?_
   rw [List.take_of_length_le (by omega), List.take_of_length_le (by omega)] at hv
   rw [Num.trim_words od, no_borrow hv (by have := Num.valN_lt od; rw [hd] at this; exact this) hv0 (by omega)]
   exact Ev.now _
 | succ d ih =>
  intro i dn c hi hd od hc hv
  have ox := rd_ok oa i
  have oy := rd_ok ob i
  obtain ⟨w1, w2⟩ := sub_word ox oy hc
  have hn := ih (i + 1) (dn ++ [(rd a (i : Int) - rd b (i : Int) - c) % 4294967296]) (if rd a (i : Int) < rd b (i : Int) + c then 1 else 0) (by omega) (by simp [hd]) (Num.okW_snoc od (by omega) (by omega)) w2 (by
   rw [Num.val_snoc, hd, Num.val_take_next, Num.val_take_next, ← rd_toNat, ← rd_toNat, Nat.pow_succ]
   exact borrow_step hv w1)
  refine Ev.step (fun k => ?_) hn
  simp only [bobbinref2_Sub.l0]
  rw [if_pos (by omega), if_pos (by omega), i64_id (show -9223372036854775808 ≤ (i : Int) + 1 by omega) (by omega)]
  by_cases hb : (i : Int) < (b.length : Int)
  ·have eT : IntKind.u64.wrap (IntKind.u64.wrap (IntKind.u64.wrap (rd a (i : Int)) - c) - IntKind.u64.wrap (rd b (i : Int))) = (rd a (i : Int) - rd b (i : Int) - c) % 18446744073709551616 := by simp only [u64_mod]; omega
   have e1 : (rd a (i : Int) - rd b (i : Int) - c) % 18446744073709551616 % 4294967296 = (rd a (i : Int) - rd b (i : Int) - c) % 4294967296 := by omega
   have e2 : (rd a (i : Int) - rd b (i : Int) - c) % 18446744073709551616 / 9223372036854775808 = if rd a (i : Int) < rd b (i : Int) + c then 1 else 0 := by split <;> omega
   rw [if_pos hb, if_pos (by omega), eT, e1, e2]
   rfl
  ·have h0 : rd b (i : Int) = 0 := rd_beyond (by omega)
   have eT : IntKind.u64.wrap (IntKind.u64.wrap (rd a (i : Int)) - c) = (rd a (i : Int) - rd b (i : Int) - c) % 18446744073709551616 := by rw [h0]; simp only [u64_mod]; omega
   have e1 : (rd a (i : Int) - rd b (i : Int) - c) % 18446744073709551616 % 4294967296 = (rd a (i : Int) - rd b (i : Int) - c) % 4294967296 := by omega
   have e2 : (rd a (i : Int) - rd b (i : Int) - c) % 18446744073709551616 / 9223372036854775808 = if rd a (i : Int) < rd b (i : Int) + c then 1 else 0 := by split <;> omega
   rw [if_neg hb, if_pos (by omega), eT, e1, e2]
   rfl
theorem ev_rsub (l0 l1 : List Int) (o0 : Num.okW l0) (o1 : Num.okW l1) (h0 : l0.length ≤ 1000000000) (h1 : l1.length ≤ 1000000000) : Ev (fun k => bobbinref2_Sub.f k l0 l1) (subW (Num.valN l0) (Num.valN l1)) := by
 unfold bobbinref2_Sub.f subW
 refine Ev.bind (ev_rcmp l0 l1 o0 o1 h0 h1) ?_
 by_cases hlt : Num.valN l0 < Num.valN l1
 ·refine Ev.congr (f := fun _ => some (([] : List Int), (1 : Int))) (fun k => by rw [if_pos (Num.cmpN_neg.2 hlt)]) ?_
  rw [if_pos hlt]
  exact Ev.now _
 ·rw [if_neg hlt]
  have b0 := Num.trimW_length_le l0
  have hle : (Num.trimW l1).length ≤ l0.length := by
   rcases Nat.lt_or_ge l0.length (Num.trimW l1).length with h | h
   ·have := Num.lt_of_len o0 (Num.okW_trim o1) (Num.normed_trim l1) h
    rw [Num.trimW_val] at this
    omega
   ·exact h
  refine Ev.congr (f := fun k => (bobbinref2_trimmed.f k l1).bind fun t426 => (bobbinref2_Sub.l0 k l0 t426 ([] : List Int) 0 0)) (fun k => by rw [if_neg (fun h => hlt (Num.cmpN_neg.1 h))]) ?_
  refine Ev.bind (ev_rtrim l1 h1) ?_
  have h := rsub_l0 o0 (Num.okW_trim o1) hle (by rw [Num.trimW_val]; omega) (by omega) l0.length 0 [] 0 (by omega) rfl Num.okW_nil (by omega) (by simp [Num.valN])
  rw [Num.trimW_val] at h
  exact h
end Go.Proofs.YtdoeigngpemcgaaGreatDoor.Pure
namespace Go.Proofs.YtdoeigngpemcgaaGreatDoor.natSums
open Go.ChangeShapes Go.WideShapes Go.ChangeAt Go.RowKit
open Go.ChangeMaps (open_string shut_string)
end Go.Proofs.YtdoeigngpemcgaaGreatDoor.natSums
namespace Go.Proofs.YtdoeigngpemcgaaGreatDoor
end Go.Proofs.YtdoeigngpemcgaaGreatDoor
namespace Go.Proofs.YtdoeigngpemcgaaGreatDoor.Dec
open Go.RowKit Go.Proofs.YtdoeigngpemcgaaGreatDoor.PNat Go.Proofs.YtdoeigngpemcgaaGreatDoor.Pure Go.Proofs.YtdoeigngpemcgaaGreatDoorW.PrintWords Go.Proofs.YtdoeigngpemcgaaGreatDoorW.PrintLast Go.Proofs.YtdoeigngpemcgaaGreatDoorW.PrintMore
theorem wordsN_len {v n : Nat} (h : v < 4294967296 ^ n) : (Num.wordsN v).length ≤ n := by
 rcases Nat.lt_or_ge n (Num.wordsN v).length with c | c
 ·obtain ⟨m, hm⟩ : ∃ m, (Num.wordsN v).length = m + 1 := ⟨(Num.wordsN v).length - 1, by omega⟩
  have h1 := Num.val_ge (Num.wordsN_ok v) (Num.wordsN_normed v) m hm
  rw [Num.wordsN_val] at h1
  have h2 : 4294967296 ^ n ≤ 4294967296 ^ m := Nat.pow_le_pow_right (by decide) (by omega)
  omega
 ·exact c
theorem wordsN_len_ge {v n : Nat} (h : 4294967296 ^ n ≤ v) : n < (Num.wordsN v).length := by
 rcases Nat.lt_or_ge n (Num.wordsN v).length with c | c
 ·exact c
 ·have h1 := Num.valN_lt (Num.wordsN_ok v)
  rw [Num.wordsN_val] at h1
  have h2 : 4294967296 ^ (Num.wordsN v).length ≤ 4294967296 ^ n := Nat.pow_le_pow_right (by decide) c
  omega
/-- A row that reads a number's words, normed. -/
def Nm (w : World) (v : Value) (n : Nat) : Prop := Kd.V (Kd.int .u32) 35 w 0 (fun _ => True) v (Num.wordsN n)
/-- A number of at most 2000 words. -/
def Fit (n : Nat) : Prop := (Num.wordsN n).length ≤ 2000
theorem fit_iff {n k : Nat} : (Num.wordsN n).length ≤ k ↔ n < 4294967296 ^ k := by
 constructor
 ·intro h
  rcases Nat.lt_or_ge n (4294967296 ^ k) with d | d
  ·exact d
  ·have := wordsN_len_ge d
   omega
 ·exact wordsN_len
theorem len_lt {n b k : Nat} (h : n < 2 ^ b) (hb : b ≤ 32 * k) : (Num.wordsN n).length ≤ k := by
 refine wordsN_len (Nat.lt_of_lt_of_le h ?_)
 rw [show (4294967296 : Nat) = 2 ^ 32 from rfl, ← Nat.pow_mul]
 exact Nat.pow_le_pow_right (by omega) hb
theorem len_le {m n k : Nat} (h : (Num.wordsN n).length ≤ k) (hm : m ≤ n) : (Num.wordsN m).length ≤ k := fit_iff.2 (Nat.lt_of_le_of_lt hm (fit_iff.1 h))
theorem fit_lt {n b : Nat} (h : n < 2 ^ b) (hb : b ≤ 64000) : Fit n := len_lt h (by omega)
theorem fit_le {m n : Nat} (h : Fit n) (hm : m ≤ n) : Fit m := len_le h hm
theorem Nm.open {w : World} {v : Value} {n : Nat} (h : Nm w v n) : ∃ A c, v = .slice A (Num.wordsN n).length c ∧ (Num.wordsN n).length ≤ c ∧ Kd.C (Kd.int .u32) w A (Num.wordsN n).length (Num.wordsN n) ∧ Kd.V (Kd.int .u32) 35 w w.heap.size (fun _ => True) (.slice A (Num.wordsN n).length c) (Num.wordsN n) := by
 obtain ⟨A, c, rfl⟩ := Kd.V_slice h
 obtain ⟨_, h2, h3⟩ := Kd.V_reads' h
 exact ⟨A, c, rfl, h2, h3, Kd.V_map h (fun _ hf => hf)⟩
theorem Nm.below {w w1 : World} {v : Value} {n : Nat} (h : Nm w v n) (hb : Below w.heap.size w w1) : Nm w1 v n := Kd.V_below h hb
theorem Nm.of_V {w : World} {b : Nat} {ok : Nat → Prop} {v : Value} {n : Nat} (h : Kd.V (Kd.int .u32) 35 w b ok v (Num.wordsN n)) : Nm w v n := Kd.V_mono (Kd.V_map h (fun _ hf => hf)) (fun _ _ => trivial)
theorem Nm.of_R {w : World} {b : Nat} {ok : Nat → Prop} {v : Value} {n : Nat} (h : Kd.R (Kd.int .u32) 35 w b ok v (Num.wordsN n)) : Nm w v n := Nm.of_V (Kd.R_V (base' := 0) h)
theorem Nm.nil (w : World) : Nm w (.slice none 0 0) 0 := by
 unfold Nm
 rw [Num.wordsN_zero]
 exact Kd.V_nil _ _ _ _ _
theorem Ev.at {α : Type} {f : Nat → Option α} {v : α} (h : Ev f v) : ∃ k, f k = some v := by
 obtain ⟨K, hK⟩ := h
 exact ⟨K, hK K (Nat.le_refl _)⟩
theorem fitV_of {n : Nat} (h : Fit n) : fitV n = (Num.wordsN n, 0) := by
 unfold fitV
 rw [if_neg (by unfold Fit at h; omega)]
theorem fitsW_of {n : Nat} (h : Fit n) : fitsW (Num.wordsN n) = (Num.wordsN n, 0) := by
 unfold fitsW
 rw [Num.wordsN_normed, if_neg (by unfold Fit at h; omega)]
section
variable {w : World} {v u : Value} {a b : Nat}
theorem n_Parse (s : ByteArray) (hd : Num.digs s.data.toList = true) (h0 : s.data.toList ≠ []) (hs : s.data.toList.length ≤ 5000) (hf : Fit (Num.decL 0 s.data.toList)) :
  Calls Tryz.prog 72 #[.string s] w fun e w' => ∃ v, e = .returned (.tuple #[v, .int .i64 0]) ∧ Nm w' v (Num.decL 0 s.data.toList) ∧ Below w.heap.size w w' := by
 have hp : parseW s.data.toList = (Num.wordsN (Num.decL 0 s.data.toList), 0) := by
  unfold parseW
  rw [hd, if_neg (by simp), if_neg h0, if_neg (by omega), fitsW_of hf]
 have he := ev_parse s (by show s.data.size ≤ _; rw [← Array.length_toList]; omega)
 rw [hp] at he
 obtain ⟨k, hk⟩ := Ev.at he
 refine (nat_Parse.calls k s _ _ w hk).mono ?_
 rintro e w' ⟨v, rfl, h1, h2⟩
 exact ⟨v, rfl, Nm.of_V h1, h2⟩
theorem n_Mul (h0 : Nm w v a) (h1 : Nm w u b) (fa : Fit a) (fb : Fit b) (hf : Fit (a * b)) :
  Calls Tryz.prog 121 #[v, u] w fun e w' => ∃ r, e = .returned (.tuple #[r, .int .i64 0]) ∧ Nm w' r (a * b) ∧ Below w.heap.size w w' := by
 obtain ⟨A, c, rfl, _, _, g0⟩ := h0.open
 obtain ⟨A1, c1, rfl, _, _, g1⟩ := h1.open
 have he := ev_mul (Num.wordsN a) (Num.wordsN b) (Num.wordsN_ok a) (Num.wordsN_ok b) (by unfold Fit at fa; omega) (by unfold Fit at fb; omega)
 unfold mulW at he
 rw [Num.wordsN_val, Num.wordsN_val, if_neg (by unfold Fit at fa fb; omega), fitV_of hf] at he
 obtain ⟨k, hk⟩ := Ev.at he
 refine (nat_Mul.calls k _ _ _ _ _ _ _ _ _ _ w g0 g1 hk).mono ?_
 rintro e w' ⟨v, rfl, h1, h2⟩
 exact ⟨v, rfl, Nm.of_V h1, h2⟩
theorem n_Shl (h0 : Nm w v a) (fa : Fit a) (m : Nat) (hm : m ≤ 64000) (hf : Fit (a * 2 ^ m)) :
  Calls Tryz.prog 117 #[v, .int .i64 (m : Int)] w fun e w' => ∃ r, e = .returned (.tuple #[r, .int .i64 0]) ∧ Nm w' r (a * 2 ^ m) ∧ Below w.heap.size w w' := by
 obtain ⟨A, c, rfl, _, _, g0⟩ := h0.open
 have he := shift_left (Num.wordsN a) (Num.wordsN_ok a) (by rw [Num.wordsN_normed]; exact fa) (by unfold Fit at fa; omega) m hm
 rw [Num.wordsN_val, fitV_of hf] at he
 obtain ⟨k, hk⟩ := Ev.at he
 refine (nat_Shift.calls k _ _ _ _ _ _ _ w g0 hk).mono ?_
 rintro e w' ⟨v, rfl, h1, h2⟩
 exact ⟨v, rfl, Nm.of_V h1, h2⟩
theorem n_Shr (h0 : Nm w v a) (fa : Fit a) (m : Nat) (hm : 0 < m) (hm2 : m ≤ 64000) :
  Calls Tryz.prog 117 #[v, .int .i64 (-(m : Int))] w fun e w' => ∃ r, e = .returned (.tuple #[r, .int .i64 0]) ∧ Nm w' r (a / 2 ^ m) ∧ Below w.heap.size w w' := by
 obtain ⟨A, c, rfl, _, _, g0⟩ := h0.open
 have he := shift_right (Num.wordsN a) (Num.wordsN_ok a) (by rw [Num.wordsN_normed]; exact fa) (by unfold Fit at fa; omega) m hm (by omega)
 rw [Num.wordsN_val] at he
 obtain ⟨k, hk⟩ := Ev.at he
 refine (nat_Shift.calls k _ _ _ _ _ _ _ w g0 hk).mono ?_
 rintro e w' ⟨v, rfl, h1, h2⟩
 exact ⟨v, rfl, Nm.of_V h1, h2⟩
theorem n_Add (h0 : Nm w v a) (h1 : Nm w u b) (fa : Fit a) (fb : Fit b) :
  Calls Tryz.prog 77 #[v, u] w fun e w' => ∃ r, e = .returned r ∧ Nm w' r (a + b) ∧ Below w.heap.size w w' := by
 obtain ⟨A, c, rfl, l0, g0, _⟩ := h0.open
 obtain ⟨A1, c1, rfl, l1, g1, _⟩ := h1.open
 have he := ev_add (Num.wordsN a) (Num.wordsN b) (Num.wordsN_ok a) (Num.wordsN_ok b) (by unfold Fit at fa; omega) (by unfold Fit at fb; omega)
 rw [Num.wordsN_val, Num.wordsN_val] at he
 obtain ⟨k, hk⟩ := Ev.at he
 refine (nat_Add.calls k _ _ _ _ _ _ _ w g0 l0 g1 l1 hk).mono ?_
 rintro e w' ⟨v, rfl, h1, h2⟩
 exact ⟨v, rfl, Nm.of_R h1, h2⟩
theorem n_Norm {A : Option Addr} {c : Nat} {l : List Int} (hr : Kd.C (Kd.int .u32) w A l.length l) (hc : l.length ≤ c) (ok : Num.okW l) (hl : l.length ≤ 100000) :
  Calls Tryz.prog 85 #[.slice A l.length c] w fun e w' => ∃ r, e = .returned r ∧ Nm w' r (Num.valN l) ∧ Below w.heap.size w w' := by
 have he := ev_norm l (by omega)
 rw [Num.trim_words ok] at he
 obtain ⟨k, hk⟩ := Ev.at he
 refine (nat_Norm.calls k _ _ _ _ w hr hc hk).mono ?_
 rintro e w' ⟨v, rfl, h1, h2⟩
 exact ⟨v, rfl, Nm.of_R h1, h2⟩
theorem n_NormN (h0 : Nm w v a) (fa : Fit a) :
  Calls Tryz.prog 85 #[v] w fun e w' => ∃ r, e = .returned r ∧ Nm w' r a ∧ Below w.heap.size w w' := by
 obtain ⟨A, c, rfl, l0, g0, _⟩ := h0.open
 refine (n_Norm g0 l0 (Num.wordsN_ok a) (by unfold Fit at fa; omega)).mono ?_
 rintro e w' ⟨r, rfl, h1, h2⟩
 rw [Num.wordsN_val] at h1
 exact ⟨r, rfl, h1, h2⟩
theorem n_Compare (h0 : Nm w v a) (h1 : Nm w u b) (fa : Fit a) (fb : Fit b) :
  Calls Tryz.prog 94 #[v, u] w fun e w' => e = .returned (.int .i64 (Num.cmpN a b)) ∧ Below w.heap.size w w' := by
 obtain ⟨A, c, rfl, l0, g0, _⟩ := h0.open
 obtain ⟨A1, c1, rfl, l1, g1, _⟩ := h1.open
 have he := ev_cmp (Num.wordsN a) (Num.wordsN b) (Num.wordsN_ok a) (Num.wordsN_ok b) (by unfold Fit at fa; omega) (by unfold Fit at fb; omega)
 rw [Num.wordsN_val, Num.wordsN_val] at he
 obtain ⟨k, hk⟩ := Ev.at he
 exact nat_Compare.calls k _ _ _ _ _ _ _ w g0 l0 g1 l1 hk
theorem n_Bits (h0 : Nm w v a) (fa : Fit a) :
  Calls Tryz.prog 38 #[v] w fun e w' => e = .returned (.int .i64 (Num.bitsN a : Nat)) ∧ Below w.heap.size w w' := by
 obtain ⟨A, c, rfl, l0, g0, _⟩ := h0.open
 have he := ev_bits (Num.wordsN a) (Num.wordsN_ok a) (by unfold Fit at fa; omega)
 rw [Num.wordsN_val] at he
 obtain ⟨k, hk⟩ := Ev.at he
 exact nat_Bits.calls k _ _ _ _ w g0 l0 hk
theorem n_Divide (h0 : Nm w v a) (h1 : Nm w u b) (fa : Fit a) (fb : Fit b) (hb : b ≠ 0) :
  Calls Tryz.prog 75 #[v, u] w fun e w' => ∃ q r, e = .returned (.tuple #[q, r, .int .i64 0]) ∧ Nm w' q (a / b) ∧ Nm w' r (a % b) ∧ Below w.heap.size w w' := by
 obtain ⟨A, c, rfl, _, _, g0⟩ := h0.open
 obtain ⟨A1, c1, rfl, _, _, g1⟩ := h1.open
 have he := ev_div (Num.wordsN a) (Num.wordsN b) (Num.wordsN_ok a) (Num.wordsN_ok b) (by unfold Fit at fa; omega) (by unfold Fit at fb; omega)
 unfold divW at he
 rw [Num.wordsN_val, Num.wordsN_val, if_neg (by unfold Fit at fa fb; omega), if_neg hb] at he
 obtain ⟨k, hk⟩ := Ev.at he
 refine (nat_Divide.calls k _ _ _ _ _ _ _ _ _ _ _ w g0 g1 hk).mono ?_
 rintro e w' ⟨q, r, rfl, h1, h2, h3⟩
 exact ⟨q, r, rfl, Nm.of_V h1, Nm.of_V h2, h3⟩
theorem n_Text (h0 : Nm w v a) (fa : Fit a) :
  Calls Tryz.prog 95 #[v] w fun e w' => e = .returned (.string ⟨(Num.textN a).toArray⟩) ∧ Below w.heap.size w w' := by
 obtain ⟨A, c, rfl, l0, g0, _⟩ := h0.open
 have he := text_f (Num.wordsN_ok a) (by unfold Fit at fa; omega)
 rw [Num.wordsN_val] at he
 exact nat_Text.calls _ _ _ _ w g0 l0 he
end
section
variable {w : World} {v u : Value} {a b : Nat}
theorem r_Add (h0 : Nm w v a) (h1 : Nm w u b) (fa : Fit a) (fb : Fit b) :
  Calls Tryz.prog 104 #[v, u] w fun e w' => ∃ r, e = .returned r ∧ Nm w' r (a + b) ∧ Below w.heap.size w w' := by
 obtain ⟨A, c, rfl, l0, g0, _⟩ := h0.open
 obtain ⟨A1, c1, rfl, l1, g1, _⟩ := h1.open
 have he := ev_radd (Num.wordsN a) (Num.wordsN b) (Num.wordsN_ok a) (Num.wordsN_ok b) (by unfold Fit at fa; omega) (by unfold Fit at fb; omega)
 rw [Num.wordsN_val, Num.wordsN_val] at he
 obtain ⟨k, hk⟩ := Ev.at he
 refine (bobbinref2_Add.calls k _ _ _ _ _ _ _ w g0 l0 g1 l1 hk).mono ?_
 rintro e w' ⟨v, rfl, h1, h2⟩
 exact ⟨v, rfl, Nm.of_R h1, h2⟩
theorem r_Bits (h0 : Nm w v a) (fa : Fit a) :
  Calls Tryz.prog 44 #[v] w fun e w' => e = .returned (.int .i64 (Num.bitsN a : Nat)) ∧ Below w.heap.size w w' := by
 obtain ⟨A, c, rfl, l0, g0, _⟩ := h0.open
 have he := ev_rbits (Num.wordsN a) (Num.wordsN_ok a) (by unfold Fit at fa; omega)
 rw [Num.wordsN_val] at he
 obtain ⟨k, hk⟩ := Ev.at he
 exact bobbinref2_Bits.calls k _ _ _ _ w g0 l0 hk
theorem r_Text (h0 : Nm w v a) (fa : Fit a) :
  Calls Tryz.prog 47 #[v] w fun e w' => e = .returned (.string ⟨(Num.textN a).toArray⟩) ∧ Below w.heap.size w w' := by
 obtain ⟨A, c, rfl, l0, g0, _⟩ := h0.open
 have he := ev_rtext (Num.wordsN a) (Num.wordsN_ok a) (by unfold Fit at fa; omega)
 rw [Num.wordsN_val] at he
 obtain ⟨k, hk⟩ := Ev.at he
 exact bobbinref2_Text.calls k _ _ _ _ w g0 l0 hk
theorem r_Norm {A : Option Addr} {c : Nat} {l : List Int} (hr : Kd.C (Kd.int .u32) w A l.length l) (hc : l.length ≤ c) (ok : Num.okW l) (hl : l.length ≤ 100000) :
  Calls Tryz.prog 99 #[.slice A l.length c] w fun e w' => ∃ r, e = .returned r ∧ Nm w' r (Num.valN l) ∧ Below w.heap.size w w' := by
 have he := ev_rnorm l (by omega)
 rw [Num.trim_words ok] at he
 obtain ⟨k, hk⟩ := Ev.at he
 refine (bobbinref2_Norm.calls k _ _ _ _ w hr hc hk).mono ?_
 rintro e w' ⟨v, rfl, h1, h2⟩
 exact ⟨v, rfl, Nm.of_R h1, h2⟩
theorem Ev.same {α : Type} {f : Nat → Option α} {x y : α} (h : Ev f x) (k : Ev f y) : x = y := by
 obtain ⟨K, hK⟩ := h
 obtain ⟨M, hM⟩ := k
 have h1 := hK (max K M) (Nat.le_max_left _ _)
 rw [hM (max K M) (Nat.le_max_right _ _)] at h1
 exact (Option.some.inj h1).symm
end
end Go.Proofs.YtdoeigngpemcgaaGreatDoor.Dec
namespace Go.Div
open Go.Proofs.YtdoeigngpemcgaaGreatDoor
/-- what stands from a place on -/
def hi (l : List Int) (j : Nat) : Nat := Num.valN (l.drop j)
theorem hi_zero (l : List Int) : hi l 0 = Num.valN l := rfl
theorem hi_end (l : List Int) : hi l l.length = 0 := by
 unfold hi
 rw [List.drop_length]
 rfl
theorem hi_step {l : List Int} {i : Nat} (h : i < l.length) : hi l i = (l[i]).toNat + 4294967296 * hi l (i + 1) := by
 unfold hi
 rw [List.drop_eq_getElem_cons h]
 rfl
theorem hi_set {l : List Int} {i : Nat} (h : i < l.length) (y : Int) : hi (l.set i y) i = y.toNat + 4294967296 * hi l (i + 1) := by
 rw [hi_step (by rw [List.length_set]; exact h)]
 congr 1
 ·rw [List.getElem_set_self]
 ·unfold hi
  rw [List.drop_set_of_lt (by omega)]
theorem step_div {h w d : Nat} (hd : 0 < d) : (w + 4294967296 * h) / d = (h % d * 4294967296 + w) / d + 4294967296 * (h / d) ∧ (w + 4294967296 * h) % d = (h % d * 4294967296 + w) % d := by
 have e : w + 4294967296 * h = (h % d * 4294967296 + w) + d * (4294967296 * (h / d)) := by
  have := Nat.div_add_mod h d
  generalize h / d = q at *
  generalize h % d = r at *
  subst this
  rw [Nat.mul_add, Nat.mul_left_comm d]
  omega
 rw [e]
 exact ⟨Nat.add_mul_div_left _ _ hd, Nat.add_mul_mod_self_left _ _ _⟩
theorem step_lt {r w d : Nat} (hr : r < d) (hw : w < 4294967296) : (r * 4294967296 + w) / d < 4294967296 := by
 rw [Nat.div_lt_iff_lt_mul (by omega)]
 have : (r + 1) * 4294967296 ≤ d * 4294967296 := Nat.mul_le_mul_right _ hr
 rw [Nat.mul_comm 4294967296]
 omega
theorem valN_cons (x : Int) (t : List Int) : Num.valN (x :: t) = x.toNat + 4294967296 * Num.valN t := rfl
theorem valN_set {l : List Int} {i : Nat} (h : i < l.length) (y : Int) : Num.valN (l.set i y) + (l[i]).toNat * 4294967296 ^ i = Num.valN l + y.toNat * 4294967296 ^ i := by
 induction l generalizing i with
 | nil => exact absurd h (by simp)
 | cons x t ih =>
  cases i with
  | zero =>
   show Num.valN (y :: t) + x.toNat * 4294967296 ^ 0 = Num.valN (x :: t) + y.toNat * 4294967296 ^ 0
   rw [valN_cons, valN_cons, Nat.pow_zero]
   omega
  | succ i =>
   have hi : i < t.length := by simpa using h
   have := ih hi
   show Num.valN (x :: t.set i y) + (t[i]).toNat * 4294967296 ^ (i + 1) = Num.valN (x :: t) + y.toNat * 4294967296 ^ (i + 1)
   rw [valN_cons, valN_cons, Nat.pow_succ]
   generalize 4294967296 ^ i = p at *
   generalize Num.valN (t.set i y) = u at *
   generalize Num.valN t = v at *
   generalize (t[i]).toNat = a at *
   generalize y.toNat = b at *
   rw [← Nat.mul_assoc, ← Nat.mul_assoc, Nat.mul_comm (a * p), Nat.mul_comm (b * p)]
   omega
theorem valN_zeros (n : Nat) : Num.valN (List.replicate n 0) = 0 := by
 induction n with
 | zero => rfl
 | succ n ih => rw [List.replicate_succ, valN_cons, ih]; rfl
theorem valN_take {l : List Int} {i : Nat} (h : i < l.length) : Num.valN (l.take (i + 1)) = Num.valN (l.take i) + (l[i]).toNat * 4294967296 ^ i := by
 induction l generalizing i with
 | nil => exact absurd h (by simp)
 | cons x t ih =>
  cases i with
  | zero =>
   rw [List.take_succ_cons, List.take_zero, List.take_zero, valN_cons, Nat.pow_zero]
   show x.toNat + 4294967296 * 0 = 0 + x.toNat * 1
   omega
  | succ i =>
   have hi : i < t.length := by simpa using h
   have := ih hi
   rw [List.take_succ_cons, List.take_succ_cons, valN_cons, valN_cons, this]
   show _ = _ + (t[i]).toNat * 4294967296 ^ (i + 1)
   rw [Nat.pow_succ]
   generalize 4294967296 ^ i = p at *
   generalize (t[i]).toNat = a at *
   rw [← Nat.mul_assoc, Nat.mul_comm (a * p)]
   omega
theorem okW_set {l : List Int} (ok : Num.okW l) (i : Nat) {y : Int} (h : 0 ≤ y ∧ y < 4294967296) : Num.okW (l.set i y) := by
 intro x hx
 rcases List.mem_or_eq_of_mem_set hx with hx | rfl
 ·exact ok x hx
 ·exact h
theorem okW_zeros (n : Nat) : Num.okW (List.replicate n 0) := by
 intro x hx
 rw [List.eq_of_mem_replicate hx]
 decide
theorem get_nat {l : List Int} (ok : Num.okW l) {i : Nat} (h : i < l.length) : ((l[i]).toNat : Int) = l[i] ∧ (l[i]).toNat < 4294967296 := by
 have := ok _ (List.getElem_mem h)
 omega
end Go.Div
namespace Go.Proofs.YtdoeigngpemcgaaGreatDoor.Dec
open Go.RowKit Go.Div Go.Proofs.YtdoeigngpemcgaaGreatDoor.PNat Go.Proofs.YtdoeigngpemcgaaGreatDoor.Pure Go.Proofs.YtdoeigngpemcgaaGreatDoorW.PrintWords Go.Proofs.YtdoeigngpemcgaaGreatDoorW.PrintLast Go.Proofs.YtdoeigngpemcgaaGreatDoorW.PrintMore
theorem r_NormV {w : World} {v : Value} {l : List Int} (h : Kd.V (Kd.int .u32) 35 w 0 (fun _ => True) v l) (ok : Num.okW l) (hl : l.length ≤ 100000) :
  Calls Tryz.prog 99 #[v] w fun e w' => ∃ r, e = .returned r ∧ Nm w' r (Num.valN l) ∧ Below w.heap.size w w' := by
 obtain ⟨A, c, rfl⟩ := Kd.V_slice h
 obtain ⟨_, h2, h3⟩ := Kd.V_reads' h
 exact r_Norm h3 h2 ok hl
theorem V_of {w : World} {base : Nat} {v : Value} {l : List Int} (h : Kd.R (Kd.int .u32) 35 w base (fun _ => True) v l) : Kd.V (Kd.int .u32) 35 w 0 (fun _ => True) v l :=
 Kd.V_mono (Kd.V_map (Kd.R_V (base' := 0) h) (fun _ hf => hf)) (fun _ _ => trivial)
theorem last_word {v n : Nat} (h : (Num.wordsN v).length = n + 1) : ((Num.wordsN v)[n]'(by omega)) ≠ 0 := by
 intro e
 have h1 := Num.val_ge (Num.wordsN_ok v) (Num.wordsN_normed v) n h
 have h2 := valN_take (l := Num.wordsN v) (i := n) (by omega)
 rw [e, List.take_of_length_le (by omega)] at h2
 have h3 := Num.valN_lt (l := (Num.wordsN v).take n) (fun x hx => Num.wordsN_ok v x (List.mem_of_mem_take hx))
 rw [List.length_take, Nat.min_eq_left (by omega)] at h3
 have : (0 : Int).toNat * 4294967296 ^ n = 0 := by rw [Int.toNat_zero, Nat.zero_mul]
 omega
set_option maxRecDepth 100000 in
theorem r_trimmed {w : World} {v : Value} {a : Nat} (h : Nm w v a) : Calls Tryz.prog 101 #[v] w fun e w' => e = .returned v ∧ w' = w := by
 obtain ⟨A, c, rfl, hc, hC, _⟩ := h.open
 have hmx := Kd.C_max hC
 obtain ⟨n, hn⟩ : ∃ n, (Num.wordsN a).length = n := ⟨_, rfl⟩
 rw [hn] at hC hc hmx ⊢
 cases n with
 | zero =>
  clear hn hC h
  go_enter Tryz.func101, Tryz.ntmps101
  go_wp2
  go_loopg [3] 1 (fun kq v3 wr => v3 = .int .i64 0 ∧ wr = w)
  case atStart => exact ⟨rfl, rfl⟩
  case round =>
   obtain ⟨rfl, rfl⟩ := hrel
   go_wp2
   go_ret
   exact ⟨rfl, rfl⟩
 | succ n =>
  have hl := last_word hn
  obtain ⟨ad, hA, hz⟩ := Kd.at_int hC (n : Int) (by omega) (by omega)
  subst hA
  rw [Int.toNat_natCast] at hz
  have hrd : rd (Num.wordsN a) (n : Int) = (Num.wordsN a)[n]'(by omega) := by
   unfold rd
   rw [Int.toNat_natCast, List.getD_eq_getElem?_getD, List.getElem?_eq_getElem (by omega)]
   rfl
  rw [hrd] at hz
  obtain ⟨x, hx⟩ : ∃ x, (Num.wordsN a)[n]'(by omega) = x := ⟨_, rfl⟩
  rw [hx] at hz hl
  obtain ⟨N, hN⟩ : ∃ N : Nat, n + 1 = N := ⟨_, rfl⟩
  rw [hN] at hc hmx ⊢
  have c1 : (0 : Int) < (N : Int) := by omega
  have c2 : wrap64 ((N : Int) - 1) = (n : Int) := by rw [i64_id (by omega) (by omega)]; omega
  have c3 : IntKind.i64.wrap ((N : Int) - 1) = (n : Int) := (i64_w _).trans c2
  have c4 : (0 : Int) ≤ (n : Int) := by omega
  have c5 : (n : Int) < (N : Int) := by omega
  have c6 : (x == 0) = false := by rw [beq_eq_false_iff_ne]; exact hl
  have c7 : (0 : Int) ≤ (N : Int) := by omega
  have c8 : (N : Int) ≤ (c : Int) := by omega
  have c9 := decide_eq_true c1
  clear hn hC h hrd hx hN
  go_enter Tryz.func101, Tryz.ntmps101
  go_wp2
  go_loopg [3] 1 (fun kq v3 wr => v3 = .int .i64 (N : Int) ∧ wr = w)
  case atStart => exact ⟨rfl, rfl⟩
  case round =>
   obtain ⟨rfl, rfl⟩ := hrel
   go_wp2
   go_ret
   exact ⟨rfl, rfl⟩
set_option maxRecDepth 100000 in
theorem r_large {w : World} {v : Value} {a : Nat} (h : Nm w v a) (fa : Fit a) : Calls Tryz.prog 100 #[v] w fun e w' => e = .returned (.bool false) ∧ w' = w := by
 have HT := Aside0.mk (r_trimmed h)
 obtain ⟨A, c, rfl, _, _, _⟩ := h.open
 obtain ⟨n, hn⟩ : ∃ n, (Num.wordsN a).length = n := ⟨_, rfl⟩
 have hf : (Num.wordsN a).length ≤ 2000 := fa
 rw [hn] at hf HT
 rw [hn]
 have c1 := decide_eq_false (show ¬ (2000 : Int) < (n : Int) by omega)
 clear hn hf h fa
 go_enter Tryz.func100, Tryz.ntmps100
 go_wp2_with (go_at_call 101; (with_reducible refine HT.out.mono ?_); rintro e w' ⟨rfl, rfl⟩)
 go_ret
 exact ⟨rfl, rfl⟩
theorem wrp {x y : Int} (h : x = y ∧ -9223372036854775808 ≤ y ∧ y ≤ 9223372036854775807) : Aside0 (wrap64 x = y ∧ IntKind.i64.wrap x = y) :=
 have e : wrap64 x = y := by rw [h.1]; exact i64_id h.2.1 h.2.2
 ⟨e, (i64_w _).trans e⟩
end Go.Proofs.YtdoeigngpemcgaaGreatDoor.Dec
namespace Go.Div
open Go.Proofs.YtdoeigngpemcgaaGreatDoor
/-- a row that holds the product with the first i words -/
def MulA (la lb : List Int) (i : Nat) (o : List Int) : Prop :=
 o.length = la.length + lb.length ∧ Num.okW o ∧ Num.valN o = Num.valN (la.take i) * Num.valN lb ∧ ∀ j (h : j < o.length), i + lb.length ≤ j → o[j] = 0
/-- the same, and the word p times the first k words, with a carry -/
def MulB (la lb : List Int) (p i k c : Nat) (o : List Int) : Prop :=
 o.length = la.length + lb.length ∧ Num.okW o ∧ c < 4294967296 ∧ Num.valN o + c * 4294967296 ^ (i + k) = Num.valN (la.take i) * Num.valN lb + p * 4294967296 ^ i * Num.valN (lb.take k) ∧ ∀ j (h : j < o.length), i + lb.length ≤ j → o[j] = 0
theorem mul_start (la lb : List Int) : MulA la lb 0 (List.replicate (la.length + lb.length) 0) := by
 refine ⟨List.length_replicate, okW_zeros _, ?_, fun j h _ => List.getElem_replicate _⟩
 rw [valN_zeros, List.take_zero]
 show 0 = 0 * _
 rw [Nat.zero_mul]
theorem mul_end {la lb o : List Int} (h : MulA la lb la.length o) : Num.valN o = Num.valN la * Num.valN lb := by
 rw [h.2.2.1, List.take_length]
theorem mul_in {la lb o : List Int} {i : Nat} (p : Nat) (h : MulA la lb i o) : MulB la lb p i 0 0 o := by
 refine ⟨h.1, h.2.1, by decide, ?_, h.2.2.2⟩
 rw [List.take_zero, h.2.2.1]
 show _ + 0 * _ = _ + _ * 0
 rw [Nat.zero_mul, Nat.mul_zero]
theorem mul_step {la lb o : List Int} {p i k c b z x : Nat} (hi : i < la.length) (hk : k < lb.length) (okb : Num.okW lb) (hp : p < 4294967296) (h : MulB la lb p i k c o) (hb : (lb[k]).toNat = b) (hz : ∀ h : i + k < o.length, (o[i + k]).toNat = z) (hx : c + p * b + z = x) :
  x < 18446744073709551616 ∧ MulB la lb p i (k + 1) (x / 4294967296) (o.set (i + k) ((x % 4294967296 : Nat) : Int)) := by
 obtain ⟨h1, h2, h3, h4, h5⟩ := h
 have i1 : i + k < o.length := by omega
 have hz' := hz i1
 have hzb : z < 4294967296 := by rw [← hz']; exact (get_nat h2 i1).2
 have hbb : b < 4294967296 := by rw [← hb]; exact (get_nat okb hk).2
 have hpb : p * b ≤ 4294967295 * 4294967295 := Nat.mul_le_mul (by omega) (by omega)
 have hxb : x < 18446744073709551616 := by omega
 refine ⟨hxb, by rw [List.length_set]; exact h1, okW_set h2 _ (by omega), by omega, ?_, fun j hj hlt => ?_⟩
 ·have e1 := valN_set i1 ((x % 4294967296 : Nat) : Int)
  rw [hz', Int.toNat_natCast] at e1
  rw [valN_take hk, hb, Nat.mul_add, ← Nat.add_assoc (Num.valN (la.take i) * Num.valN lb), ← h4, show i + (k + 1) = i + k + 1 by omega, Nat.pow_succ]
  have e3 : p * 4294967296 ^ i * (b * 4294967296 ^ k) = p * b * 4294967296 ^ (i + k) := by
   rw [Nat.pow_add]
   generalize 4294967296 ^ k = s
   generalize 4294967296 ^ i = t
   rw [Nat.mul_assoc, Nat.mul_assoc, Nat.mul_left_comm t b s]
  rw [e3]
  generalize 4294967296 ^ (i + k) = P at *
  have e4 : x * P = (x % 4294967296) * P + x / 4294967296 * (P * 4294967296) := by
   conv => lhs; rw [← Nat.mod_add_div x 4294967296, Nat.add_mul]
   congr 1
   rw [Nat.mul_comm 4294967296, Nat.mul_assoc, Nat.mul_comm 4294967296]
  have e5 : x * P = c * P + p * b * P + z * P := by rw [← hx, Nat.add_mul, Nat.add_mul]
  omega
 ·rw [List.length_set] at hj
  rw [List.getElem_set_ne (by omega)]
  exact h5 j hj hlt
theorem mul_out {la lb o : List Int} {p i c : Nat} (hi : i < la.length) (hp : (la[i]).toNat = p) (h : MulB la lb p i lb.length c o) : MulA la lb (i + 1) (o.set (i + lb.length) (c : Int)) := by
 obtain ⟨h1, h2, h3, h4, h5⟩ := h
 have i1 : i + lb.length < o.length := by omega
 refine ⟨by rw [List.length_set]; exact h1, okW_set h2 _ (by omega), ?_, fun j hj hlt => ?_⟩
 ·have e1 := valN_set i1 (c : Int)
  rw [h5 _ i1 (Nat.le_refl _), Int.toNat_zero, Nat.zero_mul, Nat.add_zero, Int.toNat_natCast] at e1
  rw [e1, h4, valN_take hi, hp, List.take_length, Nat.add_mul]
 ·rw [List.length_set] at hj
  rw [List.getElem_set_ne (by omega)]
  exact h5 j hj (by omega)
end Go.Div
namespace Go.Proofs.YtdoeigngpemcgaaGreatDoor.Dec
open Go.RowKit Go.Div Go.Proofs.YtdoeigngpemcgaaGreatDoor.PNat Go.Proofs.YtdoeigngpemcgaaGreatDoor.Pure Go.Proofs.YtdoeigngpemcgaaGreatDoorW.PrintWords Go.Proofs.YtdoeigngpemcgaaGreatDoorW.PrintLast Go.Proofs.YtdoeigngpemcgaaGreatDoorW.PrintMore
set_option maxRecDepth 100000 in
theorem r_Mul {w : World} {v u : Value} {a b : Nat} (h0 : Nm w v a) (h1 : Nm w u b) (fa : Fit a) (fb : Fit b) (hf : Fit (a * b)) :
  Calls Tryz.prog 80 #[v, u] w fun e w' => ∃ r, e = .returned (.tuple #[r, .int .i64 0]) ∧ Nm w' r (a * b) ∧ Below w.heap.size w w' := by
 have L0 := Aside0.mk (r_large h0 fa)
 have L1 := Aside0.mk (r_large h1 fb)
 have T0 := Aside0.mk (r_trimmed h0)
 have T1 := Aside0.mk (r_trimmed h1)
 obtain ⟨A, c, rfl, hlc, hC, _⟩ := h0.open
 obtain ⟨A1, cb, rfl, hlc1, hC1, _⟩ := h1.open
 obtain ⟨la, hla⟩ : ∃ l, Num.wordsN a = l := ⟨_, rfl⟩
 obtain ⟨lb, hlb⟩ : ∃ l, Num.wordsN b = l := ⟨_, rfl⟩
 have hok := Num.wordsN_ok a
 have hok1 := Num.wordsN_ok b
 have hval := Num.wordsN_val a
 have hval1 := Num.wordsN_val b
 have hlen : (Num.wordsN a).length ≤ 2000 := fa
 have hlen1 : (Num.wordsN b).length ≤ 2000 := fb
 rw [hla] at hC hlc hok hval hlen L0 T0
 rw [hlb] at hC1 hlc1 hok1 hval1 hlen1 L1 T1
 rw [hla, hlb]
 obtain ⟨n, hn⟩ : ∃ n, la.length = n := ⟨_, rfl⟩
 obtain ⟨m, hm⟩ : ∃ n, lb.length = n := ⟨_, rfl⟩
 rw [hn] at hC hlc hlen L0 T0
 rw [hm] at hC1 hlc1 hlen1 L1 T1
 rw [hn, hm]
 have HC := Aside0.mk hC
 have HC1 := Aside0.mk hC1
 have HOK := Aside0.mk hok
 have HOK1 := Aside0.mk hok1
 have HN := Aside0.mk (show (la.length = n ∧ n ≤ 2000) ∧ lb.length = m ∧ m ≤ 2000 from ⟨⟨hn, hlen⟩, hm, hlen1⟩)
 have HV := Aside0.mk (show Num.valN la = a ∧ Num.valN lb = b from ⟨hval, hval1⟩)
 have HF := Aside0.mk hf
 have HB := Aside0.mk (Below.refl w.heap.size w)
 obtain ⟨N, hN⟩ : ∃ z, n + m = z := ⟨_, rfl⟩
 have Z1 := wrp (x := (n : Int) + (m : Int)) (y := (N : Int)) (by omega)
 have HNN := Aside0.mk hN
 have o1 : (0 : Int) ≤ (N : Int) := by omega
 have o2 : ((N : Int)).toNat ≤ 70368744177664 := by omega
 have p1 := decide_eq_true o1
 have p2 := decide_eq_true o2
 have HS0 := mul_start la lb
 rw [hn, hm, hN] at HS0
 have HSS := Aside0.mk HS0
 clear h0 h1 fa fb hla hlb hok hok1 hval hval1 hlen hlen1 hn hm hlc hlc1 hC hC1 hf hN HS0
 obtain ⟨z3, z4⟩ := Z1.out
 clear Z1
 go_enter Tryz.func80, Tryz.ntmps80
 go_wp2_with (first
  | (go_at_call 100; (with_reducible refine L0.out.mono ?_); rintro e w' ⟨rfl, hw⟩; obtain rfl := hw.symm)
  | (go_at_call 100; (with_reducible refine L1.out.mono ?_); rintro e w' ⟨rfl, hw⟩; obtain rfl := hw.symm)
  | (go_at_call 101; (with_reducible refine T0.out.mono ?_); rintro e w' ⟨rfl, hw⟩; obtain rfl := hw.symm)
  | (go_at_call 101; (with_reducible refine T1.out.mono ?_); rintro e w' ⟨rfl, hw⟩; obtain rfl := hw.symm)
  | ((with_reducible refine gate_dst (N := 25) rfl ?_); refine Kd.R_make (Kd.int .u32) _ 35 rfl (N := 25) rfl 58 _ _ rfl (N : Int) rfl rfl Tryz.underlying58 (.int .u32 0) 4 info35 rfl (by decide) (by omega) 0 (ok := fun _ => True) (okp := fun _ => True) rfl (fun _ hk => hk) trivial o1 (Nat.le_trans (Nat.mul_le_mul_right _ o2) (by omega)) (Below.refl _ _) (Nat.le_refl _) ?_; intro vq wq ho hb hg_ hnew_; clear hg_ hnew_; have HO := Aside0.mk (Kd.R_lower ho (below_size HB.out)); have n1_ := Aside0.mk (below_step HB.out hb); clear HB; have HB := n1_; clear n1_; clear hb ho))
 rw [Int.toNat_natCast] at HO
 go_loopg [7] n (fun kq v7 wr => ∃ (i : Nat) (x : List Int), v7 = .int .i64 (i : Int) ∧ Aside0 (i + kq = n) ∧ Aside0 (MulA la lb i x) ∧ Aside0 (Kd.R (Kd.int .u32) 35 wr w.heap.size (fun _ => True) vq x) ∧ Aside0 (Below w.heap.size w wr))
 case atStart => exact ⟨0, List.replicate N 0, rfl, ⟨Nat.zero_add n⟩, HSS, HO, HB⟩
 case round =>
  clear HO HB HSS
  obtain ⟨i, x, rfl, HK, HS, HO, HB⟩ := hrel
  cases gk with
  | zero =>
   have hk : i = n := HK.out
   subst hk
   have hvx : Num.valN x = a * b := by
    have h := HS.out
    rw [← HN.out.1.1] at h
    rw [mul_end h, HV.out.1, HV.out.2]
   have HN1 := Aside0.mk (fun (wq : World) (hx : Kd.R (Kd.int .u32) 35 wq w.heap.size (fun _ => True) vq x) => r_NormV (V_of hx) HS.out.2.1 (by have := HS.out.1; have := HN.out; omega))
   rw [hvx] at HN1
   have x5 := decide_eq_false (show ¬ (i : Int) < (i : Int) by omega)
   obtain ⟨L, hL⟩ : ∃ z, (Num.wordsN (a * b)).length = z := ⟨_, rfl⟩
   have hL2 := HF.out
   unfold Fit at hL2
   have HL := Aside0.mk hL
   rw [hL] at hL2
   have x6 := decide_eq_false (show ¬ (2000 : Int) < (L : Int) by omega)
   clear hvx hL hL2
   go_wp2_with (go_at_call 99; (with_reducible refine (HN1.out _ HO.out).mono ?_); rintro e w' ⟨q1, rfl, hr, hb⟩; obtain ⟨Aq, cq, haq, -, -, -⟩ := hr.open; rw [HL.out] at haq; subst haq; have hq1 := Aside0.mk hr; replace HB := bt_ HB hb; clear hb hr)
   go_ret2
   exact ⟨_, rfl, hq1.out, HB.out⟩
  | succ j =>
   have hin : i < n := by have := HK.out; omega
   have hil : i < la.length := by have := HN.out.1.1; omega
   have hnl := HN.out
   obtain ⟨g7, g8⟩ := get_nat HOK.out hil
   obtain ⟨wi, hwi⟩ : ∃ z : Nat, (la[i]).toNat = z := ⟨_, rfl⟩
   rw [hwi] at g7 g8
   obtain ⟨ad, hA, hz0⟩ := Kd.at_int HC.out (i : Int) (by omega) (by omega)
   subst hA
   have hrd : rd la (i : Int) = (wi : Int) := by
    unfold rd
    rw [Int.toNat_natCast, List.getD_eq_getElem?_getD, List.getElem?_eq_getElem hil]
    exact g7.symm
   rw [hrd, Int.toNat_natCast] at hz0
   have HZ0 := Aside0.mk hz0
   have c1 : (0 : Int) ≤ (i : Int) := by omega
   have c2 : (i : Int) < (n : Int) := by omega
   have HI := Aside0.mk (show i < n ∧ i + 1 + j = n ∧ wi < 4294967296 by have := HK.out; omega)
   have HWI := Aside0.mk (show ∀ h : i < la.length, (la[i]).toNat = wi from fun _ => hwi)
   have HM0 := Aside0.mk (mul_in wi HS.out)
   have c3 := decide_eq_true c2
   clear hin hil hnl g7 g8 hwi hz0 hrd HK HS
   go_wp2
   go_loopg [8, 9] m (fun kq v8 v9 w2 => ∃ (k c : Nat) (y : List Int), v8 = .int .u64 (c : Int) ∧ v9 = .int .i64 (k : Int) ∧ Aside0 (k + kq = m) ∧ Aside0 (MulB la lb wi i k c y) ∧ Aside0 (Kd.R (Kd.int .u32) 35 w2 w.heap.size (fun _ => True) vq y) ∧ Aside0 (Below w.heap.size w w2))
   case atStart => exact ⟨0, 0, x, rfl, rfl, ⟨Nat.zero_add m⟩, HM0, HO, HB⟩
   case round =>
    clear HO HB HM0 c3
    obtain ⟨k, cr, y, rfl, rfl, HK, HS, HO, HB⟩ := hrel
    cases gk with
    | zero =>
     have hk : k = m := HK.out
     subst hk
     have hnl := HN.out
     have hii := HI.out
     have hlb := HN.out.2.1
     have hss := HS.out
     rw [← hlb] at hss
     have hst := mul_out (la := la) (lb := lb) (i := i) (by omega) (HWI.out (by omega)) hss
     rw [hlb] at hst
     obtain ⟨go, co, rfl, gb, gl, cl, HG⟩ := Kd.R_form HO.out (by have := HS.out.1; omega)
     obtain ⟨K, hK⟩ : ∃ z, i + k = z := ⟨_, rfl⟩
     rw [hK] at hst
     have hyl := HS.out.1
     obtain ⟨hx, hf⟩ := Kd.R_celln 0 HO.out (K : Int) (by omega) (by omega)
     rw [Int.toNat_natCast] at hx hf
     have W1 := wrp (x := (i : Int) + (k : Int)) (y := (K : Int)) (by omega)
     have W3 := wrp (x := (i : Int) + 1) (y := ((i + 1 : Nat) : Int)) (by omega)
     have x5 := decide_eq_false (show ¬ (k : Int) < (k : Int) by omega)
     have c3 : (0 : Int) ≤ (K : Int) := by omega
     have c4 : (K : Int) < (y.length : Int) := by omega
     have hcr := HS.out.2.2.1
     obtain ⟨cv, hcv⟩ : ∃ y : Int, (cr : Int) = y := ⟨_, rfl⟩
     rw [hcv] at hst
     have e1 : IntKind.u32.wrap cv = cv := by rw [IntKind.wrap_u32]; omega
     have e2 : cv % 4294967296 = cv := by omega
     have HP := Aside0.mk (Kd.R_putg HO.out (K : Int) cv)
     rw [Int.toNat_natCast] at HP
     have GB := Aside0.mk gb
     have HST := Aside0.mk hst
     rw [hcv]
     clear hnl hii hlb hss hst gb gl cl HG hK hyl hcr hcv HS HK
     obtain ⟨w1, w2⟩ := W1.out
     obtain ⟨w5, w6⟩ := W3.out
     clear W1 W3
     go_wp2
     go_roundg j
     case measure => omega
     case rel => exact ⟨i + 1, y.set K cv, by first | rfl | rw [w5] | rw [w6], ⟨HI.out.2.1⟩, HST, ⟨HP.out.1⟩, ⟨below_set HB.out GB.out⟩⟩
    | succ g =>
     have hkk := HK.out
     have hnl := HN.out
     have hii := HI.out
     have hkl : k < lb.length := by omega
     obtain ⟨g7, g8⟩ := get_nat HOK1.out hkl
     obtain ⟨bi, hbi⟩ : ∃ z : Nat, (lb[k]).toNat = z := ⟨_, rfl⟩
     rw [hbi] at g7 g8
     obtain ⟨ad1, hA1, hz1⟩ := Kd.at_int HC1.out (k : Int) (by omega) (by omega)
     subst hA1
     have hrd : rd lb (k : Int) = (bi : Int) := by
      unfold rd
      rw [Int.toNat_natCast, List.getD_eq_getElem?_getD, List.getElem?_eq_getElem hkl]
      exact g7.symm
     rw [hrd, Int.toNat_natCast] at hz1
     have hz := pw_cell_below HB.out HZ0.out
     have hy := pw_cell_below HB.out hz1
     have hyl := HS.out.1
     have i1 : i + k < y.length := by omega
     obtain ⟨z, hzz⟩ : ∃ z : Nat, (y[i + k]).toNat = z := ⟨_, rfl⟩
     obtain ⟨g1, g2⟩ := get_nat HS.out.2.1 i1
     rw [hzz] at g1 g2
     obtain ⟨X, hX⟩ : ∃ r : Nat, cr + wi * bi + z = r := ⟨_, rfl⟩
     obtain ⟨s1, hst⟩ := mul_step (by omega) hkl HOK1.out hii.2.2 HS.out hbi (fun _ => hzz) hX
     obtain ⟨go, co, rfl, gb, gl, cl, HG⟩ := Kd.R_form HO.out (by omega)
     obtain ⟨hx, _⟩ := Kd.R_celln 0 HO.out ((i + k : Nat) : Int) (by omega) (by omega)
     have hr0 : rdOf 0 y ((i + k : Nat) : Int) = (z : Int) := by
      unfold rdOf
      rw [Int.toNat_natCast, List.getD_eq_getElem?_getD, List.getElem?_eq_getElem i1]
      exact g1.symm
     rw [hr0] at hx
     rw [Int.toNat_natCast] at hx
     obtain ⟨K, hK⟩ : ∃ z, i + k = z := ⟨_, rfl⟩
     rw [hK] at hx hst i1
     have W1 := wrp (x := (i : Int) + (k : Int)) (y := (K : Int)) (by omega)
     have W3 := wrp (x := (k : Int) + 1) (y := ((k + 1 : Nat) : Int)) (by omega)
     have hpb : wi * bi < 18446744073709551616 := by omega
     have hpc : cr + wi * bi < 18446744073709551616 := by omega
     obtain ⟨pv, hpv⟩ : ∃ y : Int, ((wi * bi : Nat) : Int) = y := ⟨_, rfl⟩
     obtain ⟨p2v, hp2v⟩ : ∃ y : Int, ((cr + wi * bi : Nat) : Int) = y := ⟨_, rfl⟩
     obtain ⟨Xv, hXv⟩ : ∃ y : Int, (X : Int) = y := ⟨_, rfl⟩
     obtain ⟨yl, hyl2⟩ : ∃ y : Int, ((X % 4294967296 : Nat) : Int) = y := ⟨_, rfl⟩
     obtain ⟨yh, hyh⟩ : ∃ y : Int, ((X / 4294967296 : Nat) : Int) = y := ⟨_, rfl⟩
     obtain ⟨wv, hwv⟩ : ∃ y : Int, (wi : Int) = y := ⟨_, rfl⟩
     obtain ⟨bv, hbv⟩ : ∃ y : Int, (bi : Int) = y := ⟨_, rfl⟩
     obtain ⟨cv, hcv⟩ : ∃ y : Int, (cr : Int) = y := ⟨_, rfl⟩
     obtain ⟨zv, hzv⟩ : ∃ y : Int, (z : Int) = y := ⟨_, rfl⟩
     have m1 : wv * bv = pv := by rw [← hwv, ← hbv, ← hpv, Int.natCast_mul]
     have e1 : IntKind.u64.wrap wv = wv := by rw [IntKind.wrap_u64]; omega
     have e2 : IntKind.u64.wrap bv = bv := by rw [IntKind.wrap_u64]; omega
     have e3 : IntKind.u64.wrap (wv * bv) = pv := by rw [m1, IntKind.wrap_u64]; omega
     have e4 : IntKind.u64.wrap (cv + pv) = p2v := by rw [IntKind.wrap_u64]; omega
     have e5 : IntKind.u64.wrap zv = zv := by rw [IntKind.wrap_u64]; omega
     have e6 : IntKind.u64.wrap (p2v + zv) = Xv := by rw [IntKind.wrap_u64]; omega
     have e7 : IntKind.u32.wrap Xv = yl := by rw [IntKind.wrap_u32]; omega
     have e8 : Xv % 4294967296 = yl := by omega
     have e9 : Xv / 4294967296 = yh := by omega
     rw [hyl2] at hst
     rw [hwv] at hz
     rw [hbv] at hy
     rw [hzv] at hx
     rw [hcv]
     have c3 : (0 : Int) ≤ (K : Int) := by omega
     have c4 : (K : Int) < (y.length : Int) := by omega
     have c5 : (0 : Int) ≤ (k : Int) := by omega
     have c6 : (k : Int) < (m : Int) := by omega
     have c7 := decide_eq_true c6
     have GB := Aside0.mk gb
     have HST := Aside0.mk hst
     have HK2 := Aside0.mk (show k + 1 + g = m by omega)
     have HYH := Aside0.mk hyh
     clear hkk hnl hii hkl g7 g8 hbi hz1 hrd hyl i1 hzz g1 g2 hX s1 hst gb gl cl HG hr0 hK hpb hpc hpv hp2v hXv hyl2 hyh hwv hbv hcv hzv m1 HK HS
     obtain ⟨w1, w2⟩ := W1.out
     obtain ⟨w5, w6⟩ := W3.out
     clear W1 W3
     go_upto_region 13 with (fail)
     go_quiet (fail)
     generalize hW : World.drewN _ _ = w6
     have HO6 := Kd.R_drewN HO.out
     replace HO := Aside0.mk (show Kd.R (Kd.int .u32) 35 w6 w.heap.size (fun _ => True) (.slice (some ⟨go, 0, none⟩) y.length co) y by rw [← hW]; exact HO6 _)
     replace HB := Aside0.mk (show Below w.heap.size w w6 by rw [← hW]; exact pw_below_drewN HB.out _)
     clear HO6 hW hx
     obtain ⟨hx, hf⟩ := Kd.R_celln 0 HO.out (K : Int) c3 c4
     rw [Int.toNat_natCast] at hx hf
     have HP := Aside0.mk (Kd.R_putg HO.out (K : Int) yl)
     rw [Int.toNat_natCast] at HP
     go_wp2
     go_roundg g
     case measure => omega
     case rel => exact ⟨k + 1, X / 4294967296, y.set K yl, by rw [HYH.out], by first | rfl | rw [w5] | rw [w6], HK2, HST, ⟨HP.out.1⟩, ⟨below_set HB.out GB.out⟩⟩
end Go.Proofs.YtdoeigngpemcgaaGreatDoor.Dec
namespace Go.Div
open Go.Proofs.YtdoeigngpemcgaaGreatDoor
/-- a row into which k words were shifted -/
def Shl (la : List Int) (q r k : Nat) (o : List Int) : Prop :=
 o.length = la.length + q + 1 ∧ Num.okW o ∧ Num.valN o = Num.valN (la.take k) * 2 ^ (32 * q + r) ∧ (∀ h : k + q < o.length, (o[k + q]).toNat < 2 ^ r) ∧ ∀ j (h : j < o.length), k + q < j → o[j] = 0
theorem shl_start (la : List Int) (q r : Nat) : Shl la q r 0 (List.replicate (la.length + q + 1) 0) := by
 refine ⟨List.length_replicate, okW_zeros _, ?_, fun h => ?_, fun j h _ => List.getElem_replicate _⟩
 ·rw [valN_zeros, List.take_zero]
  show 0 = 0 * _
  rw [Nat.zero_mul]
 ·rw [List.getElem_replicate]
  exact Nat.two_pow_pos r
theorem shl_end {la o : List Int} {q r : Nat} (h : Shl la q r la.length o) : Num.valN o = Num.valN la * 2 ^ (32 * q + r) := by
 rw [h.2.2.1, List.take_length]
theorem pow32 (q : Nat) : (2 : Nat) ^ (32 * q) = 4294967296 ^ q := by
 rw [Nat.pow_mul]
theorem shl_low {x r : Nat} (hr : r ≤ 32) : x * 2 ^ r % 4294967296 % 2 ^ r = 0 := by
 have h : (4294967296 : Nat) = 2 ^ r * 2 ^ (32 - r) := by rw [← Nat.pow_add, show r + (32 - r) = 32 by omega]
 rw [h, Nat.mod_mul_right_mod, Nat.mul_mod_left]
theorem shl_fit {a b r : Nat} (hr : r ≤ 32) (ha : a < 2 ^ r) (hb : b < 4294967296) (h0 : b % 2 ^ r = 0) : a + b < 4294967296 := by
 have h : (4294967296 : Nat) = 2 ^ r * 2 ^ (32 - r) := by rw [← Nat.pow_add, show r + (32 - r) = 32 by omega]
 have e : b = 2 ^ r * (b / 2 ^ r) := by have := Nat.div_add_mod b (2 ^ r); omega
 have hq : b / 2 ^ r < 2 ^ (32 - r) := by
  rw [Nat.div_lt_iff_lt_mul (Nat.two_pow_pos r), Nat.mul_comm]
  omega
 have h2 : 2 ^ r * (b / 2 ^ r + 1) ≤ 2 ^ r * 2 ^ (32 - r) := Nat.mul_le_mul_left _ hq
 rw [Nat.mul_add] at h2
 omega
theorem shl_step {la o : List Int} {q r k : Nat} (hk : k < la.length) (okl : Num.okW la) (hr : r < 32) (h : Shl la q r k o) {x z : Nat} (hx : (la[k]).toNat * 2 ^ r = x) (hz : ∀ h : k + q < o.length, (o[k + q]).toNat = z) :
  z + x % 4294967296 < 4294967296 ∧ x / 4294967296 < 4294967296 ∧ z < 2 ^ r ∧ Shl la q r (k + 1) ((o.set (k + q) ((z + x % 4294967296 : Nat) : Int)).set (k + q + 1) ((x / 4294967296 : Nat) : Int)) := by
 obtain ⟨h1, h2, h3, h4, h5⟩ := h
 have i1 : k + q < o.length := by omega
 have i2 : k + q + 1 < o.length := by omega
 have hz' := hz i1
 have h4' := h4 i1
 rw [hz'] at h4'
 have hw : (la[k]).toNat < 4294967296 := (get_nat okl hk).2
 have hx2 : x < 4294967296 * 2 ^ r := by
  rw [← hx]
  exact Nat.mul_lt_mul_of_pos_right hw (Nat.two_pow_pos r)
 have hxr : x / 4294967296 < 2 ^ r := by
  rw [Nat.div_lt_iff_lt_mul (by decide), Nat.mul_comm]
  exact hx2
 have hp : 2 ^ r ≤ 4294967296 := Nat.pow_le_pow_right (i := r) (j := 32) (by decide) (by omega)
 have hlow : z + x % 4294967296 < 4294967296 := shl_fit (by omega) h4' (Nat.mod_lt _ (by decide)) (by rw [← hx]; exact shl_low (by omega))
 refine ⟨hlow, by omega, h4', by rw [List.length_set, List.length_set]; exact h1, okW_set (okW_set h2 _ (by omega)) _ (by omega), ?_, fun _ => ?_, fun j hj hlt => ?_⟩
 ·have e1 := valN_set i1 ((z + x % 4294967296 : Nat) : Int)
  have e2 := valN_set (l := o.set (k + q) ((z + x % 4294967296 : Nat) : Int)) (i := k + q + 1) (by rw [List.length_set]; exact i2) ((x / 4294967296 : Nat) : Int)
  rw [List.getElem_set_ne (by omega), h5 _ i2 (by omega), Int.toNat_zero, Nat.zero_mul, Nat.add_zero] at e2
  rw [hz'] at e1
  rw [e2, valN_take hk, Nat.add_mul, ← h3, Nat.pow_add 2, pow32]
  have e3 : (la[k]).toNat * 4294967296 ^ k * (4294967296 ^ q * 2 ^ r) = x * 4294967296 ^ (k + q) := by
   rw [← hx, Nat.pow_add]
   generalize 4294967296 ^ k = p
   generalize 4294967296 ^ q = s
   generalize 2 ^ r = t
   generalize (la[k]).toNat = u
   rw [Nat.mul_assoc, Nat.mul_assoc, Nat.mul_comm s t, Nat.mul_left_comm p t s]
  rw [e3, Nat.pow_succ]
  rw [Int.toNat_natCast] at e1 ⊢
  generalize hB : 4294967296 ^ (k + q) = P at *
  have e4 : x * P = (x % 4294967296) * P + x / 4294967296 * (P * 4294967296) := by
   conv => lhs; rw [← Nat.mod_add_div x 4294967296, Nat.add_mul]
   congr 1
   rw [Nat.mul_comm 4294967296, Nat.mul_assoc, Nat.mul_comm 4294967296]
  rw [Nat.add_mul] at e1
  omega
 ·have ek : k + 1 + q = k + q + 1 := by omega
  simp only [ek, List.getElem_set_self, Int.toNat_natCast]
  exact hxr
 ·rw [List.length_set, List.length_set] at hj
  rw [List.getElem_set_ne (by omega), List.getElem_set_ne (by omega)]
  exact h5 j hj (by omega)
theorem hi_div {l : List Int} (ok : Num.okW l) (j : Nat) : Num.valN l / 4294967296 ^ j = hi l j := by
 induction j generalizing l with
 | zero => rw [Nat.pow_zero, Nat.div_one]; rfl
 | succ j ih =>
  cases l with
  | nil => exact Nat.zero_div _
  | cons x t =>
   have hx := ok x (List.mem_cons_self ..)
   rw [Nat.pow_succ, Nat.mul_comm, ← Nat.div_div_eq_div_mul, valN_cons, Nat.add_mul_div_left _ _ (by decide), Nat.div_eq_of_lt (a := x.toNat) (by omega), Nat.zero_add, ih (fun y hy => ok y (List.mem_cons_of_mem _ hy))]
   rfl
/-- a row into which k words were shifted -/
def Shr (la : List Int) (q r k : Nat) (o : List Int) : Prop :=
 o.length = k ∧ Num.okW o ∧ Num.valN o = Num.valN la / 2 ^ (32 * q + r) % 4294967296 ^ k
theorem shr_start (la : List Int) (q r : Nat) : Shr la q r 0 [] := by
 refine ⟨rfl, fun x h => ?_, ?_⟩
 ·cases h
 ·rw [Nat.pow_zero, Nat.mod_one]; rfl
theorem shr_val {la : List Int} (ok : Num.okW la) (q r k : Nat) : Num.valN la / 2 ^ (32 * q + r) / 4294967296 ^ k = hi la (q + k) / 2 ^ r := by
 rw [← hi_div ok, Nat.pow_add, pow32, Nat.div_div_eq_div_mul, Nat.div_div_eq_div_mul, Nat.pow_add]
 congr 1
 rw [Nat.mul_assoc, Nat.mul_assoc, Nat.mul_comm (2 ^ r)]
theorem shr_cut (h : Nat) {r : Nat} (hr : r ≤ 32) : h % (4294967296 * 4294967296) / 2 ^ r % 4294967296 = h / 2 ^ r % 4294967296 := by
 have e : (4294967296 : Nat) * 4294967296 = 2 ^ r * (4294967296 * 2 ^ (32 - r)) := by
  rw [Nat.mul_left_comm, ← Nat.pow_add, show r + (32 - r) = 32 by omega]
 rw [e, Nat.mod_mul_right_div_self, Nat.mod_mul_right_mod]
theorem shr_end {la o : List Int} (ok : Num.okW la) {q r k : Nat} (h : Shr la q r k o) (hk : la.length ≤ q + k) : Num.valN o = Num.valN la / 2 ^ (32 * q + r) := by
 rw [h.2.2]
 refine Nat.mod_eq_of_lt ?_
 rw [← Nat.div_eq_zero_iff_lt (Nat.pow_pos (by decide)), shr_val ok]
 have : hi la (q + k) = 0 := by unfold hi; rw [List.drop_of_length_le hk]; rfl
 rw [this, Nat.zero_div]
theorem shr_step {la o : List Int} (ok : Num.okW la) {q r k : Nat} (hr : r ≤ 32) (h : Shr la q r k o) {x : Nat} (hx : hi la (q + k) % (4294967296 * 4294967296) = x) :
  Shr la q r (k + 1) (o ++ [((x / 2 ^ r % 4294967296 : Nat) : Int)]) := by
 obtain ⟨h1, h2, h3⟩ := h
 refine ⟨by rw [List.length_append, h1]; rfl, ?_, ?_⟩
 ·intro z hz
  rcases List.mem_append.1 hz with g | g
  ·exact h2 z g
  ·rw [List.mem_singleton.1 g]
   omega
 ·rw [Num.val_snoc, h1, h3, Nat.pow_succ, Nat.mod_mul, shr_val ok, Int.toNat_natCast, ← hx, shr_cut _ hr]
theorem two_words {la : List Int} (ok : Num.okW la) {j : Nat} (h : j < la.length) : hi la j % (4294967296 * 4294967296) = (la[j]).toNat + 4294967296 * ((la[j + 1]?.getD 0).toNat) := by
 have g := (get_nat ok h).2
 rw [hi_step h, Nat.mod_mul]
 rw [Nat.add_mul_mod_self_left, Nat.mod_eq_of_lt g, Nat.add_mul_div_left _ _ (by decide), Nat.div_eq_of_lt g, Nat.zero_add]
 congr 2
 rcases Nat.lt_or_ge (j + 1) la.length with c | c
 ·rw [hi_step c, Nat.add_mul_mod_self_left, List.getElem?_eq_getElem c]
  exact Nat.mod_eq_of_lt (get_nat ok c).2
 ·rw [List.getElem?_eq_none c]
  unfold hi
  rw [List.drop_of_length_le c]
  rfl
end Go.Div
namespace Go.Div
open Go.Proofs.YtdoeigngpemcgaaGreatDoor Go.Proofs.YtdoeigngpemcgaaGreatDoor.Dec
theorem hi_lt {la lb : List Int} (oka : Num.okW la) (okb : Num.okW lb) {i : Nat} (ha : i < la.length) (hb : i < lb.length) (h : hi la (i + 1) = hi lb (i + 1)) (hlt : (la[i]).toNat < (lb[i]).toNat) : Num.valN la < Num.valN lb := by
 have h1 : hi la i < hi lb i := by rw [hi_step ha, hi_step hb, h]; omega
 rw [← hi_div oka, ← hi_div okb] at h1
 rcases Nat.lt_or_ge (Num.valN la) (Num.valN lb) with c | c
 ·exact c
 ·have := Nat.div_le_div_right (c := 4294967296 ^ i) c
  omega
theorem len_less {a b : Nat} (h : (Num.wordsN a).length < (Num.wordsN b).length) : a < b := by
 rcases Nat.lt_or_ge a b with c | c
 ·exact c
 ·have := len_le (Nat.le_refl _) c
  omega
theorem cmp_lt {a b : Nat} (h : a < b) : Num.cmpN a b = -1 := by unfold Num.cmpN; rw [if_pos h]
theorem cmp_gt {a b : Nat} (h : b < a) : Num.cmpN a b = 1 := by unfold Num.cmpN; rw [if_neg (by omega), if_pos h]
theorem cmp_eq (a : Nat) : Num.cmpN a a = 0 := by unfold Num.cmpN; rw [if_neg (by omega), if_neg (by omega)]
end Go.Div
namespace Go.Proofs.YtdoeigngpemcgaaGreatDoor.Dec
open Go.RowKit Go.Div Go.Proofs.YtdoeigngpemcgaaGreatDoor.PNat Go.Proofs.YtdoeigngpemcgaaGreatDoor.Pure Go.Proofs.YtdoeigngpemcgaaGreatDoorW.PrintWords Go.Proofs.YtdoeigngpemcgaaGreatDoorW.PrintLast Go.Proofs.YtdoeigngpemcgaaGreatDoorW.PrintMore
set_option maxRecDepth 100000 in
theorem r_Compare {w : World} {v u : Value} {a b : Nat} (h0 : Nm w v a) (h1 : Nm w u b) (fa : Fit a) (fb : Fit b) :
  Calls Tryz.prog 102 #[v, u] w fun e w' => e = .returned (.int .i64 (Num.cmpN a b)) ∧ Below w.heap.size w w' := by
 have T0 := Aside0.mk (r_trimmed h0)
 have T1 := Aside0.mk (r_trimmed h1)
 obtain ⟨A, c, rfl, hlc, hC, _⟩ := h0.open
 obtain ⟨A1, cb, rfl, hlc1, hC1, _⟩ := h1.open
 have hlt := @len_less a b
 have hgt := @len_less b a
 obtain ⟨la, hla⟩ : ∃ l, Num.wordsN a = l := ⟨_, rfl⟩
 obtain ⟨lb, hlb⟩ : ∃ l, Num.wordsN b = l := ⟨_, rfl⟩
 have hok := Num.wordsN_ok a
 have hok1 := Num.wordsN_ok b
 have hval := Num.wordsN_val a
 have hval1 := Num.wordsN_val b
 have hlen : (Num.wordsN a).length ≤ 2000 := fa
 have hlen1 : (Num.wordsN b).length ≤ 2000 := fb
 rw [hla] at hC hok hval hlen T0 hlt hgt
 rw [hlb] at hC1 hok1 hval1 hlen1 T1 hlt hgt
 rw [hla, hlb]
 obtain ⟨n, hn⟩ : ∃ n, la.length = n := ⟨_, rfl⟩
 obtain ⟨m, hm⟩ : ∃ n, lb.length = n := ⟨_, rfl⟩
 rw [hn] at hC hlen T0 hlt hgt
 rw [hm] at hC1 hlen1 T1 hlt hgt
 rw [hn, hm]
 rcases Nat.lt_trichotomy n m with c0 | c0 | c0
 ·have k1 : ((n : Int) == (m : Int)) = false := by rw [beq_eq_false_iff_ne]; omega
  have k2 : ¬ n = m := by omega
  have k3 := decide_eq_true c0
  rw [cmp_lt (hlt c0)]
  clear h0 h1 hlc hlc1 hC hC1 hlt hgt hla hlb hok hok1 hval hval1 hlen hlen1 hn hm
  go_enter Tryz.func102, Tryz.ntmps102
  go_wp2_with (first
  | (go_at_call 101; (with_reducible refine T0.out.mono ?_); rintro e w' ⟨rfl, hw⟩; obtain rfl := hw.symm)
  | (go_at_call 101; (with_reducible refine T1.out.mono ?_); rintro e w' ⟨rfl, hw⟩; obtain rfl := hw.symm))
  go_ret
  exact ⟨rfl, Below.refl _ _⟩
 ·subst c0
  have HC := Aside0.mk hC
  have HC1 := Aside0.mk hC1
  have HOK := Aside0.mk (show Num.okW la ∧ Num.okW lb from ⟨hok, hok1⟩)
  have HN := Aside0.mk (show la.length = n ∧ lb.length = n ∧ n ≤ 2000 from ⟨hn, hm, hlen⟩)
  have HV := Aside0.mk (show Num.valN la = a ∧ Num.valN lb = b from ⟨hval, hval1⟩)
  have hst : hi la n = hi lb n := by
   have e1 := hi_end la
   have e2 := hi_end lb
   rw [hn] at e1
   rw [hm] at e2
   rw [e1, e2]
  have HST := Aside0.mk hst
  have HB := Aside0.mk (Below.refl w.heap.size w)
  obtain ⟨cc, hcc⟩ : ∃ z, Num.cmpN a b = z := ⟨_, rfl⟩
  have HCC := Aside0.mk hcc
  rw [hcc]
  have Z1 := wrp (x := (n : Int) - 1) (y := (n : Int) - 1) (by omega)
  obtain ⟨z1, z2⟩ := Z1.out
  clear h0 h1 hlc hlc1 hC hC1 hlt hgt hla hlb hok hok1 hval hval1 hlen hlen1 hn hm fa fb hst hcc Z1
  go_enter Tryz.func102, Tryz.ntmps102
  go_wp2_with (first
  | (go_at_call 101; (with_reducible refine T0.out.mono ?_); rintro e w' ⟨rfl, hw⟩; obtain rfl := hw.symm)
  | (go_at_call 101; (with_reducible refine T1.out.mono ?_); rintro e w' ⟨rfl, hw⟩; obtain rfl := hw.symm))
  go_loopg [5] n (fun kq v5 wr => v5 = .int .i64 ((kq : Int) - 1) ∧ Aside0 (kq ≤ n ∧ hi la kq = hi lb kq) ∧ Aside0 (Below w.heap.size w wr))
  case atStart => exact ⟨by first | rfl | rw [z1] | rw [z2], ⟨Nat.le_refl n, HST.out⟩, HB⟩
  case round =>
   clear HST z1 z2 HB
   obtain ⟨h8, HI, HB⟩ := hrel
   cases gk with
   | zero =>
    rw [show ((0 : Nat) : Int) - 1 = -1 from rfl] at h8
    subst h8
    have hab : a = b := by
     have h := HI.out.2
     rw [hi_zero, hi_zero, HV.out.1, HV.out.2] at h
     exact h
    have hc : cc = 0 := by rw [← HCC.out, hab]; exact cmp_eq b
    clear hab
    go_wp2
    go_ret
    exact ⟨by subst hc; rfl, HB.out⟩
   | succ i =>
    rw [show ((i + 1 : Nat) : Int) - 1 = (i : Int) by omega] at h8
    subst h8
    have hn := HN.out
    have hi := HI.out
    have hia : i < la.length := by omega
    have hib : i < lb.length := by omega
    obtain ⟨g1, g2⟩ := get_nat HOK.out.1 hia
    obtain ⟨g3, g4⟩ := get_nat HOK.out.2 hib
    have k1 : (la[i]).toNat < (lb[i]).toNat → cc = -1 := fun h => HCC.out.symm.trans (cmp_lt (by
     have := hi_lt HOK.out.1 HOK.out.2 hia hib hi.2 h
     rw [HV.out.1, HV.out.2] at this
     exact this))
    have k2 : (lb[i]).toNat < (la[i]).toNat → cc = 1 := fun h => HCC.out.symm.trans (cmp_gt (by
     have := hi_lt HOK.out.2 HOK.out.1 hib hia hi.2.symm h
     rw [HV.out.1, HV.out.2] at this
     exact this))
    have k3 : (la[i]).toNat = (lb[i]).toNat → Go.Div.hi la i = Go.Div.hi lb i := fun h => by rw [hi_step hia, hi_step hib, h, hi.2]
    obtain ⟨x, hx⟩ : ∃ z : Nat, (la[i]).toNat = z := ⟨_, rfl⟩
    obtain ⟨y, hy⟩ : ∃ z : Nat, (lb[i]).toNat = z := ⟨_, rfl⟩
    rw [hx] at g1 g2 k1 k2 k3
    rw [hy] at g3 g4 k1 k2 k3
    obtain ⟨ad, hA, hz0⟩ := Kd.at_int HC.out (i : Int) (by omega) (by omega)
    subst hA
    have hr0 : rd la (i : Int) = (x : Int) := by
     unfold rd
     rw [Int.toNat_natCast, List.getD_eq_getElem?_getD, List.getElem?_eq_getElem hia]
     exact g1.symm
    rw [hr0, Int.toNat_natCast] at hz0
    obtain ⟨ad1, hA1, hz1⟩ := Kd.at_int HC1.out (i : Int) (by omega) (by omega)
    subst hA1
    have hr1 : rd lb (i : Int) = (y : Int) := by
     unfold rd
     rw [Int.toNat_natCast, List.getD_eq_getElem?_getD, List.getElem?_eq_getElem hib]
     exact g3.symm
    rw [hr1, Int.toNat_natCast] at hz1
    have hy0 := pw_cell_below HB.out hz0
    have hy1 := pw_cell_below HB.out hz1
    clear hz0 hz1
    have c1 : (0 : Int) ≤ (i : Int) := by omega
    have c2 : (i : Int) < (n : Int) := by omega
    have Z1 := wrp (x := (i : Int) - 1) (y := (i : Int) - 1) (by omega)
    have HK := Aside0.mk (show i ≤ n by omega)
    obtain ⟨xv, hxv⟩ : ∃ z : Int, (x : Int) = z := ⟨_, rfl⟩
    obtain ⟨yv, hyv⟩ : ∃ z : Int, (y : Int) = z := ⟨_, rfl⟩
    rw [hxv] at hy0
    rw [hyv] at hy1
    obtain ⟨z1, z2⟩ := Z1.out
    clear Z1
    rcases Nat.lt_trichotomy x y with d | d | d
    ·have e1 : (xv == yv) = false := by rw [beq_eq_false_iff_ne]; omega
     have e2 : ¬ xv = yv := by omega
     have e3 := decide_eq_true (show xv < yv by omega)
     have e4 := decide_eq_false (show ¬ yv < xv by omega)
     have hq := k1 d
     clear hn hi hia hib g1 g2 g3 g4 k1 k2 k3 hx hy hr0 hr1 hxv hyv d
     go_upto_region 10 with (fail)
     go_quiet (fail)
     go_upto_region 11 with (fail)
     go_quiet (fail)
     go_wp2
     go_ret
     exact ⟨by subst hq; rfl, by repeat (first | exact HB.out | apply pw_below_drewN)⟩
    ·have e1 : (xv == yv) = true := by rw [beq_iff_eq]; omega
     have e2 : xv = yv := by omega
     have e3 := decide_eq_false (show ¬ xv < yv by omega)
     have e4 := decide_eq_false (show ¬ yv < xv by omega)
     have HS := Aside0.mk (k3 d)
     clear hn hi hia hib g1 g2 g3 g4 k1 k2 k3 hx hy hr0 hr1 hxv hyv d
     go_upto_region 10 with (fail)
     go_quiet (fail)
     go_wp2
     go_roundg i
     case measure => omega
     case rel => exact ⟨by first | rfl | rw [z1] | rw [z2], ⟨HK.out, HS.out⟩, ⟨by repeat (first | exact HB.out | apply pw_below_drewN)⟩⟩
    ·have e1 : (xv == yv) = false := by rw [beq_eq_false_iff_ne]; omega
     have e2 : ¬ xv = yv := by omega
     have e3 := decide_eq_false (show ¬ xv < yv by omega)
     have e4 := decide_eq_true (show yv < xv by omega)
     have hq := k2 d
     clear hn hi hia hib g1 g2 g3 g4 k1 k2 k3 hx hy hr0 hr1 hxv hyv d
     go_upto_region 10 with (fail)
     go_quiet (fail)
     go_upto_region 11 with (fail)
     go_quiet (fail)
     go_wp2
     go_ret
     exact ⟨by subst hq; rfl, by repeat (first | exact HB.out | apply pw_below_drewN)⟩
 ·have k1 : ((n : Int) == (m : Int)) = false := by rw [beq_eq_false_iff_ne]; omega
  have k2 : ¬ n = m := by omega
  have k3 := decide_eq_false (show ¬ n < m by omega)
  rw [cmp_gt (hgt c0)]
  clear h0 h1 hlc hlc1 hC hC1 hlt hgt hla hlb hok hok1 hval hval1 hlen hlen1 hn hm
  go_enter Tryz.func102, Tryz.ntmps102
  go_wp2_with (first
  | (go_at_call 101; (with_reducible refine T0.out.mono ?_); rintro e w' ⟨rfl, hw⟩; obtain rfl := hw.symm)
  | (go_at_call 101; (with_reducible refine T1.out.mono ?_); rintro e w' ⟨rfl, hw⟩; obtain rfl := hw.symm))
  go_ret
  exact ⟨rfl, Below.refl _ _⟩
end Go.Proofs.YtdoeigngpemcgaaGreatDoor.Dec
namespace Go.Proofs
open Go.Shelf
def Tryz.lays129_ren : Go.Shelf.Ren := ⟨fun | 129 => 174 | n => n, fun | 53 => 22 | 3 => 3 | 4 => 4 | 46 => 105 | 5 => 5 | 9 => 9 | n => n, fun | n => n⟩
theorem Tryz.lays129 : Go.Proofs.Lays.n129 Tryz.prog Tryz.lays129_ren := {
 mixed := by kernel_rfl
 f129 := Tryz.func174.trans (congrArg some (by kernel_rfl))
 t3 := Tryz.underlying3
 a3 := Tryz.isAgg3
 z3 := Tryz.sizeOf3
 v3 := Tryz.zeroValue3
 t4 := Tryz.underlying4
 a4 := Tryz.isAgg4
 z4 := Tryz.sizeOf4
 v4 := Tryz.zeroValue4
 t5 := Tryz.underlying5
 a5 := Tryz.isAgg5
 z5 := Tryz.sizeOf5
 v5 := Tryz.zeroValue5
 t9 := Tryz.underlying9
 a9 := Tryz.isAgg9
 z9 := Tryz.sizeOf9
 v9 := Tryz.zeroValue9
 t46 := Tryz.underlying105
 a46 := Tryz.isAgg105
 z46 := Tryz.sizeOf105
 v46 := Tryz.zeroValue105
 t53 := Tryz.underlying22
 a53 := Tryz.isAgg22
 z53 := Tryz.sizeOf22
 v53 := Tryz.zeroValue22 }
/-- The library's contract, laid over this program. -/
theorem Tryz.bits_Len64 (x : Int) (w : World) (h0 : 0 ≤ x) (h1 : x ≤ 18446744073709551615) :
  Calls Tryz.prog 174 #[.int .u64 x] w fun e w' => e = .returned (.int .i64 (Lib.bitLen x.toNat)) ∧ w' = w := Any.bits_Len64 Tryz.lays129 x w h0 h1
end Go.Proofs
namespace Go.Proofs.YtdoeigngpemcgaaGreatDoor.PDec
open Go.RowKit Go.Proofs.YtdoeigngpemcgaaGreatDoorW.PrintWords Go.Proofs.YtdoeigngpemcgaaGreatDoorW.PrintLast Go.Proofs.YtdoeigngpemcgaaGreatDoorW.PrintMore
attribute [local go_sem] max2_int min2_int max_two min_two max_three min_three max_four min_four
def bits_Len64.f (_k : Nat) (a0 : Int) : Option (Int) := if 0 ≤ a0 ∧ a0 ≤ 18446744073709551615 then some ((Lib.bitLen a0.toNat : Nat) : Int) else none
theorem bits_Len64.calls (k : Nat) (a0 : Int) (r : Int) (w : World) (h : bits_Len64.f k a0 = some r) :
  Calls Tryz.prog 174 #[.int .u64 a0] w fun e w' => e = .returned (.int .i64 r) ∧ Drawn0 w w' := by
 unfold bits_Len64.f at h
 by_cases hc : 0 ≤ a0 ∧ a0 ≤ 18446744073709551615
 ·rw [if_pos hc] at h
  obtain rfl := Option.some.inj h
  exact (Tryz.bits_Len64 a0 w hc.1 hc.2).mono fun e w' ⟨h1, h2⟩ => ⟨h1, by subst h2; exact Drawn0.refl _⟩
 ·rw [if_neg hc] at h
  exact absurd h (by simp)
def soft_sign.f (a0 : Int) (a1 : Bool) : Option (Int) := if a1 = true then (some (Go.bits .or .u64 a0 9223372036854775808)) else (some a0)
set_option maxRecDepth 100000 in
theorem soft_sign.calls (a0 : Int) (a1 : Bool) (r : Int) (w : World) (h : soft_sign.f a0 a1 = some r) :
  Calls Tryz.prog 154 #[.int .u64 a0, .bool a1] w fun e w' => e = .returned (.int .u64 r) ∧ Drawn0 w w' := by
 have H : (if a1 = true then (some (Go.bits .or .u64 a0 9223372036854775808)) else (some a0)) = some r := h
 clear h
 by_cases c3 : a1 = true
 ·subst c3
  rw [if_pos rfl] at H
  obtain rfl := Option.some.inj H
  go_enter Tryz.func154, Tryz.ntmps154
  go_wp2
  go_ret
  exact ⟨by first | rfl | (simp; done) | (simp [*]; done), by repeat (first | exact Drawn0.refl _ | apply Drawn0.step)⟩
 ·replace c3 := Bool.eq_false_iff.mpr c3
  subst c3
  rw [if_neg (show ¬ (false = true) by decide)] at H
  obtain rfl := Option.some.inj H
  go_enter Tryz.func154, Tryz.ntmps154
  go_wp2
  go_ret
  exact ⟨by first | rfl | (simp; done) | (simp [*]; done), by repeat (first | exact Drawn0.refl _ | apply Drawn0.step)⟩
def soft_double.f  : Option (Int × Int × Int) := some (53, (-1074), 971)
set_option maxRecDepth 100000 in
theorem soft_double.calls  (r1 : Int) (r2 : Int) (r3 : Int) (w : World) (h : soft_double.f  = some (r1, r2, r3)) :
  Calls Tryz.prog 155 #[] w fun e w' => e = .returned (.agg #[.int .i64 r1, .int .i64 r2, .int .i64 r3]) ∧ Below w.heap.size w w' := by
 have hu168 := Tryz.underlying168
 have HB := Aside0.mk (Below.refl w.heap.size w)
 have H : (some (53, (-1074), 971)) = some (r1, r2, r3) := h
 clear h
 simp only [Option.some.injEq, Prod.mk.injEq] at H
 obtain ⟨rfl, rfl, rfl⟩ := H
 go_enter Tryz.func155, Tryz.ntmps155
 go_wp2_with (first | ((with_reducible refine gate_dst (N := 0) rfl ?_); refine box_event ?hg (N := 0) ?hd (cs := #[.int .i64 0, .int .i64 0, .int .i64 0]) (t := 168) ?hr ?_; (case hd => rfl); (case hg => rfl); (case hr => first | (go_simp; done) | (go_simp; rfl)); intro gb205 hg w1 hbox hb; have n0_ := Aside0.mk (below_step (bq_ HB.out) hb); have n1_ := Aside0.mk (hbox); have n2_ := Aside0.mk ((by rw [hg]; exact (below_size (bq_ HB.out)) : w.heap.size ≤ gb205)); have n3_ := Aside0.mk ((by rw [hg]; exact (below_size (bq_ HB.out)) : w.heap.size ≤ gb205)); clear HB; have HB := n0_; have BK205 := n1_; have GW205 := n2_; have GE205 := n3_; clear n0_ n1_ n2_ n3_; clear hb hbox hg; have hcz2_0 : w1.cell? ⟨gb205, 0, none⟩ = some (.int .i64 0) := (blk_cell BK205.out 0).trans rfl; have hcz2_1 : w1.cell? ⟨gb205, 1, none⟩ = some (.int .i64 0) := (blk_cell BK205.out 1).trans rfl; have hcz2_2 : w1.cell? ⟨gb205, 2, none⟩ = some (.int .i64 0) := (blk_cell BK205.out 2).trans rfl; have hfz2_0 := blk_frozen BK205.out 0; have hfz2_1 := blk_frozen BK205.out 1; have hfz2_2 := blk_frozen BK205.out 2))
 refine bodyPost_ret (results_cell_row rfl _ _ gb205 168 #[.int .i64 53, .int .i64 (-1074), .int .i64 971] (0, 0) _ rfl (by (with_reducible repeat (first | refine blk_drewN ?_ _ | refine blk_drew ?_ | refine blk_alloc ?_ _)); refine blk_put (cs := #[.int .i64 53, .int .i64 (-1074), .int .i64 0]) ?_ 2 _ rfl; (with_reducible repeat (first | refine blk_drewN ?_ _ | refine blk_drew ?_ | refine blk_alloc ?_ _)); refine blk_put (cs := #[.int .i64 53, .int .i64 0, .int .i64 0]) ?_ 1 _ rfl; (with_reducible repeat (first | refine blk_drewN ?_ _ | refine blk_drew ?_ | refine blk_alloc ?_ _)); refine blk_put (cs := #[.int .i64 0, .int .i64 0, .int .i64 0]) ?_ 0 _ rfl; (with_reducible repeat (first | refine blk_drewN ?_ _ | refine blk_drew ?_ | refine blk_alloc ?_ _)); exact BK205.out) Tryz.underlying168 rfl (by kernel_rfl)) rfl ?_
 exact ⟨ew_, by repeat (first | (with_reducible first | exact HB.out | apply below_alloc | apply pw_below_drewN | apply below_drew1 | refine below_set ?_ GE205.out) | exact HB.out)⟩
def soft_length.f (k : Nat) (a0 : Int) (a1 : Int) : Option (Int) := if a0 > 0 then ((bits_Len64.f k a0).bind fun t206 => (some (wrap64 (64 + t206)))) else ((bits_Len64.f k a1).bind fun t207 => (some t207))
set_option maxRecDepth 100000 in
theorem soft_length.calls (k : Nat) (a0 : Int) (a1 : Int) (r : Int) (w : World) (h : soft_length.f k a0 a1 = some r) :
  Calls Tryz.prog 171 #[.int .u64 a0, .int .u64 a1] w fun e w' => e = .returned (.int .i64 r) ∧ Drawn0 w w' := by
 have H : (if a0 > 0 then ((bits_Len64.f k a0).bind fun t206 => (some (wrap64 (64 + t206)))) else ((bits_Len64.f k a1).bind fun t207 => (some t207))) = some r := h
 clear h
 by_cases c3 : a0 > 0
 ·rw [if_pos c3] at H
  have c3b0 : decide (0 < a0) = true := decide_eq_true c3
  clear c3
  replace H := Option.bind_eq_some_iff.mp H
  obtain ⟨t206, A40, H⟩ := H
  have A4 := Aside0.mk A40
  clear A40
  obtain rfl := Option.some.inj H
  go_enter Tryz.func171, Tryz.ntmps171
  go_wp2_with (first | ((with_reducible refine gate_callee (f := 174) rfl ?_); refine goesL_ (some 8) rfl rfl Tryz.func174 (by kernel_rfl) rfl #[.int .u64 a0] rfl gq_ ?_; (with_reducible refine (bits_Len64.calls k a0 t206 _ A4.out).mono ?_); rintro e w' ⟨rfl, ⟨nd, rfl⟩⟩; refine ⟨_, rfl, ?_⟩))
  go_ret
  exact ⟨by first | rfl | (simp; done) | (simp [*]; done), by repeat (first | exact Drawn0.refl _ | apply Drawn0.step)⟩
 ·rw [if_neg c3] at H
  have c3b0 : decide (0 < a0) = false := decide_eq_false c3
  clear c3
  replace H := Option.bind_eq_some_iff.mp H
  obtain ⟨t207, A50, H⟩ := H
  have A5 := Aside0.mk A50
  clear A50
  obtain rfl := Option.some.inj H
  go_enter Tryz.func171, Tryz.ntmps171
  go_wp2_with (first | ((with_reducible refine gate_callee (f := 174) rfl ?_); refine goesL_ (some 11) rfl rfl Tryz.func174 (by kernel_rfl) rfl #[.int .u64 a1] rfl gq_ ?_; (with_reducible refine (bits_Len64.calls k a1 t207 _ A5.out).mono ?_); rintro e w' ⟨rfl, ⟨nd, rfl⟩⟩; refine ⟨_, rfl, ?_⟩))
  go_ret
  exact ⟨by first | rfl | (simp; done) | (simp [*]; done), by repeat (first | exact Drawn0.refl _ | apply Drawn0.step)⟩
def soft_right.f (a0 : Int) (a1 : Int) (a2 : Int) : Option (Int × Int × Bool) := if a2 ≥ 128 then (some (0, 0, ((Go.bits .or .u64 a0 a1) != 0))) else (if a2 ≥ 64 then (if 0 ≤ (wrap64 (a2 - 64)) then (if a1 = 0 then (if 0 ≤ (wrap64 (128 - a2)) then (if (shl .u64 a0 (wrap64 (128 - a2))) = 0 then (some (0, shr .u64 a0 (wrap64 (a2 - 64)), false)) else (some (0, shr .u64 a0 (wrap64 (a2 - 64)), decide (a2 > 64)))) else (none)) else (some (0, shr .u64 a0 (wrap64 (a2 - 64)), true))) else (none)) else (if a2 = 0 then (some (a0, a1, false)) else (if 0 ≤ a2 then (if 0 ≤ (wrap64 (64 - a2)) then (some (shr .u64 a0 a2, Go.bits .or .u64 (shr .u64 a1 a2) (shl .u64 a0 (wrap64 (64 - a2))), ((shl .u64 a1 (wrap64 (64 - a2))) != 0))) else (none)) else (none))))
set_option maxRecDepth 100000 in
theorem soft_right.calls (a0 : Int) (a1 : Int) (a2 : Int) (r1 : Int) (r2 : Int) (r3 : Bool) (w : World) (h : soft_right.f a0 a1 a2 = some (r1, r2, r3)) :
  Calls Tryz.prog 172 #[.int .u64 a0, .int .u64 a1, .int .i64 a2] w fun e w' => e = .returned (.tuple #[.int .u64 r1, .int .u64 r2, .bool r3]) ∧ Drawn0 w w' := by
 have H : (if a2 ≥ 128 then (some (0, 0, ((Go.bits .or .u64 a0 a1) != 0))) else (if a2 ≥ 64 then (if 0 ≤ (wrap64 (a2 - 64)) then (if a1 = 0 then (if 0 ≤ (wrap64 (128 - a2)) then (if (shl .u64 a0 (wrap64 (128 - a2))) = 0 then (some (0, shr .u64 a0 (wrap64 (a2 - 64)), false)) else (some (0, shr .u64 a0 (wrap64 (a2 - 64)), decide (a2 > 64)))) else (none)) else (some (0, shr .u64 a0 (wrap64 (a2 - 64)), true))) else (none)) else (if a2 = 0 then (some (a0, a1, false)) else (if 0 ≤ a2 then (if 0 ≤ (wrap64 (64 - a2)) then (some (shr .u64 a0 a2, Go.bits .or .u64 (shr .u64 a1 a2) (shl .u64 a0 (wrap64 (64 - a2))), ((shl .u64 a1 (wrap64 (64 - a2))) != 0))) else (none)) else (none))))) = some (r1, r2, r3) := h
 clear h
 by_cases c4 : a2 ≥ 128
 ·rw [if_pos c4] at H
  have c4b0 : decide (128 ≤ a2) = true := decide_eq_true c4
  clear c4
  simp only [Option.some.injEq, Prod.mk.injEq] at H
  obtain ⟨rfl, rfl, rfl⟩ := H
  go_enter Tryz.func172, Tryz.ntmps172
  go_wp2
  repeat (go_quiet (fail); try go_wp2)
  go_ret3
  exact ⟨by first | rfl | (simp; done) | (simp [*]; done), by repeat (first | exact Drawn0.refl _ | apply Drawn0.step)⟩
 ·rw [if_neg c4] at H
  have c4b0 : decide (128 ≤ a2) = false := decide_eq_false c4
  clear c4
  by_cases c5 : a2 ≥ 64
  ·rw [if_pos c5] at H
   have c5b0 : decide (64 ≤ a2) = true := decide_eq_true c5
   clear c5
   obtain ⟨ji6, hji6⟩ : ∃ j_ : Int, (wrap64 (a2 - 64)) = j_ := ⟨_, rfl⟩
   first | rw [hji6] at H | simp only [hji6] at H
   have hji6w : (IntKind.i64.wrap (a2 - 64)) = ji6 := (i64_w _).trans hji6
   obtain ⟨c7, H⟩ := oi_ H
   have c7b0 := eq_true c7
   have c7b1 : decide (0 ≤ (ji6)) = true := decide_eq_true c7
   clear c7
   obtain ⟨ji8, hji8⟩ : ∃ j_ : Int, (shr .u64 a0 (ji6)) = j_ := ⟨_, rfl⟩
   first | rw [hji8] at H | simp only [hji8] at H
   have hji8_ : (a0 / 2 ^ min (ji6).toNat 64) = ji8 := hji8
   have hji8z : (ji6) ≤ 64 → (a0 / 2 ^ (ji6).toNat) = ji8 := shr_small hji8
   by_cases c9 : a1 = 0
   ·rw [if_pos c9] at H
    have c9b0 : (a1 == 0) = true := beq_iff_eq.mpr c9
    have c9b1 : (a1 != 0) = false := bne_eq_false_iff_eq.mpr c9
    clear c9
    obtain ⟨ji10, hji10⟩ : ∃ j_ : Int, (wrap64 (128 - a2)) = j_ := ⟨_, rfl⟩
    first | rw [hji10] at H | simp only [hji10] at H
    have hji10w : (IntKind.i64.wrap (128 - a2)) = ji10 := (i64_w _).trans hji10
    obtain ⟨c11, H⟩ := oi_ H
    have c11b0 := eq_true c11
    have c11b1 : decide (0 ≤ (ji10)) = true := decide_eq_true c11
    clear c11
    obtain ⟨ji12, hji12⟩ : ∃ j_ : Int, (shl .u64 a0 (ji10)) = j_ := ⟨_, rfl⟩
    first | rw [hji12] at H | simp only [hji12] at H
    have hji12_ : (IntKind.u64.wrap (a0 * 2 ^ min (ji10).toNat 64)) = ji12 := hji12
    have hji12z : (ji10) ≤ 64 → (IntKind.u64.wrap (a0 * 2 ^ (ji10).toNat)) = ji12 := shl_small hji12
    by_cases c13 : (ji12) = 0
    ·rw [if_pos c13] at H
     have c13b0 : ((ji12) == 0) = true := beq_iff_eq.mpr c13
     have c13b1 : ((ji12) != 0) = false := bne_eq_false_iff_eq.mpr c13
     clear c13
     simp only [Option.some.injEq, Prod.mk.injEq] at H
     obtain ⟨rfl, rfl, rfl⟩ := H
     go_enter Tryz.func172, Tryz.ntmps172
     go_wp2
     repeat (go_quiet (fail); try go_wp2)
     go_ret3
     exact ⟨by first | rfl | (simp; done) | (simp only [← hji6, ← hji8, ← hji10, ← hji12] <;> (first | rfl | simp)) | (simp [*]; done), by repeat (first | exact Drawn0.refl _ | apply Drawn0.step)⟩
    ·rw [if_neg c13] at H
     have c13b0 : ((ji12) == 0) = false := beq_eq_false_iff_ne.mpr c13
     have c13b1 : ((ji12) != 0) = true := bne_iff_ne.mpr c13
     simp only [Option.some.injEq, Prod.mk.injEq] at H
     obtain ⟨rfl, rfl, rfl⟩ := H
     go_enter Tryz.func172, Tryz.ntmps172
     go_wp2
     repeat (go_quiet (fail); try go_wp2)
     go_ret3
     exact ⟨by first | rfl | (simp; done) | (simp only [← hji6, ← hji8, ← hji10, ← hji12] <;> (first | rfl | simp)) | (simp [*]; done), by repeat (first | exact Drawn0.refl _ | apply Drawn0.step)⟩
   ·rw [if_neg c9] at H
    have c9b0 : (a1 == 0) = false := beq_eq_false_iff_ne.mpr c9
    have c9b1 : (a1 != 0) = true := bne_iff_ne.mpr c9
    simp only [Option.some.injEq, Prod.mk.injEq] at H
    obtain ⟨rfl, rfl, rfl⟩ := H
    go_enter Tryz.func172, Tryz.ntmps172
    go_wp2
    repeat (go_quiet (fail); try go_wp2)
    go_ret3
    exact ⟨by first | rfl | (simp; done) | (simp only [← hji6, ← hji8] <;> (first | rfl | simp)) | (simp [*]; done), by repeat (first | exact Drawn0.refl _ | apply Drawn0.step)⟩
  ·rw [if_neg c5] at H
   have c5b0 : decide (64 ≤ a2) = false := decide_eq_false c5
   clear c5
   by_cases c14 : a2 = 0
   ·rw [if_pos c14] at H
    have c14b0 : (a2 == 0) = true := beq_iff_eq.mpr c14
    have c14b1 : (a2 != 0) = false := bne_eq_false_iff_eq.mpr c14
    clear c14
    simp only [Option.some.injEq, Prod.mk.injEq] at H
    obtain ⟨rfl, rfl, rfl⟩ := H
    go_enter Tryz.func172, Tryz.ntmps172
    go_wp2
    repeat (go_quiet (fail); try go_wp2)
    go_ret3
    exact ⟨by first | rfl | (simp; done) | (simp [*]; done), by repeat (first | exact Drawn0.refl _ | apply Drawn0.step)⟩
   ·rw [if_neg c14] at H
    have c14b0 : (a2 == 0) = false := beq_eq_false_iff_ne.mpr c14
    have c14b1 : (a2 != 0) = true := bne_iff_ne.mpr c14
    obtain ⟨c15, H⟩ := oi_ H
    have c15b0 := eq_true c15
    have c15b1 : decide (0 ≤ a2) = true := decide_eq_true c15
    clear c15
    obtain ⟨ji16, hji16⟩ : ∃ j_ : Int, (shr .u64 a0 a2) = j_ := ⟨_, rfl⟩
    first | rw [hji16] at H | simp only [hji16] at H
    have hji16_ : (a0 / 2 ^ min a2.toNat 64) = ji16 := hji16
    have hji16z : a2 ≤ 64 → (a0 / 2 ^ a2.toNat) = ji16 := shr_small hji16
    have c17b0 := eq_true (oq_ : 0 ≤ a2)
    obtain ⟨ji18, hji18⟩ : ∃ j_ : Int, (shr .u64 a1 a2) = j_ := ⟨_, rfl⟩
    first | rw [hji18] at H | simp only [hji18] at H
    have hji18_ : (a1 / 2 ^ min a2.toNat 64) = ji18 := hji18
    have hji18z : a2 ≤ 64 → (a1 / 2 ^ a2.toNat) = ji18 := shr_small hji18
    obtain ⟨ji19, hji19⟩ : ∃ j_ : Int, (wrap64 (64 - a2)) = j_ := ⟨_, rfl⟩
    first | rw [hji19] at H | simp only [hji19] at H
    have hji19w : (IntKind.i64.wrap (64 - a2)) = ji19 := (i64_w _).trans hji19
    obtain ⟨c20, H⟩ := oi_ H
    have c20b0 := eq_true c20
    have c20b1 : decide (0 ≤ (ji19)) = true := decide_eq_true c20
    clear c20
    obtain ⟨ji21, hji21⟩ : ∃ j_ : Int, (shl .u64 a0 (ji19)) = j_ := ⟨_, rfl⟩
    first | rw [hji21] at H | simp only [hji21] at H
    have hji21_ : (IntKind.u64.wrap (a0 * 2 ^ min (ji19).toNat 64)) = ji21 := hji21
    have hji21z : (ji19) ≤ 64 → (IntKind.u64.wrap (a0 * 2 ^ (ji19).toNat)) = ji21 := shl_small hji21
    have c22b0 := eq_true (oq_ : 0 ≤ (ji19))
    obtain ⟨ji23, hji23⟩ : ∃ j_ : Int, (shl .u64 a1 (ji19)) = j_ := ⟨_, rfl⟩
    first | rw [hji23] at H | simp only [hji23] at H
    have hji23_ : (IntKind.u64.wrap (a1 * 2 ^ min (ji19).toNat 64)) = ji23 := hji23
    have hji23z : (ji19) ≤ 64 → (IntKind.u64.wrap (a1 * 2 ^ (ji19).toNat)) = ji23 := shl_small hji23
    simp only [Option.some.injEq, Prod.mk.injEq] at H
    obtain ⟨rfl, rfl, rfl⟩ := H
    go_enter Tryz.func172, Tryz.ntmps172
    go_wp2
    repeat (go_quiet (fail); try go_wp2)
    go_ret3
    exact ⟨by first | rfl | (simp; done) | (simp only [← hji16, ← hji18, ← hji19, ← hji21, ← hji23] <;> (first | rfl | simp)) | (simp [*]; done), by repeat (first | exact Drawn0.refl _ | apply Drawn0.step)⟩
def soft_isNaN.f (a0 : Int) : Option (Bool) := some (decide ((Go.bits .andNot .u64 a0 9223372036854775808) > 9218868437227405312))
set_option maxRecDepth 100000 in
theorem soft_isNaN.calls (a0 : Int) (r : Bool) (w : World) (h : soft_isNaN.f a0 = some r) :
  Calls Tryz.prog 59 #[.int .u64 a0] w fun e w' => e = .returned (.bool r) ∧ Drawn0 w w' := by
 have H : (some (decide ((Go.bits .andNot .u64 a0 9223372036854775808) > 9218868437227405312))) = some r := h
 clear h
 obtain rfl := Option.some.inj H
 go_enter Tryz.func59, Tryz.ntmps59
 go_wp2
 go_ret
 exact ⟨by first | rfl | (simp; done) | (simp [*]; done), by repeat (first | exact Drawn0.refl _ | apply Drawn0.step)⟩
def soft_isInf.f (a0 : Int) : Option (Bool) := some ((Go.bits .andNot .u64 a0 9223372036854775808) == 9218868437227405312)
set_option maxRecDepth 100000 in
theorem soft_isInf.calls (a0 : Int) (r : Bool) (w : World) (h : soft_isInf.f a0 = some r) :
  Calls Tryz.prog 83 #[.int .u64 a0] w fun e w' => e = .returned (.bool r) ∧ Drawn0 w w' := by
 have H : (some ((Go.bits .andNot .u64 a0 9223372036854775808) == 9218868437227405312)) = some r := h
 clear h
 obtain rfl := Option.some.inj H
 go_enter Tryz.func83, Tryz.ntmps83
 go_wp2
 go_ret
 exact ⟨by first | rfl | (simp; done) | (simp [*]; done), by repeat (first | exact Drawn0.refl _ | apply Drawn0.step)⟩
def soft_isNeg.f (a0 : Int) : Option (Bool) := some ((a0 / 9223372036854775808) == 1)
set_option maxRecDepth 100000 in
theorem soft_isNeg.calls (a0 : Int) (r : Bool) (w : World) (h : soft_isNeg.f a0 = some r) :
  Calls Tryz.prog 109 #[.int .u64 a0] w fun e w' => e = .returned (.bool r) ∧ Drawn0 w w' := by
 have H : (some ((a0 / 9223372036854775808) == 1)) = some r := h
 clear h
 obtain rfl := Option.some.inj H
 go_enter Tryz.func109, Tryz.ntmps109
 go_wp2
 go_ret
 exact ⟨by first | rfl | (simp; done) | (simp [*]; done), by repeat (first | exact Drawn0.refl _ | apply Drawn0.step)⟩
end Go.Proofs.YtdoeigngpemcgaaGreatDoor.PDec
namespace Go.Proofs.YtdoeigngpemcgaaGreatDoor.Dec
open Go.RowKit Go.Proofs.YtdoeigngpemcgaaGreatDoor.PDec Go.Proofs.YtdoeigngpemcgaaGreatDoor.Pure Go.Proofs.YtdoeigngpemcgaaGreatDoorW.PrintWords Go.Proofs.YtdoeigngpemcgaaGreatDoorW.PrintLast Go.Proofs.YtdoeigngpemcgaaGreatDoorW.PrintMore
attribute [local go_sem] max2_int min2_int max_two min_two max_three min_three max_four min_four
/-- the upper and the lower word -/
def hiW (M : Nat) : Int := ((M / 18446744073709551616 : Nat) : Int)
def loW (M : Nat) : Int := ((M % 18446744073709551616 : Nat) : Int)
theorem shl64 (a n : Nat) (hn : n ≤ 64) : shl .u64 (a : Int) (n : Int) = ((a * 2 ^ n % 18446744073709551616 : Nat) : Int) := by
 unfold shl
 rw [Int.toNat_natCast, show min n IntKind.u64.bits = n from Nat.min_eq_left hn]
 rw [IntKind.wrap_u64, Int.natCast_emod, Int.natCast_mul, Int.natCast_pow]
 rfl
theorem shr64 (a n : Nat) (hn : n ≤ 64) : shr .u64 (a : Int) (n : Int) = ((a / 2 ^ n : Nat) : Int) := by
 unfold shr
 rw [Int.toNat_natCast, show min n IntKind.u64.bits = n from Nat.min_eq_left hn]
 push_cast
 rfl
theorem or64_zero (a b : Nat) (ha : a < 18446744073709551616) (hb : b < 18446744073709551616) : bits .or .u64 (a : Int) (b : Int) = 0 ↔ a = 0 ∧ b = 0 := by
 rw [u64_or_nat a b ha hb]
 constructor
 ·intro h
  have h1 : a ||| b = 0 := by omega
  exact Nat.or_eq_zero_iff.1 h1
 ·rintro ⟨rfl, rfl⟩; rfl
theorem hi_lt {M : Nat} (hM : M < 2 ^ 128) : M / 18446744073709551616 < 18446744073709551616 := by
 rw [Nat.div_lt_iff_lt_mul (by decide)]
 exact hM
theorem lo_lt (M : Nat) : M % 18446744073709551616 < 18446744073709551616 := Nat.mod_lt _ (by decide)
/-- bits shifted out at the top: none, if the lower part is empty -/
theorem top_lost (x n d : Nat) (h : n + d = 64) (_hx : x < 18446744073709551616) : x * 2 ^ d % 18446744073709551616 = 0 ↔ x % 2 ^ n = 0 := by
 rw [show (18446744073709551616 : Nat) = 2 ^ n * 2 ^ d by rw [← Nat.pow_add, h], Nat.mul_mod_mul_right]
 constructor
 ·intro e
  rcases Nat.mul_eq_zero.1 e with e | e
  ·exact e
  ·exact absurd e (Nat.ne_of_gt (Nat.two_pow_pos d))
 ·intro e; rw [e]; simp
theorem right_f (M n : Nat) (hM : M < 2 ^ 128) (hn : n ≤ 1000000) : soft_right.f (hiW M) (loW M) (n : Int) = some (hiW (M / 2 ^ n), loW (M / 2 ^ n), decide (M % 2 ^ n ≠ 0)) := by
 have h1 := hi_lt hM
 have h2 := lo_lt M
 have hd := Nat.div_add_mod M 18446744073709551616
 unfold soft_right.f hiW loW
 by_cases c1 : 128 ≤ n
 ·rw [if_pos (by omega)]
  have hz : M < 2 ^ n := Nat.lt_of_lt_of_le hM (Nat.pow_le_pow_right (by decide) c1)
  rw [Nat.div_eq_of_lt hz, Nat.mod_eq_of_lt hz]
  have : (bits .or .u64 ((M / 18446744073709551616 : Nat) : Int) ((M % 18446744073709551616 : Nat) : Int) != 0) = decide (M ≠ 0) := by
   rw [Bool.eq_iff_iff, bne_iff_ne, decide_eq_true_iff, Ne, or64_zero _ _ h1 h2]
   omega
  rw [this]
  simp
 ·rw [if_neg (by omega)]
  by_cases c2 : 64 ≤ n
  ·rw [if_pos (by omega)]
   obtain ⟨t, rfl⟩ : ∃ t, n = 64 + t := ⟨n - 64, by omega⟩
   have e1 : wrap64 (((64 + t : Nat) : Int) - 64) = (t : Int) := by rw [i64_id (by omega) (by omega)]; omega
   have e2 : wrap64 (128 - ((64 + t : Nat) : Int)) = ((64 - t : Nat) : Int) := by rw [i64_id (by omega) (by omega)]; omega
   have hq : M / 2 ^ (64 + t) = M / 18446744073709551616 / 2 ^ t := by rw [Nat.pow_add, ← Nat.div_div_eq_div_mul]
   have hm : M % 2 ^ (64 + t) = 18446744073709551616 * (M / 18446744073709551616 % 2 ^ t) + M % 18446744073709551616 := by
    rw [Nat.pow_add, Nat.mod_mul]
    exact Nat.add_comm _ _
   have hl : M / 18446744073709551616 / 2 ^ t < 18446744073709551616 := Nat.lt_of_le_of_lt (Nat.div_le_self _ _) h1
   rw [e1, e2, if_pos (by omega), shr64 _ _ (by omega), hq, Nat.div_eq_of_lt hl, Nat.mod_eq_of_lt hl]
   by_cases c3 : M % 18446744073709551616 = 0
   ·rw [if_pos (by omega), if_pos (by omega), shl64 _ _ (by omega)]
    by_cases c4 : M / 18446744073709551616 % 2 ^ t = 0
    ·rw [if_pos (by rw [(top_lost _ t (64 - t) (by omega) h1).2 c4]; rfl), hm, c3, c4]
     simp
    ·have ht : t ≠ 0 := by rintro rfl; exact c4 (by rw [Nat.pow_zero, Nat.mod_one])
     rw [if_neg (fun h => c4 ((top_lost _ t (64 - t) (by omega) h1).1 (by omega))), hm, c3]
     have : (decide (((64 + t : Nat) : Int) > 64)) = true := decide_eq_true (by omega)
     rw [this]
     have h3 : decide (18446744073709551616 * (M / 18446744073709551616 % 2 ^ t) + 0 ≠ 0) = true := decide_eq_true (by omega)
     rw [h3]
     rfl
   ·rw [if_neg (by omega)]
    have h3 : decide (M % 2 ^ (64 + t) ≠ 0) = true := decide_eq_true (by omega)
    rw [h3]
    rfl
  ·rw [if_neg (by omega)]
   by_cases c3 : n = 0
   ·subst c3
    rw [if_pos (by omega), Nat.pow_zero, Nat.div_one, Nat.mod_one]
    rfl
   ·rw [if_neg (by omega), if_pos (by omega)]
    have e1 : wrap64 (64 - (n : Int)) = ((64 - n : Nat) : Int) := by rw [i64_id (by omega) (by omega)]; omega
    rw [e1, if_pos (by omega), shr64 _ _ (by omega), shr64 _ _ (by omega), shl64 _ _ (by omega), shl64 _ _ (by omega)]
    have hp : (2 : Nat) ^ 64 = 2 ^ n * 2 ^ (64 - n) := by rw [← Nat.pow_add, show n + (64 - n) = 64 by omega]
    have hq : M / 2 ^ n / 18446744073709551616 = M / 18446744073709551616 / 2 ^ n := by rw [Nat.div_div_eq_div_mul, Nat.div_div_eq_div_mul, Nat.mul_comm]
    have hlow : M % 18446744073709551616 / 2 ^ n < 2 ^ (64 - n) := by
     rw [Nat.div_lt_iff_lt_mul (Nat.two_pow_pos n), Nat.mul_comm, ← hp]
     exact h2
    have hsum : M / 2 ^ n = M / 18446744073709551616 * 2 ^ (64 - n) + M % 18446744073709551616 / 2 ^ n := by
     have e : M = M % 18446744073709551616 + (M / 18446744073709551616 * 2 ^ (64 - n)) * 2 ^ n := by
      rw [Nat.mul_assoc, Nat.mul_comm (2 ^ (64 - n)), ← hp]
      omega
     have e' : (M % 18446744073709551616 + (M / 18446744073709551616 * 2 ^ (64 - n)) * 2 ^ n) / 2 ^ n = M % 18446744073709551616 / 2 ^ n + M / 18446744073709551616 * 2 ^ (64 - n) := Nat.add_mul_div_right _ _ (Nat.two_pow_pos n)
     rw [← e] at e'
     omega
    have hmod : M % 2 ^ n = M % 18446744073709551616 % 2 ^ n := by
     rw [show (18446744073709551616 : Nat) = 2 ^ n * 2 ^ (64 - n) from hp, Nat.mod_mul_right_mod]
    have hdiv : 2 ^ (64 - n) ∣ 18446744073709551616 := ⟨2 ^ n, by rw [Nat.mul_comm]; exact hp⟩
    have hz : (M / 18446744073709551616 * 2 ^ (64 - n) % 18446744073709551616) % 2 ^ (64 - n) = 0 := by
     rw [Nat.mod_mod_of_dvd _ hdiv, Nat.mul_mod_left]
    have hlo : M / 2 ^ n % 18446744073709551616 = (M / 18446744073709551616 * 2 ^ (64 - n) % 18446744073709551616) + M % 18446744073709551616 / 2 ^ n := by
     rw [hsum, Nat.add_mod, Nat.mod_eq_of_lt (a := M % 18446744073709551616 / 2 ^ n) (Nat.lt_of_le_of_lt (Nat.div_le_self _ _) h2)]
     refine Nat.mod_eq_of_lt ?_
     obtain ⟨x, hx⟩ : ∃ x, M / 18446744073709551616 * 2 ^ (64 - n) % 18446744073709551616 = 2 ^ (64 - n) * x := ⟨_, (Nat.mul_div_cancel' (Nat.dvd_of_mod_eq_zero hz)).symm⟩
     have hx2 : 2 ^ (64 - n) * x < 2 ^ (64 - n) * 2 ^ n := by
      rw [← hx, Nat.mul_comm _ (2 ^ n), ← hp]
      exact lo_lt _
     have hx3 : x < 2 ^ n := Nat.lt_of_mul_lt_mul_left hx2
     have hx4 : 2 ^ (64 - n) * (x + 1) ≤ 2 ^ (64 - n) * 2 ^ n := Nat.mul_le_mul_left _ hx3
     rw [Nat.mul_add, Nat.mul_one, Nat.mul_comm _ (2 ^ n), ← hp] at hx4
     rw [hx]
     have : (2 : Nat) ^ 64 = 18446744073709551616 := rfl
     omega
    have hor : bits .or .u64 ((M % 18446744073709551616 / 2 ^ n : Nat) : Int) ((M / 18446744073709551616 * 2 ^ (64 - n) % 18446744073709551616 : Nat) : Int) = ((M / 2 ^ n % 18446744073709551616 : Nat) : Int) := by
     rw [u64_or_nat _ _ (Nat.lt_of_le_of_lt (Nat.div_le_self _ _) h2) (lo_lt _), Nat.or_comm, nat_join (64 - n) _ _ hz hlow, hlo]
    have hbo : (((M % 18446744073709551616 * 2 ^ (64 - n) % 18446744073709551616 : Nat) : Int) != 0) = decide (M % 2 ^ n ≠ 0) := by
     rw [Bool.eq_iff_iff, bne_iff_ne, decide_eq_true_iff, hmod, Ne, Ne, ← top_lost (M % 18446744073709551616) n (64 - n) (by omega) h2]
     omega
    rw [hor, hbo, hq]
theorem length_f (M : Nat) (hM : M < 2 ^ 128) : soft_length.f 0 (hiW M) (loW M) = some ((Num.bitsN M : Nat) : Int) := by
 have h1 := hi_lt hM
 have h2 := lo_lt M
 have hd := Nat.div_add_mod M 18446744073709551616
 unfold soft_length.f bits_Len64.f hiW loW
 by_cases c : M / 18446744073709551616 = 0
 ·rw [if_neg (by omega), if_pos (by omega)]
  rw [Option.bind_some, Int.toNat_natCast, Num.bitLen_bitsN h2, Nat.mod_eq_of_lt (by omega)]
 ·rw [if_pos (by omega), if_pos (by omega), Option.bind_some, Int.toNat_natCast, Num.bitLen_bitsN h1]
  have hb := Num.bitsN_mul (v := M / 18446744073709551616) (by omega) 64 (M % 18446744073709551616) h2
  rw [show M / 18446744073709551616 * 2 ^ 64 + M % 18446744073709551616 = M by
   have : (2 : Nat) ^ 64 = 18446744073709551616 := rfl
   rw [this, Nat.mul_comm]; exact hd] at hb
  have hle : Num.bitsN (M / 18446744073709551616) ≤ 64 := by
   rcases Nat.lt_or_ge 64 (Num.bitsN (M / 18446744073709551616)) with q | q
   ·exfalso
    have := Num.bitsN_le (v := M / 18446744073709551616) (by omega)
    have h3 : 2 ^ 64 ≤ 2 ^ (Num.bitsN (M / 18446744073709551616) - 1) := Nat.pow_le_pow_right (by decide) (by omega)
    have : (2 : Nat) ^ 64 = 18446744073709551616 := rfl
    omega
   ·exact q
  rw [hb, i64_id (by omega) (by omega)]
  congr 1
  omega
section
variable (w : World)
theorem s_right (M n : Nat) (hM : M < 2 ^ 128) (hn : n ≤ 1000000) : Calls Tryz.prog 172 #[.int .u64 (hiW M), .int .u64 (loW M), .int .i64 (n : Int)] w fun e w' => e = .returned (.tuple #[.int .u64 (hiW (M / 2 ^ n)), .int .u64 (loW (M / 2 ^ n)), .bool (decide (M % 2 ^ n ≠ 0))]) ∧ Drawn0 w w' :=
 soft_right.calls _ _ _ _ _ _ w (right_f M n hM hn)
theorem s_length (M : Nat) (hM : M < 2 ^ 128) : Calls Tryz.prog 171 #[.int .u64 (hiW M), .int .u64 (loW M)] w fun e w' => e = .returned (.int .i64 ((Num.bitsN M : Nat) : Int)) ∧ Drawn0 w w' :=
 soft_length.calls 0 _ _ _ w (length_f M hM)
end
end Go.Proofs.YtdoeigngpemcgaaGreatDoor.Dec
namespace Go.Flt
open Go.Num
/-- m by 2^t, rounded to the nearest, of two the even one -/
def rne (m t : Nat) : Nat := if 2 ^ t < 2 * (m % 2 ^ t) ∨ (2 * (m % 2 ^ t) = 2 ^ t ∧ m / 2 ^ t % 2 = 1) then m / 2 ^ t + 1 else m / 2 ^ t
/-- the exponent of the last digit -/
def expo (m : Nat) (e : Int) : Int := max ((bitsN m : Int) + e - 53) (-1074)
/-- the pattern (without the sign) of m times 2^e, rounded once -/
def mkN (m : Nat) (e : Int) : Nat :=
 if m = 0 then 0 else min 9218868437227405312 ((expo m e + 1074).toNat * 4503599627370496 + (if expo m e ≤ e then m * 2 ^ (e - expo m e).toNat else rne m (expo m e - e).toNat))
/-- cut at t digits, the last one set if something was lost -/
def odd (m t : Nat) : Nat := if m % 2 ^ t = 0 then m / 2 ^ t else m / 2 ^ t / 2 * 2 + 1
theorem odd_div (m t : Nat) : odd m t / 2 = m / 2 ^ t / 2 := by
 unfold odd
 split <;> omega
theorem bits_half {v n : Nat} (h : bitsN v = n + 2) : bitsN (v / 2) = n + 1 := by
 have hv : 0 < v := by
  rcases Nat.eq_zero_or_pos v with h0 | h0
  ·rw [h0, bitsN_zero] at h; omega
  ·exact h0
 have a := bitsN_lt v
 have b := bitsN_le hv
 rw [h] at a b
 rw [show n + 2 - 1 = n + 1 by omega, Nat.pow_succ] at b
 rw [Nat.pow_succ] at a
 exact bitsN_eq (by omega) (by omega)
theorem bits_div {m t n : Nat} (h : bitsN m = t + (n + 1)) : bitsN (m / 2 ^ t) = n + 1 := by
 have hm : 0 < m := by
  rcases Nat.eq_zero_or_pos m with h0 | h0
  ·rw [h0, bitsN_zero] at h; omega
  ·exact h0
 have a := bitsN_lt m
 have b := bitsN_le hm
 rw [h] at a b
 rw [show t + (n + 1) - 1 = n + t by omega, Nat.pow_add] at b
 rw [Nat.add_comm t, Nat.pow_add] at a
 exact bitsN_eq ((Nat.le_div_iff_mul_le (Nat.two_pow_pos t)).2 b) ((Nat.div_lt_iff_lt_mul (Nat.two_pow_pos t)).2 a)
theorem bits_odd {m t n : Nat} (h : bitsN m = t + (n + 2)) : bitsN (odd m t) = n + 2 := by
 have h1 := bits_div (n := n + 1) h
 have h2 : bitsN (m / 2 ^ t / 2) = n + 1 := bits_half h1
 unfold odd
 split
 ·exact h1
 ·have hp : 0 < m / 2 ^ t / 2 := by
   rcases Nat.eq_zero_or_pos (m / 2 ^ t / 2) with h0 | h0
   ·rw [h0, bitsN_zero] at h2; omega
   ·exact h0
  have := bitsN_mul hp 1 1 (by decide)
  rw [h2, Nat.pow_one] at this
  exact this
theorem div_pow_add (m s t : Nat) : m / 2 ^ (s + t) = m / 2 ^ t / 2 ^ s := by rw [Nat.add_comm, Nat.pow_add, Nat.div_div_eq_div_mul]
theorem mod_pow_add (m s t : Nat) : m % 2 ^ (s + t) = 2 ^ t * (m / 2 ^ t % 2 ^ s) + m % 2 ^ t := by
 rw [Nat.add_comm s t, Nat.pow_add, Nat.mod_mul]
 omega
theorem odd_high (m t s : Nat) (hs : 1 ≤ s) : odd m t / 2 ^ s = m / 2 ^ t / 2 ^ s := by
 obtain ⟨r, rfl⟩ : ∃ r, s = r + 1 := ⟨s - 1, by omega⟩
 have e : ∀ a : Nat, a / 2 ^ (r + 1) = a / 2 / 2 ^ r := fun a => by rw [Nat.pow_succ, Nat.mul_comm, Nat.div_div_eq_div_mul]
 rw [e, e, odd_div]
/-- rounding sees no more of what was lost than whether something was -/
theorem rne_odd (m t s : Nat) (hs : 2 ≤ s) : rne (odd m t) s = rne m (s + t) := by
 obtain ⟨r, rfl⟩ : ∃ r, s = r + 2 := ⟨s - 2, by omega⟩
 have hh := odd_high m t (r + 2) (by omega)
 have hd := div_pow_add m (r + 2) t
 have hm := mod_pow_add m (r + 2) t
 have e1 : (2 : Nat) ^ (r + 2) = 4 * 2 ^ r := by rw [Nat.pow_add]; omega
 have e2 : (2 : Nat) ^ (r + 2 + t) = 2 ^ t * (4 * 2 ^ r) := by rw [Nat.pow_add, e1, Nat.mul_comm]
 -- the digits cut off
 have hlt := Nat.mod_lt m (Nat.two_pow_pos t)
 have hx : odd m t % 2 ^ (r + 2) = if m % 2 ^ t = 0 then m / 2 ^ t % 2 ^ (r + 2) else m / 2 ^ t % 2 ^ (r + 2) / 2 * 2 + 1 := by
  unfold odd
  split
  ·rfl
  ·have e3 : (2 : Nat) ^ (r + 2) = 2 * (2 * 2 ^ r) := by rw [e1]; omega
   rw [e3]
   generalize 2 * 2 ^ r = k
   generalize m / 2 ^ t = a
   have h1 : (a / 2 * 2 + 1) % (2 * k) = 2 * (a / 2 % k) + 1 := by
    rw [Nat.mod_mul, show (a / 2 * 2 + 1) / 2 = a / 2 by omega]
    omega
   have h2 : a % (2 * k) / 2 = a / 2 % k := by
    rw [Nat.mod_mul]
    omega
   rw [h1, h2]
   omega
 unfold rne
 rw [hh, hx, hd, hm, e2, e1]
 have hxl : m / 2 ^ t % (4 * 2 ^ r) < 4 * 2 ^ r := Nat.mod_lt _ (by have := Nat.two_pow_pos r; omega)
 rw [e1] at *
 generalize m / 2 ^ t % (4 * 2 ^ r) = x at *
 generalize m % 2 ^ t = y at *
 have hp := Nat.two_pow_pos t
 have hr := Nat.two_pow_pos r
 generalize 2 ^ t = T at *
 generalize 2 ^ r = K at *
 have c1 : (4 * K < 2 * (if y = 0 then x else x / 2 * 2 + 1)) ↔ (T * (4 * K) < 2 * (T * x + y)) := by
  have f1 : T * (4 * K) = 2 * (T * (2 * K)) := by rw [show 4 * K = 2 * (2 * K) by omega, Nat.mul_left_comm]
  rw [f1]
  by_cases y0 : y = 0
  ·subst y0
   rw [if_pos rfl, Nat.add_zero]
   constructor
   ·intro h
    have : T * (2 * K) < T * x := Nat.mul_lt_mul_of_pos_left (by omega) hp
    omega
   ·intro h
    have : T * (2 * K) < T * x := by omega
    have := Nat.lt_of_mul_lt_mul_left this
    omega
  ·rw [if_neg y0]
   constructor
   ·intro h
    have : T * (2 * K) ≤ T * x := Nat.mul_le_mul_left _ (by omega)
    omega
   ·intro h
    have h1 : T * (2 * K) < T * (x + 1) := by rw [Nat.mul_add]; omega
    have := Nat.lt_of_mul_lt_mul_left h1
    omega
 have c2 : (2 * (if y = 0 then x else x / 2 * 2 + 1) = 4 * K) ↔ (2 * (T * x + y) = T * (4 * K)) := by
  have f1 : T * (4 * K) = 2 * (T * (2 * K)) := by rw [show 4 * K = 2 * (2 * K) by omega, Nat.mul_left_comm]
  rw [f1]
  by_cases y0 : y = 0
  ·subst y0
   rw [if_pos rfl, Nat.add_zero]
   constructor
   ·intro h
    have : x = 2 * K := by omega
    rw [this]
   ·intro h
    have : x = 2 * K := Nat.eq_of_mul_eq_mul_left hp (by omega)
    omega
  ·rw [if_neg y0]
   constructor
   ·intro h; omega
   ·intro h
    exfalso
    have h1 : T * x + y = T * (2 * K) := by omega
    have h2 : T * x < T * (2 * K) := by omega
    have h3 := Nat.lt_of_mul_lt_mul_left h2
    have h4 : T * (x + 1) ≤ T * (2 * K) := Nat.mul_le_mul_left _ h3
    rw [Nat.mul_add] at h4
    omega
 simp only [c1, c2]
/-- what is lost does not count beyond its being there -/
theorem mkN_odd (m t : Nat) (e : Int) (h : t + 55 ≤ bitsN m) : mkN (odd m t) (e + t) = mkN m e := by
 obtain ⟨n, hn⟩ : ∃ n, bitsN m = t + (n + 2) := ⟨bitsN m - t - 2, by omega⟩
 have hb := bits_odd hn
 have hm : m ≠ 0 := by
  intro h0
  rw [h0, bitsN_zero] at hn
  omega
 have ho : odd m t ≠ 0 := by
  intro h0
  rw [h0, bitsN_zero] at hb
  omega
 have hexp : expo (odd m t) (e + t) = expo m e := by
  unfold expo
  rw [hb, hn]
  congr 1
  omega
 have hq : expo m e ≥ (bitsN m : Int) + e - 53 := by unfold expo; omega
 unfold mkN
 rw [if_neg hm, if_neg ho, hexp, if_neg (by omega), if_neg (by omega)]
 congr 2
 have := rne_odd m t (expo m e - (e + t)).toNat (by omega)
 rw [this]
 congr 1
 omega
theorem rne_le (m t : Nat) : rne m t ≤ m / 2 ^ t + 1 := by unfold rne; split <;> omega
theorem rne_ge (m t : Nat) : m / 2 ^ t ≤ rne m t := by unfold rne; split <;> omega
/-- the digits that are kept -/
def keep (m : Nat) (e : Int) : Nat := if expo m e ≤ e then m * 2 ^ (e - expo m e).toNat else rne m (expo m e - e).toNat
theorem mkN_keep {m : Nat} (h : m ≠ 0) (e : Int) : mkN m e = min 9218868437227405312 ((expo m e + 1074).toNat * 4503599627370496 + keep m e) := by
 unfold mkN keep
 rw [if_neg h]
theorem keep_le {m : Nat} (_hm : 0 < m) (e : Int) : keep m e ≤ 9007199254740992 := by
 have hq : expo m e ≥ (bitsN m : Int) + e - 53 := by unfold expo; omega
 have a := bitsN_lt m
 have h53 : (2 : Nat) ^ 53 = 9007199254740992 := by decide
 unfold keep
 split
 ·rename_i c
  have h1 : m * 2 ^ (e - expo m e).toNat < 2 ^ bitsN m * 2 ^ (e - expo m e).toNat := Nat.mul_lt_mul_of_pos_right a (Nat.two_pow_pos _)
  rw [← Nat.pow_add] at h1
  have h2 : 2 ^ (bitsN m + (e - expo m e).toNat) ≤ 2 ^ 53 := Nat.pow_le_pow_right (by decide) (by omega)
  omega
 ·rename_i c
  have h1 := rne_le m (expo m e - e).toNat
  have h2 : m / 2 ^ (expo m e - e).toNat < 2 ^ 53 := by
   rw [Nat.div_lt_iff_lt_mul (Nat.two_pow_pos _), ← Nat.pow_add]
   exact Nat.lt_of_lt_of_le a (Nat.pow_le_pow_right (by decide) (by omega))
  omega
theorem keep_ge {m : Nat} (hm : 0 < m) {e : Int} (h : -1074 < expo m e) : 4503599627370496 ≤ keep m e := by
 have hq : expo m e = (bitsN m : Int) + e - 53 := by unfold expo at h ⊢; omega
 have b := bitsN_le hm
 have hb := bitsN_pos hm
 have h52 : (2 : Nat) ^ 52 = 4503599627370496 := by decide
 unfold keep
 split
 ·rename_i c
  have h1 : 2 ^ (bitsN m - 1) * 2 ^ (e - expo m e).toNat ≤ m * 2 ^ (e - expo m e).toNat := Nat.mul_le_mul_right _ b
  rw [← Nat.pow_add, show bitsN m - 1 + (e - expo m e).toNat = 52 by omega] at h1
  omega
 ·rename_i c
  have h1 := rne_ge m (expo m e - e).toNat
  have h2 : 2 ^ 52 ≤ m / 2 ^ (expo m e - e).toNat := by
   rw [Nat.le_div_iff_mul_le (Nat.two_pow_pos _), ← Nat.pow_add, show 52 + (expo m e - e).toNat = bitsN m - 1 by omega]
   exact b
  omega
theorem expo_ge (m : Nat) (e : Int) : -1074 ≤ expo m e := by unfold expo; omega
/-- up or not, seen from the half -/
def hal (m t r : Nat) : Nat := if m / 2 ^ t % 2 = 1 ∧ (m % 2 ^ t ≠ 0 ∨ r = 1 ∨ m / 2 ^ t / 2 % 2 = 1) then m / 2 ^ t / 2 + 1 else m / 2 ^ t / 2
/-- a number of digits and a rest, cut and rounded, with the exponent of the last digit: as soft.round walks -/
def rnd (m : Nat) (e : Int) (r : Nat) : Nat × Int :=
 if expo m e ≤ e then (m * 2 ^ (e - expo m e).toNat, expo m e)
 else if hal m (expo m e - e - 1).toNat r = 9007199254740992 then (hal m (expo m e - e - 1).toNat r / 2, expo m e + 1) else (hal m (expo m e - e - 1).toNat r, expo m e)
/-- the float of it: as soft.pack walks -/
def packN (m : Nat) (e : Int) (r : Nat) : Nat :=
 if m = 0 then 0 else if 971 < (rnd m e r).2 then 9218868437227405312
 else if (rnd m e r).1 < 4503599627370496 then (rnd m e r).1
 else ((rnd m e r).2 + 1075).toNat * 4503599627370496 + ((rnd m e r).1 - 4503599627370496)
theorem expo_rest {m r : Nat} (hm : 0 < m) (hr : r ≤ 1) (e : Int) : expo (2 * m + r) (e - 1) = expo m e := by
 have := bitsN_mul hm 1 r (by omega)
 rw [Nat.pow_one, Nat.mul_comm] at this
 unfold expo
 rw [this]
 omega
/-- up or not, seen from the half -/
theorem rne_half (m r t : Nat) (hr : r ≤ 1) : rne (2 * m + r) (t + 2) = hal m t r := by
 have hp := Nat.two_pow_pos t
 have e2 : (2 : Nat) ^ (t + 2) = 4 * 2 ^ t := by rw [Nat.pow_add, Nat.mul_comm]
 have ed : (2 * m + r) / 2 ^ (t + 2) = m / 2 ^ t / 2 := by
  rw [show (2 : Nat) ^ (t + 2) = 2 * (2 ^ t * 2) by rw [e2]; omega, ← Nat.div_div_eq_div_mul, show (2 * m + r) / 2 = m by omega, ← Nat.div_div_eq_div_mul]
 have em := Nat.div_add_mod (2 * m + r) (2 ^ (t + 2))
 have ml := Nat.mod_lt m hp
 have mm := Nat.div_add_mod m (2 ^ t)
 rw [ed, e2] at em
 unfold rne hal
 rw [ed, e2]
 generalize (2 * m + r) % (4 * 2 ^ t) = R at em ⊢
 generalize hz : m % 2 ^ t = z at ml mm ⊢
 generalize hh : m / 2 ^ t = h at mm em ⊢
 generalize 2 ^ t = p at *
 have e4 : 4 * p * (h / 2) = 2 * (p * (2 * (h / 2))) := by
  rw [Nat.mul_assoc, Nat.mul_left_comm p 2]; omega
 rcases (show h % 2 = 0 ∨ h % 2 = 1 by omega) with c | c
 ·rw [show 2 * (h / 2) = h by omega] at e4
  rw [if_neg (by omega), if_neg (by omega)]
 ·have e5 : p * (2 * (h / 2)) + p = p * h := by
   rw [← Nat.mul_succ]; congr 1; omega
  have hR : R = 2 * p + 2 * z + r := by omega
  rcases (show (z ≠ 0 ∨ r = 1) ∨ (z = 0 ∧ r = 0) by omega) with d | d
  ·rw [if_pos (by omega), if_pos (by omega)]
  ·by_cases o : h / 2 % 2 = 1
   ·rw [if_pos (by omega), if_pos (by omega)]
   ·rw [if_neg (by omega), if_neg (by omega)]
theorem rnd_keep {m r : Nat} (hm : 0 < m) (hr : r ≤ 1) {e : Int} (h : r = 1 → e < expo m e) :
  rnd m e r = if keep (2 * m + r) (e - 1) = 9007199254740992 ∧ e < expo m e then (4503599627370496, expo m e + 1) else (keep (2 * m + r) (e - 1), expo m e) := by
 have hx := expo_rest hm hr e
 unfold rnd keep
 rw [hx]
 by_cases c : expo m e ≤ e
 ·have hr0 : r = 0 := by omega
  subst hr0
  rw [if_pos c, if_neg (by omega)]
  congr 1
  by_cases d : expo m e ≤ e - 1
  ·rw [if_pos d, show (e - expo m e).toNat = (e - 1 - expo m e).toNat + 1 by omega, Nat.pow_succ, Nat.mul_comm _ 2, ← Nat.mul_assoc, Nat.add_zero, Nat.mul_comm 2 m]
  ·rw [if_neg d, show expo m e = e by omega, show (e - (e - 1)).toNat = 1 by omega, show (e - e).toNat = 0 by omega]
   unfold rne
   have h1 : (2 * m + 0) % 2 ^ 1 = 0 := by omega
   have h2 : (2 * m + 0) / 2 ^ 1 = m := by omega
   rw [h1, h2, if_neg (by simp)]
   omega
 ·rw [if_neg c, if_neg (show ¬ expo m e ≤ e - 1 by omega)]
  have ht : (expo m e - (e - 1)).toNat = (expo m e - e - 1).toNat + 2 := by omega
  rw [ht, rne_half m r _ hr]
  generalize hal m (expo m e - e - 1).toNat r = n
  by_cases d : n = 9007199254740992
  ·rw [if_pos d, if_pos ⟨d, by omega⟩, d]
  ·rw [if_neg d, if_neg (fun k => d k.1)]
/-- what soft.pack packs is the float of the number and a half more for the rest -/
theorem packN_eq {m r : Nat} (hm : 0 < m) (hr : r ≤ 1) {e : Int} (h : r = 1 → e < expo m e) : packN m e r = mkN (2 * m + r) (e - 1) := by
 have hx := expo_rest hm hr e
 have hg := expo_ge m e
 rw [mkN_keep (by omega), hx]
 have kl := keep_le (m := 2 * m + r) (by omega) (e - 1)
 have kg : -1074 < expo m e → 4503599627370496 ≤ keep (2 * m + r) (e - 1) := fun k => keep_ge (by omega) (by rw [hx]; exact k)
 unfold packN
 rw [if_neg (by omega), rnd_keep hm hr h]
 generalize keep (2 * m + r) (e - 1) = n at kl kg ⊢
 generalize expo m e = q at hg kg ⊢
 by_cases c : n = 9007199254740992 ∧ e < q
 ·rw [if_pos c]
  dsimp only
  split
  ·omega
  ·split <;> omega
 ·rw [if_neg c]
  dsimp only
  split
  ·omega
  ·split <;> omega
/-- a quotient, twice, and one more if there is a rest -/
def sq (p q : Nat) : Nat := 2 * (p / q) + (if p % q = 0 then 0 else 1)
theorem sq_scale (p q c : Nat) (hc : 0 < c) : sq (p * c) (q * c) = sq p q := by
 unfold sq
 rw [Nat.mul_div_mul_right _ _ hc, Nat.mul_mod_mul_right]
 congr 1
 by_cases h : p % q = 0
 ·rw [h, Nat.zero_mul]
 ·rw [if_neg h, if_neg (Nat.mul_ne_zero h (by omega))]
theorem sq_odd (p q t : Nat) (hq : 0 < q) : odd (sq (p * 2 ^ t) q) t = sq p q := by
 rcases Nat.eq_zero_or_pos t with t0 | t0
 ·rw [t0, Nat.pow_zero, Nat.mul_one]
  unfold odd
  rw [Nat.pow_zero, Nat.mod_one, if_pos rfl, Nat.div_one]
 have hp := Nat.two_pow_pos t
 have hd : p * 2 ^ t / q / 2 ^ t = p / q := by
  rw [Nat.div_div_eq_div_mul, Nat.mul_div_mul_right _ _ hp]
 have e1 := Nat.div_add_mod (p * 2 ^ t) q
 have e2 := Nat.div_add_mod p q
 have l2 := Nat.mod_lt p hq
 have h2 : sq (p * 2 ^ t) q / 2 = p * 2 ^ t / q := by unfold sq; split <;> omega
 have h3 : sq (p * 2 ^ t) q / 2 ^ t / 2 = p / q := by
  rw [Nat.div_div_eq_div_mul, Nat.mul_comm (2 ^ t) 2, ← Nat.div_div_eq_div_mul, h2, hd]
 unfold odd
 by_cases c : sq (p * 2 ^ t) q % 2 ^ t = 0
 ·rw [if_pos c]
  obtain ⟨d, hd'⟩ : ∃ d, sq (p * 2 ^ t) q = 2 ^ t * d := ⟨_, (Nat.mul_div_cancel' (Nat.dvd_of_mod_eq_zero c)).symm⟩
  rw [hd', Nat.mul_div_cancel_left _ hp] at h3 ⊢
  by_cases z : p * 2 ^ t % q = 0
  ·have hs : 2 * (p * 2 ^ t / q) = 2 ^ t * d := by
    have : sq (p * 2 ^ t) q = 2 * (p * 2 ^ t / q) := by unfold sq; rw [if_pos z]; omega
    rw [← hd', this]
   rw [z] at e1
   have k : 2 ^ t * (2 * p) = 2 ^ t * (q * d) := by
    calc 2 ^ t * (2 * p) = 2 * (p * 2 ^ t) := by rw [Nat.mul_comm, Nat.mul_assoc]
     _ = 2 * (q * (p * 2 ^ t / q)) := by omega
     _ = q * (2 * (p * 2 ^ t / q)) := Nat.mul_left_comm _ _ _
     _ = q * (2 ^ t * d) := by rw [hs]
     _ = 2 ^ t * (q * d) := Nat.mul_left_comm _ _ _
   have k2 : 2 * p = q * d := Nat.eq_of_mul_eq_mul_left hp k
   unfold sq
   rcases (show d % 2 = 0 ∨ d % 2 = 1 by omega) with o | o
   ·have : p = q * (d / 2) := by
     have h4 : q * d = 2 * (q * (d / 2)) := by rw [← Nat.mul_left_comm]; congr 1; omega
     omega
    have hz : p % q = 0 := by rw [this]; exact Nat.mul_mod_right _ _
    rw [if_pos hz]
    omega
   ·have hz : p % q ≠ 0 := by
     intro hz
     rw [hz] at e2
     have h4 : q * d = q * (2 * (p / q)) := by rw [← k2, Nat.mul_left_comm q 2]; omega
     have := Nat.eq_of_mul_eq_mul_left hq h4
     omega
    rw [if_neg hz]
    omega
  ·exfalso
   have hs : sq (p * 2 ^ t) q = 2 * (p * 2 ^ t / q) + 1 := by unfold sq; rw [if_neg z]
   have h5 : 2 ^ t * d = 2 * (2 ^ (t - 1) * d) := by
    rw [← Nat.mul_assoc, Nat.mul_comm 2, ← Nat.pow_succ, show (t - 1).succ = t by omega]
   rw [hs, h5] at hd'
   omega
 ·rw [if_neg c, h3]
  unfold sq
  have hz : p % q ≠ 0 := by
   intro hz
   apply c
   rw [hz] at e2
   have e3 : p * 2 ^ t = q * (p / q * 2 ^ t) := by rw [← Nat.mul_assoc]; congr 1; omega
   have e4 : p * 2 ^ t % q = 0 := by rw [e3]; exact Nat.mul_mod_right _ _
   have e5 : p * 2 ^ t / q = p / q * 2 ^ t := by rw [e3, Nat.mul_div_cancel_left _ hq]
   unfold sq
   rw [if_pos e4, e5, Nat.add_zero, ← Nat.mul_assoc]
   exact Nat.mul_mod_left _ _
  rw [if_neg hz]
  omega
/-- a longer quotient gives the same float -/
theorem quo_shift {p q : Nat} (hq : 0 < q) (t : Nat) (e : Int) (h : 55 ≤ bitsN (sq p q)) : mkN (sq (p * 2 ^ t) q) e = mkN (sq p q) (e + t) := by
 rw [← sq_odd p q t hq, mkN_odd]
 have hp : 0 < p / q := by
  rcases Nat.eq_zero_or_pos (p / q) with z | z
  ·exfalso
   have : sq p q ≤ 1 := by unfold sq; split <;> omega
   have := bitsN_mono this
   have : bitsN 1 = 1 := by decide
   omega
  ·exact z
 have a : bitsN (sq p q) = bitsN (p / q) + 1 := by
  have := bitsN_mul hp 1 (if p % q = 0 then 0 else 1) (by split <;> omega)
  unfold sq
  rw [Nat.pow_one, Nat.mul_comm] at this
  exact this
 have hle : p / q * 2 ^ (t + 1) + 0 ≤ sq (p * 2 ^ t) q := by
  have : p / q * 2 ^ t ≤ p * 2 ^ t / q := by
   rw [Nat.le_div_iff_mul_le hq, Nat.mul_right_comm]
   exact Nat.mul_le_mul_right _ (Nat.div_mul_le_self p q)
  rw [Nat.pow_succ, ← Nat.mul_assoc]
  unfold sq
  omega
 have b := bitsN_mono hle
 rw [bitsN_mul hp (t + 1) 0 (Nat.two_pow_pos _)] at b
 omega
/-- the float nearest to p / q -/
def fl (p q : Nat) : Nat := mkN (sq (p * 2 ^ (bitsN q + 55)) q) (-((bitsN q + 55 : Nat) : Int) - 1)
theorem bits_long {p q : Nat} (hp : 0 < p) (hq : 0 < q) (k : Nat) (hk : bitsN q + 53 ≤ k) : 55 ≤ bitsN (sq (p * 2 ^ k) q) := by
 have h1 : 2 ^ 53 ≤ p * 2 ^ k / q := by
  rw [Nat.le_div_iff_mul_le hq]
  have a := bitsN_lt q
  have b : 2 ^ (53 + bitsN q) ≤ 2 ^ k := Nat.pow_le_pow_right (by decide) (by omega)
  rw [Nat.pow_add] at b
  have c : 2 ^ 53 * q ≤ 2 ^ 53 * 2 ^ bitsN q := Nat.mul_le_mul_left _ (by omega)
  have d : 1 * 2 ^ k ≤ p * 2 ^ k := Nat.mul_le_mul_right _ hp
  omega
 have h2 : 2 ^ 54 ≤ sq (p * 2 ^ k) q := by
  have : (2 : Nat) ^ 54 = 2 * 2 ^ 53 := by decide
  unfold sq
  omega
 have h3 := bitsN_mono h2
 have h4 : bitsN (2 ^ 54) = 55 := bitsN_eq (n := 54) (by decide) (by decide)
 omega
/-- whatever the place at which a long quotient is cut, its float is the one -/
theorem quo_fl {p q : Nat} (hp : 0 < p) (hq : 0 < q) (a b : Nat) (h : 55 ≤ bitsN (sq (p * 2 ^ a) (q * 2 ^ b))) :
  mkN (sq (p * 2 ^ a) (q * 2 ^ b)) ((b : Int) - a - 1) = fl p q := by
 have hb := Nat.two_pow_pos b
 have k := bits_long hp hq (bitsN q + 55) (by omega)
 unfold fl
 generalize bitsN q + 55 = K at k ⊢
 have x := quo_shift (Nat.mul_pos hq hb) (b + K) ((b : Int) - a - 1 - ((b + K : Nat) : Int)) h
 have y := quo_shift hq a (-(K : Int) - 1 - a) k
 rw [show (b : Int) - a - 1 - ((b + K : Nat) : Int) + ((b + K : Nat) : Int) = (b : Int) - a - 1 by omega] at x
 rw [show -(K : Int) - 1 - a + a = -(K : Int) - 1 by omega] at y
 have z : p * 2 ^ a * 2 ^ (b + K) = p * 2 ^ K * 2 ^ a * 2 ^ b := by
  rw [Nat.pow_add, Nat.mul_assoc, Nat.mul_assoc, Nat.mul_assoc]
  congr 1
  rw [Nat.mul_comm (2 ^ b), Nat.mul_left_comm]
 rw [z, sq_scale _ _ _ hb] at x
 rw [← x, ← y]
 congr 1
 omega
theorem fl_at {p q : Nat} (hp : 0 < p) (hq : 0 < q) (k : Nat) (hk : bitsN q + 53 ≤ k) : mkN (sq (p * 2 ^ k) q) (-(k : Int) - 1) = fl p q := by
 have := quo_fl hp hq k 0 (by rw [Nat.pow_zero, Nat.mul_one]; exact bits_long hp hq k hk)
 rw [Nat.pow_zero, Nat.mul_one] at this
 rw [← this]
 congr 1
 omega
theorem fl_zero (q : Nat) : fl 0 q = 0 := by
 unfold fl sq
 rw [Nat.zero_mul, Nat.zero_div, Nat.zero_mod]
 rfl
theorem rne_double (m t : Nat) : rne (2 * m) (t + 1) = rne m t := by
 have h1 : 2 * m % 2 ^ (t + 1) = 2 * (m % 2 ^ t) := by rw [Nat.pow_succ, Nat.mul_comm (2 ^ t) 2, Nat.mul_mod_mul_left]
 have h2 : 2 * m / 2 ^ (t + 1) = m / 2 ^ t := by rw [Nat.pow_succ, Nat.mul_comm (2 ^ t) 2, Nat.mul_div_mul_left _ _ (by decide)]
 have h3 : (2 : Nat) ^ (t + 1) = 2 * 2 ^ t := by rw [Nat.pow_succ, Nat.mul_comm]
 unfold rne
 rw [h1, h2, h3]
 by_cases c : 2 ^ t < 2 * (m % 2 ^ t) ∨ 2 * (m % 2 ^ t) = 2 ^ t ∧ m / 2 ^ t % 2 = 1
 ·rw [if_pos c, if_pos (by omega)]
 ·rw [if_neg c, if_neg (by omega)]
/-- twice a number, half as often -/
theorem mkN_double (m : Nat) (e : Int) : mkN (2 * m) (e - 1) = mkN m e := by
 rcases Nat.eq_zero_or_pos m with z | hm
 ·rw [z]
  unfold mkN
  rw [if_pos rfl, if_pos rfl]
 ·have hx : expo (2 * m) (e - 1) = expo m e := expo_rest hm (r := 0) (by omega) e
  rw [mkN_keep (by omega), mkN_keep (by omega), hx]
  have : keep (2 * m) (e - 1) = keep m e := by
   unfold keep
   rw [hx]
   by_cases c : expo m e ≤ e
   ·rw [if_pos c]
    by_cases d : expo m e ≤ e - 1
    ·rw [if_pos d, show (e - expo m e).toNat = (e - 1 - expo m e).toNat + 1 by omega, Nat.pow_succ, Nat.mul_comm _ 2, ← Nat.mul_assoc, Nat.mul_comm 2 m]
    ·rw [if_neg d, show expo m e = e by omega, show (e - (e - 1)).toNat = 0 + 1 by omega, show (e - e).toNat = 0 by omega, rne_double]
     unfold rne
     rw [Nat.pow_zero, Nat.mod_one, Nat.div_one, if_neg (by omega), Nat.mul_one]
   ·rw [if_neg c, if_neg (by omega), show (expo m e - (e - 1)).toNat = (expo m e - e).toNat + 1 by omega, rne_double]
  rw [this]
theorem sq_pow (m n : Nat) : sq m (2 ^ n) = odd (2 * m) n := by
 have hp := Nat.two_pow_pos n
 have hs := sq_odd m (2 ^ n) n hp
 have : sq (m * 2 ^ n) (2 ^ n) = 2 * m := by
  unfold sq
  rw [Nat.mul_mod_left, Nat.mul_div_cancel _ hp, if_pos rfl, Nat.add_zero]
 rw [this] at hs
 exact hs.symm
/-- what is cut off is told by the rest -/
theorem make_cut {m n : Nat} (e : Int) (h : n + 54 ≤ bitsN m) : mkN (2 * (m / 2 ^ n) + (if m % 2 ^ n = 0 then 0 else 1)) (e + n - 1) = mkN m e := by
 have hm : 0 < m := by
  rcases Nat.eq_zero_or_pos m with z | z
  ·rw [z, bitsN_zero] at h; omega
  ·exact z
 have hb := bitsN_mul hm 1 0 (by decide)
 rw [Nat.pow_one, Nat.mul_comm] at hb
 have a := mkN_odd (2 * m) n (e - 1) (by rw [show 2 * m = 2 * m + 0 by omega]; omega)
 rw [← sq_pow, mkN_double, show e - 1 + n = e + n - 1 by omega] at a
 exact a
/-- a number whose digits end above the highest place is an infinity -/
theorem mkN_big {m : Nat} {e : Int} (hm : 0 < m) (h : 971 < expo m e) : mkN m e = 9218868437227405312 := by
 have kg := keep_ge hm (e := e) (by omega)
 rw [mkN_keep (by omega)]
 omega
/-- less than half of the least one is a 0 -/
theorem mkN_small {m : Nat} {e : Int} (h : (bitsN m : Int) + e < -1074) : mkN m e = 0 := by
 rcases Nat.eq_zero_or_pos m with z | hm
 ·rw [z]
  unfold mkN
  rw [if_pos rfl]
 ·have hx : expo m e = -1074 := by unfold expo; omega
  have hb := bitsN_pos hm
  rw [mkN_keep (by omega), hx]
  have : keep m e = 0 := by
   unfold keep
   rw [hx, if_neg (by omega)]
   have hl := bitsN_lt m
   have hp : 2 * 2 ^ bitsN m ≤ 2 ^ (-1074 - e).toNat := by
    rw [Nat.mul_comm, ← Nat.pow_succ]
    exact Nat.pow_le_pow_right (by decide) (by omega)
   generalize (-1074 - e).toNat = P at hp ⊢
   unfold rne
   rw [Nat.mod_eq_of_lt (by omega), Nat.div_eq_of_lt (by omega), if_neg (by omega)]
  rw [this]
  have : ((-1074 : Int) + 1074).toNat = 0 := rfl
  rw [this]
  omega
end Go.Flt
namespace Go.Proofs.YtdoeigngpemcgaaGreatDoor.Dec
open Go.RowKit Go.Flt Go.Proofs.YtdoeigngpemcgaaGreatDoor.PDec Go.Proofs.YtdoeigngpemcgaaGreatDoor.Pure Go.Proofs.YtdoeigngpemcgaaGreatDoorW.PrintWords Go.Proofs.YtdoeigngpemcgaaGreatDoorW.PrintLast Go.Proofs.YtdoeigngpemcgaaGreatDoorW.PrintMore
attribute [local go_sem] max2_int min2_int max_two min_two max_three min_three max_four min_four
theorem bits_le_128 {M : Nat} (hM : M < 2 ^ 128) : Num.bitsN M ≤ 128 := by
 rcases Nat.eq_zero_or_pos M with h | h
 ·subst h; rw [Num.bitsN_zero]; omega
 ·rcases Nat.lt_or_ge 128 (Num.bitsN M) with q | q
  ·exfalso
   have h1 := Num.bitsN_le h
   have h3 : 2 ^ 128 ≤ 2 ^ (Num.bitsN M - 1) := Nat.pow_le_pow_right (by decide) (by omega)
   omega
  ·exact q
theorem i64w_id {x : Int} (h0 : -9223372036854775808 ≤ x) (h1 : x ≤ 9223372036854775807) : IntKind.i64.wrap x = x := (i64_w x).trans (i64_id h0 h1)
/-- the digits kept: a shift to the left -/
theorem s_round_l (w : World) (M : Nat) (hM : M < 2 ^ 128) (h0 : 0 < M) (e : Int) (he : -300000 ≤ e) (he2 : e ≤ 300000) (r : Bool) (hq : expo M e ≤ e) :
  Calls Tryz.prog 156 #[.agg #[.int .i64 53, .int .i64 (-1074), .int .i64 971], .int .u64 (hiW M), .int .u64 (loW M), .int .i64 e, .bool r] w fun x w' => x = .returned (.tuple #[.int .u64 ((M * 2 ^ (e - expo M e).toNat : Nat) : Int), .int .i64 (expo M e)]) ∧ Below w.heap.size w w' := by
 have hb := bits_le_128 hM
 have hlt := Num.bitsN_lt M
 have hx : expo M e = max ((Num.bitsN M : Int) + e - 53) (-1074) := rfl
 obtain ⟨d, hd⟩ : ∃ d : Nat, (d : Int) = e - expo M e := ⟨(e - expo M e).toNat, by omega⟩
 have hsz : M * 2 ^ d < 18446744073709551616 := by
  have h1 : M * 2 ^ d < 2 ^ Num.bitsN M * 2 ^ d := Nat.mul_lt_mul_of_pos_right hlt (Nat.two_pow_pos d)
  rw [← Nat.pow_add] at h1
  have h2 : 2 ^ (Num.bitsN M + d) ≤ 2 ^ 64 := Nat.pow_le_pow_right (by decide) (by omega)
  have : (2 : Nat) ^ 64 = 18446744073709551616 := rfl
  omega
 have hMs : M < 18446744073709551616 := Nat.lt_of_le_of_lt (Nat.le_mul_of_pos_right M (Nat.two_pow_pos d)) hsz
 have hlo : loW M = (M : Int) := by unfold loW; rw [Nat.mod_eq_of_lt hMs]
 have hdl : d ≤ 64 := by
  rcases Nat.lt_or_ge 64 d with q | q
  ·exfalso
   have h2 : 2 ^ 64 ≤ 2 ^ d := Nat.pow_le_pow_right (by decide) (by omega)
   have h3 : 1 * 2 ^ d ≤ M * 2 ^ d := Nat.mul_le_mul_right _ h0
   have : (2 : Nat) ^ 64 = 18446744073709551616 := rfl
   omega
  ·exact q
 have hsh := shl64 M d hdl
 rw [Nat.mod_eq_of_lt hsz] at hsh
 unfold shl at hsh
 rw [show IntKind.u64.bits = 64 from rfl] at hsh
 rw [show (e - expo M e).toNat = d by omega]
 obtain ⟨res, hres⟩ : ∃ res : Int, ((M * 2 ^ d : Nat) : Int) = res := ⟨_, rfl⟩
 rw [hres] at hsh ⊢
 obtain ⟨q, hqn⟩ : ∃ q : Int, expo M e = q := ⟨_, rfl⟩
 rw [hqn] at hq hd hx ⊢
 have HL := Aside0.mk (fun w => s_length w M hM)
 have HB := Aside0.mk (Below.refl w.heap.size w)
 obtain ⟨b, hbn⟩ : ∃ b : Int, ((Num.bitsN M : Nat) : Int) = b := ⟨_, rfl⟩
 rw [hbn] at hx HL
 obtain ⟨s1, hs1⟩ : ∃ s : Int, b + e = s := ⟨_, rfl⟩
 have hw1 : IntKind.i64.wrap (b + e) = s1 := by rw [i64w_id (by omega) (by omega)]; exact hs1
 obtain ⟨s2, hs2⟩ : ∃ s : Int, s1 - 53 = s := ⟨_, rfl⟩
 have hw2 : IntKind.i64.wrap (s1 - 53) = s2 := by rw [i64w_id (by omega) (by omega)]; exact hs2
 have hmax : (if s2 < -1074 then -1074 else s2) = q := by split <;> omega
 have hw3 : IntKind.i64.wrap (e - q) = (d : Int) := by rw [i64w_id (by omega) (by omega)]; omega
 rw [hlo] at HL ⊢
 have hd0 : (0 : Int) ≤ (d : Int) := by omega
 obtain ⟨dd, hdd⟩ : ∃ z : Int, (d : Int) = z := ⟨_, rfl⟩
 rw [hdd] at hw3 hd0 hsh
 have c1 := decide_eq_true hq
 have c2 := eq_true hd0
 clear hx hd hqn hbn hs1 hs2 hlo hMs hsz hres hdd hdl hlt hb h0 he he2 hd0
 go_enter Tryz.func156, Tryz.ntmps156
 go_wp2_with (first | ((with_reducible refine gate_dst (N := 5) rfl ?_); refine box_event ?hg (N := 5) ?hd (cs := #[.int .i64 53, .int .i64 (-1074), .int .i64 971]) (t := 168) ?hr ?_; (case hd => rfl); (case hg => rfl); (case hr => first | (go_simp; done) | (go_simp; rfl)); intro gb hg w12 hbox hb; have n0_ := Aside0.mk (below_step HB.out hb); have n1_ := Aside0.mk hbox; clear HB; have HB := n0_; have BK := n1_; clear n0_ n1_; clear hb hbox hg))
 go_quiet (first | (go_at_call 171; (with_reducible refine (HL.out _).mono ?_); rintro e w' ⟨rfl, ⟨nd, rfl⟩⟩; (try first | exact ⟨rfl, _, World.drewN_drewN _ _ _⟩ | exact ⟨rfl, _, Eq.trans (World.drewN_drewN _ _ _) (congrArg (World.drewN _) (Nat.add_assoc _ _ _))⟩); have z0 : w12.cell? ⟨gb, 0, none⟩ = some (.int .i64 53) := (blk_cell BK.out 0).trans rfl; have z1 : w12.cell? ⟨gb, 1, none⟩ = some (.int .i64 (-1074)) := (blk_cell BK.out 1).trans rfl))
 go_wp2
 go_ret2
 exact ⟨rfl, pw_below_drewN HB.out _⟩
/-- the digits cut and rounded -/
theorem s_round_r (w : World) (M : Nat) (hM : M < 2 ^ 128) (h0 : 0 < M) (e : Int) (he : -300000 ≤ e) (he2 : e ≤ 300000) (r : Bool) (hq : e < expo M e) :
  Calls Tryz.prog 156 #[.agg #[.int .i64 53, .int .i64 (-1074), .int .i64 971], .int .u64 (hiW M), .int .u64 (loW M), .int .i64 e, .bool r] w fun x w' => x = .returned (.tuple #[.int .u64 (((rnd M e (if r then 1 else 0)).1 : Nat) : Int), .int .i64 (rnd M e (if r then 1 else 0)).2]) ∧ Below w.heap.size w w' := by
 have hb := bits_le_128 hM
 have hlt := Num.bitsN_lt M
 have hx : expo M e = max ((Num.bitsN M : Int) + e - 53) (-1074) := rfl
 obtain ⟨t, ht⟩ : ∃ t : Nat, (t : Int) = expo M e - e - 1 := ⟨(expo M e - e - 1).toNat, by omega⟩
 obtain ⟨H, hH⟩ : ∃ H, H = M / 2 ^ t := ⟨_, rfl⟩
 have hHs : H < 18014398509481984 := by
  rw [hH, Nat.div_lt_iff_lt_mul (Nat.two_pow_pos t)]
  refine Nat.lt_of_lt_of_le hlt ?_
  rw [show (18014398509481984 : Nat) = 2 ^ 54 from rfl, ← Nat.pow_add]
  exact Nat.pow_le_pow_right (by decide) (by omega)
 have hR1 := fun w => s_right w M t hM (by omega)
 have hR2 : ∀ w, Calls Tryz.prog 172 #[.int .u64 (hiW H), .int .u64 (loW H), .int .i64 1] w fun e w' => e = .returned (.tuple #[.int .u64 (hiW (H / 2 ^ 1)), .int .u64 (loW (H / 2 ^ 1)), .bool (decide (H % 2 ^ 1 ≠ 0))]) ∧ Drawn0 w w' := fun w => s_right w H 1 (by have : (2 : Nat) ^ 128 = 340282366920938463463374607431768211456 := rfl; omega) (by omega)
 rw [← hH] at hR1
 rw [Nat.pow_one] at hR2
 have hlo : loW H = (H : Int) := by unfold loW; rw [Nat.mod_eq_of_lt (by omega)]
 have hhi : hiW H = 0 := by unfold hiW; rw [Nat.div_eq_of_lt (by omega)]; rfl
 have hlo2 : loW (H / 2) = ((H / 2 : Nat) : Int) := by unfold loW; rw [Nat.mod_eq_of_lt (by omega)]
 rw [hlo, hhi] at hR1 hR2
 rw [hlo2] at hR2
 have hrnd : rnd M e (if r then 1 else 0) = if hal M t (if r then 1 else 0) = 9007199254740992 then (hal M t (if r then 1 else 0) / 2, expo M e + 1) else (hal M t (if r then 1 else 0), expo M e) := by
  unfold rnd
  rw [if_neg (by omega), show (expo M e - e - 1).toNat = t by omega]
 have hhal : hal M t (if r then 1 else 0) = if H % 2 = 1 ∧ (M % 2 ^ t ≠ 0 ∨ r = true ∨ H / 2 % 2 = 1) then H / 2 + 1 else H / 2 := by
  unfold hal
  rw [← hH]
  cases r <;> simp
 obtain ⟨r1, hr1⟩ : ∃ z : Int, (((rnd M e (if r then 1 else 0)).1 : Nat) : Int) = z := ⟨_, rfl⟩
 obtain ⟨r2, hr2⟩ : ∃ z : Int, (rnd M e (if r then 1 else 0)).2 = z := ⟨_, rfl⟩
 rw [hr1, hr2]
 rw [hrnd, hhal] at hr1 hr2
 have hand1 : bits .and .u64 (H : Int) 1 = ((H % 2 : Nat) : Int) := by rw [show (1 : Int) = ((1 : Nat) : Int) from rfl, u64_and_nat _ _ (by omega) (by omega), nat_mask1]
 have hand2 : bits .and .u64 ((H / 2 : Nat) : Int) 1 = ((H / 2 % 2 : Nat) : Int) := by rw [show (1 : Int) = ((1 : Nat) : Int) from rfl, u64_and_nat _ _ (by omega) (by omega), nat_mask1]
 have hadd : IntKind.u64.wrap (((H / 2 : Nat) : Int) + 1) = ((H / 2 + 1 : Nat) : Int) := by rw [IntKind.wrap_u64]; omega
 obtain ⟨q, hqn⟩ : ∃ q : Int, expo M e = q := ⟨_, rfl⟩
 rw [hqn] at hq ht hx hr1 hr2
 obtain ⟨b, hbn⟩ : ∃ b : Int, ((Num.bitsN M : Nat) : Int) = b := ⟨_, rfl⟩
 have HL := Aside0.mk (fun w => s_length w M hM)
 rw [hbn] at hx HL
 obtain ⟨s1, hs1⟩ : ∃ s : Int, b + e = s := ⟨_, rfl⟩
 have hw1 : IntKind.i64.wrap (b + e) = s1 := by rw [i64w_id (by omega) (by omega)]; exact hs1
 obtain ⟨s2, hs2⟩ : ∃ s : Int, s1 - 53 = s := ⟨_, rfl⟩
 have hw2 : IntKind.i64.wrap (s1 - 53) = s2 := by rw [i64w_id (by omega) (by omega)]; exact hs2
 have hmax : (if s2 < -1074 then -1074 else s2) = q := by split <;> omega
 obtain ⟨s3, hs3⟩ : ∃ s : Int, q - e = s := ⟨_, rfl⟩
 have hw3 : IntKind.i64.wrap (q - e) = s3 := by rw [i64w_id (by omega) (by omega)]; exact hs3
 obtain ⟨tt, htt⟩ : ∃ z : Int, (t : Int) = z := ⟨_, rfl⟩
 have hw4 : IntKind.i64.wrap (s3 - 1) = tt := by rw [i64w_id (by omega) (by omega)]; omega
 have hw5 : IntKind.i64.wrap (q + 1) = q + 1 := i64w_id (by omega) (by omega)
 obtain ⟨q1, hq1⟩ : ∃ z : Int, q + 1 = z := ⟨_, rfl⟩
 have hw6 : IntKind.i64.wrap (q + 1) = q1 := by rw [hw5, hq1]
 rw [htt] at hR1
 rw [hq1] at hr1 hr2
 have c1 : decide (q ≤ e) = false := decide_eq_false (by omega)
 obtain ⟨h1, hh1⟩ : ∃ z : Int, (H : Int) = z := ⟨_, rfl⟩
 obtain ⟨h2, hh2⟩ : ∃ z : Int, ((H / 2 : Nat) : Int) = z := ⟨_, rfl⟩
 obtain ⟨h3, hh3⟩ : ∃ z : Int, ((H / 2 + 1 : Nat) : Int) = z := ⟨_, rfl⟩
 rw [hh1] at hR1 hR2 hand1
 rw [hh2] at hR2 hand2 hadd
 rw [hh3] at hadd
 obtain ⟨lost, hlost⟩ : ∃ z : Bool, decide (M % 2 ^ t ≠ 0) = z := ⟨_, rfl⟩
 rw [hlost] at hR1
 have HR1 := Aside0.mk hR1
 have HR2 := Aside0.mk hR2
 have HB := Aside0.mk (Below.refl w.heap.size w)
 -- what is decided: whether it goes up, and whether that carries
 have two : ∀ x : Nat, x % 2 = 0 ∨ x % 2 = 1 := fun x => by omega
 have fin : ∀ (N : Nat) (n : Int), (N : Int) = n → ((if H % 2 = 1 ∧ (M % 2 ^ t ≠ 0 ∨ r = true ∨ H / 2 % 2 = 1) then H / 2 + 1 else H / 2) = N) →
   (n = 9007199254740992 → r1 = 4503599627370496 ∧ r2 = q1) ∧ (n ≠ 9007199254740992 → r1 = n ∧ r2 = q) := by
  intro N n hn hN
  rw [hN] at hr1 hr2
  refine ⟨fun h => ?_, fun h => ?_⟩
  ·have hN' : N = 9007199254740992 := by omega
   rw [if_pos hN', hN'] at hr1
   rw [if_pos hN'] at hr2
   exact ⟨hr1.symm, hr2.symm⟩
  ·have hN' : ¬ N = 9007199254740992 := by omega
   rw [if_neg hN'] at hr1 hr2
   exact ⟨hr1.symm.trans hn, hr2.symm⟩
 -- the walk, for each way
 have HF := Aside0.mk fin
 have hh2' := Aside0.mk hh2
 have hh3' := Aside0.mk hh3
 have hlost' := Aside0.mk hlost
 clear fin hx hqn hbn hs1 hs2 hs3 htt hq1 hh1 hh2 hh3 hlost hR1 hR2 hw5 hlo hhi hlo2 hHs hb hlt h0 he he2 hrnd hhal hq ht hH
 have fit0 : ∀ z : Int, z = 9007199254740992 ∨ ((z == 9007199254740992) = false ∧ z ≠ 9007199254740992) := fun z => by
  by_cases h : z = 9007199254740992
  ·exact .inl h
  ·exact .inr ⟨by simpa using h, h⟩
 rcases two H with d1 | d1
 ·
  obtain ⟨hA, hB⟩ := HF.out (H / 2) h2 hh2'.out (if_neg (by omega))
  rw [d1] at hand1
  replace hand1 : bits .and .u64 h1 1 = 0 := hand1
  rcases fit0 h2 with c9 | ⟨c9, c9'⟩
  ·obtain ⟨rfl, rfl⟩ := hA c9
   subst c9
   clear hA hB d1 two fit0 hand2 hadd hr1 hr2
   go_enter Tryz.func156, Tryz.ntmps156
   go_wp2_with (first | ((with_reducible refine gate_dst (N := 5) rfl ?_); refine box_event ?hg (N := 5) ?hd (cs := #[.int .i64 53, .int .i64 (-1074), .int .i64 971]) (t := 168) ?hr ?_; (case hd => rfl); (case hg => rfl); (case hr => first | (go_simp; done) | (go_simp; rfl)); intro gb hg w12 hbox hb; have n0_ := Aside0.mk (below_step HB.out hb); have n1_ := Aside0.mk hbox; clear HB; have HB := n0_; have BK := n1_; clear n0_ n1_; clear hb hbox hg))
   go_quiet (first | (go_at_call 171; (with_reducible refine (HL.out _).mono ?_); rintro e w' ⟨rfl, ⟨nd, rfl⟩⟩; (try first | exact ⟨rfl, _, World.drewN_drewN _ _ _⟩ | exact ⟨rfl, _, Eq.trans (World.drewN_drewN _ _ _) (congrArg (World.drewN _) (Nat.add_assoc _ _ _))⟩); have z0 : w12.cell? ⟨gb, 0, none⟩ = some (.int .i64 53) := (blk_cell BK.out 0).trans rfl; have z1 : w12.cell? ⟨gb, 1, none⟩ = some (.int .i64 (-1074)) := (blk_cell BK.out 1).trans rfl))
   go_wp2_with (first | (go_at_call 172; (with_reducible refine (HR1.out _).mono ?_); rintro e w' ⟨rfl, ⟨nd, rfl⟩⟩) | (go_at_call 172; (with_reducible refine (HR2.out _).mono ?_); rintro e w' ⟨rfl, ⟨nd, rfl⟩⟩))
   go_ret2
   exact ⟨rfl, pw_below_drewN HB.out _⟩
  ·obtain ⟨rfl, rfl⟩ := hB c9'
   clear hA hB c9' d1 two fit0 hand2 hadd hr1 hr2
   go_enter Tryz.func156, Tryz.ntmps156
   go_wp2_with (first | ((with_reducible refine gate_dst (N := 5) rfl ?_); refine box_event ?hg (N := 5) ?hd (cs := #[.int .i64 53, .int .i64 (-1074), .int .i64 971]) (t := 168) ?hr ?_; (case hd => rfl); (case hg => rfl); (case hr => first | (go_simp; done) | (go_simp; rfl)); intro gb hg w12 hbox hb; have n0_ := Aside0.mk (below_step HB.out hb); have n1_ := Aside0.mk hbox; clear HB; have HB := n0_; have BK := n1_; clear n0_ n1_; clear hb hbox hg))
   go_quiet (first | (go_at_call 171; (with_reducible refine (HL.out _).mono ?_); rintro e w' ⟨rfl, ⟨nd, rfl⟩⟩; (try first | exact ⟨rfl, _, World.drewN_drewN _ _ _⟩ | exact ⟨rfl, _, Eq.trans (World.drewN_drewN _ _ _) (congrArg (World.drewN _) (Nat.add_assoc _ _ _))⟩); have z0 : w12.cell? ⟨gb, 0, none⟩ = some (.int .i64 53) := (blk_cell BK.out 0).trans rfl; have z1 : w12.cell? ⟨gb, 1, none⟩ = some (.int .i64 (-1074)) := (blk_cell BK.out 1).trans rfl))
   go_wp2_with (first | (go_at_call 172; (with_reducible refine (HR1.out _).mono ?_); rintro e w' ⟨rfl, ⟨nd, rfl⟩⟩) | (go_at_call 172; (with_reducible refine (HR2.out _).mono ?_); rintro e w' ⟨rfl, ⟨nd, rfl⟩⟩))
   go_ret2
   exact ⟨rfl, pw_below_drewN HB.out _⟩
 ·cases lost with
  | true =>
   obtain ⟨hA, hB⟩ := HF.out (H / 2 + 1) h3 hh3'.out (if_pos ⟨d1, .inl (of_decide_eq_true hlost'.out)⟩)
   rw [d1] at hand1
   replace hand1 : bits .and .u64 h1 1 = 1 := hand1
   rcases fit0 h3 with c9 | ⟨c9, c9'⟩
   ·obtain ⟨rfl, rfl⟩ := hA c9
    subst c9
    clear hA hB d1 two fit0 hand2 hr1 hr2
    go_enter Tryz.func156, Tryz.ntmps156
    go_wp2_with (first | ((with_reducible refine gate_dst (N := 5) rfl ?_); refine box_event ?hg (N := 5) ?hd (cs := #[.int .i64 53, .int .i64 (-1074), .int .i64 971]) (t := 168) ?hr ?_; (case hd => rfl); (case hg => rfl); (case hr => first | (go_simp; done) | (go_simp; rfl)); intro gb hg w12 hbox hb; have n0_ := Aside0.mk (below_step HB.out hb); have n1_ := Aside0.mk hbox; clear HB; have HB := n0_; have BK := n1_; clear n0_ n1_; clear hb hbox hg))
    go_quiet (first | (go_at_call 171; (with_reducible refine (HL.out _).mono ?_); rintro e w' ⟨rfl, ⟨nd, rfl⟩⟩; (try first | exact ⟨rfl, _, World.drewN_drewN _ _ _⟩ | exact ⟨rfl, _, Eq.trans (World.drewN_drewN _ _ _) (congrArg (World.drewN _) (Nat.add_assoc _ _ _))⟩); have z0 : w12.cell? ⟨gb, 0, none⟩ = some (.int .i64 53) := (blk_cell BK.out 0).trans rfl; have z1 : w12.cell? ⟨gb, 1, none⟩ = some (.int .i64 (-1074)) := (blk_cell BK.out 1).trans rfl))
    go_wp2_with (first | (go_at_call 172; (with_reducible refine (HR1.out _).mono ?_); rintro e w' ⟨rfl, ⟨nd, rfl⟩⟩) | (go_at_call 172; (with_reducible refine (HR2.out _).mono ?_); rintro e w' ⟨rfl, ⟨nd, rfl⟩⟩))
    go_ret2
    exact ⟨rfl, pw_below_drewN HB.out _⟩
   ·obtain ⟨rfl, rfl⟩ := hB c9'
    clear hA hB c9' d1 two fit0 hand2 hr1 hr2
    go_enter Tryz.func156, Tryz.ntmps156
    go_wp2_with (first | ((with_reducible refine gate_dst (N := 5) rfl ?_); refine box_event ?hg (N := 5) ?hd (cs := #[.int .i64 53, .int .i64 (-1074), .int .i64 971]) (t := 168) ?hr ?_; (case hd => rfl); (case hg => rfl); (case hr => first | (go_simp; done) | (go_simp; rfl)); intro gb hg w12 hbox hb; have n0_ := Aside0.mk (below_step HB.out hb); have n1_ := Aside0.mk hbox; clear HB; have HB := n0_; have BK := n1_; clear n0_ n1_; clear hb hbox hg))
    go_quiet (first | (go_at_call 171; (with_reducible refine (HL.out _).mono ?_); rintro e w' ⟨rfl, ⟨nd, rfl⟩⟩; (try first | exact ⟨rfl, _, World.drewN_drewN _ _ _⟩ | exact ⟨rfl, _, Eq.trans (World.drewN_drewN _ _ _) (congrArg (World.drewN _) (Nat.add_assoc _ _ _))⟩); have z0 : w12.cell? ⟨gb, 0, none⟩ = some (.int .i64 53) := (blk_cell BK.out 0).trans rfl; have z1 : w12.cell? ⟨gb, 1, none⟩ = some (.int .i64 (-1074)) := (blk_cell BK.out 1).trans rfl))
    go_wp2_with (first | (go_at_call 172; (with_reducible refine (HR1.out _).mono ?_); rintro e w' ⟨rfl, ⟨nd, rfl⟩⟩) | (go_at_call 172; (with_reducible refine (HR2.out _).mono ?_); rintro e w' ⟨rfl, ⟨nd, rfl⟩⟩))
    go_ret2
    exact ⟨rfl, pw_below_drewN HB.out _⟩
  | false =>
   cases r with
   | true =>
    obtain ⟨hA, hB⟩ := HF.out (H / 2 + 1) h3 hh3'.out (if_pos ⟨d1, .inr (.inl rfl)⟩)
    rw [d1] at hand1
    replace hand1 : bits .and .u64 h1 1 = 1 := hand1
    rcases fit0 h3 with c9 | ⟨c9, c9'⟩
    ·obtain ⟨rfl, rfl⟩ := hA c9
     subst c9
     clear hA hB d1 two fit0 hand2 hr1 hr2
     go_enter Tryz.func156, Tryz.ntmps156
     go_wp2_with (first | ((with_reducible refine gate_dst (N := 5) rfl ?_); refine box_event ?hg (N := 5) ?hd (cs := #[.int .i64 53, .int .i64 (-1074), .int .i64 971]) (t := 168) ?hr ?_; (case hd => rfl); (case hg => rfl); (case hr => first | (go_simp; done) | (go_simp; rfl)); intro gb hg w12 hbox hb; have n0_ := Aside0.mk (below_step HB.out hb); have n1_ := Aside0.mk hbox; clear HB; have HB := n0_; have BK := n1_; clear n0_ n1_; clear hb hbox hg))
     go_quiet (first | (go_at_call 171; (with_reducible refine (HL.out _).mono ?_); rintro e w' ⟨rfl, ⟨nd, rfl⟩⟩; (try first | exact ⟨rfl, _, World.drewN_drewN _ _ _⟩ | exact ⟨rfl, _, Eq.trans (World.drewN_drewN _ _ _) (congrArg (World.drewN _) (Nat.add_assoc _ _ _))⟩); have z0 : w12.cell? ⟨gb, 0, none⟩ = some (.int .i64 53) := (blk_cell BK.out 0).trans rfl; have z1 : w12.cell? ⟨gb, 1, none⟩ = some (.int .i64 (-1074)) := (blk_cell BK.out 1).trans rfl))
     go_wp2_with (first | (go_at_call 172; (with_reducible refine (HR1.out _).mono ?_); rintro e w' ⟨rfl, ⟨nd, rfl⟩⟩) | (go_at_call 172; (with_reducible refine (HR2.out _).mono ?_); rintro e w' ⟨rfl, ⟨nd, rfl⟩⟩))
     go_ret2
     exact ⟨rfl, pw_below_drewN HB.out _⟩
    ·obtain ⟨rfl, rfl⟩ := hB c9'
     clear hA hB c9' d1 two fit0 hand2 hr1 hr2
     go_enter Tryz.func156, Tryz.ntmps156
     go_wp2_with (first | ((with_reducible refine gate_dst (N := 5) rfl ?_); refine box_event ?hg (N := 5) ?hd (cs := #[.int .i64 53, .int .i64 (-1074), .int .i64 971]) (t := 168) ?hr ?_; (case hd => rfl); (case hg => rfl); (case hr => first | (go_simp; done) | (go_simp; rfl)); intro gb hg w12 hbox hb; have n0_ := Aside0.mk (below_step HB.out hb); have n1_ := Aside0.mk hbox; clear HB; have HB := n0_; have BK := n1_; clear n0_ n1_; clear hb hbox hg))
     go_quiet (first | (go_at_call 171; (with_reducible refine (HL.out _).mono ?_); rintro e w' ⟨rfl, ⟨nd, rfl⟩⟩; (try first | exact ⟨rfl, _, World.drewN_drewN _ _ _⟩ | exact ⟨rfl, _, Eq.trans (World.drewN_drewN _ _ _) (congrArg (World.drewN _) (Nat.add_assoc _ _ _))⟩); have z0 : w12.cell? ⟨gb, 0, none⟩ = some (.int .i64 53) := (blk_cell BK.out 0).trans rfl; have z1 : w12.cell? ⟨gb, 1, none⟩ = some (.int .i64 (-1074)) := (blk_cell BK.out 1).trans rfl))
     go_wp2_with (first | (go_at_call 172; (with_reducible refine (HR1.out _).mono ?_); rintro e w' ⟨rfl, ⟨nd, rfl⟩⟩) | (go_at_call 172; (with_reducible refine (HR2.out _).mono ?_); rintro e w' ⟨rfl, ⟨nd, rfl⟩⟩))
     go_ret2
     exact ⟨rfl, pw_below_drewN HB.out _⟩
   | false =>
    have hnl := of_decide_eq_false hlost'.out
    rcases two (H / 2) with d2 | d2
    ·
     obtain ⟨hA, hB⟩ := HF.out (H / 2) h2 hh2'.out (if_neg (fun h => h.2.elim hnl (fun a => a.elim (fun a => absurd a (by decide)) (fun a => by omega))))
     rw [d1] at hand1
     replace hand1 : bits .and .u64 h1 1 = 1 := hand1
     rw [d2] at hand2
     replace hand2 : bits .and .u64 h2 1 = 0 := hand2
     rcases fit0 h2 with c9 | ⟨c9, c9'⟩
     ·obtain ⟨rfl, rfl⟩ := hA c9
      subst c9
      clear hA hB d1 d2 hnl two fit0 hadd hr1 hr2
      go_enter Tryz.func156, Tryz.ntmps156
      go_wp2_with (first | ((with_reducible refine gate_dst (N := 5) rfl ?_); refine box_event ?hg (N := 5) ?hd (cs := #[.int .i64 53, .int .i64 (-1074), .int .i64 971]) (t := 168) ?hr ?_; (case hd => rfl); (case hg => rfl); (case hr => first | (go_simp; done) | (go_simp; rfl)); intro gb hg w12 hbox hb; have n0_ := Aside0.mk (below_step HB.out hb); have n1_ := Aside0.mk hbox; clear HB; have HB := n0_; have BK := n1_; clear n0_ n1_; clear hb hbox hg))
      go_quiet (first | (go_at_call 171; (with_reducible refine (HL.out _).mono ?_); rintro e w' ⟨rfl, ⟨nd, rfl⟩⟩; (try first | exact ⟨rfl, _, World.drewN_drewN _ _ _⟩ | exact ⟨rfl, _, Eq.trans (World.drewN_drewN _ _ _) (congrArg (World.drewN _) (Nat.add_assoc _ _ _))⟩); have z0 : w12.cell? ⟨gb, 0, none⟩ = some (.int .i64 53) := (blk_cell BK.out 0).trans rfl; have z1 : w12.cell? ⟨gb, 1, none⟩ = some (.int .i64 (-1074)) := (blk_cell BK.out 1).trans rfl))
      go_wp2_with (first | (go_at_call 172; (with_reducible refine (HR1.out _).mono ?_); rintro e w' ⟨rfl, ⟨nd, rfl⟩⟩) | (go_at_call 172; (with_reducible refine (HR2.out _).mono ?_); rintro e w' ⟨rfl, ⟨nd, rfl⟩⟩))
      go_ret2
      exact ⟨rfl, pw_below_drewN HB.out _⟩
     ·obtain ⟨rfl, rfl⟩ := hB c9'
      clear hA hB c9' d1 d2 hnl two fit0 hadd hr1 hr2
      go_enter Tryz.func156, Tryz.ntmps156
      go_wp2_with (first | ((with_reducible refine gate_dst (N := 5) rfl ?_); refine box_event ?hg (N := 5) ?hd (cs := #[.int .i64 53, .int .i64 (-1074), .int .i64 971]) (t := 168) ?hr ?_; (case hd => rfl); (case hg => rfl); (case hr => first | (go_simp; done) | (go_simp; rfl)); intro gb hg w12 hbox hb; have n0_ := Aside0.mk (below_step HB.out hb); have n1_ := Aside0.mk hbox; clear HB; have HB := n0_; have BK := n1_; clear n0_ n1_; clear hb hbox hg))
      go_quiet (first | (go_at_call 171; (with_reducible refine (HL.out _).mono ?_); rintro e w' ⟨rfl, ⟨nd, rfl⟩⟩; (try first | exact ⟨rfl, _, World.drewN_drewN _ _ _⟩ | exact ⟨rfl, _, Eq.trans (World.drewN_drewN _ _ _) (congrArg (World.drewN _) (Nat.add_assoc _ _ _))⟩); have z0 : w12.cell? ⟨gb, 0, none⟩ = some (.int .i64 53) := (blk_cell BK.out 0).trans rfl; have z1 : w12.cell? ⟨gb, 1, none⟩ = some (.int .i64 (-1074)) := (blk_cell BK.out 1).trans rfl))
      go_wp2_with (first | (go_at_call 172; (with_reducible refine (HR1.out _).mono ?_); rintro e w' ⟨rfl, ⟨nd, rfl⟩⟩) | (go_at_call 172; (with_reducible refine (HR2.out _).mono ?_); rintro e w' ⟨rfl, ⟨nd, rfl⟩⟩))
      go_ret2
      exact ⟨rfl, pw_below_drewN HB.out _⟩
    ·
     obtain ⟨hA, hB⟩ := HF.out (H / 2 + 1) h3 hh3'.out (if_pos ⟨d1, .inr (.inr d2)⟩)
     rw [d1] at hand1
     replace hand1 : bits .and .u64 h1 1 = 1 := hand1
     rw [d2] at hand2
     replace hand2 : bits .and .u64 h2 1 = 1 := hand2
     rcases fit0 h3 with c9 | ⟨c9, c9'⟩
     ·obtain ⟨rfl, rfl⟩ := hA c9
      subst c9
      clear hA hB d1 d2 hnl two fit0 hr1 hr2
      go_enter Tryz.func156, Tryz.ntmps156
      go_wp2_with (first | ((with_reducible refine gate_dst (N := 5) rfl ?_); refine box_event ?hg (N := 5) ?hd (cs := #[.int .i64 53, .int .i64 (-1074), .int .i64 971]) (t := 168) ?hr ?_; (case hd => rfl); (case hg => rfl); (case hr => first | (go_simp; done) | (go_simp; rfl)); intro gb hg w12 hbox hb; have n0_ := Aside0.mk (below_step HB.out hb); have n1_ := Aside0.mk hbox; clear HB; have HB := n0_; have BK := n1_; clear n0_ n1_; clear hb hbox hg))
      go_quiet (first | (go_at_call 171; (with_reducible refine (HL.out _).mono ?_); rintro e w' ⟨rfl, ⟨nd, rfl⟩⟩; (try first | exact ⟨rfl, _, World.drewN_drewN _ _ _⟩ | exact ⟨rfl, _, Eq.trans (World.drewN_drewN _ _ _) (congrArg (World.drewN _) (Nat.add_assoc _ _ _))⟩); have z0 : w12.cell? ⟨gb, 0, none⟩ = some (.int .i64 53) := (blk_cell BK.out 0).trans rfl; have z1 : w12.cell? ⟨gb, 1, none⟩ = some (.int .i64 (-1074)) := (blk_cell BK.out 1).trans rfl))
      go_wp2_with (first | (go_at_call 172; (with_reducible refine (HR1.out _).mono ?_); rintro e w' ⟨rfl, ⟨nd, rfl⟩⟩) | (go_at_call 172; (with_reducible refine (HR2.out _).mono ?_); rintro e w' ⟨rfl, ⟨nd, rfl⟩⟩))
      go_ret2
      exact ⟨rfl, pw_below_drewN HB.out _⟩
     ·obtain ⟨rfl, rfl⟩ := hB c9'
      clear hA hB c9' d1 d2 hnl two fit0 hr1 hr2
      go_enter Tryz.func156, Tryz.ntmps156
      go_wp2_with (first | ((with_reducible refine gate_dst (N := 5) rfl ?_); refine box_event ?hg (N := 5) ?hd (cs := #[.int .i64 53, .int .i64 (-1074), .int .i64 971]) (t := 168) ?hr ?_; (case hd => rfl); (case hg => rfl); (case hr => first | (go_simp; done) | (go_simp; rfl)); intro gb hg w12 hbox hb; have n0_ := Aside0.mk (below_step HB.out hb); have n1_ := Aside0.mk hbox; clear HB; have HB := n0_; have BK := n1_; clear n0_ n1_; clear hb hbox hg))
      go_quiet (first | (go_at_call 171; (with_reducible refine (HL.out _).mono ?_); rintro e w' ⟨rfl, ⟨nd, rfl⟩⟩; (try first | exact ⟨rfl, _, World.drewN_drewN _ _ _⟩ | exact ⟨rfl, _, Eq.trans (World.drewN_drewN _ _ _) (congrArg (World.drewN _) (Nat.add_assoc _ _ _))⟩); have z0 : w12.cell? ⟨gb, 0, none⟩ = some (.int .i64 53) := (blk_cell BK.out 0).trans rfl; have z1 : w12.cell? ⟨gb, 1, none⟩ = some (.int .i64 (-1074)) := (blk_cell BK.out 1).trans rfl))
      go_wp2_with (first | (go_at_call 172; (with_reducible refine (HR1.out _).mono ?_); rintro e w' ⟨rfl, ⟨nd, rfl⟩⟩) | (go_at_call 172; (with_reducible refine (HR2.out _).mono ?_); rintro e w' ⟨rfl, ⟨nd, rfl⟩⟩))
      go_ret2
      exact ⟨rfl, pw_below_drewN HB.out _⟩
end Go.Proofs.YtdoeigngpemcgaaGreatDoor.Dec
